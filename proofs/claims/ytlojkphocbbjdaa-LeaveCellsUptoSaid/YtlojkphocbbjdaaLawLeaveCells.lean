-- Printed for this claim by a program of this session (inj.py), beside the kit's print. Not trusted: Lean checks it.
import Derived.JoinedCond
import Derived.Test.YtlojkphocbbjdaaRows
import Derived.Test.YtlojkphocbbjdaaPLeaveCellsx4
import Derived.Test.YtlojkphocbbjdaaPLeaveCellso
import Derived.Test.YtlojkphocbbjdaaPureLeaveCells
import Derived.WalkKit
import Derived.ProofKit
import Derived.OpenShut
import Derived.ShutString
import Derived.ChangeOld
import Derived.Below
import Derived.SizedLaws
namespace Go.Proofs.Ytlojkphocbbjdaa.leaveCells
open Go.ChangeShapes Go.WideShapes Go.ChangeAt Go.RowKit
open Go.ChangeMaps (open_string shut_string)
set_option linter.unusedVariables false
theorem own : ownKnob Try.prog.godebug = none := by kernel_rfl
theorem laidOut : laidOutB Try.prog = true := by kernel_rfl
set_option maxRecDepth 100000 in
theorem lifted (os : Os) (started : os.Started) (H : Type) (enc : TypeId × Value → H) (F : Stop.Interp) :
    ReturnsInHanded {} Try.checked os 5 .any ((Rows.OpenSpec.upto Rows.leaveCellsSpec).pre6 enc Try.prog Try.f5 Rows.leaveCellsUptoRow.domain false) (((Rows.OpenSpec.upto Rows.leaveCellsSpec).at F).post enc Try.prog Try.f5 false true false false) := by
  refine returnsInHanded_of_cond (C := Try.checked) (s := Rows.OpenSpec.upto Rows.leaveCellsSpec) (k := Rows.uptoSmall) rfl own started (by kernel_rfl) Try.func5
    (OpenSpec.witness (enc := enc) (C := Try.checked) (s := Rows.OpenSpec.upto Rows.leaveCellsSpec) (k := Rows.uptoSmall) rfl false ⟨#[], #[.slice none 0 0, .agg #[.int .i64 0, .int .i64 0, .slice none 0 0, .slice none 0 0], .slice none 0 0], []⟩ 8 (by kernel_rfl) (by kernel_rfl) (by kernel_rfl)
      (x := ([.nil, .agg [.lit (.int .i64 0), .lit (.int .i64 0), .nil, .nil], .nil], [], [])) (by kernel_rfl) rfl (by kernel_rfl)) ?_
  intro W base args ds gs before hval0 hW _ hk _
  have hsz : Rows.uptoBulkAll (ds ++ gs) ≤ 1048576 := of_decide_eq_true hk
  have hsz0 := hsz
  have hval : ∀ (j : Nat) t v, Try.f5.params[j]? = some t → args[j]? = some v → Value.okWide Try.prog W .any base t v := hval0
  have hW' := hW
  obtain ⟨p, q, hA0, hV, rfl, hfz, hnd⟩ := hW
  have hA : DataW.TrodAll enc Try.prog W 0 (fun _ => true) true Try.f5.params.toList args.toList ds p := hA0
  rw [Try.params5] at hA hval
  obtain ⟨v0, vs0, d0, ds0, p0, q0, hargs, rfl, rfl, h0, r0⟩ := trodAll_cons hA
  obtain ⟨v1, vs1, d1, ds1, p1, q1, rfl, rfl, rfl, h1, r1⟩ := trodAll_cons r0
  obtain ⟨v2, vs2, d2, ds2, p2, q2, rfl, rfl, rfl, h2, r2⟩ := trodAll_cons r1
  obtain ⟨rfl, rfl, rfl⟩ := trodAll_nil r2
  obtain rfl : args = #[v0, v1, v2] := by cases args; simp_all
  obtain ⟨rfl, rfl⟩ := trodVars_none hV
  obtain ⟨a0, len0, cap0, rfl⟩ := okWide_slice Try.underlying55 (hval 0 55 v0 rfl rfl)
  have k0 := h0
  have lt0 : ∀ x ∈ p0, x.block < W.heap.size := by obtain ⟨m, hm⟩ := k0; exact DataW.trod_lt m _ _ _ hm
  obtain ⟨x0, hk0, w0⟩ : ∃ x, (YtlojkphocbbjdaaW.PrintWords.Kd.slice 61 PLeaveCells.k61).K W x [.slice a0 len0 cap0] ∧ (x.length ≤ 1048576 ∧ ∀ z ∈ x, PLeaveCells.wf61 z) := by
    obtain ⟨fuel, hf⟩ := h0
    exact (YtlojkphocbbjdaaW.OpnU.opens_slice Try.underlying55 (by kernel_rfl) PLeaveCells.op61).2 hf (by have := YtlojkphocbbjdaaW.OpnU.part_le (d := d0) (l := [d0, d1, d2] ++ []) (by simp); show Rows.uptoBulk d0 ≤ 1048576; omega)
  obtain ⟨A0, c0, e0, l0, g0⟩ := hk0
  obtain ⟨rfl, rfl, rfl⟩ : a0 = A0 ∧ len0 = x0.length ∧ cap0 = c0 := by simpa using e0
  obtain ⟨cs1, rfl, _⟩ := okWide_struct Try.underlying31 (hval 1 31 v1 rfl rfl)
  have k1 := h1
  have lt1 : ∀ x ∈ p1, x.block < W.heap.size := by obtain ⟨m, hm⟩ := k1; exact DataW.trod_lt m _ _ _ hm
  obtain ⟨x1, hk1, w1⟩ : ∃ x, PLeaveCells.k31.K W x cs1.toList ∧ PLeaveCells.wf31 x := by
    obtain ⟨fuel, hf⟩ := h1
    exact PLeaveCells.op31.2 hf (by have := YtlojkphocbbjdaaW.OpnU.part_le (d := d1) (l := [d0, d1, d2] ++ []) (by simp); show Rows.uptoBulk d1 ≤ 1048576; omega)
  obtain ⟨A1_0, c1_0, A1_1, c1_1, e1, l1_0, g1_0, l1_1, g1_1⟩ := PLeaveCells.k31_open hk1
  obtain rfl : cs1 = #[.int .i64 x1.f0, .int .i64 x1.f1, .slice A1_0 x1.f2.length c1_0, .slice A1_1 x1.f3.length c1_1] := by cases cs1; simpa using e1
  obtain ⟨a2, len2, cap2, rfl⟩ := okWide_slice Try.underlying24 (hval 2 24 v2 rfl rfl)
  have k2 := h2
  have lt2 : ∀ x ∈ p2, x.block < W.heap.size := by obtain ⟨m, hm⟩ := k2; exact DataW.trod_lt m _ _ _ hm
  obtain ⟨x2, hk2, w2⟩ : ∃ x, (YtlojkphocbbjdaaW.PrintWords.Kd.slice 23 PLeaveCells.k23).K W x [.slice a2 len2 cap2] ∧ (x.length ≤ 1048576 ∧ ∀ z ∈ x, PLeaveCells.wf23 z) := by
    obtain ⟨fuel, hf⟩ := h2
    exact (YtlojkphocbbjdaaW.OpnU.opens_slice Try.underlying24 (by kernel_rfl) PLeaveCells.op23).2 hf (by have := YtlojkphocbbjdaaW.OpnU.part_le (d := d2) (l := [d0, d1, d2] ++ []) (by simp); show Rows.uptoBulk d2 ≤ 1048576; omega)
  obtain ⟨A2, c2, e2, l2, g2⟩ := hk2
  obtain ⟨rfl, rfl, rfl⟩ : a2 = A2 ∧ len2 = x2.length ∧ cap2 = c2 := by simpa using e2
  clear hA0 hval0 hsz0 hsz
  obtain ⟨k, hP⟩ := Pure.LeaveCells x0 x1 x2 w0 w1 w2
  refine (PLeaveCells.backstitchlaw3_LeaveCells.calls k a0 cap0 x0 x1.f0 x1.f1 A1_0 c1_0 x1.f2 A1_1 c1_1 x1.f3 a2 cap2 x2 true W g0 l0 g1_0 l1_0 g1_1 l1_1 g2 l2 hP).mono fun e W' ⟨he, bel0⟩ => ?_
  have bel : Below W.heap.size W W' := bel0
  subst he
  exact ⟨_, rfl, _, _, _, [], _, [], hW', trodAll_mk1 (shut_bool Try.underlying4 _), (trodAll_cons_mk (Below.trod laidOut (by kernel_rfl) (of_decide_eq_true (by kernel_rfl)) k0 bel lt0) (trodAll_cons_mk (Below.trod laidOut (by kernel_rfl) (of_decide_eq_true (by kernel_rfl)) k1 bel lt1) (trodAll_cons_mk (Below.trod laidOut (by kernel_rfl) (of_decide_eq_true (by kernel_rfl)) k2 bel lt2) trodAll_mk0))), rfl, bel.frame _, fun h => by cases h⟩
theorem over : Rows.leaveCellsUptoRow.holds Try.pinned (Rows.OpenSpec.upto Rows.leaveCellsSpec) :=
  OpenClaim.holds_of_cond 5 Try.f5 rfl rfl rfl rfl rfl rfl rfl ⟨rfl, rfl, rfl, rfl, rfl⟩ rfl rfl rfl rfl rfl (by kernel_rfl) Try.func5 (by kernel_rfl)
    (of_decide_eq_true (by kernel_rfl)) (by unfold Func.isWrapper; first | (rw [if_pos (by decide +kernel)]; kernel_rfl) | (rw [if_neg (by decide +kernel)]; exact ⟨rfl, rfl⟩))
    (fun os started H enc _ F => lifted os started H enc F)
theorem proved : Rows.LeaveCellsUptoSaid := over
#print axioms proved
end Go.Proofs.Ytlojkphocbbjdaa.leaveCells
namespace Go.Proofs.Ytlojkphocbbjdaa
/-- The row, under a short name, for the claim. -/
theorem leaveCellsUpto_holds : Rows.LeaveCellsUptoSaid := leaveCells.proved
end Go.Proofs.Ytlojkphocbbjdaa
