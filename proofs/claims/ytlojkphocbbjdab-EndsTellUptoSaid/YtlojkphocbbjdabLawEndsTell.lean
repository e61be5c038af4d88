-- Printed for this claim by a program of this session (inj.py), beside the kit's print. Not trusted: Lean checks it.
import Derived.JoinedCond
import Derived.Test.YtlojkphocbbjdabRows
import Derived.Test.YtlojkphocbbjdabPEndsTellx7
import Derived.Test.YtlojkphocbbjdabPEndsTello
import Derived.Test.YtlojkphocbbjdabPureEndsTell
import Derived.WalkKit
import Derived.ProofKit
import Derived.OpenShut
import Derived.ShutString
import Derived.ChangeOld
import Derived.Below
import Derived.SizedLaws
namespace Go.Proofs.Ytlojkphocbbjdab.endsTell
open Go.ChangeShapes Go.WideShapes Go.ChangeAt Go.RowKit
open Go.ChangeMaps (open_string shut_string)
set_option linter.unusedVariables false
theorem own : ownKnob Try.prog.godebug = none := by kernel_rfl
theorem laidOut : laidOutB Try.prog = true := by kernel_rfl
set_option maxRecDepth 100000 in
theorem lifted (os : Os) (started : os.Started) (H : Type) (enc : TypeId × Value → H) (F : Stop.Interp) :
    ReturnsInHanded {} Try.checked os 8 .any ((Rows.OpenSpec.upto Rows.endsTellSpec).pre6 enc Try.prog Try.f8 Rows.endsTellUptoRow.domain false) (((Rows.OpenSpec.upto Rows.endsTellSpec).at F).post enc Try.prog Try.f8 false true false false) := by
  refine returnsInHanded_of_cond (C := Try.checked) (s := Rows.OpenSpec.upto Rows.endsTellSpec) (k := Rows.uptoSmall) rfl own started (by kernel_rfl) Try.func8
    (OpenSpec.witness (enc := enc) (C := Try.checked) (s := Rows.OpenSpec.upto Rows.endsTellSpec) (k := Rows.uptoSmall) rfl false ⟨#[], #[.agg #[.slice none 0 0, .slice none 0 0], .slice none 0 0], []⟩ 8 (by kernel_rfl) (by kernel_rfl) (by kernel_rfl)
      (x := ([.agg [.nil, .nil], .nil], [], [])) (by kernel_rfl) rfl (by kernel_rfl)) ?_
  intro W base args ds gs before hval0 hW _ hk _
  have hsz : Rows.uptoBulkAll (ds ++ gs) ≤ 1048576 := of_decide_eq_true hk
  have hsz0 := hsz
  have hval : ∀ (j : Nat) t v, Try.f8.params[j]? = some t → args[j]? = some v → Value.okWide Try.prog W .any base t v := hval0
  have hW' := hW
  obtain ⟨p, q, hA0, hV, rfl, hfz, hnd⟩ := hW
  have hA : DataW.TrodAll enc Try.prog W 0 (fun _ => true) true Try.f8.params.toList args.toList ds p := hA0
  rw [Try.params8] at hA hval
  obtain ⟨v0, vs0, d0, ds0, p0, q0, hargs, rfl, rfl, h0, r0⟩ := trodAll_cons hA
  obtain ⟨v1, vs1, d1, ds1, p1, q1, rfl, rfl, rfl, h1, r1⟩ := trodAll_cons r0
  obtain ⟨rfl, rfl, rfl⟩ := trodAll_nil r1
  obtain rfl : args = #[v0, v1] := by cases args; simp_all
  obtain ⟨rfl, rfl⟩ := trodVars_none hV
  obtain ⟨cs0, rfl, _⟩ := okWide_struct Try.underlying41 (hval 0 41 v0 rfl rfl)
  have k0 := h0
  have lt0 : ∀ x ∈ p0, x.block < W.heap.size := by obtain ⟨m, hm⟩ := k0; exact DataW.trod_lt m _ _ _ hm
  obtain ⟨x0, hk0, w0⟩ : ∃ x, PEndsTell.k41.K W x cs0.toList ∧ PEndsTell.wf41 x := by
    obtain ⟨fuel, hf⟩ := h0
    exact PEndsTell.op41.2 hf (by have := YtlojkphocbbjdabW.OpnU.part_le (d := d0) (l := [d0, d1] ++ []) (by simp); show Rows.uptoBulk d0 ≤ 1048576; omega)
  obtain ⟨A0_0, c0_0, A0_1, c0_1, e0, l0_0, g0_0, l0_1, g0_1⟩ := PEndsTell.k41_open hk0
  obtain rfl : cs0 = #[.slice A0_0 x0.f0.length c0_0, .slice A0_1 x0.f1.length c0_1] := by cases cs0; simpa using e0
  obtain ⟨a1, len1, cap1, rfl⟩ := okWide_slice Try.underlying36 (hval 1 36 v1 rfl rfl)
  have k1 := h1
  have lt1 : ∀ x ∈ p1, x.block < W.heap.size := by obtain ⟨m, hm⟩ := k1; exact DataW.trod_lt m _ _ _ hm
  obtain ⟨x1, hk1, w1⟩ : ∃ x, (YtlojkphocbbjdabW.PrintWords.Kd.slice 3 (YtlojkphocbbjdabW.PrintWords.Kd.int .i64)).K W x [.slice a1 len1 cap1] ∧ (x.length ≤ 1048576 ∧ ∀ z ∈ x, (Lit.int .i64 z).wf = true) := by
    obtain ⟨fuel, hf⟩ := h1
    exact (YtlojkphocbbjdabW.OpnU.opens_slice Try.underlying36 (by kernel_rfl) (YtlojkphocbbjdabW.OpnU.opens_int Try.underlying3 (by kernel_rfl))).2 hf (by have := YtlojkphocbbjdabW.OpnU.part_le (d := d1) (l := [d0, d1] ++ []) (by simp); show Rows.uptoBulk d1 ≤ 1048576; omega)
  obtain ⟨A1, c1, e1, l1, g1⟩ := hk1
  obtain ⟨rfl, rfl, rfl⟩ : a1 = A1 ∧ len1 = x1.length ∧ cap1 = c1 := by simpa using e1
  clear hA0 hval0 hsz0 hsz
  obtain ⟨k, hP⟩ := Pure.EndsTell x0 x1 w0 w1
  refine (PEndsTell.backstitchlaw3_EndsTell.calls k A0_0 c0_0 x0.f0 A0_1 c0_1 x0.f1 a1 cap1 x1 true W g0_0 l0_0 g0_1 l0_1 g1 l1 hP).mono fun e W' ⟨he, bel0⟩ => ?_
  have bel : Below W.heap.size W W' := bel0
  subst he
  exact ⟨_, rfl, _, _, _, [], _, [], hW', trodAll_mk1 (shut_bool Try.underlying4 _), (trodAll_cons_mk (Below.trod laidOut (by kernel_rfl) (of_decide_eq_true (by kernel_rfl)) k0 bel lt0) (trodAll_cons_mk (Below.trod laidOut (by kernel_rfl) (of_decide_eq_true (by kernel_rfl)) k1 bel lt1) trodAll_mk0)), rfl, bel.frame _, fun h => by cases h⟩
theorem over : Rows.endsTellUptoRow.holds Try.pinned (Rows.OpenSpec.upto Rows.endsTellSpec) :=
  OpenClaim.holds_of_cond 8 Try.f8 rfl rfl rfl rfl rfl rfl rfl ⟨rfl, rfl, rfl, rfl, rfl⟩ rfl rfl rfl rfl rfl (by kernel_rfl) Try.func8 (by kernel_rfl)
    (of_decide_eq_true (by kernel_rfl)) (by unfold Func.isWrapper; first | (rw [if_pos (by decide +kernel)]; kernel_rfl) | (rw [if_neg (by decide +kernel)]; exact ⟨rfl, rfl⟩))
    (fun os started H enc _ F => lifted os started H enc F)
theorem proved : Rows.EndsTellUptoSaid := over
#print axioms proved
end Go.Proofs.Ytlojkphocbbjdab.endsTell
namespace Go.Proofs.Ytlojkphocbbjdab
/-- The row, under a short name, for the claim. -/
theorem endsTellUpto_holds : Rows.EndsTellUptoSaid := endsTell.proved
end Go.Proofs.Ytlojkphocbbjdab
