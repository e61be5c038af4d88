-- Printed for this claim by a program of this session (inj.py), beside the kit's print. Not trusted: Lean checks it.
import Derived.Test.YtlojkphocbbjdaaPLiveTellsx0
import Derived.Test.YtlojkphocbbjdaaPLiveTellsx6
import Derived.Test.YtlojkphocbbjdaaPLiveTellsx7
namespace Go.Proofs.Ytlojkphocbbjdaa.PLiveTells
open Go.RowKit Go.Proofs.YtlojkphocbbjdaaW.PrintWords Go.Proofs.YtlojkphocbbjdaaW.PrintLast Go.Proofs.YtlojkphocbbjdaaW.PrintMore
open Go.Proofs.YtlojkphocbbjdaaW.PrintLast renaming i64_w → bB, i32_w → bC, norm_ → bI, goes_ → bJ, waitsOk → bL, opsOf → bN
open Go.Proofs.YtlojkphocbbjdaaW.PrintWords renaming gate_guard → bD, box_event → bE, store_event → bF, gate_dst → bG, gate_store → bH, add_field → bK, gate_builtin → bM
open Go.Proofs.YtlojkphocbbjdaaW.PrintMore renaming min_three → bO, max_three → bP, min_four → bQ, min2_int → bR, max_four → bS, max2_int → bT, min_two → bU, max_two → bV
open Bool renaming true → hQ, false → hR
open List renaming setIfInBounds_toArray → hT, set_cons_zero → hU, set_cons_succ → hV
open Go.Act renaming put → hW
attribute [local go_sem] bT bR bV bU bP bO bS bQ   -- for this text's walks alone
set_option linter.unusedVariables false
set_option linter.unusedSimpArgs false

/-! ### backstitchref3_TraceFault: function 67 -/
section
open Go.Proofs.YtlojkphocbbjdaaW.Sep Go.Proofs.YtlojkphocbbjdaaW.Reg
def backstitchref3_TraceFault.T11 : Bool × List (List Nat × List Nat) := (true, [([], []), ([], []), ([1], [1]), ([], []), ([0, 2, 3, 2], [0, 2, 3]), ([4], [4]), ([5, 4], [5]), ([6], [6]), ([7, 6], [6, 7]), ([8, 6], [6, 8]), ([6, 9], [6, 9]), ([10, 6], [10]), ([11], [11]), ([12, 11], [11, 12]), ([11], [11]), ([14, 11], [11, 14]), ([15, 11], [11, 15]), ([13, 16, 11], [11, 13, 16]), ([11, 17], [11, 17])])
def backstitchref3_TraceFault.B11 : List Nat := [0, 0, 2, 0, 15, 31, 63, 127, 255, 511, 1023, 2047, 4095, 8191, 4095, 20479, 53247, 131071, 262143]
theorem backstitchref3_TraceFault.tab11 : rtab .any (bN Try.f67 11) = backstitchref3_TraceFault.T11 := by kernel_rfl
theorem backstitchref3_TraceFault.bits11 : bL backstitchref3_TraceFault.T11.2 backstitchref3_TraceFault.B11 = true := by kernel_rfl
def backstitchref3_TraceFault.T13 : Bool × List (List Nat × List Nat) := (true, [([], []), ([0], [0]), ([1], [1]), ([2], [2]), ([3], [3]), ([3], [3]), ([5, 3], [3, 5]), ([3], [3]), ([7, 3], [3, 7]), ([6, 8, 3], [3, 6, 8]), ([9, 3], [3, 9]), ([10, 3, 3], [3, 10]), ([3], [3]), ([4, 11, 12, 11, 3], [3, 4, 11, 12]), ([13, 3], [3, 13]), ([3, 14], [3, 14])])
def backstitchref3_TraceFault.B13 : List Nat := [0, 1, 3, 7, 15, 15, 47, 15, 143, 495, 1007, 2031, 15, 8191, 16383, 32767]
theorem backstitchref3_TraceFault.tab13 : rtab .any (bN Try.f67 13) = backstitchref3_TraceFault.T13 := by kernel_rfl
theorem backstitchref3_TraceFault.bits13 : bL backstitchref3_TraceFault.T13.2 backstitchref3_TraceFault.B13 = true := by kernel_rfl
def backstitchref3_TraceFault.T16 : Bool × List (List Nat × List Nat) := (true, [([], []), ([0], [0]), ([1], [1]), ([2], [2]), ([3], [3]), ([3], [3]), ([5, 3], [3, 5]), ([6, 3, 3], [3, 6]), ([3], [3]), ([8, 3], [3, 8]), ([4, 7, 9, 7, 3], [3, 4, 7, 9]), ([10, 3], [3, 10]), ([3, 11], [3, 11]), ([12, 10], [12]), ([13], [13]), ([13], [13]), ([15, 13], [13, 15]), ([16, 13, 13], [13, 16]), ([13], [13]), ([14, 17, 18, 17, 13], [13, 14, 17, 18]), ([19, 13], [13, 19]), ([13, 20], [13, 20])])
def backstitchref3_TraceFault.B16 : List Nat := [0, 1, 3, 7, 15, 15, 47, 111, 15, 271, 1023, 2047, 4095, 8191, 16383, 16383, 49151, 114687, 16383, 524287, 1048575, 2097151]
theorem backstitchref3_TraceFault.tab16 : rtab .any (bN Try.f67 16) = backstitchref3_TraceFault.T16 := by kernel_rfl
theorem backstitchref3_TraceFault.bits16 : bL backstitchref3_TraceFault.T16.2 backstitchref3_TraceFault.B16 = true := by kernel_rfl
def backstitchref3_TraceFault.T21 : Bool × List (List Nat × List Nat) := (true, [([], []), ([], []), ([1], [1]), ([], []), ([0, 2, 3, 2], [0, 2, 3]), ([4], [4])])
def backstitchref3_TraceFault.B21 : List Nat := [0, 0, 2, 0, 15, 31]
theorem backstitchref3_TraceFault.tab21 : rtab .any (bN Try.f67 21) = backstitchref3_TraceFault.T21 := by kernel_rfl
theorem backstitchref3_TraceFault.bits21 : bL backstitchref3_TraceFault.T21.2 backstitchref3_TraceFault.B21 = true := by kernel_rfl
def backstitchref3_TraceFault.may (k : Nat) (a0_0 : Int) (a0_1 : Int) (a0_2 : Int) (l0_3 : List (S181)) (l0_4 : List (S31)) (a0_5 : Int) (a0_6 : Int) (l0_7 : List (S38)) (l0_8 : List (S63)) (a0_9 : Int) (a0_10 : Int) (l0_11 : List (S38)) (l0_12 : List (S63)) (x : S31) (n : Int) : Option Bool := (backstitchref3_Values.f k x.f0 x.f1 x.f2 x.f3).bind fun v => backstitchref3_valuesMay.f k a0_0 a0_1 a0_2 l0_3 l0_4 a0_5 a0_6 l0_7 l0_8 a0_9 a0_10 l0_11 l0_12 v n
theorem backstitchref3_TraceFault.may_mono (a0_0 : Int) (a0_1 : Int) (a0_2 : Int) (l0_3 : List (S181)) (l0_4 : List (S31)) (a0_5 : Int) (a0_6 : Int) (l0_7 : List (S38)) (l0_8 : List (S63)) (a0_9 : Int) (a0_10 : Int) (l0_11 : List (S38)) (l0_12 : List (S63)) (x : S31) (n : Int) (k : Nat) : LeO (backstitchref3_TraceFault.may k a0_0 a0_1 a0_2 l0_3 l0_4 a0_5 a0_6 l0_7 l0_8 a0_9 a0_10 l0_11 l0_12 x n) (backstitchref3_TraceFault.may (k + 1) a0_0 a0_1 a0_2 l0_3 l0_4 a0_5 a0_6 l0_7 l0_8 a0_9 a0_10 l0_11 l0_12 x n) :=
 LeO.bind (backstitchref3_Values.mono _ _ _ _ _) (fun _ => backstitchref3_valuesMay.mono _ _ _ _ _ _ _ _ _ _ _ _ _ _ _ _)
def backstitchref3_TraceFault.st (k : Nat) (a0_0 : Int) (a0_1 : Int) (a0_2 : Int) (l0_3 : List (S181)) (l0_4 : List (S31)) (a0_5 : Int) (a0_6 : Int) (l0_7 : List (S38)) (l0_8 : List (S63)) (a0_9 : Int) (a0_10 : Int) (l0_11 : List (S38)) (l0_12 : List (S63)) (i : Int) : Option Int := if (rd_T181 l0_3 i).f0 < 1 then some 7 else if 20 ≤ (rd_T181 l0_3 i).f0 then some 7 else (backstitchref3_Asks.f k (rd_T181 l0_3 i).f0 (rd_T181 l0_3 i).f1 (rd_T181 l0_3 i).f2 (rd_T181 l0_3 i).f3 (rd_T181 l0_3 i).f4 (rd_T181 l0_3 i).f5 (rd_T181 l0_3 i).f6.f0 (rd_T181 l0_3 i).f6.f1).bind fun q => (backstitchref3_valuesMay.f k a0_0 a0_1 a0_2 l0_3 l0_4 a0_5 a0_6 l0_7 l0_8 a0_9 a0_10 l0_11 l0_12 q i).bind fun b => if b = true then (if (rd_T181 l0_3 i).f5 < -1 then some 3 else if (l0_4.length : Int) ≤ (rd_T181 l0_3 i).f5 then some 3 else if 0 ≤ (rd_T181 l0_3 i).f5 then (backstitchref3_TraceFault.may k a0_0 a0_1 a0_2 l0_3 l0_4 a0_5 a0_6 l0_7 l0_8 a0_9 a0_10 l0_11 l0_12 (rd_T31 l0_4 (rd_T181 l0_3 i).f5) i).bind fun b2 => if b2 = true then some 0 else some 3 else some 0) else some 3
theorem backstitchref3_TraceFault.st_mono (a0_0 : Int) (a0_1 : Int) (a0_2 : Int) (l0_3 : List (S181)) (l0_4 : List (S31)) (a0_5 : Int) (a0_6 : Int) (l0_7 : List (S38)) (l0_8 : List (S63)) (a0_9 : Int) (a0_10 : Int) (l0_11 : List (S38)) (l0_12 : List (S63)) (i : Int) (k : Nat) : LeO (backstitchref3_TraceFault.st k a0_0 a0_1 a0_2 l0_3 l0_4 a0_5 a0_6 l0_7 l0_8 a0_9 a0_10 l0_11 l0_12 i) (backstitchref3_TraceFault.st (k + 1) a0_0 a0_1 a0_2 l0_3 l0_4 a0_5 a0_6 l0_7 l0_8 a0_9 a0_10 l0_11 l0_12 i) := by
 unfold backstitchref3_TraceFault.st
 exact LeO.ite (LeO.refl _) (LeO.ite (LeO.refl _) (LeO.bind (backstitchref3_Asks.mono _ _ _ _ _ _ _ _ _) (fun _ => LeO.bind (backstitchref3_valuesMay.mono _ _ _ _ _ _ _ _ _ _ _ _ _ _ _ _) (fun _ => LeO.ite (LeO.ite (LeO.refl _) (LeO.ite (LeO.refl _) (LeO.ite (LeO.bind (backstitchref3_TraceFault.may_mono a0_0 a0_1 a0_2 l0_3 l0_4 a0_5 a0_6 l0_7 l0_8 a0_9 a0_10 l0_11 l0_12 _ _ _) (fun _ => LeO.refl _)) (LeO.refl _)))) (LeO.refl _)))))
def backstitchref3_TraceFault.ins (k : Nat) (a0_0 : Int) (a0_1 : Int) (a0_2 : Int) (l0_3 : List (S181)) (l0_4 : List (S31)) (a0_5 : Int) (a0_6 : Int) (l0_7 : List (S38)) (l0_8 : List (S63)) (a0_9 : Int) (a0_10 : Int) (l0_11 : List (S38)) (l0_12 : List (S63)) : Nat → Int → Option Int
 | 0, _ => some 0
 | d + 1, i => (backstitchref3_TraceFault.st k a0_0 a0_1 a0_2 l0_3 l0_4 a0_5 a0_6 l0_7 l0_8 a0_9 a0_10 l0_11 l0_12 i).bind fun e => if e = 0 then backstitchref3_TraceFault.ins k a0_0 a0_1 a0_2 l0_3 l0_4 a0_5 a0_6 l0_7 l0_8 a0_9 a0_10 l0_11 l0_12 d (i + 1) else some e
theorem backstitchref3_TraceFault.ins_mono (a0_0 : Int) (a0_1 : Int) (a0_2 : Int) (l0_3 : List (S181)) (l0_4 : List (S31)) (a0_5 : Int) (a0_6 : Int) (l0_7 : List (S38)) (l0_8 : List (S63)) (a0_9 : Int) (a0_10 : Int) (l0_11 : List (S38)) (l0_12 : List (S63)) : ∀ (d : Nat) (i : Int) (k : Nat), LeO (backstitchref3_TraceFault.ins k a0_0 a0_1 a0_2 l0_3 l0_4 a0_5 a0_6 l0_7 l0_8 a0_9 a0_10 l0_11 l0_12 d i) (backstitchref3_TraceFault.ins (k + 1) a0_0 a0_1 a0_2 l0_3 l0_4 a0_5 a0_6 l0_7 l0_8 a0_9 a0_10 l0_11 l0_12 d i)
 | 0, i, k => LeO.refl _
 | d + 1, i, k => by
  unfold backstitchref3_TraceFault.ins
  exact LeO.bind (backstitchref3_TraceFault.st_mono a0_0 a0_1 a0_2 l0_3 l0_4 a0_5 a0_6 l0_7 l0_8 a0_9 a0_10 l0_11 l0_12 i k) (fun e => LeO.ite (backstitchref3_TraceFault.ins_mono a0_0 a0_1 a0_2 l0_3 l0_4 a0_5 a0_6 l0_7 l0_8 a0_9 a0_10 l0_11 l0_12 d (i + 1) k) (LeO.refl _))
def backstitchref3_TraceFault.one3 (o : Option Bool) : Option Int := o.bind fun b => if b = true then some 0 else some 3
def backstitchref3_TraceFault.turn (k : Nat) (a0_0 : Int) (a0_1 : Int) (a0_2 : Int) (l0_3 : List (S181)) (l0_4 : List (S31)) (a0_5 : Int) (a0_6 : Int) (l0_7 : List (S38)) (l0_8 : List (S63)) (a0_9 : Int) (a0_10 : Int) (l0_11 : List (S38)) (l0_12 : List (S63)) : Option Int := if 0 < a0_2 then (backstitchref3_TraceFault.may k a0_0 a0_1 a0_2 l0_3 l0_4 a0_5 a0_6 l0_7 l0_8 a0_9 a0_10 l0_11 l0_12 (⟨a0_5, a0_6, l0_7, l0_8⟩ : S31) a0_2).bind fun b => if b = true then backstitchref3_TraceFault.one3 (backstitchref3_TraceFault.may k a0_0 a0_1 a0_2 l0_3 l0_4 a0_5 a0_6 l0_7 l0_8 a0_9 a0_10 l0_11 l0_12 (⟨a0_9, a0_10, l0_11, l0_12⟩ : S31) l0_3.length) else some 3 else backstitchref3_TraceFault.one3 (backstitchref3_TraceFault.may k a0_0 a0_1 a0_2 l0_3 l0_4 a0_5 a0_6 l0_7 l0_8 a0_9 a0_10 l0_11 l0_12 (⟨a0_9, a0_10, l0_11, l0_12⟩ : S31) l0_3.length)
def backstitchref3_TraceFault.exs (k : Nat) (a0_0 : Int) (a0_1 : Int) (a0_2 : Int) (l0_3 : List (S181)) (l0_4 : List (S31)) (a0_5 : Int) (a0_6 : Int) (l0_7 : List (S38)) (l0_8 : List (S63)) (a0_9 : Int) (a0_10 : Int) (l0_11 : List (S38)) (l0_12 : List (S63)) : List S31 → Option Int
 | [] => some 0
 | x :: l => (backstitchref3_TraceFault.may k a0_0 a0_1 a0_2 l0_3 l0_4 a0_5 a0_6 l0_7 l0_8 a0_9 a0_10 l0_11 l0_12 x l0_3.length).bind fun b => if b = true then backstitchref3_TraceFault.exs k a0_0 a0_1 a0_2 l0_3 l0_4 a0_5 a0_6 l0_7 l0_8 a0_9 a0_10 l0_11 l0_12 l else some 3
theorem backstitchref3_TraceFault.exs_mono (a0_0 : Int) (a0_1 : Int) (a0_2 : Int) (l0_3 : List (S181)) (l0_4 : List (S31)) (a0_5 : Int) (a0_6 : Int) (l0_7 : List (S38)) (l0_8 : List (S63)) (a0_9 : Int) (a0_10 : Int) (l0_11 : List (S38)) (l0_12 : List (S63)) (k : Nat) : ∀ l, LeO (backstitchref3_TraceFault.exs k a0_0 a0_1 a0_2 l0_3 l0_4 a0_5 a0_6 l0_7 l0_8 a0_9 a0_10 l0_11 l0_12 l) (backstitchref3_TraceFault.exs (k + 1) a0_0 a0_1 a0_2 l0_3 l0_4 a0_5 a0_6 l0_7 l0_8 a0_9 a0_10 l0_11 l0_12 l)
 | [] => LeO.refl _
 | x :: l => by
  unfold backstitchref3_TraceFault.exs
  exact LeO.bind (backstitchref3_TraceFault.may_mono a0_0 a0_1 a0_2 l0_3 l0_4 a0_5 a0_6 l0_7 l0_8 a0_9 a0_10 l0_11 l0_12 x _ k) (fun e => LeO.ite (backstitchref3_TraceFault.exs_mono a0_0 a0_1 a0_2 l0_3 l0_4 a0_5 a0_6 l0_7 l0_8 a0_9 a0_10 l0_11 l0_12 k l) (LeO.refl _))
def backstitchref3_TraceFault.lrg (k : Nat) : List S31 → Option Int
 | [] => some 0
 | x :: l => (backstitchref3_exitLarge.f k x.f0 x.f1 x.f2 x.f3).bind fun b => if b = true then some 2 else backstitchref3_TraceFault.lrg k l
theorem backstitchref3_TraceFault.lrg_mono (k : Nat) : ∀ l, LeO (backstitchref3_TraceFault.lrg k l) (backstitchref3_TraceFault.lrg (k + 1) l)
 | [] => LeO.refl _
 | x :: l => by
  unfold backstitchref3_TraceFault.lrg
  exact LeO.bind (backstitchref3_exitLarge.mono _ _ _ _ k) (fun e => LeO.ite (LeO.refl _) (backstitchref3_TraceFault.lrg_mono k l))
def backstitchref3_TraceFault.fin (k : Nat) (a0_0 : Int) (a0_1 : Int) (a0_2 : Int) (l0_3 : List (S181)) (l0_4 : List (S31)) (a0_5 : Int) (a0_6 : Int) (l0_7 : List (S38)) (l0_8 : List (S63)) (a0_9 : Int) (a0_10 : Int) (l0_11 : List (S38)) (l0_12 : List (S63)) : Option Int := (backstitchref3_TraceFault.exs k a0_0 a0_1 a0_2 l0_3 l0_4 a0_5 a0_6 l0_7 l0_8 a0_9 a0_10 l0_11 l0_12 l0_4).bind fun e => if e = 0 then backstitchref3_TraceFault.lrg k ((⟨a0_5, a0_6, l0_7, l0_8⟩ : S31) :: (⟨a0_9, a0_10, l0_11, l0_12⟩ : S31) :: l0_4) else some e
def backstitchref3_TraceFault.mid (k : Nat) (a0_0 : Int) (a0_1 : Int) (a0_2 : Int) (l0_3 : List (S181)) (l0_4 : List (S31)) (a0_5 : Int) (a0_6 : Int) (l0_7 : List (S38)) (l0_8 : List (S63)) (a0_9 : Int) (a0_10 : Int) (l0_11 : List (S38)) (l0_12 : List (S63)) : Option Int := (backstitchref3_TraceFault.turn k a0_0 a0_1 a0_2 l0_3 l0_4 a0_5 a0_6 l0_7 l0_8 a0_9 a0_10 l0_11 l0_12).bind fun e => if e = 0 then backstitchref3_TraceFault.fin k a0_0 a0_1 a0_2 l0_3 l0_4 a0_5 a0_6 l0_7 l0_8 a0_9 a0_10 l0_11 l0_12 else some e
def backstitchref3_TraceFault.f (k : Nat) (a0_0 : Int) (a0_1 : Int) (a0_2 : Int) (l0_3 : List (S181)) (l0_4 : List (S31)) (a0_5 : Int) (a0_6 : Int) (l0_7 : List (S38)) (l0_8 : List (S63)) (a0_9 : Int) (a0_10 : Int) (l0_11 : List (S38)) (l0_12 : List (S63)) : Option Int := if 300 < l0_3.length ∨ 200 < l0_4.length then some 2 else if a0_2 < 0 ∨ (l0_3.length : Int) < a0_2 then some 3 else (backstitchref3_TraceFault.ins k a0_0 a0_1 a0_2 l0_3 l0_4 a0_5 a0_6 l0_7 l0_8 a0_9 a0_10 l0_11 l0_12 l0_3.length 0).bind fun e => if e = 0 then backstitchref3_TraceFault.mid k a0_0 a0_1 a0_2 l0_3 l0_4 a0_5 a0_6 l0_7 l0_8 a0_9 a0_10 l0_11 l0_12 else some e
theorem backstitchref3_TraceFault.mono : ∀ a0_0 a0_1 a0_2 l0_3 l0_4 a0_5 a0_6 l0_7 l0_8 a0_9 a0_10 l0_11 l0_12 k, LeO (backstitchref3_TraceFault.f k a0_0 a0_1 a0_2 l0_3 l0_4 a0_5 a0_6 l0_7 l0_8 a0_9 a0_10 l0_11 l0_12) (backstitchref3_TraceFault.f (k + 1) a0_0 a0_1 a0_2 l0_3 l0_4 a0_5 a0_6 l0_7 l0_8 a0_9 a0_10 l0_11 l0_12) := by
 intro a0_0 a0_1 a0_2 l0_3 l0_4 a0_5 a0_6 l0_7 l0_8 a0_9 a0_10 l0_11 l0_12 k
 unfold backstitchref3_TraceFault.f backstitchref3_TraceFault.mid backstitchref3_TraceFault.turn backstitchref3_TraceFault.fin
 exact LeO.ite (LeO.refl _) (LeO.ite (LeO.refl _) (LeO.bind (backstitchref3_TraceFault.ins_mono a0_0 a0_1 a0_2 l0_3 l0_4 a0_5 a0_6 l0_7 l0_8 a0_9 a0_10 l0_11 l0_12 _ _ _) (fun _ => LeO.ite (LeO.bind (LeO.ite (LeO.bind (backstitchref3_TraceFault.may_mono a0_0 a0_1 a0_2 l0_3 l0_4 a0_5 a0_6 l0_7 l0_8 a0_9 a0_10 l0_11 l0_12 _ _ _) (fun _ => LeO.ite (LeO.bind (backstitchref3_TraceFault.may_mono a0_0 a0_1 a0_2 l0_3 l0_4 a0_5 a0_6 l0_7 l0_8 a0_9 a0_10 l0_11 l0_12 _ _ _) (fun _ => LeO.refl _)) (LeO.refl _))) (LeO.bind (backstitchref3_TraceFault.may_mono a0_0 a0_1 a0_2 l0_3 l0_4 a0_5 a0_6 l0_7 l0_8 a0_9 a0_10 l0_11 l0_12 _ _ _) (fun _ => LeO.refl _))) (fun _ => LeO.ite (LeO.bind (backstitchref3_TraceFault.exs_mono a0_0 a0_1 a0_2 l0_3 l0_4 a0_5 a0_6 l0_7 l0_8 a0_9 a0_10 l0_11 l0_12 _ _) (fun _ => LeO.ite (backstitchref3_TraceFault.lrg_mono _ _) (LeO.refl _))) (LeO.refl _))) (LeO.refl _))))
theorem backstitchref3_TraceFault.drop (l : List S31) (i : Int) (h0 : 0 ≤ i) (h1 : i < (l.length : Int)) : l.drop i.toNat = rd_T31 l i :: l.drop (i + 1).toNat := by
 rw [show (i + 1).toNat = i.toNat + 1 by omega, List.drop_eq_getElem_cons (by omega), rd_T31, List.getD_eq_getElem?_getD, List.getElem?_eq_getElem (by omega), Option.getD_some]
theorem backstitchref3_TraceFault.exitK {w W : World} {xs : List (List Value)} {A0_3 : Option Addr} {c0_3 : Nat} {l0_3 : List (S181)} {A0_4 : Option Addr} {c0_4 : Nat} {l0_4 : List (S31)} {a0_5 : Int} {a0_6 : Int} {A0_7 : Option Addr} {c0_7 : Nat} {l0_7 : List (S38)} {A0_8 : Option Addr} {c0_8 : Nat} {l0_8 : List (S63)} {a0_9 : Int} {a0_10 : Int} {A0_11 : Option Addr} {c0_11 : Nat} {l0_11 : List (S38)} {A0_12 : Option Addr} {c0_12 : Nat} {l0_12 : List (S63)} (hxf : ∀ (j : Nat) (x : S31) (c : List Value), l0_4[j]? = some x → xs[j]? = some c → k31.K w x c) (hr0_3 : Kd.C k181 w A0_3 l0_3.length l0_3) (hc0_3 : l0_3.length ≤ c0_3) (hr0_4 : Kd.C k31 w A0_4 l0_4.length l0_4) (hc0_4 : l0_4.length ≤ c0_4) (hr0_7 : Kd.C k38 w A0_7 l0_7.length l0_7) (hc0_7 : l0_7.length ≤ c0_7) (hr0_8 : Kd.C k63 w A0_8 l0_8.length l0_8) (hc0_8 : l0_8.length ≤ c0_8) (hr0_11 : Kd.C k38 w A0_11 l0_11.length l0_11) (hc0_11 : l0_11.length ≤ c0_11) (hr0_12 : Kd.C k63 w A0_12 l0_12.length l0_12) (hc0_12 : l0_12.length ≤ c0_12) (hb : Below w.heap.size w W) :
  ∀ (j : Nat) (x : S31) (c : List Value), ((⟨a0_5, a0_6, l0_7, l0_8⟩ : S31) :: (⟨a0_9, a0_10, l0_11, l0_12⟩ : S31) :: l0_4)[j]? = some x → ([[.int .i64 a0_5, .int .i64 a0_6, .slice A0_7 l0_7.length c0_7, .slice A0_8 l0_8.length c0_8], [.int .i64 a0_9, .int .i64 a0_10, .slice A0_11 l0_11.length c0_11, .slice A0_12 l0_12.length c0_12]] ++ xs)[j]? = some c → k31.K W x c := by
 intro j x c hx hc
 match j, hx, hc with
 | 0, hx, hc =>
  obtain rfl := Option.some.inj hx
  obtain rfl := Option.some.inj hc
  exact k31_mk _ (⟨a0_5, a0_6, l0_7, l0_8⟩ : S31) hc0_7 (Kd.C_below hr0_7 hb) hc0_8 (Kd.C_below hr0_8 hb)
 | 1, hx, hc =>
  obtain rfl := Option.some.inj hx
  obtain rfl := Option.some.inj hc
  exact k31_mk _ (⟨a0_9, a0_10, l0_11, l0_12⟩ : S31) hc0_11 (Kd.C_below hr0_11 hb) hc0_12 (Kd.C_below hr0_12 hb)
 | j + 2, hx, hc =>
  exact k31.K_below hb (hxf j x c (by simpa using hx) (by simpa using hc))
theorem backstitchref3_TraceFault.elem {w W : World} {xs : List (List Value)} {Ls : List S31} {Ae : Option Addr} (hC : Kd.C (Kd.raw 4) W Ae xs.length xs) (hl : Ls.length = xs.length) (hK : ∀ (j : Nat) (x : S31) (c : List Value), Ls[j]? = some x → xs[j]? = some c → k31.K w x c) (i : Int) (h0 : 0 ≤ i) (h1 : i < (xs.length : Int)) :
  ∃ ad A2 c2 A3 c3, Ae = some ad ∧ W.cell? (ad.add (i.toNat * 4)) = some (.int .i64 (rd_T31 Ls i).f0) ∧ W.cell? ⟨(ad.add (i.toNat * 4)).block, (ad.add (i.toNat * 4)).off + 1, none⟩ = some (.int .i64 (rd_T31 Ls i).f1) ∧ W.cell? ⟨(ad.add (i.toNat * 4)).block, (ad.add (i.toNat * 4)).off + 2, none⟩ = some (.slice A2 (rd_T31 Ls i).f2.length c2) ∧ W.cell? ⟨(ad.add (i.toNat * 4)).block, (ad.add (i.toNat * 4)).off + 3, none⟩ = some (.slice A3 (rd_T31 Ls i).f3.length c3) ∧ (rd_T31 Ls i).f2.length ≤ c2 ∧ k38.C w A2 (rd_T31 Ls i).f2.length (rd_T31 Ls i).f2 ∧ (rd_T31 Ls i).f3.length ≤ c3 ∧ k63.C w A3 (rd_T31 Ls i).f3.length (rd_T31 Ls i).f3 := by
 obtain ⟨ad, c, e, _, hKc, hc0⟩ := Kd.C_get hC [] i h0 h1
 have hc : ∀ j u, c[j]? = some u → W.cell? (ad.add (i.toNat * 4 + j)) = some u := hc0
 have hx : xs[i.toNat]? = some c := by
  rw [hKc.1, List.getD_eq_getElem?_getD, List.getElem?_eq_getElem (by omega), Option.getD_some]
 have hy : Ls[i.toNat]? = some (rd_T31 Ls i) := by
  rw [rd_T31, List.getD_eq_getElem?_getD, List.getElem?_eq_getElem (by omega), Option.getD_some]
 obtain ⟨A2, c2, A3, c3, ec, l2, g2, l3, g3⟩ := k31_open (hK _ _ _ hy hx)
 subst ec
 exact ⟨ad, A2, c2, A3, c3, e, hc 0 _ rfl, by rw [← bK _ _ 1 (by omega)]; exact hc 1 _ rfl, by rw [← bK _ _ 2 (by omega)]; exact hc 2 _ rfl, by rw [← bK _ _ 3 (by omega)]; exact hc 3 _ rfl, l2, g2, l3, g3⟩
set_option maxHeartbeats 16000000 in
set_option maxRecDepth 100000 in
theorem backstitchref3_TraceFault.calls (k : Nat) (a0_0 : Int) (a0_1 : Int) (a0_2 : Int) (A0_3 : Option Addr) (c0_3 : Nat) (l0_3 : List (S181)) (A0_4 : Option Addr) (c0_4 : Nat) (l0_4 : List (S31)) (a0_5 : Int) (a0_6 : Int) (A0_7 : Option Addr) (c0_7 : Nat) (l0_7 : List (S38)) (A0_8 : Option Addr) (c0_8 : Nat) (l0_8 : List (S63)) (a0_9 : Int) (a0_10 : Int) (A0_11 : Option Addr) (c0_11 : Nat) (l0_11 : List (S38)) (A0_12 : Option Addr) (c0_12 : Nat) (l0_12 : List (S63)) (r : Int) (w : World) (hr0_3 : Kd.C k181 w A0_3 l0_3.length l0_3) (hc0_3 : l0_3.length ≤ c0_3) (hr0_4 : Kd.C k31 w A0_4 l0_4.length l0_4) (hc0_4 : l0_4.length ≤ c0_4) (hr0_7 : Kd.C k38 w A0_7 l0_7.length l0_7) (hc0_7 : l0_7.length ≤ c0_7) (hr0_8 : Kd.C k63 w A0_8 l0_8.length l0_8) (hc0_8 : l0_8.length ≤ c0_8) (hr0_11 : Kd.C k38 w A0_11 l0_11.length l0_11) (hc0_11 : l0_11.length ≤ c0_11) (hr0_12 : Kd.C k63 w A0_12 l0_12.length l0_12) (hc0_12 : l0_12.length ≤ c0_12) (h : backstitchref3_TraceFault.f k a0_0 a0_1 a0_2 l0_3 l0_4 a0_5 a0_6 l0_7 l0_8 a0_9 a0_10 l0_11 l0_12 = some r) :
  Calls Try.prog 67 #[.agg #[.int .i64 a0_0, .int .i64 a0_1, .int .i64 a0_2, .slice A0_3 l0_3.length c0_3, .slice A0_4 l0_4.length c0_4, .int .i64 a0_5, .int .i64 a0_6, .slice A0_7 l0_7.length c0_7, .slice A0_8 l0_8.length c0_8, .int .i64 a0_9, .int .i64 a0_10, .slice A0_11 l0_11.length c0_11, .slice A0_12 l0_12.length c0_12]] w fun e w' => e = .returned (.int .i64 r) ∧ Below w.heap.size w w' := by
 have HR3 := Aside0.mk hr0_3
 have HC3 := Aside0.mk hc0_3
 have HR4 := Aside0.mk hr0_4
 have HC4 := Aside0.mk hc0_4
 have HR7 := Aside0.mk hr0_7
 have HC7 := Aside0.mk hc0_7
 have HR8 := Aside0.mk hr0_8
 have HC8 := Aside0.mk hc0_8
 have HR11 := Aside0.mk hr0_11
 have HC11 := Aside0.mk hc0_11
 have HR12 := Aside0.mk hr0_12
 have HC12 := Aside0.mk hc0_12
 have HS0 := Aside0.mk (St.nil (Below.refl w.heap.size w))
 clear hr0_3 hc0_3 hr0_4 hc0_4 hr0_7 hc0_7 hr0_8 hc0_8 hr0_11 hc0_11 hr0_12 hc0_12
 unfold backstitchref3_TraceFault.f at h
 by_cases c1 : 300 < l0_3.length
 ·rw [if_pos (.inl c1)] at h
  obtain rfl := Option.some.inj h
  have hb1 : decide (300 < l0_3.length) = true := decide_eq_true c1
  have hb2 : decide ((300 : Int) < (l0_3.length : Int)) = true := decide_eq_true (by omega)
  clear h c1
  go_enter Try.func67, Try.ntmps67
  go_wp2_with (first | ((with_reducible refine bG (N := 1) rfl ?_); (try (refine bD (by rfl) ?_; dsimp only)); refine bE ?hg (N := 1) ?hd (cs := #[.int .i64 a0_0, .int .i64 a0_1, .int .i64 a0_2, .slice A0_3 l0_3.length c0_3, .slice A0_4 l0_4.length c0_4, .int .i64 a0_5, .int .i64 a0_6, .slice A0_7 l0_7.length c0_7, .slice A0_8 l0_8.length c0_8, .int .i64 a0_9, .int .i64 a0_10, .slice A0_11 l0_11.length c0_11, .slice A0_12 l0_12.length c0_12]) (t := 123) ?hr ?_; (case hd => rfl); (case hg => rfl); (case hr => first | (go_simp; done) | (go_simp; rfl)); intro gt hg_ w503_ hx_ hb_; have HS504_ := Aside0.mk (HS0.out.box hg_ hx_ hb_); have c505_ : w503_.cell? ⟨gt, 2, none⟩ = some (.int .i64 a0_2) := (HS504_.out.cell 0 rfl 2).trans rfl; have c506_ : w503_.cell? ⟨gt, 3, none⟩ = some (.slice A0_3 l0_3.length c0_3) := (HS504_.out.cell 0 rfl 3).trans rfl; have c507_ : w503_.cell? ⟨gt, 4, none⟩ = some (.slice A0_4 l0_4.length c0_4) := (HS504_.out.cell 0 rfl 4).trans rfl; clear hg_ hx_ hb_  HS0))
  go_ret
  exact ⟨rfl, HS504_.out.below⟩
 have hb1 : decide (300 < l0_3.length) = false := decide_eq_false c1
 have hb2 : decide ((300 : Int) < (l0_3.length : Int)) = false := decide_eq_false (by omega)
 by_cases c2 : 200 < l0_4.length
 ·rw [if_pos (.inr c2)] at h
  obtain rfl := Option.some.inj h
  have hb3 : decide (200 < l0_4.length) = true := decide_eq_true c2
  have hb4 : decide ((200 : Int) < (l0_4.length : Int)) = true := decide_eq_true (by omega)
  clear h c1 c2
  go_enter Try.func67, Try.ntmps67
  go_wp2_with (first | ((with_reducible refine bG (N := 1) rfl ?_); (try (refine bD (by rfl) ?_; dsimp only)); refine bE ?hg (N := 1) ?hd (cs := #[.int .i64 a0_0, .int .i64 a0_1, .int .i64 a0_2, .slice A0_3 l0_3.length c0_3, .slice A0_4 l0_4.length c0_4, .int .i64 a0_5, .int .i64 a0_6, .slice A0_7 l0_7.length c0_7, .slice A0_8 l0_8.length c0_8, .int .i64 a0_9, .int .i64 a0_10, .slice A0_11 l0_11.length c0_11, .slice A0_12 l0_12.length c0_12]) (t := 123) ?hr ?_; (case hd => rfl); (case hg => rfl); (case hr => first | (go_simp; done) | (go_simp; rfl)); intro gt hg_ w503_ hx_ hb_; have HS504_ := Aside0.mk (HS0.out.box hg_ hx_ hb_); have c505_ : w503_.cell? ⟨gt, 2, none⟩ = some (.int .i64 a0_2) := (HS504_.out.cell 0 rfl 2).trans rfl; have c506_ : w503_.cell? ⟨gt, 3, none⟩ = some (.slice A0_3 l0_3.length c0_3) := (HS504_.out.cell 0 rfl 3).trans rfl; have c507_ : w503_.cell? ⟨gt, 4, none⟩ = some (.slice A0_4 l0_4.length c0_4) := (HS504_.out.cell 0 rfl 4).trans rfl; clear hg_ hx_ hb_  HS0))
  go_ret
  exact ⟨rfl, HS504_.out.below⟩
 rw [if_neg (by omega)] at h
 have hb3 : decide (200 < l0_4.length) = false := decide_eq_false c2
 have hb4 : decide ((200 : Int) < (l0_4.length : Int)) = false := decide_eq_false (by omega)
 by_cases c3 : a0_2 < 0
 ·rw [if_pos (.inl c3)] at h
  obtain rfl := Option.some.inj h
  have hb5 : decide (a0_2 < 0) = true := decide_eq_true c3
  clear h c1 c2 c3
  go_enter Try.func67, Try.ntmps67
  go_wp2_with (first | ((with_reducible refine bG (N := 1) rfl ?_); (try (refine bD (by rfl) ?_; dsimp only)); refine bE ?hg (N := 1) ?hd (cs := #[.int .i64 a0_0, .int .i64 a0_1, .int .i64 a0_2, .slice A0_3 l0_3.length c0_3, .slice A0_4 l0_4.length c0_4, .int .i64 a0_5, .int .i64 a0_6, .slice A0_7 l0_7.length c0_7, .slice A0_8 l0_8.length c0_8, .int .i64 a0_9, .int .i64 a0_10, .slice A0_11 l0_11.length c0_11, .slice A0_12 l0_12.length c0_12]) (t := 123) ?hr ?_; (case hd => rfl); (case hg => rfl); (case hr => first | (go_simp; done) | (go_simp; rfl)); intro gt hg_ w503_ hx_ hb_; have HS504_ := Aside0.mk (HS0.out.box hg_ hx_ hb_); have c505_ : w503_.cell? ⟨gt, 2, none⟩ = some (.int .i64 a0_2) := (HS504_.out.cell 0 rfl 2).trans rfl; have c506_ : w503_.cell? ⟨gt, 3, none⟩ = some (.slice A0_3 l0_3.length c0_3) := (HS504_.out.cell 0 rfl 3).trans rfl; have c507_ : w503_.cell? ⟨gt, 4, none⟩ = some (.slice A0_4 l0_4.length c0_4) := (HS504_.out.cell 0 rfl 4).trans rfl; clear hg_ hx_ hb_  HS0))
  go_ret
  exact ⟨rfl, HS504_.out.below⟩
 have hb5 : decide (a0_2 < 0) = false := decide_eq_false c3
 by_cases c4 : (l0_3.length : Int) < a0_2
 ·rw [if_pos (.inr c4)] at h
  obtain rfl := Option.some.inj h
  have hb6 : decide ((l0_3.length : Int) < a0_2) = true := decide_eq_true c4
  clear h c1 c2 c3 c4
  go_enter Try.func67, Try.ntmps67
  go_wp2_with (first | ((with_reducible refine bG (N := 1) rfl ?_); (try (refine bD (by rfl) ?_; dsimp only)); refine bE ?hg (N := 1) ?hd (cs := #[.int .i64 a0_0, .int .i64 a0_1, .int .i64 a0_2, .slice A0_3 l0_3.length c0_3, .slice A0_4 l0_4.length c0_4, .int .i64 a0_5, .int .i64 a0_6, .slice A0_7 l0_7.length c0_7, .slice A0_8 l0_8.length c0_8, .int .i64 a0_9, .int .i64 a0_10, .slice A0_11 l0_11.length c0_11, .slice A0_12 l0_12.length c0_12]) (t := 123) ?hr ?_; (case hd => rfl); (case hg => rfl); (case hr => first | (go_simp; done) | (go_simp; rfl)); intro gt hg_ w503_ hx_ hb_; have HS504_ := Aside0.mk (HS0.out.box hg_ hx_ hb_); have c505_ : w503_.cell? ⟨gt, 2, none⟩ = some (.int .i64 a0_2) := (HS504_.out.cell 0 rfl 2).trans rfl; have c506_ : w503_.cell? ⟨gt, 3, none⟩ = some (.slice A0_3 l0_3.length c0_3) := (HS504_.out.cell 0 rfl 3).trans rfl; have c507_ : w503_.cell? ⟨gt, 4, none⟩ = some (.slice A0_4 l0_4.length c0_4) := (HS504_.out.cell 0 rfl 4).trans rfl; clear hg_ hx_ hb_  HS0))
  go_ret
  exact ⟨rfl, HS504_.out.below⟩
 rw [if_neg (by omega)] at h
 have hb6 : decide ((l0_3.length : Int) < a0_2) = false := decide_eq_false c4
 have HLEN := Aside0.mk (show l0_3.length ≤ 300 ∧ l0_4.length ≤ 200 ∧ 0 ≤ a0_2 ∧ a0_2 ≤ l0_3.length by omega)
 have HH := Aside0.mk h
 clear h c1 c2 c3 c4
 go_enter Try.func67, Try.ntmps67
 go_wp2_with (first | ((with_reducible refine bG (N := 1) rfl ?_); (try (refine bD (by rfl) ?_; dsimp only)); refine bE ?hg (N := 1) ?hd (cs := #[.int .i64 a0_0, .int .i64 a0_1, .int .i64 a0_2, .slice A0_3 l0_3.length c0_3, .slice A0_4 l0_4.length c0_4, .int .i64 a0_5, .int .i64 a0_6, .slice A0_7 l0_7.length c0_7, .slice A0_8 l0_8.length c0_8, .int .i64 a0_9, .int .i64 a0_10, .slice A0_11 l0_11.length c0_11, .slice A0_12 l0_12.length c0_12]) (t := 123) ?hr ?_; (case hd => rfl); (case hg => rfl); (case hr => first | (go_simp; done) | (go_simp; rfl)); intro gt hg_ w503_ hx_ hb_; have HS504_ := Aside0.mk (HS0.out.box hg_ hx_ hb_); have c505_ : w503_.cell? ⟨gt, 2, none⟩ = some (.int .i64 a0_2) := (HS504_.out.cell 0 rfl 2).trans rfl; have c506_ : w503_.cell? ⟨gt, 3, none⟩ = some (.slice A0_3 l0_3.length c0_3) := (HS504_.out.cell 0 rfl 3).trans rfl; have c507_ : w503_.cell? ⟨gt, 4, none⟩ = some (.slice A0_4 l0_4.length c0_4) := (HS504_.out.cell 0 rfl 4).trans rfl; clear hg_ hx_ hb_  HS0))
 clear c505_ c506_ c507_
 go_loopw [33] (fun v33 wr => ∃ i : Int, v33 = .int .i64 i ∧ Aside0 (0 ≤ i ∧ i ≤ l0_3.length) ∧ Aside0 ((backstitchref3_TraceFault.ins k a0_0 a0_1 a0_2 l0_3 l0_4 a0_5 a0_6 l0_7 l0_8 a0_9 a0_10 l0_11 l0_12 (l0_3.length - i.toNat) i).bind (fun e => if e = 0 then backstitchref3_TraceFault.mid k a0_0 a0_1 a0_2 l0_3 l0_4 a0_5 a0_6 l0_7 l0_8 a0_9 a0_10 l0_11 l0_12 else some e) = some r) ∧ Aside0 (St w wr ((blkA gt #[.int .i64 a0_0, .int .i64 a0_1, .int .i64 a0_2, .slice A0_3 l0_3.length c0_3, .slice A0_4 l0_4.length c0_4, .int .i64 a0_5, .int .i64 a0_6, .slice A0_7 l0_7.length c0_7, .slice A0_8 l0_8.length c0_8, .int .i64 a0_9, .int .i64 a0_10, .slice A0_11 l0_11.length c0_11, .slice A0_12 l0_12.length c0_12] 123) :: []))) (fun v33 _ => l0_3.length - (intOf v33).toNat)
 case atStart => exact ⟨0, rfl, ⟨by omega⟩, HH, HS504_⟩
 case round =>
  clear HH HS504_
  obtain ⟨i, rfl, Hi, HX, HSr⟩ := hrel
  have hi0 : 0 ≤ i := Hi.out.1
  by_cases hlt : i < (l0_3.length : Int)
  ·have ht : decide (i < (l0_3.length : Int)) = true := decide_eq_true hlt
   have HW := Aside0.mk (show wrap64 (i + 1) = i + 1 by have := HLEN.out; unfold wrap64; omega)
   have hx := HX.out
   rw [show l0_3.length - i.toNat = (l0_3.length - (i + 1).toNat) + 1 by omega, backstitchref3_TraceFault.ins] at hx
   obtain ⟨e1, hx1, hx2⟩ := Option.bind_eq_some_iff.1 hx
   obtain ⟨e0, he0, hx3⟩ := Option.bind_eq_some_iff.1 hx1
   have HN := Aside0.mk (show e0 = 0 → (backstitchref3_TraceFault.ins k a0_0 a0_1 a0_2 l0_3 l0_4 a0_5 a0_6 l0_7 l0_8 a0_9 a0_10 l0_11 l0_12 (l0_3.length - (i + 1).toNat) (i + 1)).bind (fun e => if e = 0 then backstitchref3_TraceFault.mid k a0_0 a0_1 a0_2 l0_3 l0_4 a0_5 a0_6 l0_7 l0_8 a0_9 a0_10 l0_11 l0_12 else some e) = some r from fun hc => by rw [if_pos hc] at hx3; rw [hx3]; exact hx2)
   have HO := Aside0.mk (show e0 ≠ 0 → r = e0 from fun hc => by rw [if_neg hc] at hx3; obtain rfl := Option.some.inj hx3; rw [if_neg hc] at hx2; exact (Option.some.inj hx2).symm)
   clear hx hx1 hx2 hx3 HX
   unfold backstitchref3_TraceFault.st at he0
   obtain ⟨adi, e, hx0, hx1, hx2, hx3, hx4, hx5, hx6, hx7⟩ := at_T181 HR3.out i hi0 hlt
   cases e
   generalize rd_T181 l0_3 i = x at *
   replace hx0 := (HSr.out.below.cell (World.block_lt_of_cell? w _ hx0)).trans hx0
   replace hx1 := (HSr.out.below.cell (World.block_lt_of_cell? w _ hx1)).trans hx1
   replace hx2 := (HSr.out.below.cell (World.block_lt_of_cell? w _ hx2)).trans hx2
   replace hx3 := (HSr.out.below.cell (World.block_lt_of_cell? w _ hx3)).trans hx3
   replace hx4 := (HSr.out.below.cell (World.block_lt_of_cell? w _ hx4)).trans hx4
   replace hx5 := (HSr.out.below.cell (World.block_lt_of_cell? w _ hx5)).trans hx5
   replace hx6 := (HSr.out.below.cell (World.block_lt_of_cell? w _ hx6)).trans hx6
   replace hx7 := (HSr.out.below.cell (World.block_lt_of_cell? w _ hx7)).trans hx7
   have HRDI : ∀ j, j < 13 → True := fun _ _ => trivial
   clear HRDI
   have c628_ : wr.cell? ⟨gt, 2, none⟩ = some (.int .i64 a0_2) := (HSr.out.cell 0 rfl 2).trans rfl
   have c629_ : wr.cell? ⟨gt, 4, none⟩ = some (.slice A0_4 l0_4.length c0_4) := (HSr.out.cell 0 rfl 4).trans rfl
   by_cases d1 : x.f0 < 1
   ·rw [if_pos d1] at he0
    obtain rfl := Option.some.inj he0
    obtain rfl := HO.out (by decide)
    have hb7 : decide (x.f0 < 1) = true := decide_eq_true d1
    clear he0 d1
    go_wp2_with (first | ((with_reducible refine bG (N := 5) rfl ?_); (try (refine bD (by rfl) ?_; dsimp only)); refine bE ?hg (N := 5) ?hd (cs := #[.int .i64 0, .int .i64 0, .int .i64 0, .int .i64 0, .int .i64 0, .int .i64 0, .int .i64 0, .int .i64 0]) (t := 181) ?hr ?_; (case hd => rfl); (case hg => rfl); (case hr => first | (go_simp; done) | (go_simp; rfl)); intro gx hg_ w508_ hx_ hb_; have HS509_ := Aside0.mk (HSr.out.box hg_ hx_ hb_); have c510_ : w508_.cell? ⟨gx, 0, none⟩ = some (.int .i64 0) := (HS509_.out.cell 0 rfl 0).trans rfl; have c511_ : w508_.cell? ⟨gx, 1, none⟩ = some (.int .i64 0) := (HS509_.out.cell 0 rfl 1).trans rfl; have c512_ : w508_.cell? ⟨gx, 2, none⟩ = some (.int .i64 0) := (HS509_.out.cell 0 rfl 2).trans rfl; have c513_ : w508_.cell? ⟨gx, 3, none⟩ = some (.int .i64 0) := (HS509_.out.cell 0 rfl 3).trans rfl; have c514_ : w508_.cell? ⟨gx, 4, none⟩ = some (.int .i64 0) := (HS509_.out.cell 0 rfl 4).trans rfl; have c515_ : w508_.cell? ⟨gx, 5, none⟩ = some (.int .i64 0) := (HS509_.out.cell 0 rfl 5).trans rfl; have c516_ : w508_.cell? ⟨gx, 6, none⟩ = some (.int .i64 0) := (HS509_.out.cell 0 rfl 6).trans rfl; have c517_ : w508_.cell? ⟨gx, 7, none⟩ = some (.int .i64 0) := (HS509_.out.cell 0 rfl 7).trans rfl; have f518_ : w508_.frozen? ⟨gx, 0, none⟩ = false := HS509_.out.frz 0 rfl 0; have f519_ : w508_.frozen? ⟨gx, 1, none⟩ = false := HS509_.out.frz 0 rfl 1; have f520_ : w508_.frozen? ⟨gx, 2, none⟩ = false := HS509_.out.frz 0 rfl 2; have f521_ : w508_.frozen? ⟨gx, 3, none⟩ = false := HS509_.out.frz 0 rfl 3; have f522_ : w508_.frozen? ⟨gx, 4, none⟩ = false := HS509_.out.frz 0 rfl 4; have f523_ : w508_.frozen? ⟨gx, 5, none⟩ = false := HS509_.out.frz 0 rfl 5; have f524_ : w508_.frozen? ⟨gx, 6, none⟩ = false := HS509_.out.frz 0 rfl 6; have f525_ : w508_.frozen? ⟨gx, 7, none⟩ = false := HS509_.out.frz 0 rfl 7; have hbx_ := hb_; replace hx0 := (hbx_.cell (World.block_lt_of_cell? _ _ hx0)).trans hx0; replace hx1 := (hbx_.cell (World.block_lt_of_cell? _ _ hx1)).trans hx1; replace hx2 := (hbx_.cell (World.block_lt_of_cell? _ _ hx2)).trans hx2; replace hx3 := (hbx_.cell (World.block_lt_of_cell? _ _ hx3)).trans hx3; replace hx4 := (hbx_.cell (World.block_lt_of_cell? _ _ hx4)).trans hx4; replace hx5 := (hbx_.cell (World.block_lt_of_cell? _ _ hx5)).trans hx5; replace hx6 := (hbx_.cell (World.block_lt_of_cell? _ _ hx6)).trans hx6; replace hx7 := (hbx_.cell (World.block_lt_of_cell? _ _ hx7)).trans hx7; clear hbx_; clear hg_ hx_ hb_  HSr) | ((with_reducible refine bH (t := 181) (p := 5) rfl ?_); refine bF (t := 181) (p := 5) (v := .tmp 37) (w1 := ((((((((w508_.setCell ⟨gx, 0, none⟩ (.int .i64 x.f0)).setCell ⟨gx, 1, none⟩ (.int .i64 x.f1)).setCell ⟨gx, 2, none⟩ (.int .i64 x.f2)).setCell ⟨gx, 3, none⟩ (.int .i64 x.f3)).setCell ⟨gx, 4, none⟩ (.int .i64 x.f4)).setCell ⟨gx, 5, none⟩ (.int .i64 x.f5)).setCell ⟨gx, 6, none⟩ (.int .i64 x.f6.f0)).setCell ⟨gx, 7, none⟩ (.int .i64 x.f6.f1))) ?hg ?ho ?hn ?hr ?_; (case ho => rfl); (case hg => rfl); (case hn => rfl); (case hr => first | (go_simp; done) | (go_simp; rfl)); intro w526_ hw_; have HS527_ : Aside0 (St w w526_ ((blkA gx #[.int .i64 x.f0, .int .i64 x.f1, .int .i64 x.f2, .int .i64 x.f3, .int .i64 x.f4, .int .i64 x.f5, .int .i64 x.f6.f0, .int .i64 x.f6.f1] 181) :: (blkA gt #[.int .i64 a0_0, .int .i64 a0_1, .int .i64 a0_2, .slice (some adi) l0_3.length c0_3, .slice A0_4 l0_4.length c0_4, .int .i64 a0_5, .int .i64 a0_6, .slice A0_7 l0_7.length c0_7, .slice A0_8 l0_8.length c0_8, .int .i64 a0_9, .int .i64 a0_10, .slice A0_11 l0_11.length c0_11, .slice A0_12 l0_12.length c0_12] 123) :: [])) := ⟨by rw [hw_]; exact ((((((((HS509_.out.put 0 rfl 0 (.int .i64 x.f0) rfl).put 0 rfl 1 (.int .i64 x.f1) rfl).put 0 rfl 2 (.int .i64 x.f2) rfl).put 0 rfl 3 (.int .i64 x.f3) rfl).put 0 rfl 4 (.int .i64 x.f4) rfl).put 0 rfl 5 (.int .i64 x.f5) rfl).put 0 rfl 6 (.int .i64 x.f6.f0) rfl).put 0 rfl 7 (.int .i64 x.f6.f1) rfl)⟩; have c528_ : w526_.cell? ⟨gx, 0, none⟩ = some (.int .i64 x.f0) := (HS527_.out.cell 0 rfl 0).trans rfl; clear hw_ c510_ c511_ c512_ c513_ c514_ c515_ c516_ c517_ f518_ f519_ f520_ f521_ f522_ f523_ f524_ f525_ HS509_ hx0 hx1 hx2 hx3 hx4 hx5 hx6 hx7))
    go_ret
    exact ⟨rfl, HS527_.out.below⟩
   rw [if_neg d1] at he0
   have hb7 : decide (x.f0 < 1) = false := decide_eq_false d1
   by_cases d2 : 20 ≤ x.f0
   ·rw [if_pos d2] at he0
    obtain rfl := Option.some.inj he0
    obtain rfl := HO.out (by decide)
    have hb8 : decide (x.f0 ≥ 20) = true := decide_eq_true d2
    have hb9 : decide (20 ≤ x.f0) = true := decide_eq_true d2
    clear he0 d1 d2
    go_wp2_with (first | ((with_reducible refine bG (N := 5) rfl ?_); (try (refine bD (by rfl) ?_; dsimp only)); refine bE ?hg (N := 5) ?hd (cs := #[.int .i64 0, .int .i64 0, .int .i64 0, .int .i64 0, .int .i64 0, .int .i64 0, .int .i64 0, .int .i64 0]) (t := 181) ?hr ?_; (case hd => rfl); (case hg => rfl); (case hr => first | (go_simp; done) | (go_simp; rfl)); intro gx hg_ w508_ hx_ hb_; have HS509_ := Aside0.mk (HSr.out.box hg_ hx_ hb_); have c510_ : w508_.cell? ⟨gx, 0, none⟩ = some (.int .i64 0) := (HS509_.out.cell 0 rfl 0).trans rfl; have c511_ : w508_.cell? ⟨gx, 1, none⟩ = some (.int .i64 0) := (HS509_.out.cell 0 rfl 1).trans rfl; have c512_ : w508_.cell? ⟨gx, 2, none⟩ = some (.int .i64 0) := (HS509_.out.cell 0 rfl 2).trans rfl; have c513_ : w508_.cell? ⟨gx, 3, none⟩ = some (.int .i64 0) := (HS509_.out.cell 0 rfl 3).trans rfl; have c514_ : w508_.cell? ⟨gx, 4, none⟩ = some (.int .i64 0) := (HS509_.out.cell 0 rfl 4).trans rfl; have c515_ : w508_.cell? ⟨gx, 5, none⟩ = some (.int .i64 0) := (HS509_.out.cell 0 rfl 5).trans rfl; have c516_ : w508_.cell? ⟨gx, 6, none⟩ = some (.int .i64 0) := (HS509_.out.cell 0 rfl 6).trans rfl; have c517_ : w508_.cell? ⟨gx, 7, none⟩ = some (.int .i64 0) := (HS509_.out.cell 0 rfl 7).trans rfl; have f518_ : w508_.frozen? ⟨gx, 0, none⟩ = false := HS509_.out.frz 0 rfl 0; have f519_ : w508_.frozen? ⟨gx, 1, none⟩ = false := HS509_.out.frz 0 rfl 1; have f520_ : w508_.frozen? ⟨gx, 2, none⟩ = false := HS509_.out.frz 0 rfl 2; have f521_ : w508_.frozen? ⟨gx, 3, none⟩ = false := HS509_.out.frz 0 rfl 3; have f522_ : w508_.frozen? ⟨gx, 4, none⟩ = false := HS509_.out.frz 0 rfl 4; have f523_ : w508_.frozen? ⟨gx, 5, none⟩ = false := HS509_.out.frz 0 rfl 5; have f524_ : w508_.frozen? ⟨gx, 6, none⟩ = false := HS509_.out.frz 0 rfl 6; have f525_ : w508_.frozen? ⟨gx, 7, none⟩ = false := HS509_.out.frz 0 rfl 7; have hbx_ := hb_; replace hx0 := (hbx_.cell (World.block_lt_of_cell? _ _ hx0)).trans hx0; replace hx1 := (hbx_.cell (World.block_lt_of_cell? _ _ hx1)).trans hx1; replace hx2 := (hbx_.cell (World.block_lt_of_cell? _ _ hx2)).trans hx2; replace hx3 := (hbx_.cell (World.block_lt_of_cell? _ _ hx3)).trans hx3; replace hx4 := (hbx_.cell (World.block_lt_of_cell? _ _ hx4)).trans hx4; replace hx5 := (hbx_.cell (World.block_lt_of_cell? _ _ hx5)).trans hx5; replace hx6 := (hbx_.cell (World.block_lt_of_cell? _ _ hx6)).trans hx6; replace hx7 := (hbx_.cell (World.block_lt_of_cell? _ _ hx7)).trans hx7; clear hbx_; clear hg_ hx_ hb_  HSr) | ((with_reducible refine bH (t := 181) (p := 5) rfl ?_); refine bF (t := 181) (p := 5) (v := .tmp 37) (w1 := ((((((((w508_.setCell ⟨gx, 0, none⟩ (.int .i64 x.f0)).setCell ⟨gx, 1, none⟩ (.int .i64 x.f1)).setCell ⟨gx, 2, none⟩ (.int .i64 x.f2)).setCell ⟨gx, 3, none⟩ (.int .i64 x.f3)).setCell ⟨gx, 4, none⟩ (.int .i64 x.f4)).setCell ⟨gx, 5, none⟩ (.int .i64 x.f5)).setCell ⟨gx, 6, none⟩ (.int .i64 x.f6.f0)).setCell ⟨gx, 7, none⟩ (.int .i64 x.f6.f1))) ?hg ?ho ?hn ?hr ?_; (case ho => rfl); (case hg => rfl); (case hn => rfl); (case hr => first | (go_simp; done) | (go_simp; rfl)); intro w526_ hw_; have HS527_ : Aside0 (St w w526_ ((blkA gx #[.int .i64 x.f0, .int .i64 x.f1, .int .i64 x.f2, .int .i64 x.f3, .int .i64 x.f4, .int .i64 x.f5, .int .i64 x.f6.f0, .int .i64 x.f6.f1] 181) :: (blkA gt #[.int .i64 a0_0, .int .i64 a0_1, .int .i64 a0_2, .slice (some adi) l0_3.length c0_3, .slice A0_4 l0_4.length c0_4, .int .i64 a0_5, .int .i64 a0_6, .slice A0_7 l0_7.length c0_7, .slice A0_8 l0_8.length c0_8, .int .i64 a0_9, .int .i64 a0_10, .slice A0_11 l0_11.length c0_11, .slice A0_12 l0_12.length c0_12] 123) :: [])) := ⟨by rw [hw_]; exact ((((((((HS509_.out.put 0 rfl 0 (.int .i64 x.f0) rfl).put 0 rfl 1 (.int .i64 x.f1) rfl).put 0 rfl 2 (.int .i64 x.f2) rfl).put 0 rfl 3 (.int .i64 x.f3) rfl).put 0 rfl 4 (.int .i64 x.f4) rfl).put 0 rfl 5 (.int .i64 x.f5) rfl).put 0 rfl 6 (.int .i64 x.f6.f0) rfl).put 0 rfl 7 (.int .i64 x.f6.f1) rfl)⟩; have c528_ : w526_.cell? ⟨gx, 0, none⟩ = some (.int .i64 x.f0) := (HS527_.out.cell 0 rfl 0).trans rfl; clear hw_ c510_ c511_ c512_ c513_ c514_ c515_ c516_ c517_ f518_ f519_ f520_ f521_ f522_ f523_ f524_ f525_ HS509_ hx0 hx1 hx2 hx3 hx4 hx5 hx6 hx7))
    go_ret
    exact ⟨rfl, HS527_.out.below⟩
   rw [if_neg d2] at he0
   have hb8 : decide (x.f0 ≥ 20) = false := decide_eq_false d2
   have hb9 : decide (20 ≤ x.f0) = false := decide_eq_false d2
   obtain ⟨q, hq, he1⟩ := Option.bind_eq_some_iff.1 he0
   obtain ⟨b, hb, he2⟩ := Option.bind_eq_some_iff.1 he1
   have HQ := Aside0.mk hq
   clear he0 he1 hq d1 d2
   rcases b with _ | _
   ·have HB := Aside0.mk hb
    obtain rfl := Option.some.inj he2
    obtain rfl := HO.out (by decide)
    clear he2 hb
    go_wp2_with (first | ((with_reducible refine bG (N := 5) rfl ?_); (try (refine bD (by rfl) ?_; dsimp only)); refine bE ?hg (N := 5) ?hd (cs := #[.int .i64 0, .int .i64 0, .int .i64 0, .int .i64 0, .int .i64 0, .int .i64 0, .int .i64 0, .int .i64 0]) (t := 181) ?hr ?_; (case hd => rfl); (case hg => rfl); (case hr => first | (go_simp; done) | (go_simp; rfl)); intro gx hg_ w508_ hx_ hb_; have HS509_ := Aside0.mk (HSr.out.box hg_ hx_ hb_); have c510_ : w508_.cell? ⟨gx, 0, none⟩ = some (.int .i64 0) := (HS509_.out.cell 0 rfl 0).trans rfl; have c511_ : w508_.cell? ⟨gx, 1, none⟩ = some (.int .i64 0) := (HS509_.out.cell 0 rfl 1).trans rfl; have c512_ : w508_.cell? ⟨gx, 2, none⟩ = some (.int .i64 0) := (HS509_.out.cell 0 rfl 2).trans rfl; have c513_ : w508_.cell? ⟨gx, 3, none⟩ = some (.int .i64 0) := (HS509_.out.cell 0 rfl 3).trans rfl; have c514_ : w508_.cell? ⟨gx, 4, none⟩ = some (.int .i64 0) := (HS509_.out.cell 0 rfl 4).trans rfl; have c515_ : w508_.cell? ⟨gx, 5, none⟩ = some (.int .i64 0) := (HS509_.out.cell 0 rfl 5).trans rfl; have c516_ : w508_.cell? ⟨gx, 6, none⟩ = some (.int .i64 0) := (HS509_.out.cell 0 rfl 6).trans rfl; have c517_ : w508_.cell? ⟨gx, 7, none⟩ = some (.int .i64 0) := (HS509_.out.cell 0 rfl 7).trans rfl; have f518_ : w508_.frozen? ⟨gx, 0, none⟩ = false := HS509_.out.frz 0 rfl 0; have f519_ : w508_.frozen? ⟨gx, 1, none⟩ = false := HS509_.out.frz 0 rfl 1; have f520_ : w508_.frozen? ⟨gx, 2, none⟩ = false := HS509_.out.frz 0 rfl 2; have f521_ : w508_.frozen? ⟨gx, 3, none⟩ = false := HS509_.out.frz 0 rfl 3; have f522_ : w508_.frozen? ⟨gx, 4, none⟩ = false := HS509_.out.frz 0 rfl 4; have f523_ : w508_.frozen? ⟨gx, 5, none⟩ = false := HS509_.out.frz 0 rfl 5; have f524_ : w508_.frozen? ⟨gx, 6, none⟩ = false := HS509_.out.frz 0 rfl 6; have f525_ : w508_.frozen? ⟨gx, 7, none⟩ = false := HS509_.out.frz 0 rfl 7; have hbx_ := hb_; replace hx0 := (hbx_.cell (World.block_lt_of_cell? _ _ hx0)).trans hx0; replace hx1 := (hbx_.cell (World.block_lt_of_cell? _ _ hx1)).trans hx1; replace hx2 := (hbx_.cell (World.block_lt_of_cell? _ _ hx2)).trans hx2; replace hx3 := (hbx_.cell (World.block_lt_of_cell? _ _ hx3)).trans hx3; replace hx4 := (hbx_.cell (World.block_lt_of_cell? _ _ hx4)).trans hx4; replace hx5 := (hbx_.cell (World.block_lt_of_cell? _ _ hx5)).trans hx5; replace hx6 := (hbx_.cell (World.block_lt_of_cell? _ _ hx6)).trans hx6; replace hx7 := (hbx_.cell (World.block_lt_of_cell? _ _ hx7)).trans hx7; clear hbx_; clear hg_ hx_ hb_  HSr) | ((with_reducible refine bH (t := 181) (p := 5) rfl ?_); refine bF (t := 181) (p := 5) (v := .tmp 37) (w1 := ((((((((w508_.setCell ⟨gx, 0, none⟩ (.int .i64 x.f0)).setCell ⟨gx, 1, none⟩ (.int .i64 x.f1)).setCell ⟨gx, 2, none⟩ (.int .i64 x.f2)).setCell ⟨gx, 3, none⟩ (.int .i64 x.f3)).setCell ⟨gx, 4, none⟩ (.int .i64 x.f4)).setCell ⟨gx, 5, none⟩ (.int .i64 x.f5)).setCell ⟨gx, 6, none⟩ (.int .i64 x.f6.f0)).setCell ⟨gx, 7, none⟩ (.int .i64 x.f6.f1))) ?hg ?ho ?hn ?hr ?_; (case ho => rfl); (case hg => rfl); (case hn => rfl); (case hr => first | (go_simp; done) | (go_simp; rfl)); intro w526_ hw_; have HS527_ : Aside0 (St w w526_ ((blkA gx #[.int .i64 x.f0, .int .i64 x.f1, .int .i64 x.f2, .int .i64 x.f3, .int .i64 x.f4, .int .i64 x.f5, .int .i64 x.f6.f0, .int .i64 x.f6.f1] 181) :: (blkA gt #[.int .i64 a0_0, .int .i64 a0_1, .int .i64 a0_2, .slice (some adi) l0_3.length c0_3, .slice A0_4 l0_4.length c0_4, .int .i64 a0_5, .int .i64 a0_6, .slice A0_7 l0_7.length c0_7, .slice A0_8 l0_8.length c0_8, .int .i64 a0_9, .int .i64 a0_10, .slice A0_11 l0_11.length c0_11, .slice A0_12 l0_12.length c0_12] 123) :: [])) := ⟨by rw [hw_]; exact ((((((((HS509_.out.put 0 rfl 0 (.int .i64 x.f0) rfl).put 0 rfl 1 (.int .i64 x.f1) rfl).put 0 rfl 2 (.int .i64 x.f2) rfl).put 0 rfl 3 (.int .i64 x.f3) rfl).put 0 rfl 4 (.int .i64 x.f4) rfl).put 0 rfl 5 (.int .i64 x.f5) rfl).put 0 rfl 6 (.int .i64 x.f6.f0) rfl).put 0 rfl 7 (.int .i64 x.f6.f1) rfl)⟩; have c528_ : w526_.cell? ⟨gx, 0, none⟩ = some (.int .i64 x.f0) := (HS527_.out.cell 0 rfl 0).trans rfl; clear hw_ c510_ c511_ c512_ c513_ c514_ c515_ c516_ c517_ f518_ f519_ f520_ f521_ f522_ f523_ f524_ f525_ HS509_ hx0 hx1 hx2 hx3 hx4 hx5 hx6 hx7))
    refine st_ (fun w' => St w w' ((blkA gx #[.int .i64 x.f0, .int .i64 x.f1, .int .i64 x.f2, .int .i64 x.f3, .int .i64 x.f4, .int .i64 x.f5, .int .i64 x.f6.f0, .int .i64 x.f6.f1] 181) :: (blkA gt #[.int .i64 a0_0, .int .i64 a0_1, .int .i64 a0_2, .slice (some adi) l0_3.length c0_3, .slice A0_4 l0_4.length c0_4, .int .i64 a0_5, .int .i64 a0_6, .slice A0_7 l0_7.length c0_7, .slice A0_8 l0_8.length c0_8, .int .i64 a0_9, .int .i64 a0_10, .slice A0_11 l0_11.length c0_11, .slice A0_12 l0_12.length c0_12] 123) :: [])) backstitchref3_TraceFault.tab11 backstitchref3_TraceFault.bits11 HS527_.out.drew (fun HT_ HW_ hHeld => ?_)
    clear HS527_ c528_
    generalize w526_.drew = w529_ at hHeld ⊢
    have HS530_ := Aside0.mk (show St w w529_ ((blkA gx #[.int .i64 x.f0, .int .i64 x.f1, .int .i64 x.f2, .int .i64 x.f3, .int .i64 x.f4, .int .i64 x.f5, .int .i64 x.f6.f0, .int .i64 x.f6.f1] 181) :: (blkA gt #[.int .i64 a0_0, .int .i64 a0_1, .int .i64 a0_2, .slice (some adi) l0_3.length c0_3, .slice A0_4 l0_4.length c0_4, .int .i64 a0_5, .int .i64 a0_6, .slice A0_7 l0_7.length c0_7, .slice A0_8 l0_8.length c0_8, .int .i64 a0_9, .int .i64 a0_10, .slice A0_11 l0_11.length c0_11, .slice A0_12 l0_12.length c0_12] 123) :: []) from hHeld)
    refine pu_ (v := ?_) (a' := ?_) HT_.out 3 (some 49) ?_ ?_ ?_; rotate_left 2; (intro w'; go_simp; with_reducible rfl); (simp only [hW, hT, hU, hV, bB, bC]; rfl)
    refine tk_ (v := ?_) (a' := ?_) HT_.out HW_.out hHeld 0 (some 46) ?_ ?_ ?_; rotate_left 2; (intro w' hS; have s0 : w'.cell? ⟨gt, 0, none⟩ = some _ := hS.cell 1 rfl 0; have s1 : w'.cell? ⟨gt, 1, none⟩ = some _ := hS.cell 1 rfl 1; have s2 : w'.cell? ⟨gt, 2, none⟩ = some _ := hS.cell 1 rfl 2; have s3 : w'.cell? ⟨gt, 3, none⟩ = some _ := hS.cell 1 rfl 3; have s4 : w'.cell? ⟨gt, 4, none⟩ = some _ := hS.cell 1 rfl 4; have s5 : w'.cell? ⟨gt, 5, none⟩ = some _ := hS.cell 1 rfl 5; have s6 : w'.cell? ⟨gt, 6, none⟩ = some _ := hS.cell 1 rfl 6; have s7 : w'.cell? ⟨gt, 7, none⟩ = some _ := hS.cell 1 rfl 7; have s8 : w'.cell? ⟨gt, 8, none⟩ = some _ := hS.cell 1 rfl 8; have s9 : w'.cell? ⟨gt, 9, none⟩ = some _ := hS.cell 1 rfl 9; have s10 : w'.cell? ⟨gt, 10, none⟩ = some _ := hS.cell 1 rfl 10; have s11 : w'.cell? ⟨gt, 11, none⟩ = some _ := hS.cell 1 rfl 11; have s12 : w'.cell? ⟨gt, 12, none⟩ = some _ := hS.cell 1 rfl 12; go_simp; with_reducible rfl); (simp only [hW, hT, hU, hV, bB, bC]; rfl)
    refine tk_ (v := ?_) (a' := ?_) HT_.out HW_.out hHeld 1 (some 47) ?_ ?_ ?_; rotate_left 2; (intro w' hS; have s0 : w'.cell? ⟨gx, 0, none⟩ = some _ := hS.cell 0 rfl 0; have s1 : w'.cell? ⟨gx, 1, none⟩ = some _ := hS.cell 0 rfl 1; have s2 : w'.cell? ⟨gx, 2, none⟩ = some _ := hS.cell 0 rfl 2; have s3 : w'.cell? ⟨gx, 3, none⟩ = some _ := hS.cell 0 rfl 3; have s4 : w'.cell? ⟨gx, 4, none⟩ = some _ := hS.cell 0 rfl 4; have s5 : w'.cell? ⟨gx, 5, none⟩ = some _ := hS.cell 0 rfl 5; have s6 : w'.cell? ⟨gx, 6, none⟩ = some _ := hS.cell 0 rfl 6; have s7 : w'.cell? ⟨gx, 7, none⟩ = some _ := hS.cell 0 rfl 7; go_simp; with_reducible rfl); (simp only [hW, hT, hU, hV, bB, bC]; rfl)
    refine on_ HT_.out 2 (some 48) (fun K hK => ?_)
    refine bJ Try.func115 (by kernel_rfl) rfl #[.agg #[.int .i64 x.f0, .int .i64 x.f1, .int .i64 x.f2, .int .i64 x.f3, .int .i64 x.f4, .int .i64 x.f5, .int .i64 x.f6.f0, .int .i64 x.f6.f1]] (by rfl) rfl rfl (by simp only [List.map_toArray, List.map_cons, List.map_nil]; rfl) ?_
    with_reducible refine (backstitchref3_Asks.calls k x.f0 x.f1 x.f2 x.f3 x.f4 x.f5 x.f6.f0 x.f6.f1 q _ HQ.out).mono ?_
    rintro e_ w531_ ⟨v4, rfl, ho_, hb_⟩
    refine ⟨_, rfl, ?_⟩
    have HS532_ := Aside0.mk (HS530_.out.call hb_)
    have HV := Aside0.mk ho_
    obtain ⟨A4, c4, rfl⟩ := Kd.R_slice HV.out
    clear ho_
    clear hb_ HS530_ hHeld
    refine hK.out _ _ HS532_.out (fun hHeld => ?_)
    clear hK K
    refine bI (a' := ?_) ?_ ?_; rotate_left; (show hW _ (some 48) _ = _; simp only [hW, hT, hU, hV, bB, bC]; rfl)
    refine on_ HT_.out 4 (some 50) (fun K hK => ?_)
    refine bJ Try.func114 (by kernel_rfl) rfl #[.agg #[.int .i64 a0_0, .int .i64 a0_1, .int .i64 a0_2, .slice (some adi) l0_3.length c0_3, .slice A0_4 l0_4.length c0_4, .int .i64 a0_5, .int .i64 a0_6, .slice A0_7 l0_7.length c0_7, .slice A0_8 l0_8.length c0_8, .int .i64 a0_9, .int .i64 a0_10, .slice A0_11 l0_11.length c0_11, .slice A0_12 l0_12.length c0_12], .slice A4 q.length c4, .int .i64 i] (by rfl) rfl rfl (by simp only [List.map_toArray, List.map_cons, List.map_nil]; rfl) ?_
    with_reducible refine (backstitchref3_valuesMay.calls k a0_0 a0_1 a0_2 (some adi) c0_3 l0_3 A0_4 c0_4 l0_4 a0_5 a0_6 A0_7 c0_7 l0_7 A0_8 c0_8 l0_8 a0_9 a0_10 A0_11 c0_11 l0_11 A0_12 c0_12 l0_12 A4 c4 q i false _ (Kd.C_below HR3.out HS532_.out.below) HC3.out (Kd.C_below HR4.out HS532_.out.below) HC4.out (Kd.C_below HR7.out HS532_.out.below) HC7.out (Kd.C_below HR8.out HS532_.out.below) HC8.out (Kd.C_below HR11.out HS532_.out.below) HC11.out (Kd.C_below HR12.out HS532_.out.below) HC12.out (Kd.R_reads' HV.out).2.2 (Kd.R_reads' HV.out).2.1 HB.out).mono ?_
    rintro e_ w533_ ⟨rfl, hb_⟩
    refine ⟨_, rfl, ?_⟩
    have HS534_ := Aside0.mk (HS532_.out.call hb_)
    clear hb_ HS532_ hHeld
    refine hK.out _ _ HS534_.out (fun hHeld => ?_)
    clear hK K
    refine bI (a' := ?_) ?_ ?_; rotate_left; (show hW _ (some 50) _ = _; simp only [hW, hT, hU, hV, bB, bC]; rfl)
    refine pu_ (v := ?_) (a' := ?_) HT_.out 5 (some 51) ?_ ?_ ?_; rotate_left 2; (intro w'; go_simp; with_reducible rfl); (simp only [hW, hT, hU, hV, bB, bC]; rfl)
    refine pu_ (v := ?_) (a' := ?_) HT_.out 6 (some 52) ?_ ?_ ?_; rotate_left 2; (intro w'; go_simp; with_reducible rfl); (simp only [hW, hT, hU, hV, bB, bC]; rfl)
    refine un_ (a' := ?_) HT_.out 7 (some 53) ?_ ?_; rotate_left; (simp only [hW, hT, hU, hV, bB, bC]; rfl)
    refine un_ (a' := ?_) HT_.out 8 (some 54) ?_ ?_; rotate_left; (simp only [hW, hT, hU, hV, bB, bC]; rfl)
    refine un_ (a' := ?_) HT_.out 9 (some 55) ?_ ?_; rotate_left; (simp only [hW, hT, hU, hV, bB, bC]; rfl)
    refine pu_ (v := ?_) (a' := ?_) HT_.out 10 (some 56) ?_ ?_ ?_; rotate_left 2; (intro w'; go_simp; with_reducible rfl); (simp only [hW, hT, hU, hV, bB, bC]; rfl)
    refine pu_ (v := ?_) (a' := ?_) HT_.out 11 (some 57) ?_ ?_ ?_; rotate_left 2; (intro w'; go_simp; with_reducible rfl); (simp only [hW, hT, hU, hV, bB, bC]; rfl)
    refine un_ (a' := ?_) HT_.out 12 (some 58) ?_ ?_; rotate_left; (simp only [hW, hT, hU, hV, bB, bC]; rfl)
    refine un_ (a' := ?_) HT_.out 13 (some 59) ?_ ?_; rotate_left; (simp only [hW, hT, hU, hV, bB, bC]; rfl)
    refine un_ (a' := ?_) HT_.out 14 (some 60) ?_ ?_; rotate_left; (simp only [hW, hT, hU, hV, bB, bC]; rfl)
    refine un_ (a' := ?_) HT_.out 15 (some 61) ?_ ?_; rotate_left; (simp only [hW, hT, hU, hV, bB, bC]; rfl)
    refine un_ (a' := ?_) HT_.out 16 (some 62) ?_ ?_; rotate_left; (simp only [hW, hT, hU, hV, bB, bC]; rfl)
    refine un_ (a' := ?_) HT_.out 17 (some 63) ?_ ?_; rotate_left; (simp only [hW, hT, hU, hV, bB, bC]; rfl)
    refine pu_ (v := ?_) (a' := ?_) HT_.out 18 (some 64) ?_ ?_ ?_; rotate_left 2; (intro w'; go_simp; with_reducible rfl); (simp only [hW, hT, hU, hV, bB, bC]; rfl)
    refine dn_ HT_.out ?_
    clear hHeld HT_ HW_
    go_wp2
    go_ret
    exact ⟨rfl, HS534_.out.below⟩
   have HB := Aside0.mk hb
   rw [if_pos rfl] at he2
   clear hb
   by_cases e3 : x.f5 < -1
   ·rw [if_pos e3] at he2
    obtain rfl := Option.some.inj he2
    obtain rfl := HO.out (by decide)
    have hb10 : decide (x.f5 < -1) = true := decide_eq_true e3
    clear he2 e3
    go_wp2_with (first | ((with_reducible refine bG (N := 5) rfl ?_); (try (refine bD (by rfl) ?_; dsimp only)); refine bE ?hg (N := 5) ?hd (cs := #[.int .i64 0, .int .i64 0, .int .i64 0, .int .i64 0, .int .i64 0, .int .i64 0, .int .i64 0, .int .i64 0]) (t := 181) ?hr ?_; (case hd => rfl); (case hg => rfl); (case hr => first | (go_simp; done) | (go_simp; rfl)); intro gx hg_ w508_ hx_ hb_; have HS509_ := Aside0.mk (HSr.out.box hg_ hx_ hb_); have c510_ : w508_.cell? ⟨gx, 0, none⟩ = some (.int .i64 0) := (HS509_.out.cell 0 rfl 0).trans rfl; have c511_ : w508_.cell? ⟨gx, 1, none⟩ = some (.int .i64 0) := (HS509_.out.cell 0 rfl 1).trans rfl; have c512_ : w508_.cell? ⟨gx, 2, none⟩ = some (.int .i64 0) := (HS509_.out.cell 0 rfl 2).trans rfl; have c513_ : w508_.cell? ⟨gx, 3, none⟩ = some (.int .i64 0) := (HS509_.out.cell 0 rfl 3).trans rfl; have c514_ : w508_.cell? ⟨gx, 4, none⟩ = some (.int .i64 0) := (HS509_.out.cell 0 rfl 4).trans rfl; have c515_ : w508_.cell? ⟨gx, 5, none⟩ = some (.int .i64 0) := (HS509_.out.cell 0 rfl 5).trans rfl; have c516_ : w508_.cell? ⟨gx, 6, none⟩ = some (.int .i64 0) := (HS509_.out.cell 0 rfl 6).trans rfl; have c517_ : w508_.cell? ⟨gx, 7, none⟩ = some (.int .i64 0) := (HS509_.out.cell 0 rfl 7).trans rfl; have f518_ : w508_.frozen? ⟨gx, 0, none⟩ = false := HS509_.out.frz 0 rfl 0; have f519_ : w508_.frozen? ⟨gx, 1, none⟩ = false := HS509_.out.frz 0 rfl 1; have f520_ : w508_.frozen? ⟨gx, 2, none⟩ = false := HS509_.out.frz 0 rfl 2; have f521_ : w508_.frozen? ⟨gx, 3, none⟩ = false := HS509_.out.frz 0 rfl 3; have f522_ : w508_.frozen? ⟨gx, 4, none⟩ = false := HS509_.out.frz 0 rfl 4; have f523_ : w508_.frozen? ⟨gx, 5, none⟩ = false := HS509_.out.frz 0 rfl 5; have f524_ : w508_.frozen? ⟨gx, 6, none⟩ = false := HS509_.out.frz 0 rfl 6; have f525_ : w508_.frozen? ⟨gx, 7, none⟩ = false := HS509_.out.frz 0 rfl 7; have hbx_ := hb_; replace hx0 := (hbx_.cell (World.block_lt_of_cell? _ _ hx0)).trans hx0; replace hx1 := (hbx_.cell (World.block_lt_of_cell? _ _ hx1)).trans hx1; replace hx2 := (hbx_.cell (World.block_lt_of_cell? _ _ hx2)).trans hx2; replace hx3 := (hbx_.cell (World.block_lt_of_cell? _ _ hx3)).trans hx3; replace hx4 := (hbx_.cell (World.block_lt_of_cell? _ _ hx4)).trans hx4; replace hx5 := (hbx_.cell (World.block_lt_of_cell? _ _ hx5)).trans hx5; replace hx6 := (hbx_.cell (World.block_lt_of_cell? _ _ hx6)).trans hx6; replace hx7 := (hbx_.cell (World.block_lt_of_cell? _ _ hx7)).trans hx7; clear hbx_; clear hg_ hx_ hb_  HSr) | ((with_reducible refine bH (t := 181) (p := 5) rfl ?_); refine bF (t := 181) (p := 5) (v := .tmp 37) (w1 := ((((((((w508_.setCell ⟨gx, 0, none⟩ (.int .i64 x.f0)).setCell ⟨gx, 1, none⟩ (.int .i64 x.f1)).setCell ⟨gx, 2, none⟩ (.int .i64 x.f2)).setCell ⟨gx, 3, none⟩ (.int .i64 x.f3)).setCell ⟨gx, 4, none⟩ (.int .i64 x.f4)).setCell ⟨gx, 5, none⟩ (.int .i64 x.f5)).setCell ⟨gx, 6, none⟩ (.int .i64 x.f6.f0)).setCell ⟨gx, 7, none⟩ (.int .i64 x.f6.f1))) ?hg ?ho ?hn ?hr ?_; (case ho => rfl); (case hg => rfl); (case hn => rfl); (case hr => first | (go_simp; done) | (go_simp; rfl)); intro w526_ hw_; have HS527_ : Aside0 (St w w526_ ((blkA gx #[.int .i64 x.f0, .int .i64 x.f1, .int .i64 x.f2, .int .i64 x.f3, .int .i64 x.f4, .int .i64 x.f5, .int .i64 x.f6.f0, .int .i64 x.f6.f1] 181) :: (blkA gt #[.int .i64 a0_0, .int .i64 a0_1, .int .i64 a0_2, .slice (some adi) l0_3.length c0_3, .slice A0_4 l0_4.length c0_4, .int .i64 a0_5, .int .i64 a0_6, .slice A0_7 l0_7.length c0_7, .slice A0_8 l0_8.length c0_8, .int .i64 a0_9, .int .i64 a0_10, .slice A0_11 l0_11.length c0_11, .slice A0_12 l0_12.length c0_12] 123) :: [])) := ⟨by rw [hw_]; exact ((((((((HS509_.out.put 0 rfl 0 (.int .i64 x.f0) rfl).put 0 rfl 1 (.int .i64 x.f1) rfl).put 0 rfl 2 (.int .i64 x.f2) rfl).put 0 rfl 3 (.int .i64 x.f3) rfl).put 0 rfl 4 (.int .i64 x.f4) rfl).put 0 rfl 5 (.int .i64 x.f5) rfl).put 0 rfl 6 (.int .i64 x.f6.f0) rfl).put 0 rfl 7 (.int .i64 x.f6.f1) rfl)⟩; have c528_ : w526_.cell? ⟨gx, 0, none⟩ = some (.int .i64 x.f0) := (HS527_.out.cell 0 rfl 0).trans rfl; clear hw_ c510_ c511_ c512_ c513_ c514_ c515_ c516_ c517_ f518_ f519_ f520_ f521_ f522_ f523_ f524_ f525_ HS509_ hx0 hx1 hx2 hx3 hx4 hx5 hx6 hx7))
    refine st_ (fun w' => St w w' ((blkA gx #[.int .i64 x.f0, .int .i64 x.f1, .int .i64 x.f2, .int .i64 x.f3, .int .i64 x.f4, .int .i64 x.f5, .int .i64 x.f6.f0, .int .i64 x.f6.f1] 181) :: (blkA gt #[.int .i64 a0_0, .int .i64 a0_1, .int .i64 a0_2, .slice (some adi) l0_3.length c0_3, .slice A0_4 l0_4.length c0_4, .int .i64 a0_5, .int .i64 a0_6, .slice A0_7 l0_7.length c0_7, .slice A0_8 l0_8.length c0_8, .int .i64 a0_9, .int .i64 a0_10, .slice A0_11 l0_11.length c0_11, .slice A0_12 l0_12.length c0_12] 123) :: [])) backstitchref3_TraceFault.tab11 backstitchref3_TraceFault.bits11 HS527_.out.drew (fun HT_ HW_ hHeld => ?_)
    clear HS527_ c528_
    generalize w526_.drew = w535_ at hHeld ⊢
    have HS536_ := Aside0.mk (show St w w535_ ((blkA gx #[.int .i64 x.f0, .int .i64 x.f1, .int .i64 x.f2, .int .i64 x.f3, .int .i64 x.f4, .int .i64 x.f5, .int .i64 x.f6.f0, .int .i64 x.f6.f1] 181) :: (blkA gt #[.int .i64 a0_0, .int .i64 a0_1, .int .i64 a0_2, .slice (some adi) l0_3.length c0_3, .slice A0_4 l0_4.length c0_4, .int .i64 a0_5, .int .i64 a0_6, .slice A0_7 l0_7.length c0_7, .slice A0_8 l0_8.length c0_8, .int .i64 a0_9, .int .i64 a0_10, .slice A0_11 l0_11.length c0_11, .slice A0_12 l0_12.length c0_12] 123) :: []) from hHeld)
    refine pu_ (v := ?_) (a' := ?_) HT_.out 3 (some 49) ?_ ?_ ?_; rotate_left 2; (intro w'; go_simp; with_reducible rfl); (simp only [hW, hT, hU, hV, bB, bC]; rfl)
    refine tk_ (v := ?_) (a' := ?_) HT_.out HW_.out hHeld 0 (some 46) ?_ ?_ ?_; rotate_left 2; (intro w' hS; have s0 : w'.cell? ⟨gt, 0, none⟩ = some _ := hS.cell 1 rfl 0; have s1 : w'.cell? ⟨gt, 1, none⟩ = some _ := hS.cell 1 rfl 1; have s2 : w'.cell? ⟨gt, 2, none⟩ = some _ := hS.cell 1 rfl 2; have s3 : w'.cell? ⟨gt, 3, none⟩ = some _ := hS.cell 1 rfl 3; have s4 : w'.cell? ⟨gt, 4, none⟩ = some _ := hS.cell 1 rfl 4; have s5 : w'.cell? ⟨gt, 5, none⟩ = some _ := hS.cell 1 rfl 5; have s6 : w'.cell? ⟨gt, 6, none⟩ = some _ := hS.cell 1 rfl 6; have s7 : w'.cell? ⟨gt, 7, none⟩ = some _ := hS.cell 1 rfl 7; have s8 : w'.cell? ⟨gt, 8, none⟩ = some _ := hS.cell 1 rfl 8; have s9 : w'.cell? ⟨gt, 9, none⟩ = some _ := hS.cell 1 rfl 9; have s10 : w'.cell? ⟨gt, 10, none⟩ = some _ := hS.cell 1 rfl 10; have s11 : w'.cell? ⟨gt, 11, none⟩ = some _ := hS.cell 1 rfl 11; have s12 : w'.cell? ⟨gt, 12, none⟩ = some _ := hS.cell 1 rfl 12; go_simp; with_reducible rfl); (simp only [hW, hT, hU, hV, bB, bC]; rfl)
    refine tk_ (v := ?_) (a' := ?_) HT_.out HW_.out hHeld 1 (some 47) ?_ ?_ ?_; rotate_left 2; (intro w' hS; have s0 : w'.cell? ⟨gx, 0, none⟩ = some _ := hS.cell 0 rfl 0; have s1 : w'.cell? ⟨gx, 1, none⟩ = some _ := hS.cell 0 rfl 1; have s2 : w'.cell? ⟨gx, 2, none⟩ = some _ := hS.cell 0 rfl 2; have s3 : w'.cell? ⟨gx, 3, none⟩ = some _ := hS.cell 0 rfl 3; have s4 : w'.cell? ⟨gx, 4, none⟩ = some _ := hS.cell 0 rfl 4; have s5 : w'.cell? ⟨gx, 5, none⟩ = some _ := hS.cell 0 rfl 5; have s6 : w'.cell? ⟨gx, 6, none⟩ = some _ := hS.cell 0 rfl 6; have s7 : w'.cell? ⟨gx, 7, none⟩ = some _ := hS.cell 0 rfl 7; go_simp; with_reducible rfl); (simp only [hW, hT, hU, hV, bB, bC]; rfl)
    refine on_ HT_.out 2 (some 48) (fun K hK => ?_)
    refine bJ Try.func115 (by kernel_rfl) rfl #[.agg #[.int .i64 x.f0, .int .i64 x.f1, .int .i64 x.f2, .int .i64 x.f3, .int .i64 x.f4, .int .i64 x.f5, .int .i64 x.f6.f0, .int .i64 x.f6.f1]] (by rfl) rfl rfl (by simp only [List.map_toArray, List.map_cons, List.map_nil]; rfl) ?_
    with_reducible refine (backstitchref3_Asks.calls k x.f0 x.f1 x.f2 x.f3 x.f4 x.f5 x.f6.f0 x.f6.f1 q _ HQ.out).mono ?_
    rintro e_ w537_ ⟨v4, rfl, ho_, hb_⟩
    refine ⟨_, rfl, ?_⟩
    have HS538_ := Aside0.mk (HS536_.out.call hb_)
    have HV := Aside0.mk ho_
    obtain ⟨A4, c4, rfl⟩ := Kd.R_slice HV.out
    clear ho_
    clear hb_ HS536_ hHeld
    refine hK.out _ _ HS538_.out (fun hHeld => ?_)
    clear hK K
    refine bI (a' := ?_) ?_ ?_; rotate_left; (show hW _ (some 48) _ = _; simp only [hW, hT, hU, hV, bB, bC]; rfl)
    refine on_ HT_.out 4 (some 50) (fun K hK => ?_)
    refine bJ Try.func114 (by kernel_rfl) rfl #[.agg #[.int .i64 a0_0, .int .i64 a0_1, .int .i64 a0_2, .slice (some adi) l0_3.length c0_3, .slice A0_4 l0_4.length c0_4, .int .i64 a0_5, .int .i64 a0_6, .slice A0_7 l0_7.length c0_7, .slice A0_8 l0_8.length c0_8, .int .i64 a0_9, .int .i64 a0_10, .slice A0_11 l0_11.length c0_11, .slice A0_12 l0_12.length c0_12], .slice A4 q.length c4, .int .i64 i] (by rfl) rfl rfl (by simp only [List.map_toArray, List.map_cons, List.map_nil]; rfl) ?_
    with_reducible refine (backstitchref3_valuesMay.calls k a0_0 a0_1 a0_2 (some adi) c0_3 l0_3 A0_4 c0_4 l0_4 a0_5 a0_6 A0_7 c0_7 l0_7 A0_8 c0_8 l0_8 a0_9 a0_10 A0_11 c0_11 l0_11 A0_12 c0_12 l0_12 A4 c4 q i true _ (Kd.C_below HR3.out HS538_.out.below) HC3.out (Kd.C_below HR4.out HS538_.out.below) HC4.out (Kd.C_below HR7.out HS538_.out.below) HC7.out (Kd.C_below HR8.out HS538_.out.below) HC8.out (Kd.C_below HR11.out HS538_.out.below) HC11.out (Kd.C_below HR12.out HS538_.out.below) HC12.out (Kd.R_reads' HV.out).2.2 (Kd.R_reads' HV.out).2.1 HB.out).mono ?_
    rintro e_ w539_ ⟨rfl, hb_⟩
    refine ⟨_, rfl, ?_⟩
    have HS540_ := Aside0.mk (HS538_.out.call hb_)
    clear hb_ HS538_ hHeld
    refine hK.out _ _ HS540_.out (fun hHeld => ?_)
    clear hK K
    refine bI (a' := ?_) ?_ ?_; rotate_left; (show hW _ (some 50) _ = _; simp only [hW, hT, hU, hV, bB, bC]; rfl)
    refine pu_ (v := ?_) (a' := ?_) HT_.out 5 (some 51) ?_ ?_ ?_; rotate_left 2; (intro w'; go_simp; with_reducible rfl); (simp only [hW, hT, hU, hV, bB, bC]; rfl)
    refine pu_ (v := ?_) (a' := ?_) HT_.out 6 (some 52) ?_ ?_ ?_; rotate_left 2; (intro w'; go_simp; with_reducible rfl); (simp only [hW, hT, hU, hV, bB, bC]; rfl)
    refine pu_ (v := ?_) (a' := ?_) HT_.out 7 (some 53) ?_ ?_ ?_; rotate_left 2; (intro w'; go_simp; with_reducible rfl); (simp only [hW, hT, hU, hV, bB, bC]; rfl)
    refine tk_ (v := ?_) (a' := ?_) HT_.out HW_.out hHeld 8 (some 54) ?_ ?_ ?_; rotate_left 2; (intro w' hS; have s0 : w'.cell? ⟨gx, 5, none⟩ = some _ := hS.cell 0 rfl 5; go_simp; with_reducible rfl); (simp only [hW, hT, hU, hV, bB, bC]; rfl)
    refine pu_ (v := ?_) (a' := ?_) HT_.out 9 (some 55) ?_ ?_ ?_; rotate_left 2; (intro w'; go_simp; with_reducible rfl); (simp only [hW, hT, hU, hV, bB, bC]; rfl)
    refine pu_ (v := ?_) (a' := ?_) HT_.out 10 (some 56) ?_ ?_ ?_; rotate_left 2; (intro w'; go_simp; with_reducible rfl); (simp only [hW, hT, hU, hV, bB, bC]; rfl)
    refine pu_ (v := ?_) (a' := ?_) HT_.out 11 (some 57) ?_ ?_ ?_; rotate_left 2; (intro w'; go_simp; with_reducible rfl); (simp only [hW, hT, hU, hV, bB, bC]; rfl)
    refine un_ (a' := ?_) HT_.out 12 (some 58) ?_ ?_; rotate_left; (simp only [hW, hT, hU, hV, bB, bC]; rfl)
    refine un_ (a' := ?_) HT_.out 13 (some 59) ?_ ?_; rotate_left; (simp only [hW, hT, hU, hV, bB, bC]; rfl)
    refine un_ (a' := ?_) HT_.out 14 (some 60) ?_ ?_; rotate_left; (simp only [hW, hT, hU, hV, bB, bC]; rfl)
    refine un_ (a' := ?_) HT_.out 15 (some 61) ?_ ?_; rotate_left; (simp only [hW, hT, hU, hV, bB, bC]; rfl)
    refine un_ (a' := ?_) HT_.out 16 (some 62) ?_ ?_; rotate_left; (simp only [hW, hT, hU, hV, bB, bC]; rfl)
    refine un_ (a' := ?_) HT_.out 17 (some 63) ?_ ?_; rotate_left; (simp only [hW, hT, hU, hV, bB, bC]; rfl)
    refine pu_ (v := ?_) (a' := ?_) HT_.out 18 (some 64) ?_ ?_ ?_; rotate_left 2; (intro w'; go_simp; with_reducible rfl); (simp only [hW, hT, hU, hV, bB, bC]; rfl)
    refine dn_ HT_.out ?_
    clear hHeld HT_ HW_
    go_wp2
    go_ret
    exact ⟨rfl, HS540_.out.below⟩
   rw [if_neg e3] at he2
   have hb10 : decide (x.f5 < -1) = false := decide_eq_false e3
   have HE2 := Aside0.mk he2
   have HD3 := Aside0.mk e3
   clear he2 e3
   go_wp2_with (first | ((with_reducible refine bG (N := 5) rfl ?_); (try (refine bD (by rfl) ?_; dsimp only)); refine bE ?hg (N := 5) ?hd (cs := #[.int .i64 0, .int .i64 0, .int .i64 0, .int .i64 0, .int .i64 0, .int .i64 0, .int .i64 0, .int .i64 0]) (t := 181) ?hr ?_; (case hd => rfl); (case hg => rfl); (case hr => first | (go_simp; done) | (go_simp; rfl)); intro gx hg_ w508_ hx_ hb_; have HS509_ := Aside0.mk (HSr.out.box hg_ hx_ hb_); have c510_ : w508_.cell? ⟨gx, 0, none⟩ = some (.int .i64 0) := (HS509_.out.cell 0 rfl 0).trans rfl; have c511_ : w508_.cell? ⟨gx, 1, none⟩ = some (.int .i64 0) := (HS509_.out.cell 0 rfl 1).trans rfl; have c512_ : w508_.cell? ⟨gx, 2, none⟩ = some (.int .i64 0) := (HS509_.out.cell 0 rfl 2).trans rfl; have c513_ : w508_.cell? ⟨gx, 3, none⟩ = some (.int .i64 0) := (HS509_.out.cell 0 rfl 3).trans rfl; have c514_ : w508_.cell? ⟨gx, 4, none⟩ = some (.int .i64 0) := (HS509_.out.cell 0 rfl 4).trans rfl; have c515_ : w508_.cell? ⟨gx, 5, none⟩ = some (.int .i64 0) := (HS509_.out.cell 0 rfl 5).trans rfl; have c516_ : w508_.cell? ⟨gx, 6, none⟩ = some (.int .i64 0) := (HS509_.out.cell 0 rfl 6).trans rfl; have c517_ : w508_.cell? ⟨gx, 7, none⟩ = some (.int .i64 0) := (HS509_.out.cell 0 rfl 7).trans rfl; have f518_ : w508_.frozen? ⟨gx, 0, none⟩ = false := HS509_.out.frz 0 rfl 0; have f519_ : w508_.frozen? ⟨gx, 1, none⟩ = false := HS509_.out.frz 0 rfl 1; have f520_ : w508_.frozen? ⟨gx, 2, none⟩ = false := HS509_.out.frz 0 rfl 2; have f521_ : w508_.frozen? ⟨gx, 3, none⟩ = false := HS509_.out.frz 0 rfl 3; have f522_ : w508_.frozen? ⟨gx, 4, none⟩ = false := HS509_.out.frz 0 rfl 4; have f523_ : w508_.frozen? ⟨gx, 5, none⟩ = false := HS509_.out.frz 0 rfl 5; have f524_ : w508_.frozen? ⟨gx, 6, none⟩ = false := HS509_.out.frz 0 rfl 6; have f525_ : w508_.frozen? ⟨gx, 7, none⟩ = false := HS509_.out.frz 0 rfl 7; have hbx_ := hb_; replace hx0 := (hbx_.cell (World.block_lt_of_cell? _ _ hx0)).trans hx0; replace hx1 := (hbx_.cell (World.block_lt_of_cell? _ _ hx1)).trans hx1; replace hx2 := (hbx_.cell (World.block_lt_of_cell? _ _ hx2)).trans hx2; replace hx3 := (hbx_.cell (World.block_lt_of_cell? _ _ hx3)).trans hx3; replace hx4 := (hbx_.cell (World.block_lt_of_cell? _ _ hx4)).trans hx4; replace hx5 := (hbx_.cell (World.block_lt_of_cell? _ _ hx5)).trans hx5; replace hx6 := (hbx_.cell (World.block_lt_of_cell? _ _ hx6)).trans hx6; replace hx7 := (hbx_.cell (World.block_lt_of_cell? _ _ hx7)).trans hx7; clear hbx_; clear hg_ hx_ hb_  HSr) | ((with_reducible refine bH (t := 181) (p := 5) rfl ?_); refine bF (t := 181) (p := 5) (v := .tmp 37) (w1 := ((((((((w508_.setCell ⟨gx, 0, none⟩ (.int .i64 x.f0)).setCell ⟨gx, 1, none⟩ (.int .i64 x.f1)).setCell ⟨gx, 2, none⟩ (.int .i64 x.f2)).setCell ⟨gx, 3, none⟩ (.int .i64 x.f3)).setCell ⟨gx, 4, none⟩ (.int .i64 x.f4)).setCell ⟨gx, 5, none⟩ (.int .i64 x.f5)).setCell ⟨gx, 6, none⟩ (.int .i64 x.f6.f0)).setCell ⟨gx, 7, none⟩ (.int .i64 x.f6.f1))) ?hg ?ho ?hn ?hr ?_; (case ho => rfl); (case hg => rfl); (case hn => rfl); (case hr => first | (go_simp; done) | (go_simp; rfl)); intro w526_ hw_; have HS527_ : Aside0 (St w w526_ ((blkA gx #[.int .i64 x.f0, .int .i64 x.f1, .int .i64 x.f2, .int .i64 x.f3, .int .i64 x.f4, .int .i64 x.f5, .int .i64 x.f6.f0, .int .i64 x.f6.f1] 181) :: (blkA gt #[.int .i64 a0_0, .int .i64 a0_1, .int .i64 a0_2, .slice (some adi) l0_3.length c0_3, .slice A0_4 l0_4.length c0_4, .int .i64 a0_5, .int .i64 a0_6, .slice A0_7 l0_7.length c0_7, .slice A0_8 l0_8.length c0_8, .int .i64 a0_9, .int .i64 a0_10, .slice A0_11 l0_11.length c0_11, .slice A0_12 l0_12.length c0_12] 123) :: [])) := ⟨by rw [hw_]; exact ((((((((HS509_.out.put 0 rfl 0 (.int .i64 x.f0) rfl).put 0 rfl 1 (.int .i64 x.f1) rfl).put 0 rfl 2 (.int .i64 x.f2) rfl).put 0 rfl 3 (.int .i64 x.f3) rfl).put 0 rfl 4 (.int .i64 x.f4) rfl).put 0 rfl 5 (.int .i64 x.f5) rfl).put 0 rfl 6 (.int .i64 x.f6.f0) rfl).put 0 rfl 7 (.int .i64 x.f6.f1) rfl)⟩; have c528_ : w526_.cell? ⟨gx, 0, none⟩ = some (.int .i64 x.f0) := (HS527_.out.cell 0 rfl 0).trans rfl; clear hw_ c510_ c511_ c512_ c513_ c514_ c515_ c516_ c517_ f518_ f519_ f520_ f521_ f522_ f523_ f524_ f525_ HS509_ hx0 hx1 hx2 hx3 hx4 hx5 hx6 hx7))
   refine st_ (fun w' => St w w' ((blkA gx #[.int .i64 x.f0, .int .i64 x.f1, .int .i64 x.f2, .int .i64 x.f3, .int .i64 x.f4, .int .i64 x.f5, .int .i64 x.f6.f0, .int .i64 x.f6.f1] 181) :: (blkA gt #[.int .i64 a0_0, .int .i64 a0_1, .int .i64 a0_2, .slice (some adi) l0_3.length c0_3, .slice A0_4 l0_4.length c0_4, .int .i64 a0_5, .int .i64 a0_6, .slice A0_7 l0_7.length c0_7, .slice A0_8 l0_8.length c0_8, .int .i64 a0_9, .int .i64 a0_10, .slice A0_11 l0_11.length c0_11, .slice A0_12 l0_12.length c0_12] 123) :: [])) backstitchref3_TraceFault.tab11 backstitchref3_TraceFault.bits11 HS527_.out.drew (fun HT_ HW_ hHeld => ?_)
   clear HS527_ c528_
   generalize w526_.drew = w541_ at hHeld ⊢
   have HS542_ := Aside0.mk (show St w w541_ ((blkA gx #[.int .i64 x.f0, .int .i64 x.f1, .int .i64 x.f2, .int .i64 x.f3, .int .i64 x.f4, .int .i64 x.f5, .int .i64 x.f6.f0, .int .i64 x.f6.f1] 181) :: (blkA gt #[.int .i64 a0_0, .int .i64 a0_1, .int .i64 a0_2, .slice (some adi) l0_3.length c0_3, .slice A0_4 l0_4.length c0_4, .int .i64 a0_5, .int .i64 a0_6, .slice A0_7 l0_7.length c0_7, .slice A0_8 l0_8.length c0_8, .int .i64 a0_9, .int .i64 a0_10, .slice A0_11 l0_11.length c0_11, .slice A0_12 l0_12.length c0_12] 123) :: []) from hHeld)
   refine pu_ (v := ?_) (a' := ?_) HT_.out 3 (some 49) ?_ ?_ ?_; rotate_left 2; (intro w'; go_simp; with_reducible rfl); (simp only [hW, hT, hU, hV, bB, bC]; rfl)
   refine tk_ (v := ?_) (a' := ?_) HT_.out HW_.out hHeld 0 (some 46) ?_ ?_ ?_; rotate_left 2; (intro w' hS; have s0 : w'.cell? ⟨gt, 0, none⟩ = some _ := hS.cell 1 rfl 0; have s1 : w'.cell? ⟨gt, 1, none⟩ = some _ := hS.cell 1 rfl 1; have s2 : w'.cell? ⟨gt, 2, none⟩ = some _ := hS.cell 1 rfl 2; have s3 : w'.cell? ⟨gt, 3, none⟩ = some _ := hS.cell 1 rfl 3; have s4 : w'.cell? ⟨gt, 4, none⟩ = some _ := hS.cell 1 rfl 4; have s5 : w'.cell? ⟨gt, 5, none⟩ = some _ := hS.cell 1 rfl 5; have s6 : w'.cell? ⟨gt, 6, none⟩ = some _ := hS.cell 1 rfl 6; have s7 : w'.cell? ⟨gt, 7, none⟩ = some _ := hS.cell 1 rfl 7; have s8 : w'.cell? ⟨gt, 8, none⟩ = some _ := hS.cell 1 rfl 8; have s9 : w'.cell? ⟨gt, 9, none⟩ = some _ := hS.cell 1 rfl 9; have s10 : w'.cell? ⟨gt, 10, none⟩ = some _ := hS.cell 1 rfl 10; have s11 : w'.cell? ⟨gt, 11, none⟩ = some _ := hS.cell 1 rfl 11; have s12 : w'.cell? ⟨gt, 12, none⟩ = some _ := hS.cell 1 rfl 12; go_simp; with_reducible rfl); (simp only [hW, hT, hU, hV, bB, bC]; rfl)
   refine tk_ (v := ?_) (a' := ?_) HT_.out HW_.out hHeld 1 (some 47) ?_ ?_ ?_; rotate_left 2; (intro w' hS; have s0 : w'.cell? ⟨gx, 0, none⟩ = some _ := hS.cell 0 rfl 0; have s1 : w'.cell? ⟨gx, 1, none⟩ = some _ := hS.cell 0 rfl 1; have s2 : w'.cell? ⟨gx, 2, none⟩ = some _ := hS.cell 0 rfl 2; have s3 : w'.cell? ⟨gx, 3, none⟩ = some _ := hS.cell 0 rfl 3; have s4 : w'.cell? ⟨gx, 4, none⟩ = some _ := hS.cell 0 rfl 4; have s5 : w'.cell? ⟨gx, 5, none⟩ = some _ := hS.cell 0 rfl 5; have s6 : w'.cell? ⟨gx, 6, none⟩ = some _ := hS.cell 0 rfl 6; have s7 : w'.cell? ⟨gx, 7, none⟩ = some _ := hS.cell 0 rfl 7; go_simp; with_reducible rfl); (simp only [hW, hT, hU, hV, bB, bC]; rfl)
   refine on_ HT_.out 2 (some 48) (fun K hK => ?_)
   refine bJ Try.func115 (by kernel_rfl) rfl #[.agg #[.int .i64 x.f0, .int .i64 x.f1, .int .i64 x.f2, .int .i64 x.f3, .int .i64 x.f4, .int .i64 x.f5, .int .i64 x.f6.f0, .int .i64 x.f6.f1]] (by rfl) rfl rfl (by simp only [List.map_toArray, List.map_cons, List.map_nil]; rfl) ?_
   with_reducible refine (backstitchref3_Asks.calls k x.f0 x.f1 x.f2 x.f3 x.f4 x.f5 x.f6.f0 x.f6.f1 q _ HQ.out).mono ?_
   rintro e_ w543_ ⟨v4, rfl, ho_, hb_⟩
   refine ⟨_, rfl, ?_⟩
   have HS544_ := Aside0.mk (HS542_.out.call hb_)
   have HV := Aside0.mk ho_
   obtain ⟨A4, c4, rfl⟩ := Kd.R_slice HV.out
   clear ho_
   clear hb_ HS542_ hHeld
   refine hK.out _ _ HS544_.out (fun hHeld => ?_)
   clear hK K
   refine bI (a' := ?_) ?_ ?_; rotate_left; (show hW _ (some 48) _ = _; simp only [hW, hT, hU, hV, bB, bC]; rfl)
   refine on_ HT_.out 4 (some 50) (fun K hK => ?_)
   refine bJ Try.func114 (by kernel_rfl) rfl #[.agg #[.int .i64 a0_0, .int .i64 a0_1, .int .i64 a0_2, .slice (some adi) l0_3.length c0_3, .slice A0_4 l0_4.length c0_4, .int .i64 a0_5, .int .i64 a0_6, .slice A0_7 l0_7.length c0_7, .slice A0_8 l0_8.length c0_8, .int .i64 a0_9, .int .i64 a0_10, .slice A0_11 l0_11.length c0_11, .slice A0_12 l0_12.length c0_12], .slice A4 q.length c4, .int .i64 i] (by rfl) rfl rfl (by simp only [List.map_toArray, List.map_cons, List.map_nil]; rfl) ?_
   with_reducible refine (backstitchref3_valuesMay.calls k a0_0 a0_1 a0_2 (some adi) c0_3 l0_3 A0_4 c0_4 l0_4 a0_5 a0_6 A0_7 c0_7 l0_7 A0_8 c0_8 l0_8 a0_9 a0_10 A0_11 c0_11 l0_11 A0_12 c0_12 l0_12 A4 c4 q i true _ (Kd.C_below HR3.out HS544_.out.below) HC3.out (Kd.C_below HR4.out HS544_.out.below) HC4.out (Kd.C_below HR7.out HS544_.out.below) HC7.out (Kd.C_below HR8.out HS544_.out.below) HC8.out (Kd.C_below HR11.out HS544_.out.below) HC11.out (Kd.C_below HR12.out HS544_.out.below) HC12.out (Kd.R_reads' HV.out).2.2 (Kd.R_reads' HV.out).2.1 HB.out).mono ?_
   rintro e_ w545_ ⟨rfl, hb_⟩
   refine ⟨_, rfl, ?_⟩
   have HS546_ := Aside0.mk (HS544_.out.call hb_)
   clear hb_ HS544_ hHeld
   refine hK.out _ _ HS546_.out (fun hHeld => ?_)
   clear hK K
   refine bI (a' := ?_) ?_ ?_; rotate_left; (show hW _ (some 50) _ = _; simp only [hW, hT, hU, hV, bB, bC]; rfl)
   refine pu_ (v := ?_) (a' := ?_) HT_.out 5 (some 51) ?_ ?_ ?_; rotate_left 2; (intro w'; go_simp; with_reducible rfl); (simp only [hW, hT, hU, hV, bB, bC]; rfl)
   refine pu_ (v := ?_) (a' := ?_) HT_.out 6 (some 52) ?_ ?_ ?_; rotate_left 2; (intro w'; go_simp; with_reducible rfl); (simp only [hW, hT, hU, hV, bB, bC]; rfl)
   refine pu_ (v := ?_) (a' := ?_) HT_.out 7 (some 53) ?_ ?_ ?_; rotate_left 2; (intro w'; go_simp; with_reducible rfl); (simp only [hW, hT, hU, hV, bB, bC]; rfl)
   refine tk_ (v := ?_) (a' := ?_) HT_.out HW_.out hHeld 8 (some 54) ?_ ?_ ?_; rotate_left 2; (intro w' hS; have s0 : w'.cell? ⟨gx, 5, none⟩ = some _ := hS.cell 0 rfl 5; go_simp; with_reducible rfl); (simp only [hW, hT, hU, hV, bB, bC]; rfl)
   refine pu_ (v := ?_) (a' := ?_) HT_.out 9 (some 55) ?_ ?_ ?_; rotate_left 2; (intro w'; go_simp; with_reducible rfl); (simp only [hW, hT, hU, hV, bB, bC]; rfl)
   refine pu_ (v := ?_) (a' := ?_) HT_.out 10 (some 56) ?_ ?_ ?_; rotate_left 2; (intro w'; go_simp; with_reducible rfl); (simp only [hW, hT, hU, hV, bB, bC]; rfl)
   refine pu_ (v := ?_) (a' := ?_) HT_.out 11 (some 57) ?_ ?_ ?_; rotate_left 2; (intro w'; go_simp; with_reducible rfl); (simp only [hW, hT, hU, hV, bB, bC]; rfl)
   refine pu_ (v := ?_) (a' := ?_) HT_.out 12 (some 58) ?_ ?_ ?_; rotate_left 2; (intro w'; go_simp; with_reducible rfl); (simp only [hW, hT, hU, hV, bB, bC]; rfl)
   refine pu_ (v := ?_) (a' := ?_) HT_.out 14 (some 60) ?_ ?_ ?_; rotate_left 2; (intro w'; go_simp; with_reducible rfl); (simp only [hW, hT, hU, hV, bB, bC]; rfl)
   refine tk_ (v := ?_) (a' := ?_) HT_.out HW_.out hHeld 13 (some 59) ?_ ?_ ?_; rotate_left 2; (intro w' hS; have s0 : w'.cell? ⟨gx, 5, none⟩ = some _ := hS.cell 0 rfl 5; go_simp; with_reducible rfl); (simp only [hW, hT, hU, hV, bB, bC]; rfl)
   refine tk_ (v := ?_) (a' := ?_) HT_.out HW_.out hHeld 15 (some 61) ?_ ?_ ?_; rotate_left 2; (intro w' hS; have s0 : w'.cell? ⟨gt, 4, none⟩ = some _ := hS.cell 1 rfl 4; go_simp; with_reducible rfl); (simp only [hW, hT, hU, hV, bB, bC]; rfl)
   refine pu_ (v := ?_) (a' := ?_) HT_.out 16 (some 62) ?_ ?_ ?_; rotate_left 2; (intro w'; go_simp; with_reducible rfl); (simp only [hW, hT, hU, hV, bB, bC]; rfl)
   refine pu_ (v := ?_) (a' := ?_) HT_.out 17 (some 63) ?_ ?_ ?_; rotate_left 2; (intro w'; go_simp; with_reducible rfl); (simp only [hW, hT, hU, hV, bB, bC]; rfl)
   refine pu_ (v := ?_) (a' := ?_) HT_.out 18 (some 64) ?_ ?_ ?_; rotate_left 2; (intro w'; go_simp; with_reducible rfl); (simp only [hW, hT, hU, hV, bB, bC]; rfl)
   refine dn_ HT_.out ?_
   clear hHeld HT_ HW_
   have he2 := HE2.out
   have e3 := HD3.out
   clear HE2 HD3
   by_cases d4 : (l0_4.length : Int) ≤ x.f5
   ·rw [if_pos d4] at he2
    obtain rfl := Option.some.inj he2
    obtain rfl := HO.out (by decide)
    have hb11 : decide ((l0_4.length : Int) ≤ x.f5) = true := decide_eq_true d4
    have hb12 : decide (x.f5 ≥ (l0_4.length : Int)) = true := decide_eq_true d4
    have hb15 : decide (x.f5 < (l0_4.length : Int)) = false := decide_eq_false (by omega)
    have hb16 : ¬ x.f5 < (l0_4.length : Int) := by omega
    clear he2 e3 d4
    go_wp2
    go_ret
    exact ⟨rfl, HS546_.out.below⟩
   rw [if_neg d4] at he2
   have hb11 : decide ((l0_4.length : Int) ≤ x.f5) = false := decide_eq_false d4
   have hb12 : decide (x.f5 ≥ (l0_4.length : Int)) = false := decide_eq_false d4
   have hb15 : decide (x.f5 < (l0_4.length : Int)) = true := decide_eq_true (by omega)
   have hb16 : x.f5 < (l0_4.length : Int) := by omega
   by_cases d5 : 0 ≤ x.f5
   rotate_left
   ·rw [if_neg d5] at he2
    obtain rfl := Option.some.inj he2
    have HX4 := Aside0.mk (HN.out rfl)
    have hb13 : decide (0 ≤ x.f5) = false := decide_eq_false d5
    have hb14 : decide (x.f5 ≥ 0) = false := decide_eq_false d5
    clear he2 e3 d4 d5
    go_wp2
    refine st_ (fun w' => St w w' ((blkA gx #[.int .i64 x.f0, .int .i64 x.f1, .int .i64 x.f2, .int .i64 x.f3, .int .i64 x.f4, .int .i64 x.f5, .int .i64 x.f6.f0, .int .i64 x.f6.f1] 181) :: (blkA gt #[.int .i64 a0_0, .int .i64 a0_1, .int .i64 a0_2, .slice (some adi) l0_3.length c0_3, .slice A0_4 l0_4.length c0_4, .int .i64 a0_5, .int .i64 a0_6, .slice A0_7 l0_7.length c0_7, .slice A0_8 l0_8.length c0_8, .int .i64 a0_9, .int .i64 a0_10, .slice A0_11 l0_11.length c0_11, .slice A0_12 l0_12.length c0_12] 123) :: [])) backstitchref3_TraceFault.tab13 backstitchref3_TraceFault.bits13 HS546_.out.drew (fun HT_ HW_ hHeld => ?_)
    clear HS546_
    generalize w545_.drew = w553_ at hHeld ⊢
    have HS554_ := Aside0.mk (show St w w553_ ((blkA gx #[.int .i64 x.f0, .int .i64 x.f1, .int .i64 x.f2, .int .i64 x.f3, .int .i64 x.f4, .int .i64 x.f5, .int .i64 x.f6.f0, .int .i64 x.f6.f1] 181) :: (blkA gt #[.int .i64 a0_0, .int .i64 a0_1, .int .i64 a0_2, .slice (some adi) l0_3.length c0_3, .slice A0_4 l0_4.length c0_4, .int .i64 a0_5, .int .i64 a0_6, .slice A0_7 l0_7.length c0_7, .slice A0_8 l0_8.length c0_8, .int .i64 a0_9, .int .i64 a0_10, .slice A0_11 l0_11.length c0_11, .slice A0_12 l0_12.length c0_12] 123) :: []) from hHeld)
    refine pu_ (v := ?_) (a' := ?_) HT_.out 0 (some 65) ?_ ?_ ?_; rotate_left 2; (intro w'; go_simp; with_reducible rfl); (simp only [hW, hT, hU, hV, bB, bC]; rfl)
    refine tk_ (v := ?_) (a' := ?_) HT_.out HW_.out hHeld 1 (some 66) ?_ ?_ ?_; rotate_left 2; (intro w' hS; have s0 : w'.cell? ⟨gx, 5, none⟩ = some _ := hS.cell 0 rfl 5; go_simp; with_reducible rfl); (simp only [hW, hT, hU, hV, bB, bC]; rfl)
    refine pu_ (v := ?_) (a' := ?_) HT_.out 2 (some 67) ?_ ?_ ?_; rotate_left 2; (intro w'; go_simp; with_reducible rfl); (simp only [hW, hT, hU, hV, bB, bC]; rfl)
    refine pu_ (v := ?_) (a' := ?_) HT_.out 3 (some 68) ?_ ?_ ?_; rotate_left 2; (intro w'; go_simp; with_reducible rfl); (simp only [hW, hT, hU, hV, bB, bC]; rfl)
    refine un_ (a' := ?_) HT_.out 4 (some 69) ?_ ?_; rotate_left; (simp only [hW, hT, hU, hV, bB, bC]; rfl)
    refine un_ (a' := ?_) HT_.out 5 (some 70) ?_ ?_; rotate_left; (simp only [hW, hT, hU, hV, bB, bC]; rfl)
    refine un_ (a' := ?_) HT_.out 6 (some 71) ?_ ?_; rotate_left; (simp only [hW, hT, hU, hV, bB, bC]; rfl)
    refine un_ (a' := ?_) HT_.out 7 (some 72) ?_ ?_; rotate_left; (simp only [hW, hT, hU, hV, bB, bC]; rfl)
    refine un_ (a' := ?_) HT_.out 8 (some 73) ?_ ?_; rotate_left; (simp only [hW, hT, hU, hV, bB, bC]; rfl)
    refine un_ (a' := ?_) HT_.out 9 (some 74) ?_ ?_; rotate_left; (simp only [hW, hT, hU, hV, bB, bC]; rfl)
    refine un_ (a' := ?_) HT_.out 10 (some 75) ?_ ?_; rotate_left; (simp only [hW, hT, hU, hV, bB, bC]; rfl)
    refine un_ (a' := ?_) HT_.out 11 (some 76) ?_ ?_; rotate_left; (simp only [hW, hT, hU, hV, bB, bC]; rfl)
    refine un_ (a' := ?_) HT_.out 12 (some 77) ?_ ?_; rotate_left; (simp only [hW, hT, hU, hV, bB, bC]; rfl)
    refine un_ (a' := ?_) HT_.out 13 (some 78) ?_ ?_; rotate_left; (simp only [hW, hT, hU, hV, bB, bC]; rfl)
    refine un_ (a' := ?_) HT_.out 14 (some 79) ?_ ?_; rotate_left; (simp only [hW, hT, hU, hV, bB, bC]; rfl)
    refine pu_ (v := ?_) (a' := ?_) HT_.out 15 (some 80) ?_ ?_ ?_; rotate_left 2; (intro w'; go_simp; with_reducible rfl); (simp only [hW, hT, hU, hV, bB, bC]; rfl)
    refine dn_ HT_.out ?_
    clear hHeld HT_ HW_
    go_wp2
    go_roundw
    case rel => exact ⟨i + 1, by first | rw [HW.out] | rfl, ⟨by omega⟩, HX4, ⟨(HS554_.out).drop 0 rfl⟩⟩
    case measure => simp only [intOf]; (try rw [HW.out]); omega
   rw [if_pos d5] at he2
   obtain ⟨b2, hb2_, he3⟩ := Option.bind_eq_some_iff.1 he2
   unfold backstitchref3_TraceFault.may at hb2_
   obtain ⟨v, hv_, hb2n⟩ := Option.bind_eq_some_iff.1 hb2_
   have hb13 : decide (0 ≤ x.f5) = true := decide_eq_true d5
   have hb14 : decide (x.f5 ≥ 0) = true := decide_eq_true d5
   have hlt4 : x.f5 < (l0_4.length : Int) := by omega
   obtain ⟨ady, Y2, d2, Y3, d3, e, hy0, hy1, hy2, hy3, hd2, hC2, hd3, hC3⟩ := at_T31 HR4.out x.f5 d5 hlt4
   cases e
   skip
   generalize rd_T31 l0_4 x.f5 = y at *
   have HQ2 := Aside0.mk hv_
   have HB2 := Aside0.mk hb2n
   have HE3 := Aside0.mk he3
   have HY0 := Aside0.mk hy0
   have HY1 := Aside0.mk hy1
   have HY2 := Aside0.mk hy2
   have HY3 := Aside0.mk hy3
   have HYC2 := Aside0.mk hC2
   have HYC3 := Aside0.mk hC3
   have HYD2 := Aside0.mk hd2
   have HYD3 := Aside0.mk hd3
   clear hy0 hy1 hy2 hy3 hC2 hC3 hd2 hd3
   clear he2 he3 hv_ hb2_ hb2n e3 d4
   go_wp2
   refine st_ (fun w' => St w w' ((blkA gx #[.int .i64 x.f0, .int .i64 x.f1, .int .i64 x.f2, .int .i64 x.f3, .int .i64 x.f4, .int .i64 x.f5, .int .i64 x.f6.f0, .int .i64 x.f6.f1] 181) :: (blkA gt #[.int .i64 a0_0, .int .i64 a0_1, .int .i64 a0_2, .slice (some adi) l0_3.length c0_3, .slice (some ady) l0_4.length c0_4, .int .i64 a0_5, .int .i64 a0_6, .slice A0_7 l0_7.length c0_7, .slice A0_8 l0_8.length c0_8, .int .i64 a0_9, .int .i64 a0_10, .slice A0_11 l0_11.length c0_11, .slice A0_12 l0_12.length c0_12] 123) :: [])) backstitchref3_TraceFault.tab13 backstitchref3_TraceFault.bits13 HS546_.out.drew (fun HT_ HW_ hHeld => ?_)
   clear HS546_
   generalize w545_.drew = w547_ at hHeld ⊢
   have HS548_ := Aside0.mk (show St w w547_ ((blkA gx #[.int .i64 x.f0, .int .i64 x.f1, .int .i64 x.f2, .int .i64 x.f3, .int .i64 x.f4, .int .i64 x.f5, .int .i64 x.f6.f0, .int .i64 x.f6.f1] 181) :: (blkA gt #[.int .i64 a0_0, .int .i64 a0_1, .int .i64 a0_2, .slice (some adi) l0_3.length c0_3, .slice (some ady) l0_4.length c0_4, .int .i64 a0_5, .int .i64 a0_6, .slice A0_7 l0_7.length c0_7, .slice A0_8 l0_8.length c0_8, .int .i64 a0_9, .int .i64 a0_10, .slice A0_11 l0_11.length c0_11, .slice A0_12 l0_12.length c0_12] 123) :: []) from hHeld)
   refine pu_ (v := ?_) (a' := ?_) HT_.out 0 (some 65) ?_ ?_ ?_; rotate_left 2; (intro w'; go_simp; with_reducible rfl); (simp only [hW, hT, hU, hV, bB, bC]; rfl)
   refine tk_ (v := ?_) (a' := ?_) HT_.out HW_.out hHeld 1 (some 66) ?_ ?_ ?_; rotate_left 2; (intro w' hS; have s0 : w'.cell? ⟨gx, 5, none⟩ = some _ := hS.cell 0 rfl 5; go_simp; with_reducible rfl); (simp only [hW, hT, hU, hV, bB, bC]; rfl)
   refine pu_ (v := ?_) (a' := ?_) HT_.out 2 (some 67) ?_ ?_ ?_; rotate_left 2; (intro w'; go_simp; with_reducible rfl); (simp only [hW, hT, hU, hV, bB, bC]; rfl)
   refine pu_ (v := ?_) (a' := ?_) HT_.out 3 (some 68) ?_ ?_ ?_; rotate_left 2; (intro w'; go_simp; with_reducible rfl); (simp only [hW, hT, hU, hV, bB, bC]; rfl)
   refine pu_ (v := ?_) (a' := ?_) HT_.out 5 (some 70) ?_ ?_ ?_; rotate_left 2; (intro w'; go_simp; with_reducible rfl); (simp only [hW, hT, hU, hV, bB, bC]; rfl)
   refine pu_ (v := ?_) (a' := ?_) HT_.out 7 (some 72) ?_ ?_ ?_; rotate_left 2; (intro w'; go_simp; with_reducible rfl); (simp only [hW, hT, hU, hV, bB, bC]; rfl)
   refine pu_ (v := ?_) (a' := ?_) HT_.out 12 (some 77) ?_ ?_ ?_; rotate_left 2; (intro w'; go_simp; with_reducible rfl); (simp only [hW, hT, hU, hV, bB, bC]; rfl)
   refine tk_ (v := ?_) (a' := ?_) HT_.out HW_.out hHeld 4 (some 69) ?_ ?_ ?_; rotate_left 2; (intro w' hS; have s0 : w'.cell? ⟨gt, 0, none⟩ = some _ := hS.cell 1 rfl 0; have s1 : w'.cell? ⟨gt, 1, none⟩ = some _ := hS.cell 1 rfl 1; have s2 : w'.cell? ⟨gt, 2, none⟩ = some _ := hS.cell 1 rfl 2; have s3 : w'.cell? ⟨gt, 3, none⟩ = some _ := hS.cell 1 rfl 3; have s4 : w'.cell? ⟨gt, 4, none⟩ = some _ := hS.cell 1 rfl 4; have s5 : w'.cell? ⟨gt, 5, none⟩ = some _ := hS.cell 1 rfl 5; have s6 : w'.cell? ⟨gt, 6, none⟩ = some _ := hS.cell 1 rfl 6; have s7 : w'.cell? ⟨gt, 7, none⟩ = some _ := hS.cell 1 rfl 7; have s8 : w'.cell? ⟨gt, 8, none⟩ = some _ := hS.cell 1 rfl 8; have s9 : w'.cell? ⟨gt, 9, none⟩ = some _ := hS.cell 1 rfl 9; have s10 : w'.cell? ⟨gt, 10, none⟩ = some _ := hS.cell 1 rfl 10; have s11 : w'.cell? ⟨gt, 11, none⟩ = some _ := hS.cell 1 rfl 11; have s12 : w'.cell? ⟨gt, 12, none⟩ = some _ := hS.cell 1 rfl 12; go_simp; with_reducible rfl); (simp only [hW, hT, hU, hV, bB, bC]; rfl)
   refine tk_ (v := ?_) (a' := ?_) HT_.out HW_.out hHeld 6 (some 71) ?_ ?_ ?_; rotate_left 2; (intro w' hS; have s0 : w'.cell? ⟨gt, 4, none⟩ = some _ := hS.cell 1 rfl 4; go_simp; with_reducible rfl); (simp only [hW, hT, hU, hV, bB, bC]; rfl)
   refine tk_ (v := ?_) (a' := ?_) HT_.out HW_.out hHeld 8 (some 73) ?_ ?_ ?_; rotate_left 2; (intro w' hS; have s0 : w'.cell? ⟨gx, 5, none⟩ = some _ := hS.cell 0 rfl 5; go_simp; with_reducible rfl); (simp only [hW, hT, hU, hV, bB, bC]; rfl)
   refine pu_ (v := ?_) (a' := ?_) HT_.out 9 (some 74) ?_ ?_ ?_; rotate_left 2; (intro w'; go_simp; with_reducible rfl); (simp only [hW, hT, hU, hV, bB, bC]; rfl)
   refine tk_ (v := ?_) (a' := ?_) HT_.out HW_.out hHeld 10 (some 75) ?_ ?_ ?_; rotate_left 2; (intro w' hS; have s0 : w'.cell? (ady.add (x.f5.toNat * 4)) = some (.int .i64 y.f0) := (hS.below.cell (World.block_lt_of_cell? w _ HY0.out)).trans HY0.out; have s1 : w'.cell? ⟨(ady.add (x.f5.toNat * 4)).block, (ady.add (x.f5.toNat * 4)).off + 1, none⟩ = some (.int .i64 y.f1) := (hS.below.cell (World.block_lt_of_cell? w _ HY1.out)).trans HY1.out; have s2 : w'.cell? ⟨(ady.add (x.f5.toNat * 4)).block, (ady.add (x.f5.toNat * 4)).off + 2, none⟩ = some (.slice Y2 y.f2.length d2) := (hS.below.cell (World.block_lt_of_cell? w _ HY2.out)).trans HY2.out; have s3 : w'.cell? ⟨(ady.add (x.f5.toNat * 4)).block, (ady.add (x.f5.toNat * 4)).off + 3, none⟩ = some (.slice Y3 y.f3.length d3) := (hS.below.cell (World.block_lt_of_cell? w _ HY3.out)).trans HY3.out; go_simp; with_reducible rfl); (simp only [hW, hT, hU, hV, bB, bC]; rfl)
   refine on_ HT_.out 11 (some 76) (fun K hK => ?_)
   refine bJ Try.func116 (by kernel_rfl) rfl #[.agg #[.int .i64 y.f0, .int .i64 y.f1, .slice Y2 y.f2.length d2, .slice Y3 y.f3.length d3]] (by rfl) rfl rfl (by simp only [List.map_toArray, List.map_cons, List.map_nil]; rfl) ?_
   with_reducible refine (backstitchref3_Values.calls k y.f0 y.f1 Y2 d2 y.f2 Y3 d3 y.f3 v _ (Kd.C_below HYC2.out HS548_.out.below) HYD2.out (Kd.C_below HYC3.out HS548_.out.below) HYD3.out HQ2.out).mono ?_
   rintro e_ w549_ ⟨v4, rfl, ho_, hb_⟩
   refine ⟨_, rfl, ?_⟩
   have HS550_ := Aside0.mk (HS548_.out.call hb_)
   have HV := Aside0.mk ho_
   obtain ⟨A4, c4, rfl⟩ := Kd.R_slice HV.out
   clear ho_
   clear hb_ HS548_ hHeld
   refine hK.out _ _ HS550_.out (fun hHeld => ?_)
   clear hK K
   refine bI (a' := ?_) ?_ ?_; rotate_left; (show hW _ (some 76) _ = _; simp only [hW, hT, hU, hV, bB, bC]; rfl)
   refine on_ HT_.out 13 (some 78) (fun K hK => ?_)
   refine bJ Try.func114 (by kernel_rfl) rfl #[.agg #[.int .i64 a0_0, .int .i64 a0_1, .int .i64 a0_2, .slice (some adi) l0_3.length c0_3, .slice (some ady) l0_4.length c0_4, .int .i64 a0_5, .int .i64 a0_6, .slice A0_7 l0_7.length c0_7, .slice A0_8 l0_8.length c0_8, .int .i64 a0_9, .int .i64 a0_10, .slice A0_11 l0_11.length c0_11, .slice A0_12 l0_12.length c0_12], .slice A4 v.length c4, .int .i64 i] (by rfl) rfl rfl (by simp only [List.map_toArray, List.map_cons, List.map_nil]; rfl) ?_
   with_reducible refine (backstitchref3_valuesMay.calls k a0_0 a0_1 a0_2 (some adi) c0_3 l0_3 (some ady) c0_4 l0_4 a0_5 a0_6 A0_7 c0_7 l0_7 A0_8 c0_8 l0_8 a0_9 a0_10 A0_11 c0_11 l0_11 A0_12 c0_12 l0_12 A4 c4 v i b2 _ (Kd.C_below HR3.out HS550_.out.below) HC3.out (Kd.C_below HR4.out HS550_.out.below) HC4.out (Kd.C_below HR7.out HS550_.out.below) HC7.out (Kd.C_below HR8.out HS550_.out.below) HC8.out (Kd.C_below HR11.out HS550_.out.below) HC11.out (Kd.C_below HR12.out HS550_.out.below) HC12.out (Kd.R_reads' HV.out).2.2 (Kd.R_reads' HV.out).2.1 HB2.out).mono ?_
   rintro e_ w551_ ⟨rfl, hb_⟩
   refine ⟨_, rfl, ?_⟩
   have HS552_ := Aside0.mk (HS550_.out.call hb_)
   clear hb_ HS550_ hHeld
   refine hK.out _ _ HS552_.out (fun hHeld => ?_)
   clear hK K
   refine bI (a' := ?_) ?_ ?_; rotate_left; (show hW _ (some 78) _ = _; simp only [hW, hT, hU, hV, bB, bC]; rfl)
   refine pu_ (v := ?_) (a' := ?_) HT_.out 14 (some 79) ?_ ?_ ?_; rotate_left 2; (intro w'; go_simp; with_reducible rfl); (simp only [hW, hT, hU, hV, bB, bC]; rfl)
   refine pu_ (v := ?_) (a' := ?_) HT_.out 15 (some 80) ?_ ?_ ?_; rotate_left 2; (intro w'; go_simp; with_reducible rfl); (simp only [hW, hT, hU, hV, bB, bC]; rfl)
   refine dn_ HT_.out ?_
   clear hHeld HT_ HW_
   have he3 := HE3.out
   rcases b2 with _ | _
   ·obtain rfl := Option.some.inj he3
    obtain rfl := HO.out (by decide)
    go_wp2
    go_ret
    exact ⟨rfl, HS552_.out.below⟩
   ·obtain rfl := Option.some.inj he3
    have HX4 := Aside0.mk (HN.out rfl)
    go_wp2
    go_roundw
    case rel => exact ⟨i + 1, by first | rw [HW.out] | rfl, ⟨by omega⟩, HX4, ⟨(HS552_.out).drop 0 rfl⟩⟩
    case measure => simp only [intOf]; (try rw [HW.out]); omega
  have ht : decide (i < (l0_3.length : Int)) = false := decide_eq_false hlt
  have hx := HX.out
  rw [show l0_3.length - i.toNat = 0 by omega, backstitchref3_TraceFault.ins] at hx
  simp only [Option.bind_some, if_true] at hx
  unfold backstitchref3_TraceFault.mid at hx
  obtain ⟨e0, he0, hx2⟩ := Option.bind_eq_some_iff.1 hx
  have HN := Aside0.mk (show e0 = 0 → backstitchref3_TraceFault.fin k a0_0 a0_1 a0_2 l0_3 l0_4 a0_5 a0_6 l0_7 l0_8 a0_9 a0_10 l0_11 l0_12 = some r from fun hc => by rw [if_pos hc] at hx2; exact hx2)
  have HO := Aside0.mk (show e0 ≠ 0 → r = e0 from fun hc => by rw [if_neg hc] at hx2; exact (Option.some.inj hx2).symm)
  clear hx hx2 HX
  unfold backstitchref3_TraceFault.turn at he0
  obtain ⟨xs, hxl, hxr, hxf⟩ := Kd.reads_raw HR4.out (fun x c hk => ⟨k31.K_len hk, k31.K_one hk⟩)
  have HXL := Aside0.mk hxl
  have HXR : Aside0 (Kd.C (Kd.raw 4) w A0_4 xs.length xs) := ⟨by rw [hxl]; exact hxr⟩
  have HXF := Aside0.mk hxf
  clear hxl hxr hxf
  have c628_ : wr.cell? ⟨gt, 2, none⟩ = some (.int .i64 a0_2) := (HSr.out.cell 0 rfl 2).trans rfl
  have c629_ : wr.cell? ⟨gt, 4, none⟩ = some (.slice A0_4 l0_4.length c0_4) := (HSr.out.cell 0 rfl 4).trans rfl
  by_cases hl0 : 0 < a0_2
  rotate_left
  ·have hg1 : decide (0 < a0_2) = false := decide_eq_false hl0
   have hg2 : decide (a0_2 > 0) = false := decide_eq_false hl0
   rw [if_neg hl0] at he0
   unfold backstitchref3_TraceFault.one3 backstitchref3_TraceFault.may at he0
   obtain ⟨bb, hbb, he2⟩ := Option.bind_eq_some_iff.1 he0
   obtain ⟨vb, hvb, hbb⟩ := Option.bind_eq_some_iff.1 hbb
   have HQB := Aside0.mk hvb
   have HBB := Aside0.mk hbb
   have HE2 := Aside0.mk he2
   clear he0 he2 hbb hvb hl0
   go_wp2
   refine st_ (fun w' => St w w' ((blkA gt #[.int .i64 a0_0, .int .i64 a0_1, .int .i64 a0_2, .slice A0_3 l0_3.length c0_3, .slice A0_4 l0_4.length c0_4, .int .i64 a0_5, .int .i64 a0_6, .slice A0_7 l0_7.length c0_7, .slice A0_8 l0_8.length c0_8, .int .i64 a0_9, .int .i64 a0_10, .slice A0_11 l0_11.length c0_11, .slice A0_12 l0_12.length c0_12] 123) :: [])) backstitchref3_TraceFault.tab16 backstitchref3_TraceFault.bits16 HSr.out.drew (fun HT_ HW_ hHeld => ?_)
   clear HSr
   generalize wr.drew = w571_ at hHeld ⊢
   have HS572_ := Aside0.mk (show St w w571_ ((blkA gt #[.int .i64 a0_0, .int .i64 a0_1, .int .i64 a0_2, .slice A0_3 l0_3.length c0_3, .slice A0_4 l0_4.length c0_4, .int .i64 a0_5, .int .i64 a0_6, .slice A0_7 l0_7.length c0_7, .slice A0_8 l0_8.length c0_8, .int .i64 a0_9, .int .i64 a0_10, .slice A0_11 l0_11.length c0_11, .slice A0_12 l0_12.length c0_12] 123) :: []) from hHeld)
   refine pu_ (v := ?_) (a' := ?_) HT_.out 0 (some 82) ?_ ?_ ?_; rotate_left 2; (intro w'; go_simp; with_reducible rfl); (simp only [hW, hT, hU, hV, bB, bC]; rfl)
   refine tk_ (v := ?_) (a' := ?_) HT_.out HW_.out hHeld 1 (some 83) ?_ ?_ ?_; rotate_left 2; (intro w' hS; have s0 : w'.cell? ⟨gt, 2, none⟩ = some _ := hS.cell 0 rfl 2; go_simp; with_reducible rfl); (simp only [hW, hT, hU, hV, bB, bC]; rfl)
   refine pu_ (v := ?_) (a' := ?_) HT_.out 2 (some 84) ?_ ?_ ?_; rotate_left 2; (intro w'; go_simp; with_reducible rfl); (simp only [hW, hT, hU, hV, bB, bC]; rfl)
   refine pu_ (v := ?_) (a' := ?_) HT_.out 3 (some 85) ?_ ?_ ?_; rotate_left 2; (intro w'; go_simp; with_reducible rfl); (simp only [hW, hT, hU, hV, bB, bC]; rfl)
   refine un_ (a' := ?_) HT_.out 4 (some 86) ?_ ?_; rotate_left; (simp only [hW, hT, hU, hV, bB, bC]; rfl)
   refine un_ (a' := ?_) HT_.out 5 (some 87) ?_ ?_; rotate_left; (simp only [hW, hT, hU, hV, bB, bC]; rfl)
   refine un_ (a' := ?_) HT_.out 6 (some 88) ?_ ?_; rotate_left; (simp only [hW, hT, hU, hV, bB, bC]; rfl)
   refine un_ (a' := ?_) HT_.out 7 (some 89) ?_ ?_; rotate_left; (simp only [hW, hT, hU, hV, bB, bC]; rfl)
   refine un_ (a' := ?_) HT_.out 8 (some 90) ?_ ?_; rotate_left; (simp only [hW, hT, hU, hV, bB, bC]; rfl)
   refine un_ (a' := ?_) HT_.out 9 (some 91) ?_ ?_; rotate_left; (simp only [hW, hT, hU, hV, bB, bC]; rfl)
   refine un_ (a' := ?_) HT_.out 10 (some 92) ?_ ?_; rotate_left; (simp only [hW, hT, hU, hV, bB, bC]; rfl)
   refine un_ (a' := ?_) HT_.out 11 (some 93) ?_ ?_; rotate_left; (simp only [hW, hT, hU, hV, bB, bC]; rfl)
   refine pu_ (v := ?_) (a' := ?_) HT_.out 12 (some 94) ?_ ?_ ?_; rotate_left 2; (intro w'; go_simp; with_reducible rfl); (simp only [hW, hT, hU, hV, bB, bC]; rfl)
   refine pu_ (v := ?_) (a' := ?_) HT_.out 13 (some 95) ?_ ?_ ?_; rotate_left 2; (intro w'; go_simp; with_reducible rfl); (simp only [hW, hT, hU, hV, bB, bC]; rfl)
   refine pu_ (v := ?_) (a' := ?_) HT_.out 15 (some 97) ?_ ?_ ?_; rotate_left 2; (intro w'; go_simp; with_reducible rfl); (simp only [hW, hT, hU, hV, bB, bC]; rfl)
   refine pu_ (v := ?_) (a' := ?_) HT_.out 18 (some 100) ?_ ?_ ?_; rotate_left 2; (intro w'; go_simp; with_reducible rfl); (simp only [hW, hT, hU, hV, bB, bC]; rfl)
   refine tk_ (v := ?_) (a' := ?_) HT_.out HW_.out hHeld 14 (some 96) ?_ ?_ ?_; rotate_left 2; (intro w' hS; have s0 : w'.cell? ⟨gt, 0, none⟩ = some _ := hS.cell 0 rfl 0; have s1 : w'.cell? ⟨gt, 1, none⟩ = some _ := hS.cell 0 rfl 1; have s2 : w'.cell? ⟨gt, 2, none⟩ = some _ := hS.cell 0 rfl 2; have s3 : w'.cell? ⟨gt, 3, none⟩ = some _ := hS.cell 0 rfl 3; have s4 : w'.cell? ⟨gt, 4, none⟩ = some _ := hS.cell 0 rfl 4; have s5 : w'.cell? ⟨gt, 5, none⟩ = some _ := hS.cell 0 rfl 5; have s6 : w'.cell? ⟨gt, 6, none⟩ = some _ := hS.cell 0 rfl 6; have s7 : w'.cell? ⟨gt, 7, none⟩ = some _ := hS.cell 0 rfl 7; have s8 : w'.cell? ⟨gt, 8, none⟩ = some _ := hS.cell 0 rfl 8; have s9 : w'.cell? ⟨gt, 9, none⟩ = some _ := hS.cell 0 rfl 9; have s10 : w'.cell? ⟨gt, 10, none⟩ = some _ := hS.cell 0 rfl 10; have s11 : w'.cell? ⟨gt, 11, none⟩ = some _ := hS.cell 0 rfl 11; have s12 : w'.cell? ⟨gt, 12, none⟩ = some _ := hS.cell 0 rfl 12; go_simp; with_reducible rfl); (simp only [hW, hT, hU, hV, bB, bC]; rfl)
   refine tk_ (v := ?_) (a' := ?_) HT_.out HW_.out hHeld 16 (some 98) ?_ ?_ ?_; rotate_left 2; (intro w' hS; have s0 : w'.cell? ⟨gt, 9, none⟩ = some _ := hS.cell 0 rfl 9; have s1 : w'.cell? ⟨gt, 10, none⟩ = some _ := hS.cell 0 rfl 10; have s2 : w'.cell? ⟨gt, 11, none⟩ = some _ := hS.cell 0 rfl 11; have s3 : w'.cell? ⟨gt, 12, none⟩ = some _ := hS.cell 0 rfl 12; go_simp; with_reducible rfl); (simp only [hW, hT, hU, hV, bB, bC]; rfl)
   refine on_ HT_.out 17 (some 99) (fun K hK => ?_)
   refine bJ Try.func116 (by kernel_rfl) rfl #[.agg #[.int .i64 a0_9, .int .i64 a0_10, .slice A0_11 l0_11.length c0_11, .slice A0_12 l0_12.length c0_12]] (by rfl) rfl rfl (by simp only [List.map_toArray, List.map_cons, List.map_nil]; rfl) ?_
   with_reducible refine (backstitchref3_Values.calls k a0_9 a0_10 A0_11 c0_11 l0_11 A0_12 c0_12 l0_12 vb _ (Kd.C_below HR11.out HS572_.out.below) HC11.out (Kd.C_below HR12.out HS572_.out.below) HC12.out HQB.out).mono ?_
   rintro e_ w573_ ⟨v4, rfl, ho_, hb_⟩
   refine ⟨_, rfl, ?_⟩
   have HS574_ := Aside0.mk (HS572_.out.call hb_)
   have HV := Aside0.mk ho_
   obtain ⟨A4, c4, rfl⟩ := Kd.R_slice HV.out
   clear ho_
   clear hb_ HS572_ hHeld
   refine hK.out _ _ HS574_.out (fun hHeld => ?_)
   clear hK K
   refine bI (a' := ?_) ?_ ?_; rotate_left; (show hW _ (some 99) _ = _; simp only [hW, hT, hU, hV, bB, bC]; rfl)
   refine on_ HT_.out 19 (some 101) (fun K hK => ?_)
   refine bJ Try.func114 (by kernel_rfl) rfl #[.agg #[.int .i64 a0_0, .int .i64 a0_1, .int .i64 a0_2, .slice A0_3 l0_3.length c0_3, .slice A0_4 l0_4.length c0_4, .int .i64 a0_5, .int .i64 a0_6, .slice A0_7 l0_7.length c0_7, .slice A0_8 l0_8.length c0_8, .int .i64 a0_9, .int .i64 a0_10, .slice A0_11 l0_11.length c0_11, .slice A0_12 l0_12.length c0_12], .slice A4 vb.length c4, .int .i64 (l0_3.length : Int)] (by rfl) rfl rfl (by simp only [List.map_toArray, List.map_cons, List.map_nil]; rfl) ?_
   with_reducible refine (backstitchref3_valuesMay.calls k a0_0 a0_1 a0_2 A0_3 c0_3 l0_3 A0_4 c0_4 l0_4 a0_5 a0_6 A0_7 c0_7 l0_7 A0_8 c0_8 l0_8 a0_9 a0_10 A0_11 c0_11 l0_11 A0_12 c0_12 l0_12 A4 c4 vb (l0_3.length : Int) bb _ (Kd.C_below HR3.out HS574_.out.below) HC3.out (Kd.C_below HR4.out HS574_.out.below) HC4.out (Kd.C_below HR7.out HS574_.out.below) HC7.out (Kd.C_below HR8.out HS574_.out.below) HC8.out (Kd.C_below HR11.out HS574_.out.below) HC11.out (Kd.C_below HR12.out HS574_.out.below) HC12.out (Kd.R_reads' HV.out).2.2 (Kd.R_reads' HV.out).2.1 HBB.out).mono ?_
   rintro e_ w575_ ⟨rfl, hb_⟩
   refine ⟨_, rfl, ?_⟩
   have HS576_ := Aside0.mk (HS574_.out.call hb_)
   clear hb_ HS574_ hHeld
   refine hK.out _ _ HS576_.out (fun hHeld => ?_)
   clear hK K
   refine bI (a' := ?_) ?_ ?_; rotate_left; (show hW _ (some 101) _ = _; simp only [hW, hT, hU, hV, bB, bC]; rfl)
   refine pu_ (v := ?_) (a' := ?_) HT_.out 20 (some 102) ?_ ?_ ?_; rotate_left 2; (intro w'; go_simp; with_reducible rfl); (simp only [hW, hT, hU, hV, bB, bC]; rfl)
   refine pu_ (v := ?_) (a' := ?_) HT_.out 21 (some 103) ?_ ?_ ?_; rotate_left 2; (intro w'; go_simp; with_reducible rfl); (simp only [hW, hT, hU, hV, bB, bC]; rfl)
   refine dn_ HT_.out ?_
   clear hHeld HT_ HW_
   have HSt := HS576_
   generalize w575_ = w7 at *
   clear HS576_
   have he2 := HE2.out
   rcases bb with _ | _
   ·obtain rfl := Option.some.inj he2
    obtain rfl := HO.out (by decide)
    go_wp2
    go_ret
    exact ⟨rfl, HSt.out.below⟩
   obtain rfl := Option.some.inj he2
   have hfin := HN.out rfl
   unfold backstitchref3_TraceFault.fin at hfin
   have HF := Aside0.mk hfin
   have c4t : w7.cell? ⟨gt, 4, none⟩ = some (.slice A0_4 l0_4.length c0_4) := (HSt.out.cell 0 rfl 4).trans rfl
   clear hfin he2 HN HO HE2
   go_wp2
   clear c4t
   rename World => wo
   go_loopw [107] (fun v107 wr => ∃ i : Int, v107 = .int .i64 i ∧ Aside0 (0 ≤ i ∧ i ≤ l0_4.length) ∧ Aside0 ((backstitchref3_TraceFault.exs k a0_0 a0_1 a0_2 l0_3 l0_4 a0_5 a0_6 l0_7 l0_8 a0_9 a0_10 l0_11 l0_12 (l0_4.drop i.toNat)).bind (fun e => if e = 0 then backstitchref3_TraceFault.lrg k ((⟨a0_5, a0_6, l0_7, l0_8⟩ : S31) :: (⟨a0_9, a0_10, l0_11, l0_12⟩ : S31) :: l0_4) else some e) = some r) ∧ Aside0 (St w wr ((blkA gt #[.int .i64 a0_0, .int .i64 a0_1, .int .i64 a0_2, .slice A0_3 l0_3.length c0_3, .slice A0_4 l0_4.length c0_4, .int .i64 a0_5, .int .i64 a0_6, .slice A0_7 l0_7.length c0_7, .slice A0_8 l0_8.length c0_8, .int .i64 a0_9, .int .i64 a0_10, .slice A0_11 l0_11.length c0_11, .slice A0_12 l0_12.length c0_12] 123) :: []))) (fun v107 _ => l0_4.length - (intOf v107).toNat)
   case atStart => exact ⟨0, rfl, ⟨by omega⟩, HF, HSt⟩
   case round =>
    clear HF HSt
    obtain ⟨i, rfl, Hi, HX, HSr⟩ := hrel
    have hi0 : 0 ≤ i := Hi.out.1
    by_cases hlt : i < (l0_4.length : Int)
    rotate_left
    ·have ht : decide (i < (l0_4.length : Int)) = false := decide_eq_false hlt
     have hx := HX.out
     rw [List.drop_eq_nil_of_le (by omega), backstitchref3_TraceFault.exs, Option.bind_some, if_pos rfl] at hx
     have HF := Aside0.mk hx
     clear hx HX
     have c595_ : wr.cell? ⟨gt, 4, none⟩ = some (.slice A0_4 l0_4.length c0_4) := (HSr.out.cell 0 rfl 4).trans rfl
     have c596_ : wr.cell? ⟨gt, 5, none⟩ = some (.int .i64 a0_5) := (HSr.out.cell 0 rfl 5).trans rfl
     have c597_ : wr.cell? ⟨gt, 6, none⟩ = some (.int .i64 a0_6) := (HSr.out.cell 0 rfl 6).trans rfl
     have c598_ : wr.cell? ⟨gt, 7, none⟩ = some (.slice A0_7 l0_7.length c0_7) := (HSr.out.cell 0 rfl 7).trans rfl
     have c599_ : wr.cell? ⟨gt, 8, none⟩ = some (.slice A0_8 l0_8.length c0_8) := (HSr.out.cell 0 rfl 8).trans rfl
     have c600_ : wr.cell? ⟨gt, 9, none⟩ = some (.int .i64 a0_9) := (HSr.out.cell 0 rfl 9).trans rfl
     have c601_ : wr.cell? ⟨gt, 10, none⟩ = some (.int .i64 a0_10) := (HSr.out.cell 0 rfl 10).trans rfl
     have c602_ : wr.cell? ⟨gt, 11, none⟩ = some (.slice A0_11 l0_11.length c0_11) := (HSr.out.cell 0 rfl 11).trans rfl
     have c603_ : wr.cell? ⟨gt, 12, none⟩ = some (.slice A0_12 l0_12.length c0_12) := (HSr.out.cell 0 rfl 12).trans rfl
     have c4a_ : ∀ o, (wr.alloc o).cell? ⟨gt, 4, none⟩ = some (.slice A0_4 l0_4.length c0_4) := fun o => ((HSr.out.alloc o).cell 0 rfl 4).trans rfl
     go_wp2_with (first | ((with_reducible refine bM (b := .append) (xs := #[.tmp 122, .tmp 124]) rfl ?_); (try (refine bD (by rfl) ?_; dsimp only)); at_builtin; obtain ⟨ok_, hf_, hr_, hs_⟩ := ((HSr.out.litRs 31 4 [[.int .i64 a0_5, .int .i64 a0_6, .slice A0_7 l0_7.length c0_7, .slice A0_8 l0_8.length c0_8], [.int .i64 a0_9, .int .i64 a0_10, .slice A0_11 l0_11.length c0_11, .slice A0_12 l0_12.length c0_12]] [.int .i64 a0_5, .int .i64 a0_6, .slice A0_7 l0_7.length c0_7, .slice A0_8 l0_8.length c0_8, .int .i64 a0_9, .int .i64 a0_10, .slice A0_11 l0_11.length c0_11, .slice A0_12 l0_12.length c0_12] rfl (by simp) (by simp [maxLen]) (by simp) (by simp [Value.oneCell']))).app 0 rfl; refine Kd.R_append_rows (Kd.raw 4) (Rr := (Kd.raw 4).K (wr.alloc (.cells [.int .i64 a0_5, .int .i64 a0_6, .slice A0_7 l0_7.length c0_7, .slice A0_8 l0_8.length c0_8, .int .i64 a0_9, .int .i64 a0_10, .slice A0_11 l0_11.length c0_11, .slice A0_12 l0_12.length c0_12].toArray 31))) (w0 := w) w.heap.size rfl (.tmp 122) (.tmp 124) 121 31 ((.agg #[.int .i64 0, .int .i64 0, .slice none 0 0, .slice none 0 0])) 64 rfl Try.underlying121 info31 rfl (by decide) (by omega) (.slice (some ⟨wr.heap.size, 0, none⟩) 2 2) [[.int .i64 a0_5, .int .i64 a0_6, .slice A0_7 l0_7.length c0_7, .slice A0_8 l0_8.length c0_8], [.int .i64 a0_9, .int .i64 a0_10, .slice A0_11 l0_11.length c0_11, .slice A0_12 l0_12.length c0_12]] xs A0_4 l0_4.length c0_4 ok_ (fun _ => False) rfl rfl hr_ ?aR ?aM (fun _ hk => hk.elim) hf_ ((HSr.out.litRs 31 4 [[.int .i64 a0_5, .int .i64 a0_6, .slice A0_7 l0_7.length c0_7, .slice A0_8 l0_8.length c0_8], [.int .i64 a0_9, .int .i64 a0_10, .slice A0_11 l0_11.length c0_11, .slice A0_12 l0_12.length c0_12]] [.int .i64 a0_5, .int .i64 a0_6, .slice A0_7 l0_7.length c0_7, .slice A0_8 l0_8.length c0_8, .int .i64 a0_9, .int .i64 a0_10, .slice A0_11 l0_11.length c0_11, .slice A0_12 l0_12.length c0_12] rfl (by simp) (by simp [maxLen]) (by simp) (by simp [Value.oneCell']))).below ((HSr.out.litRs 31 4 [[.int .i64 a0_5, .int .i64 a0_6, .slice A0_7 l0_7.length c0_7, .slice A0_8 l0_8.length c0_8], [.int .i64 a0_9, .int .i64 a0_10, .slice A0_11 l0_11.length c0_11, .slice A0_12 l0_12.length c0_12]] [.int .i64 a0_5, .int .i64 a0_6, .slice A0_7 l0_7.length c0_7, .slice A0_8 l0_8.length c0_8, .int .i64 a0_9, .int .i64 a0_10, .slice A0_11 l0_11.length c0_11, .slice A0_12 l0_12.length c0_12] rfl (by simp) (by simp [maxLen]) (by simp) (by simp [Value.oneCell']))).size ?aL ?_; (case aR => exact (by have := HXR.out; rw [HXL.out] at this; exact Kd.C_alloc (Kd.C_below this HSr.out.below) _)); (case aM => exact fun x cs h => h); (case aL => have := HLEN.out; have := HXL.out; simp; omega); intro Ap606_ w604_ ho_ hb_ hg_ hat_; have HS605_ := Aside0.mk (hs_ _ _ _ ho_ hb_ hg_); have hN_ := Kd.R_slice ho_; obtain ⟨A607_, c609_, rfl⟩ := hN_; clear ho_ hb_ hg_ hat_ hf_ hr_ hs_ c595_ c596_ c597_ c598_ c599_ c600_ c601_ c602_ c603_ c4a_ HSr; have HXE := Aside0.mk (show (([[.int .i64 a0_5, .int .i64 a0_6, .slice A0_7 l0_7.length c0_7, .slice A0_8 l0_8.length c0_8], [.int .i64 a0_9, .int .i64 a0_10, .slice A0_11 l0_11.length c0_11, .slice A0_12 l0_12.length c0_12]] ++ xs) : List (List Value)).length = l0_4.length + 2 by simp [HXL.out]); have HXQ := Aside0.mk (show ∀ (j : Nat) (x : S31) (c : List Value), ((⟨a0_5, a0_6, l0_7, l0_8⟩ : S31) :: (⟨a0_9, a0_10, l0_11, l0_12⟩ : S31) :: l0_4)[j]? = some x → (([[.int .i64 a0_5, .int .i64 a0_6, .slice A0_7 l0_7.length c0_7, .slice A0_8 l0_8.length c0_8], [.int .i64 a0_9, .int .i64 a0_10, .slice A0_11 l0_11.length c0_11, .slice A0_12 l0_12.length c0_12]] ++ xs) : List (List Value))[j]? = some c → k31.K w x c from backstitchref3_TraceFault.exitK HXF.out HR3.out HC3.out HR4.out HC4.out HR7.out HC7.out HR8.out HC8.out HR11.out HC11.out HR12.out HC12.out (Below.refl _ _)); generalize (([[.int .i64 a0_5, .int .i64 a0_6, .slice A0_7 l0_7.length c0_7, .slice A0_8 l0_8.length c0_8], [.int .i64 a0_9, .int .i64 a0_10, .slice A0_11 l0_11.length c0_11, .slice A0_12 l0_12.length c0_12]] ++ xs) : List (List Value)) = xe at HS605_ HXE HXQ ⊢))
     rename World => wo3
     go_loopw [127] (fun v127 wr => ∃ i : Int, v127 = .int .i64 i ∧ Aside0 (0 ≤ i ∧ i ≤ l0_4.length + 2) ∧ Aside0 (backstitchref3_TraceFault.lrg k (((⟨a0_5, a0_6, l0_7, l0_8⟩ : S31) :: (⟨a0_9, a0_10, l0_11, l0_12⟩ : S31) :: l0_4).drop i.toNat) = some r) ∧ Aside0 (St w wr ((rowA w.heap.size (Kd.raw 4) 31 (.slice A607_ xe.length c609_) xe) :: (blkA gt #[.int .i64 a0_0, .int .i64 a0_1, .int .i64 a0_2, .slice A0_3 l0_3.length c0_3, .slice A0_4 l0_4.length c0_4, .int .i64 a0_5, .int .i64 a0_6, .slice A0_7 l0_7.length c0_7, .slice A0_8 l0_8.length c0_8, .int .i64 a0_9, .int .i64 a0_10, .slice A0_11 l0_11.length c0_11, .slice A0_12 l0_12.length c0_12] 123) :: []))) (fun v127 _ => l0_4.length + 2 - (intOf v127).toNat)
     case atStart => exact ⟨0, rfl, ⟨by omega⟩, HF, HS605_⟩
     case round =>
      clear HF HS605_
      obtain ⟨i, rfl, Hi, HX, HSr⟩ := hrel
      have hi0 : 0 ≤ i := Hi.out.1
      by_cases hlt : i < (xe.length : Int)
      rotate_left
      ·have ht : decide (i < (xe.length : Int)) = false := decide_eq_false hlt
       have hx := HX.out
       rw [List.drop_eq_nil_of_le (by have := HXE.out; simp; omega), backstitchref3_TraceFault.lrg] at hx
       obtain rfl := Option.some.inj hx
       clear hx
       go_wp2
       go_ret
       exact ⟨rfl, HSr.out.below⟩
      have ht : decide (i < (xe.length : Int)) = true := decide_eq_true hlt
      have HW := Aside0.mk (show wrap64 (i + 1) = i + 1 by have := HLEN.out; have := HXE.out; unfold wrap64; omega)
      have hx := HX.out
      rw [backstitchref3_TraceFault.drop ((⟨a0_5, a0_6, l0_7, l0_8⟩ : S31) :: (⟨a0_9, a0_10, l0_11, l0_12⟩ : S31) :: l0_4) i hi0 (by have := HXE.out; simp; omega), backstitchref3_TraceFault.lrg] at hx
      obtain ⟨bl, hbl, hx2⟩ := Option.bind_eq_some_iff.1 hx
      obtain ⟨ady, Y2, d2, Y3, d3, e, hy0, hy1, hy2, hy3, hd2, hC2, hd3, hC3⟩ := backstitchref3_TraceFault.elem (Kd.R_reads' (HSr.out.row 0 rfl)).2.2 (by rw [HXE.out]; simp) HXQ.out i hi0 hlt
      cases e
      generalize rd_T31 ((⟨a0_5, a0_6, l0_7, l0_8⟩ : S31) :: (⟨a0_9, a0_10, l0_11, l0_12⟩ : S31) :: l0_4) i = y at *
      have HBL := Aside0.mk hbl
      have HE3 := Aside0.mk hx2
      have HYC2 := Aside0.mk hC2
      have HYC3 := Aside0.mk hC3
      have HYD2 := Aside0.mk hd2
      have HYD3 := Aside0.mk hd3
      clear hC2 hC3 hd2 hd3
      clear hx hx2 hbl HX
      rcases bl with _ | _
      ·have HX4 := HE3
       rw [if_neg (by decide)] at HX4
       clear HE3
       go_wp2_with (first | ((with_reducible refine bG (N := 9) rfl ?_); (try (refine bD (by rfl) ?_; dsimp only)); refine bE ?hg (N := 9) ?hd (cs := #[.int .i64 0, .int .i64 0, .slice none 0 0, .slice none 0 0]) (t := 31) ?hr ?_; (case hd => rfl); (case hg => rfl); (case hr => first | (go_simp; done) | (go_simp; rfl)); intro gy hg_ w610_ hx_ hb_; have HS611_ := Aside0.mk (HSr.out.box hg_ hx_ hb_); have c612_ : w610_.cell? ⟨gy, 0, none⟩ = some (.int .i64 0) := (HS611_.out.cell 0 rfl 0).trans rfl; have c613_ : w610_.cell? ⟨gy, 1, none⟩ = some (.int .i64 0) := (HS611_.out.cell 0 rfl 1).trans rfl; have c614_ : w610_.cell? ⟨gy, 2, none⟩ = some (.slice none 0 0) := (HS611_.out.cell 0 rfl 2).trans rfl; have c615_ : w610_.cell? ⟨gy, 3, none⟩ = some (.slice none 0 0) := (HS611_.out.cell 0 rfl 3).trans rfl; have f616_ : w610_.frozen? ⟨gy, 0, none⟩ = false := HS611_.out.frz 0 rfl 0; have f617_ : w610_.frozen? ⟨gy, 1, none⟩ = false := HS611_.out.frz 0 rfl 1; have f618_ : w610_.frozen? ⟨gy, 2, none⟩ = false := HS611_.out.frz 0 rfl 2; have f619_ : w610_.frozen? ⟨gy, 3, none⟩ = false := HS611_.out.frz 0 rfl 3; have hbx_ := hb_; replace hy0 := (hbx_.cell (World.block_lt_of_cell? _ _ hy0)).trans hy0; replace hy1 := (hbx_.cell (World.block_lt_of_cell? _ _ hy1)).trans hy1; replace hy2 := (hbx_.cell (World.block_lt_of_cell? _ _ hy2)).trans hy2; replace hy3 := (hbx_.cell (World.block_lt_of_cell? _ _ hy3)).trans hy3; clear hbx_; clear hg_ hx_ hb_  HSr) | ((with_reducible refine bH (t := 31) (p := 9) rfl ?_); refine bF (t := 31) (p := 9) (v := .tmp 130) (w1 := ((((w610_.setCell ⟨gy, 0, none⟩ (.int .i64 y.f0)).setCell ⟨gy, 1, none⟩ (.int .i64 y.f1)).setCell ⟨gy, 2, none⟩ (.slice Y2 y.f2.length d2)).setCell ⟨gy, 3, none⟩ (.slice Y3 y.f3.length d3))) ?hg ?ho ?hn ?hr ?_; (case ho => rfl); (case hg => rfl); (case hn => rfl); (case hr => first | (go_simp; done) | (go_simp; rfl)); intro w620_ hw_; have HS621_ : Aside0 (St w w620_ ((blkA gy #[.int .i64 y.f0, .int .i64 y.f1, .slice Y2 y.f2.length d2, .slice Y3 y.f3.length d3] 31) :: (rowA w.heap.size (Kd.raw 4) 31 (.slice (some ady) xe.length c609_) xe) :: (blkA gt #[.int .i64 a0_0, .int .i64 a0_1, .int .i64 a0_2, .slice A0_3 l0_3.length c0_3, .slice A0_4 l0_4.length c0_4, .int .i64 a0_5, .int .i64 a0_6, .slice A0_7 l0_7.length c0_7, .slice A0_8 l0_8.length c0_8, .int .i64 a0_9, .int .i64 a0_10, .slice A0_11 l0_11.length c0_11, .slice A0_12 l0_12.length c0_12] 123) :: [])) := ⟨by rw [hw_]; exact ((((HS611_.out.put 0 rfl 0 (.int .i64 y.f0) rfl).put 0 rfl 1 (.int .i64 y.f1) rfl).put 0 rfl 2 (.slice Y2 y.f2.length d2) rfl).put 0 rfl 3 (.slice Y3 y.f3.length d3) rfl)⟩; have c622_ : w620_.cell? ⟨gy, 0, none⟩ = some (.int .i64 y.f0) := (HS621_.out.cell 0 rfl 0).trans rfl; have c623_ : w620_.cell? ⟨gy, 1, none⟩ = some (.int .i64 y.f1) := (HS621_.out.cell 0 rfl 1).trans rfl; have c624_ : w620_.cell? ⟨gy, 2, none⟩ = some (.slice Y2 y.f2.length d2) := (HS621_.out.cell 0 rfl 2).trans rfl; have c625_ : w620_.cell? ⟨gy, 3, none⟩ = some (.slice Y3 y.f3.length d3) := (HS621_.out.cell 0 rfl 3).trans rfl; clear hw_ c612_ c613_ c614_ c615_ f616_ f617_ f618_ f619_ HS611_ hy0 hy1 hy2 hy3) | (go_at_call 117; refine (backstitchref3_exitLarge.calls k y.f0 y.f1 Y2 d2 y.f2 Y3 d3 y.f3 false _ (Kd.C_below HYC2.out HS621_.out.below) HYD2.out (Kd.C_below HYC3.out HS621_.out.below) HYD3.out HBL.out).mono ?_; rintro e_ w626_ ⟨rfl, hb_⟩; have HS627_ := Aside0.mk (HS621_.out.call hb_); clear hb_; clear c622_ c623_ c624_ c625_ HS621_))
       go_roundw
       case rel => exact ⟨i + 1, by first | rw [HW.out] | rfl, ⟨by have := HXE.out; omega⟩, HX4, ⟨(HS627_.out).drop 0 rfl⟩⟩
       case measure => simp only [intOf]; (try rw [HW.out]); have := HXE.out; omega
      ·obtain rfl := Option.some.inj HE3.out
       go_wp2_with (first | ((with_reducible refine bG (N := 9) rfl ?_); (try (refine bD (by rfl) ?_; dsimp only)); refine bE ?hg (N := 9) ?hd (cs := #[.int .i64 0, .int .i64 0, .slice none 0 0, .slice none 0 0]) (t := 31) ?hr ?_; (case hd => rfl); (case hg => rfl); (case hr => first | (go_simp; done) | (go_simp; rfl)); intro gy hg_ w610_ hx_ hb_; have HS611_ := Aside0.mk (HSr.out.box hg_ hx_ hb_); have c612_ : w610_.cell? ⟨gy, 0, none⟩ = some (.int .i64 0) := (HS611_.out.cell 0 rfl 0).trans rfl; have c613_ : w610_.cell? ⟨gy, 1, none⟩ = some (.int .i64 0) := (HS611_.out.cell 0 rfl 1).trans rfl; have c614_ : w610_.cell? ⟨gy, 2, none⟩ = some (.slice none 0 0) := (HS611_.out.cell 0 rfl 2).trans rfl; have c615_ : w610_.cell? ⟨gy, 3, none⟩ = some (.slice none 0 0) := (HS611_.out.cell 0 rfl 3).trans rfl; have f616_ : w610_.frozen? ⟨gy, 0, none⟩ = false := HS611_.out.frz 0 rfl 0; have f617_ : w610_.frozen? ⟨gy, 1, none⟩ = false := HS611_.out.frz 0 rfl 1; have f618_ : w610_.frozen? ⟨gy, 2, none⟩ = false := HS611_.out.frz 0 rfl 2; have f619_ : w610_.frozen? ⟨gy, 3, none⟩ = false := HS611_.out.frz 0 rfl 3; have hbx_ := hb_; replace hy0 := (hbx_.cell (World.block_lt_of_cell? _ _ hy0)).trans hy0; replace hy1 := (hbx_.cell (World.block_lt_of_cell? _ _ hy1)).trans hy1; replace hy2 := (hbx_.cell (World.block_lt_of_cell? _ _ hy2)).trans hy2; replace hy3 := (hbx_.cell (World.block_lt_of_cell? _ _ hy3)).trans hy3; clear hbx_; clear hg_ hx_ hb_  HSr) | ((with_reducible refine bH (t := 31) (p := 9) rfl ?_); refine bF (t := 31) (p := 9) (v := .tmp 130) (w1 := ((((w610_.setCell ⟨gy, 0, none⟩ (.int .i64 y.f0)).setCell ⟨gy, 1, none⟩ (.int .i64 y.f1)).setCell ⟨gy, 2, none⟩ (.slice Y2 y.f2.length d2)).setCell ⟨gy, 3, none⟩ (.slice Y3 y.f3.length d3))) ?hg ?ho ?hn ?hr ?_; (case ho => rfl); (case hg => rfl); (case hn => rfl); (case hr => first | (go_simp; done) | (go_simp; rfl)); intro w620_ hw_; have HS621_ : Aside0 (St w w620_ ((blkA gy #[.int .i64 y.f0, .int .i64 y.f1, .slice Y2 y.f2.length d2, .slice Y3 y.f3.length d3] 31) :: (rowA w.heap.size (Kd.raw 4) 31 (.slice (some ady) xe.length c609_) xe) :: (blkA gt #[.int .i64 a0_0, .int .i64 a0_1, .int .i64 a0_2, .slice A0_3 l0_3.length c0_3, .slice A0_4 l0_4.length c0_4, .int .i64 a0_5, .int .i64 a0_6, .slice A0_7 l0_7.length c0_7, .slice A0_8 l0_8.length c0_8, .int .i64 a0_9, .int .i64 a0_10, .slice A0_11 l0_11.length c0_11, .slice A0_12 l0_12.length c0_12] 123) :: [])) := ⟨by rw [hw_]; exact ((((HS611_.out.put 0 rfl 0 (.int .i64 y.f0) rfl).put 0 rfl 1 (.int .i64 y.f1) rfl).put 0 rfl 2 (.slice Y2 y.f2.length d2) rfl).put 0 rfl 3 (.slice Y3 y.f3.length d3) rfl)⟩; have c622_ : w620_.cell? ⟨gy, 0, none⟩ = some (.int .i64 y.f0) := (HS621_.out.cell 0 rfl 0).trans rfl; have c623_ : w620_.cell? ⟨gy, 1, none⟩ = some (.int .i64 y.f1) := (HS621_.out.cell 0 rfl 1).trans rfl; have c624_ : w620_.cell? ⟨gy, 2, none⟩ = some (.slice Y2 y.f2.length d2) := (HS621_.out.cell 0 rfl 2).trans rfl; have c625_ : w620_.cell? ⟨gy, 3, none⟩ = some (.slice Y3 y.f3.length d3) := (HS621_.out.cell 0 rfl 3).trans rfl; clear hw_ c612_ c613_ c614_ c615_ f616_ f617_ f618_ f619_ HS611_ hy0 hy1 hy2 hy3) | (go_at_call 117; refine (backstitchref3_exitLarge.calls k y.f0 y.f1 Y2 d2 y.f2 Y3 d3 y.f3 true _ (Kd.C_below HYC2.out HS621_.out.below) HYD2.out (Kd.C_below HYC3.out HS621_.out.below) HYD3.out HBL.out).mono ?_; rintro e_ w626_ ⟨rfl, hb_⟩; have HS627_ := Aside0.mk (HS621_.out.call hb_); clear hb_; clear c622_ c623_ c624_ c625_ HS621_))
       go_ret
       exact ⟨rfl, HS627_.out.below⟩
    have ht : decide (i < (l0_4.length : Int)) = true := decide_eq_true hlt
    have HW := Aside0.mk (show wrap64 (i + 1) = i + 1 by have := HLEN.out; unfold wrap64; omega)
    have hx := HX.out
    rw [backstitchref3_TraceFault.drop l0_4 i hi0 hlt, backstitchref3_TraceFault.exs] at hx
    obtain ⟨e1, hx1, hx2⟩ := Option.bind_eq_some_iff.1 hx
    obtain ⟨b2, hb2_, hx3⟩ := Option.bind_eq_some_iff.1 hx1
    unfold backstitchref3_TraceFault.may at hb2_
    obtain ⟨v, hv_, hb2n⟩ := Option.bind_eq_some_iff.1 hb2_
    obtain ⟨ady, Y2, d2, Y3, d3, e, hy0, hy1, hy2, hy3, hd2, hC2, hd3, hC3⟩ := at_T31 HR4.out i hi0 hlt
    cases e
    generalize rd_T31 l0_4 i = y at *
    replace hy0 := (HSr.out.below.cell (World.block_lt_of_cell? w _ hy0)).trans hy0
    replace hy1 := (HSr.out.below.cell (World.block_lt_of_cell? w _ hy1)).trans hy1
    replace hy2 := (HSr.out.below.cell (World.block_lt_of_cell? w _ hy2)).trans hy2
    replace hy3 := (HSr.out.below.cell (World.block_lt_of_cell? w _ hy3)).trans hy3
    have HQ2 := Aside0.mk hv_
    have HB2 := Aside0.mk hb2n
    have HE3 := Aside0.mk hx2
    have HE4 := Aside0.mk hx3
    have HYC2 := Aside0.mk hC2
    have HYC3 := Aside0.mk hC3
    have HYD2 := Aside0.mk hd2
    have HYD3 := Aside0.mk hd3
    clear hC2 hC3 hd2 hd3
    clear hx hx1 hx2 hx3 hv_ hb2_ hb2n HX
    go_wp2_with (first | ((with_reducible refine bG (N := 7) rfl ?_); (try (refine bD (by rfl) ?_; dsimp only)); refine bE ?hg (N := 7) ?hd (cs := #[.int .i64 0, .int .i64 0, .slice none 0 0, .slice none 0 0]) (t := 31) ?hr ?_; (case hd => rfl); (case hg => rfl); (case hr => first | (go_simp; done) | (go_simp; rfl)); intro gy hg_ w577_ hx_ hb_; have HS578_ := Aside0.mk (HSr.out.box hg_ hx_ hb_); have c579_ : w577_.cell? ⟨gy, 0, none⟩ = some (.int .i64 0) := (HS578_.out.cell 0 rfl 0).trans rfl; have c580_ : w577_.cell? ⟨gy, 1, none⟩ = some (.int .i64 0) := (HS578_.out.cell 0 rfl 1).trans rfl; have c581_ : w577_.cell? ⟨gy, 2, none⟩ = some (.slice none 0 0) := (HS578_.out.cell 0 rfl 2).trans rfl; have c582_ : w577_.cell? ⟨gy, 3, none⟩ = some (.slice none 0 0) := (HS578_.out.cell 0 rfl 3).trans rfl; have f583_ : w577_.frozen? ⟨gy, 0, none⟩ = false := HS578_.out.frz 0 rfl 0; have f584_ : w577_.frozen? ⟨gy, 1, none⟩ = false := HS578_.out.frz 0 rfl 1; have f585_ : w577_.frozen? ⟨gy, 2, none⟩ = false := HS578_.out.frz 0 rfl 2; have f586_ : w577_.frozen? ⟨gy, 3, none⟩ = false := HS578_.out.frz 0 rfl 3; have hbx_ := hb_; replace hy0 := (hbx_.cell (World.block_lt_of_cell? _ _ hy0)).trans hy0; replace hy1 := (hbx_.cell (World.block_lt_of_cell? _ _ hy1)).trans hy1; replace hy2 := (hbx_.cell (World.block_lt_of_cell? _ _ hy2)).trans hy2; replace hy3 := (hbx_.cell (World.block_lt_of_cell? _ _ hy3)).trans hy3; clear hbx_; clear hg_ hx_ hb_  HSr) | ((with_reducible refine bH (t := 31) (p := 7) rfl ?_); refine bF (t := 31) (p := 7) (v := .tmp 110) (w1 := ((((w577_.setCell ⟨gy, 0, none⟩ (.int .i64 y.f0)).setCell ⟨gy, 1, none⟩ (.int .i64 y.f1)).setCell ⟨gy, 2, none⟩ (.slice Y2 y.f2.length d2)).setCell ⟨gy, 3, none⟩ (.slice Y3 y.f3.length d3))) ?hg ?ho ?hn ?hr ?_; (case ho => rfl); (case hg => rfl); (case hn => rfl); (case hr => first | (go_simp; done) | (go_simp; rfl)); intro w587_ hw_; have HS588_ : Aside0 (St w w587_ ((blkA gy #[.int .i64 y.f0, .int .i64 y.f1, .slice Y2 y.f2.length d2, .slice Y3 y.f3.length d3] 31) :: (blkA gt #[.int .i64 a0_0, .int .i64 a0_1, .int .i64 a0_2, .slice A0_3 l0_3.length c0_3, .slice (some ady) l0_4.length c0_4, .int .i64 a0_5, .int .i64 a0_6, .slice A0_7 l0_7.length c0_7, .slice A0_8 l0_8.length c0_8, .int .i64 a0_9, .int .i64 a0_10, .slice A0_11 l0_11.length c0_11, .slice A0_12 l0_12.length c0_12] 123) :: [])) := ⟨by rw [hw_]; exact ((((HS578_.out.put 0 rfl 0 (.int .i64 y.f0) rfl).put 0 rfl 1 (.int .i64 y.f1) rfl).put 0 rfl 2 (.slice Y2 y.f2.length d2) rfl).put 0 rfl 3 (.slice Y3 y.f3.length d3) rfl)⟩; clear hw_ c579_ c580_ c581_ c582_ f583_ f584_ f585_ f586_ HS578_ hy0 hy1 hy2 hy3))
    refine st_ (fun w' => St w w' ((blkA gy #[.int .i64 y.f0, .int .i64 y.f1, .slice Y2 y.f2.length d2, .slice Y3 y.f3.length d3] 31) :: (blkA gt #[.int .i64 a0_0, .int .i64 a0_1, .int .i64 a0_2, .slice A0_3 l0_3.length c0_3, .slice (some ady) l0_4.length c0_4, .int .i64 a0_5, .int .i64 a0_6, .slice A0_7 l0_7.length c0_7, .slice A0_8 l0_8.length c0_8, .int .i64 a0_9, .int .i64 a0_10, .slice A0_11 l0_11.length c0_11, .slice A0_12 l0_12.length c0_12] 123) :: [])) backstitchref3_TraceFault.tab21 backstitchref3_TraceFault.bits21 HS588_.out.drew (fun HT_ HW_ hHeld => ?_)
    clear HS588_
    generalize w587_.drew = w589_ at hHeld ⊢
    have HS590_ := Aside0.mk (show St w w589_ ((blkA gy #[.int .i64 y.f0, .int .i64 y.f1, .slice Y2 y.f2.length d2, .slice Y3 y.f3.length d3] 31) :: (blkA gt #[.int .i64 a0_0, .int .i64 a0_1, .int .i64 a0_2, .slice A0_3 l0_3.length c0_3, .slice (some ady) l0_4.length c0_4, .int .i64 a0_5, .int .i64 a0_6, .slice A0_7 l0_7.length c0_7, .slice A0_8 l0_8.length c0_8, .int .i64 a0_9, .int .i64 a0_10, .slice A0_11 l0_11.length c0_11, .slice A0_12 l0_12.length c0_12] 123) :: []) from hHeld)
    refine pu_ (v := ?_) (a' := ?_) HT_.out 3 (some 114) ?_ ?_ ?_; rotate_left 2; (intro w'; go_simp; with_reducible rfl); (simp only [hW, hT, hU, hV, bB, bC]; rfl)
    refine tk_ (v := ?_) (a' := ?_) HT_.out HW_.out hHeld 0 (some 111) ?_ ?_ ?_; rotate_left 2; (intro w' hS; have s0 : w'.cell? ⟨gt, 0, none⟩ = some _ := hS.cell 1 rfl 0; have s1 : w'.cell? ⟨gt, 1, none⟩ = some _ := hS.cell 1 rfl 1; have s2 : w'.cell? ⟨gt, 2, none⟩ = some _ := hS.cell 1 rfl 2; have s3 : w'.cell? ⟨gt, 3, none⟩ = some _ := hS.cell 1 rfl 3; have s4 : w'.cell? ⟨gt, 4, none⟩ = some _ := hS.cell 1 rfl 4; have s5 : w'.cell? ⟨gt, 5, none⟩ = some _ := hS.cell 1 rfl 5; have s6 : w'.cell? ⟨gt, 6, none⟩ = some _ := hS.cell 1 rfl 6; have s7 : w'.cell? ⟨gt, 7, none⟩ = some _ := hS.cell 1 rfl 7; have s8 : w'.cell? ⟨gt, 8, none⟩ = some _ := hS.cell 1 rfl 8; have s9 : w'.cell? ⟨gt, 9, none⟩ = some _ := hS.cell 1 rfl 9; have s10 : w'.cell? ⟨gt, 10, none⟩ = some _ := hS.cell 1 rfl 10; have s11 : w'.cell? ⟨gt, 11, none⟩ = some _ := hS.cell 1 rfl 11; have s12 : w'.cell? ⟨gt, 12, none⟩ = some _ := hS.cell 1 rfl 12; go_simp; with_reducible rfl); (simp only [hW, hT, hU, hV, bB, bC]; rfl)
    refine tk_ (v := ?_) (a' := ?_) HT_.out HW_.out hHeld 1 (some 112) ?_ ?_ ?_; rotate_left 2; (intro w' hS; have s0 : w'.cell? ⟨gy, 0, none⟩ = some _ := hS.cell 0 rfl 0; have s1 : w'.cell? ⟨gy, 1, none⟩ = some _ := hS.cell 0 rfl 1; have s2 : w'.cell? ⟨gy, 2, none⟩ = some _ := hS.cell 0 rfl 2; have s3 : w'.cell? ⟨gy, 3, none⟩ = some _ := hS.cell 0 rfl 3; go_simp; with_reducible rfl); (simp only [hW, hT, hU, hV, bB, bC]; rfl)
    refine on_ HT_.out 2 (some 113) (fun K hK => ?_)
    refine bJ Try.func116 (by kernel_rfl) rfl #[.agg #[.int .i64 y.f0, .int .i64 y.f1, .slice Y2 y.f2.length d2, .slice Y3 y.f3.length d3]] (by rfl) rfl rfl (by simp only [List.map_toArray, List.map_cons, List.map_nil]; rfl) ?_
    with_reducible refine (backstitchref3_Values.calls k y.f0 y.f1 Y2 d2 y.f2 Y3 d3 y.f3 v _ (Kd.C_below HYC2.out HS590_.out.below) HYD2.out (Kd.C_below HYC3.out HS590_.out.below) HYD3.out HQ2.out).mono ?_
    rintro e_ w591_ ⟨v4, rfl, ho_, hb_⟩
    refine ⟨_, rfl, ?_⟩
    have HS592_ := Aside0.mk (HS590_.out.call hb_)
    have HV := Aside0.mk ho_
    obtain ⟨A4, c4, rfl⟩ := Kd.R_slice HV.out
    clear ho_
    clear hb_ HS590_ hHeld
    refine hK.out _ _ HS592_.out (fun hHeld => ?_)
    clear hK K
    refine bI (a' := ?_) ?_ ?_; rotate_left; (show hW _ (some 113) _ = _; simp only [hW, hT, hU, hV, bB, bC]; rfl)
    refine on_ HT_.out 4 (some 115) (fun K hK => ?_)
    refine bJ Try.func114 (by kernel_rfl) rfl #[.agg #[.int .i64 a0_0, .int .i64 a0_1, .int .i64 a0_2, .slice A0_3 l0_3.length c0_3, .slice (some ady) l0_4.length c0_4, .int .i64 a0_5, .int .i64 a0_6, .slice A0_7 l0_7.length c0_7, .slice A0_8 l0_8.length c0_8, .int .i64 a0_9, .int .i64 a0_10, .slice A0_11 l0_11.length c0_11, .slice A0_12 l0_12.length c0_12], .slice A4 v.length c4, .int .i64 (l0_3.length : Int)] (by rfl) rfl rfl (by simp only [List.map_toArray, List.map_cons, List.map_nil]; rfl) ?_
    with_reducible refine (backstitchref3_valuesMay.calls k a0_0 a0_1 a0_2 A0_3 c0_3 l0_3 (some ady) c0_4 l0_4 a0_5 a0_6 A0_7 c0_7 l0_7 A0_8 c0_8 l0_8 a0_9 a0_10 A0_11 c0_11 l0_11 A0_12 c0_12 l0_12 A4 c4 v (l0_3.length : Int) b2 _ (Kd.C_below HR3.out HS592_.out.below) HC3.out (Kd.C_below HR4.out HS592_.out.below) HC4.out (Kd.C_below HR7.out HS592_.out.below) HC7.out (Kd.C_below HR8.out HS592_.out.below) HC8.out (Kd.C_below HR11.out HS592_.out.below) HC11.out (Kd.C_below HR12.out HS592_.out.below) HC12.out (Kd.R_reads' HV.out).2.2 (Kd.R_reads' HV.out).2.1 HB2.out).mono ?_
    rintro e_ w593_ ⟨rfl, hb_⟩
    refine ⟨_, rfl, ?_⟩
    have HS594_ := Aside0.mk (HS592_.out.call hb_)
    clear hb_ HS592_ hHeld
    refine hK.out _ _ HS594_.out (fun hHeld => ?_)
    clear hK K
    refine bI (a' := ?_) ?_ ?_; rotate_left; (show hW _ (some 115) _ = _; simp only [hW, hT, hU, hV, bB, bC]; rfl)
    refine pu_ (v := ?_) (a' := ?_) HT_.out 5 (some 116) ?_ ?_ ?_; rotate_left 2; (intro w'; go_simp; with_reducible rfl); (simp only [hW, hT, hU, hV, bB, bC]; rfl)
    refine dn_ HT_.out ?_
    clear hHeld HT_ HW_
    have hx2 := HE3.out
    have hx3 := HE4.out
    rcases b2 with _ | _
    ·obtain rfl := Option.some.inj hx3
     obtain rfl := Option.some.inj hx2
     go_wp2
     go_ret
     exact ⟨rfl, HS594_.out.below⟩
    ·rw [if_pos rfl] at hx3
     have HX4 := Aside0.mk (show (backstitchref3_TraceFault.exs k a0_0 a0_1 a0_2 l0_3 l0_4 a0_5 a0_6 l0_7 l0_8 a0_9 a0_10 l0_11 l0_12 (l0_4.drop (i + 1).toNat)).bind (fun e => if e = 0 then backstitchref3_TraceFault.lrg k ((⟨a0_5, a0_6, l0_7, l0_8⟩ : S31) :: (⟨a0_9, a0_10, l0_11, l0_12⟩ : S31) :: l0_4) else some e) = some r by rw [hx3]; exact hx2)
     clear hx2 hx3
     go_wp2
     go_roundw
     case rel => exact ⟨i + 1, by first | rw [HW.out] | rfl, ⟨by omega⟩, HX4, ⟨(HS594_.out).drop 0 rfl⟩⟩
     case measure => simp only [intOf]; (try rw [HW.out]); omega
  have hg1 : decide (0 < a0_2) = true := decide_eq_true hl0
  have hg2 : decide (a0_2 > 0) = true := decide_eq_true hl0
  rw [if_pos hl0] at he0
  obtain ⟨bt, hbt, he1⟩ := Option.bind_eq_some_iff.1 he0
  unfold backstitchref3_TraceFault.may at hbt
  obtain ⟨vt, hvt, hbt⟩ := Option.bind_eq_some_iff.1 hbt
  have HQT := Aside0.mk hvt
  clear hl0 he0 hvt
  rcases bt with _ | _
  ·have HBT := Aside0.mk hbt
   obtain rfl := Option.some.inj he1
   obtain rfl := HO.out (by decide)
   clear he1 hbt
   go_wp2
   refine st_ (fun w' => St w w' ((blkA gt #[.int .i64 a0_0, .int .i64 a0_1, .int .i64 a0_2, .slice A0_3 l0_3.length c0_3, .slice A0_4 l0_4.length c0_4, .int .i64 a0_5, .int .i64 a0_6, .slice A0_7 l0_7.length c0_7, .slice A0_8 l0_8.length c0_8, .int .i64 a0_9, .int .i64 a0_10, .slice A0_11 l0_11.length c0_11, .slice A0_12 l0_12.length c0_12] 123) :: [])) backstitchref3_TraceFault.tab16 backstitchref3_TraceFault.bits16 HSr.out.drew (fun HT_ HW_ hHeld => ?_)
   clear HSr
   generalize wr.drew = w555_ at hHeld ⊢
   have HS556_ := Aside0.mk (show St w w555_ ((blkA gt #[.int .i64 a0_0, .int .i64 a0_1, .int .i64 a0_2, .slice A0_3 l0_3.length c0_3, .slice A0_4 l0_4.length c0_4, .int .i64 a0_5, .int .i64 a0_6, .slice A0_7 l0_7.length c0_7, .slice A0_8 l0_8.length c0_8, .int .i64 a0_9, .int .i64 a0_10, .slice A0_11 l0_11.length c0_11, .slice A0_12 l0_12.length c0_12] 123) :: []) from hHeld)
   refine pu_ (v := ?_) (a' := ?_) HT_.out 0 (some 82) ?_ ?_ ?_; rotate_left 2; (intro w'; go_simp; with_reducible rfl); (simp only [hW, hT, hU, hV, bB, bC]; rfl)
   refine tk_ (v := ?_) (a' := ?_) HT_.out HW_.out hHeld 1 (some 83) ?_ ?_ ?_; rotate_left 2; (intro w' hS; have s0 : w'.cell? ⟨gt, 2, none⟩ = some _ := hS.cell 0 rfl 2; go_simp; with_reducible rfl); (simp only [hW, hT, hU, hV, bB, bC]; rfl)
   refine pu_ (v := ?_) (a' := ?_) HT_.out 2 (some 84) ?_ ?_ ?_; rotate_left 2; (intro w'; go_simp; with_reducible rfl); (simp only [hW, hT, hU, hV, bB, bC]; rfl)
   refine pu_ (v := ?_) (a' := ?_) HT_.out 3 (some 85) ?_ ?_ ?_; rotate_left 2; (intro w'; go_simp; with_reducible rfl); (simp only [hW, hT, hU, hV, bB, bC]; rfl)
   refine pu_ (v := ?_) (a' := ?_) HT_.out 5 (some 87) ?_ ?_ ?_; rotate_left 2; (intro w'; go_simp; with_reducible rfl); (simp only [hW, hT, hU, hV, bB, bC]; rfl)
   refine pu_ (v := ?_) (a' := ?_) HT_.out 8 (some 90) ?_ ?_ ?_; rotate_left 2; (intro w'; go_simp; with_reducible rfl); (simp only [hW, hT, hU, hV, bB, bC]; rfl)
   refine tk_ (v := ?_) (a' := ?_) HT_.out HW_.out hHeld 4 (some 86) ?_ ?_ ?_; rotate_left 2; (intro w' hS; have s0 : w'.cell? ⟨gt, 0, none⟩ = some _ := hS.cell 0 rfl 0; have s1 : w'.cell? ⟨gt, 1, none⟩ = some _ := hS.cell 0 rfl 1; have s2 : w'.cell? ⟨gt, 2, none⟩ = some _ := hS.cell 0 rfl 2; have s3 : w'.cell? ⟨gt, 3, none⟩ = some _ := hS.cell 0 rfl 3; have s4 : w'.cell? ⟨gt, 4, none⟩ = some _ := hS.cell 0 rfl 4; have s5 : w'.cell? ⟨gt, 5, none⟩ = some _ := hS.cell 0 rfl 5; have s6 : w'.cell? ⟨gt, 6, none⟩ = some _ := hS.cell 0 rfl 6; have s7 : w'.cell? ⟨gt, 7, none⟩ = some _ := hS.cell 0 rfl 7; have s8 : w'.cell? ⟨gt, 8, none⟩ = some _ := hS.cell 0 rfl 8; have s9 : w'.cell? ⟨gt, 9, none⟩ = some _ := hS.cell 0 rfl 9; have s10 : w'.cell? ⟨gt, 10, none⟩ = some _ := hS.cell 0 rfl 10; have s11 : w'.cell? ⟨gt, 11, none⟩ = some _ := hS.cell 0 rfl 11; have s12 : w'.cell? ⟨gt, 12, none⟩ = some _ := hS.cell 0 rfl 12; go_simp; with_reducible rfl); (simp only [hW, hT, hU, hV, bB, bC]; rfl)
   refine tk_ (v := ?_) (a' := ?_) HT_.out HW_.out hHeld 6 (some 88) ?_ ?_ ?_; rotate_left 2; (intro w' hS; have s0 : w'.cell? ⟨gt, 5, none⟩ = some _ := hS.cell 0 rfl 5; have s1 : w'.cell? ⟨gt, 6, none⟩ = some _ := hS.cell 0 rfl 6; have s2 : w'.cell? ⟨gt, 7, none⟩ = some _ := hS.cell 0 rfl 7; have s3 : w'.cell? ⟨gt, 8, none⟩ = some _ := hS.cell 0 rfl 8; go_simp; with_reducible rfl); (simp only [hW, hT, hU, hV, bB, bC]; rfl)
   refine tk_ (v := ?_) (a' := ?_) HT_.out HW_.out hHeld 9 (some 91) ?_ ?_ ?_; rotate_left 2; (intro w' hS; have s0 : w'.cell? ⟨gt, 2, none⟩ = some _ := hS.cell 0 rfl 2; go_simp; with_reducible rfl); (simp only [hW, hT, hU, hV, bB, bC]; rfl)
   refine on_ HT_.out 7 (some 89) (fun K hK => ?_)
   refine bJ Try.func116 (by kernel_rfl) rfl #[.agg #[.int .i64 a0_5, .int .i64 a0_6, .slice A0_7 l0_7.length c0_7, .slice A0_8 l0_8.length c0_8]] (by rfl) rfl rfl (by simp only [List.map_toArray, List.map_cons, List.map_nil]; rfl) ?_
   with_reducible refine (backstitchref3_Values.calls k a0_5 a0_6 A0_7 c0_7 l0_7 A0_8 c0_8 l0_8 vt _ (Kd.C_below HR7.out HS556_.out.below) HC7.out (Kd.C_below HR8.out HS556_.out.below) HC8.out HQT.out).mono ?_
   rintro e_ w557_ ⟨v4, rfl, ho_, hb_⟩
   refine ⟨_, rfl, ?_⟩
   have HS558_ := Aside0.mk (HS556_.out.call hb_)
   have HV := Aside0.mk ho_
   obtain ⟨A4, c4, rfl⟩ := Kd.R_slice HV.out
   clear ho_
   clear hb_ HS556_ hHeld
   refine hK.out _ _ HS558_.out (fun hHeld => ?_)
   clear hK K
   refine bI (a' := ?_) ?_ ?_; rotate_left; (show hW _ (some 89) _ = _; simp only [hW, hT, hU, hV, bB, bC]; rfl)
   refine on_ HT_.out 10 (some 92) (fun K hK => ?_)
   refine bJ Try.func114 (by kernel_rfl) rfl #[.agg #[.int .i64 a0_0, .int .i64 a0_1, .int .i64 a0_2, .slice A0_3 l0_3.length c0_3, .slice A0_4 l0_4.length c0_4, .int .i64 a0_5, .int .i64 a0_6, .slice A0_7 l0_7.length c0_7, .slice A0_8 l0_8.length c0_8, .int .i64 a0_9, .int .i64 a0_10, .slice A0_11 l0_11.length c0_11, .slice A0_12 l0_12.length c0_12], .slice A4 vt.length c4, .int .i64 a0_2] (by rfl) rfl rfl (by simp only [List.map_toArray, List.map_cons, List.map_nil]; rfl) ?_
   with_reducible refine (backstitchref3_valuesMay.calls k a0_0 a0_1 a0_2 A0_3 c0_3 l0_3 A0_4 c0_4 l0_4 a0_5 a0_6 A0_7 c0_7 l0_7 A0_8 c0_8 l0_8 a0_9 a0_10 A0_11 c0_11 l0_11 A0_12 c0_12 l0_12 A4 c4 vt a0_2 false _ (Kd.C_below HR3.out HS558_.out.below) HC3.out (Kd.C_below HR4.out HS558_.out.below) HC4.out (Kd.C_below HR7.out HS558_.out.below) HC7.out (Kd.C_below HR8.out HS558_.out.below) HC8.out (Kd.C_below HR11.out HS558_.out.below) HC11.out (Kd.C_below HR12.out HS558_.out.below) HC12.out (Kd.R_reads' HV.out).2.2 (Kd.R_reads' HV.out).2.1 HBT.out).mono ?_
   rintro e_ w559_ ⟨rfl, hb_⟩
   refine ⟨_, rfl, ?_⟩
   have HS560_ := Aside0.mk (HS558_.out.call hb_)
   clear hb_ HS558_ hHeld
   refine hK.out _ _ HS560_.out (fun hHeld => ?_)
   clear hK K
   refine bI (a' := ?_) ?_ ?_; rotate_left; (show hW _ (some 92) _ = _; simp only [hW, hT, hU, hV, bB, bC]; rfl)
   refine pu_ (v := ?_) (a' := ?_) HT_.out 11 (some 93) ?_ ?_ ?_; rotate_left 2; (intro w'; go_simp; with_reducible rfl); (simp only [hW, hT, hU, hV, bB, bC]; rfl)
   refine pu_ (v := ?_) (a' := ?_) HT_.out 12 (some 94) ?_ ?_ ?_; rotate_left 2; (intro w'; go_simp; with_reducible rfl); (simp only [hW, hT, hU, hV, bB, bC]; rfl)
   refine pu_ (v := ?_) (a' := ?_) HT_.out 13 (some 95) ?_ ?_ ?_; rotate_left 2; (intro w'; go_simp; with_reducible rfl); (simp only [hW, hT, hU, hV, bB, bC]; rfl)
   refine un_ (a' := ?_) HT_.out 14 (some 96) ?_ ?_; rotate_left; (simp only [hW, hT, hU, hV, bB, bC]; rfl)
   refine un_ (a' := ?_) HT_.out 15 (some 97) ?_ ?_; rotate_left; (simp only [hW, hT, hU, hV, bB, bC]; rfl)
   refine un_ (a' := ?_) HT_.out 16 (some 98) ?_ ?_; rotate_left; (simp only [hW, hT, hU, hV, bB, bC]; rfl)
   refine un_ (a' := ?_) HT_.out 17 (some 99) ?_ ?_; rotate_left; (simp only [hW, hT, hU, hV, bB, bC]; rfl)
   refine un_ (a' := ?_) HT_.out 18 (some 100) ?_ ?_; rotate_left; (simp only [hW, hT, hU, hV, bB, bC]; rfl)
   refine un_ (a' := ?_) HT_.out 19 (some 101) ?_ ?_; rotate_left; (simp only [hW, hT, hU, hV, bB, bC]; rfl)
   refine un_ (a' := ?_) HT_.out 20 (some 102) ?_ ?_; rotate_left; (simp only [hW, hT, hU, hV, bB, bC]; rfl)
   refine pu_ (v := ?_) (a' := ?_) HT_.out 21 (some 103) ?_ ?_ ?_; rotate_left 2; (intro w'; go_simp; with_reducible rfl); (simp only [hW, hT, hU, hV, bB, bC]; rfl)
   refine dn_ HT_.out ?_
   clear hHeld HT_ HW_
   go_wp2
   go_ret
   exact ⟨rfl, HS560_.out.below⟩
  ·have HBT := Aside0.mk hbt
   rw [if_pos rfl] at he1
   unfold backstitchref3_TraceFault.one3 backstitchref3_TraceFault.may at he1
   obtain ⟨bb, hbb, he2⟩ := Option.bind_eq_some_iff.1 he1
   obtain ⟨vb, hvb, hbb⟩ := Option.bind_eq_some_iff.1 hbb
   have HQB := Aside0.mk hvb
   have HBB := Aside0.mk hbb
   have HE2 := Aside0.mk he2
   clear he1 hbt he2 hbb hvb
   go_wp2
   refine st_ (fun w' => St w w' ((blkA gt #[.int .i64 a0_0, .int .i64 a0_1, .int .i64 a0_2, .slice A0_3 l0_3.length c0_3, .slice A0_4 l0_4.length c0_4, .int .i64 a0_5, .int .i64 a0_6, .slice A0_7 l0_7.length c0_7, .slice A0_8 l0_8.length c0_8, .int .i64 a0_9, .int .i64 a0_10, .slice A0_11 l0_11.length c0_11, .slice A0_12 l0_12.length c0_12] 123) :: [])) backstitchref3_TraceFault.tab16 backstitchref3_TraceFault.bits16 HSr.out.drew (fun HT_ HW_ hHeld => ?_)
   clear HSr
   generalize wr.drew = w561_ at hHeld ⊢
   have HS562_ := Aside0.mk (show St w w561_ ((blkA gt #[.int .i64 a0_0, .int .i64 a0_1, .int .i64 a0_2, .slice A0_3 l0_3.length c0_3, .slice A0_4 l0_4.length c0_4, .int .i64 a0_5, .int .i64 a0_6, .slice A0_7 l0_7.length c0_7, .slice A0_8 l0_8.length c0_8, .int .i64 a0_9, .int .i64 a0_10, .slice A0_11 l0_11.length c0_11, .slice A0_12 l0_12.length c0_12] 123) :: []) from hHeld)
   refine pu_ (v := ?_) (a' := ?_) HT_.out 0 (some 82) ?_ ?_ ?_; rotate_left 2; (intro w'; go_simp; with_reducible rfl); (simp only [hW, hT, hU, hV, bB, bC]; rfl)
   refine tk_ (v := ?_) (a' := ?_) HT_.out HW_.out hHeld 1 (some 83) ?_ ?_ ?_; rotate_left 2; (intro w' hS; have s0 : w'.cell? ⟨gt, 2, none⟩ = some _ := hS.cell 0 rfl 2; go_simp; with_reducible rfl); (simp only [hW, hT, hU, hV, bB, bC]; rfl)
   refine pu_ (v := ?_) (a' := ?_) HT_.out 2 (some 84) ?_ ?_ ?_; rotate_left 2; (intro w'; go_simp; with_reducible rfl); (simp only [hW, hT, hU, hV, bB, bC]; rfl)
   refine pu_ (v := ?_) (a' := ?_) HT_.out 3 (some 85) ?_ ?_ ?_; rotate_left 2; (intro w'; go_simp; with_reducible rfl); (simp only [hW, hT, hU, hV, bB, bC]; rfl)
   refine pu_ (v := ?_) (a' := ?_) HT_.out 5 (some 87) ?_ ?_ ?_; rotate_left 2; (intro w'; go_simp; with_reducible rfl); (simp only [hW, hT, hU, hV, bB, bC]; rfl)
   refine pu_ (v := ?_) (a' := ?_) HT_.out 8 (some 90) ?_ ?_ ?_; rotate_left 2; (intro w'; go_simp; with_reducible rfl); (simp only [hW, hT, hU, hV, bB, bC]; rfl)
   refine tk_ (v := ?_) (a' := ?_) HT_.out HW_.out hHeld 4 (some 86) ?_ ?_ ?_; rotate_left 2; (intro w' hS; have s0 : w'.cell? ⟨gt, 0, none⟩ = some _ := hS.cell 0 rfl 0; have s1 : w'.cell? ⟨gt, 1, none⟩ = some _ := hS.cell 0 rfl 1; have s2 : w'.cell? ⟨gt, 2, none⟩ = some _ := hS.cell 0 rfl 2; have s3 : w'.cell? ⟨gt, 3, none⟩ = some _ := hS.cell 0 rfl 3; have s4 : w'.cell? ⟨gt, 4, none⟩ = some _ := hS.cell 0 rfl 4; have s5 : w'.cell? ⟨gt, 5, none⟩ = some _ := hS.cell 0 rfl 5; have s6 : w'.cell? ⟨gt, 6, none⟩ = some _ := hS.cell 0 rfl 6; have s7 : w'.cell? ⟨gt, 7, none⟩ = some _ := hS.cell 0 rfl 7; have s8 : w'.cell? ⟨gt, 8, none⟩ = some _ := hS.cell 0 rfl 8; have s9 : w'.cell? ⟨gt, 9, none⟩ = some _ := hS.cell 0 rfl 9; have s10 : w'.cell? ⟨gt, 10, none⟩ = some _ := hS.cell 0 rfl 10; have s11 : w'.cell? ⟨gt, 11, none⟩ = some _ := hS.cell 0 rfl 11; have s12 : w'.cell? ⟨gt, 12, none⟩ = some _ := hS.cell 0 rfl 12; go_simp; with_reducible rfl); (simp only [hW, hT, hU, hV, bB, bC]; rfl)
   refine tk_ (v := ?_) (a' := ?_) HT_.out HW_.out hHeld 6 (some 88) ?_ ?_ ?_; rotate_left 2; (intro w' hS; have s0 : w'.cell? ⟨gt, 5, none⟩ = some _ := hS.cell 0 rfl 5; have s1 : w'.cell? ⟨gt, 6, none⟩ = some _ := hS.cell 0 rfl 6; have s2 : w'.cell? ⟨gt, 7, none⟩ = some _ := hS.cell 0 rfl 7; have s3 : w'.cell? ⟨gt, 8, none⟩ = some _ := hS.cell 0 rfl 8; go_simp; with_reducible rfl); (simp only [hW, hT, hU, hV, bB, bC]; rfl)
   refine tk_ (v := ?_) (a' := ?_) HT_.out HW_.out hHeld 9 (some 91) ?_ ?_ ?_; rotate_left 2; (intro w' hS; have s0 : w'.cell? ⟨gt, 2, none⟩ = some _ := hS.cell 0 rfl 2; go_simp; with_reducible rfl); (simp only [hW, hT, hU, hV, bB, bC]; rfl)
   refine on_ HT_.out 7 (some 89) (fun K hK => ?_)
   refine bJ Try.func116 (by kernel_rfl) rfl #[.agg #[.int .i64 a0_5, .int .i64 a0_6, .slice A0_7 l0_7.length c0_7, .slice A0_8 l0_8.length c0_8]] (by rfl) rfl rfl (by simp only [List.map_toArray, List.map_cons, List.map_nil]; rfl) ?_
   with_reducible refine (backstitchref3_Values.calls k a0_5 a0_6 A0_7 c0_7 l0_7 A0_8 c0_8 l0_8 vt _ (Kd.C_below HR7.out HS562_.out.below) HC7.out (Kd.C_below HR8.out HS562_.out.below) HC8.out HQT.out).mono ?_
   rintro e_ w563_ ⟨v4, rfl, ho_, hb_⟩
   refine ⟨_, rfl, ?_⟩
   have HS564_ := Aside0.mk (HS562_.out.call hb_)
   have HV := Aside0.mk ho_
   obtain ⟨A4, c4, rfl⟩ := Kd.R_slice HV.out
   clear ho_
   clear hb_ HS562_ hHeld
   refine hK.out _ _ HS564_.out (fun hHeld => ?_)
   clear hK K
   refine bI (a' := ?_) ?_ ?_; rotate_left; (show hW _ (some 89) _ = _; simp only [hW, hT, hU, hV, bB, bC]; rfl)
   refine on_ HT_.out 10 (some 92) (fun K hK => ?_)
   refine bJ Try.func114 (by kernel_rfl) rfl #[.agg #[.int .i64 a0_0, .int .i64 a0_1, .int .i64 a0_2, .slice A0_3 l0_3.length c0_3, .slice A0_4 l0_4.length c0_4, .int .i64 a0_5, .int .i64 a0_6, .slice A0_7 l0_7.length c0_7, .slice A0_8 l0_8.length c0_8, .int .i64 a0_9, .int .i64 a0_10, .slice A0_11 l0_11.length c0_11, .slice A0_12 l0_12.length c0_12], .slice A4 vt.length c4, .int .i64 a0_2] (by rfl) rfl rfl (by simp only [List.map_toArray, List.map_cons, List.map_nil]; rfl) ?_
   with_reducible refine (backstitchref3_valuesMay.calls k a0_0 a0_1 a0_2 A0_3 c0_3 l0_3 A0_4 c0_4 l0_4 a0_5 a0_6 A0_7 c0_7 l0_7 A0_8 c0_8 l0_8 a0_9 a0_10 A0_11 c0_11 l0_11 A0_12 c0_12 l0_12 A4 c4 vt a0_2 true _ (Kd.C_below HR3.out HS564_.out.below) HC3.out (Kd.C_below HR4.out HS564_.out.below) HC4.out (Kd.C_below HR7.out HS564_.out.below) HC7.out (Kd.C_below HR8.out HS564_.out.below) HC8.out (Kd.C_below HR11.out HS564_.out.below) HC11.out (Kd.C_below HR12.out HS564_.out.below) HC12.out (Kd.R_reads' HV.out).2.2 (Kd.R_reads' HV.out).2.1 HBT.out).mono ?_
   rintro e_ w565_ ⟨rfl, hb_⟩
   refine ⟨_, rfl, ?_⟩
   have HS566_ := Aside0.mk (HS564_.out.call hb_)
   clear hb_ HS564_ hHeld
   refine hK.out _ _ HS566_.out (fun hHeld => ?_)
   clear hK K
   refine bI (a' := ?_) ?_ ?_; rotate_left; (show hW _ (some 92) _ = _; simp only [hW, hT, hU, hV, bB, bC]; rfl)
   refine pu_ (v := ?_) (a' := ?_) HT_.out 11 (some 93) ?_ ?_ ?_; rotate_left 2; (intro w'; go_simp; with_reducible rfl); (simp only [hW, hT, hU, hV, bB, bC]; rfl)
   refine pu_ (v := ?_) (a' := ?_) HT_.out 12 (some 94) ?_ ?_ ?_; rotate_left 2; (intro w'; go_simp; with_reducible rfl); (simp only [hW, hT, hU, hV, bB, bC]; rfl)
   refine pu_ (v := ?_) (a' := ?_) HT_.out 13 (some 95) ?_ ?_ ?_; rotate_left 2; (intro w'; go_simp; with_reducible rfl); (simp only [hW, hT, hU, hV, bB, bC]; rfl)
   refine pu_ (v := ?_) (a' := ?_) HT_.out 15 (some 97) ?_ ?_ ?_; rotate_left 2; (intro w'; go_simp; with_reducible rfl); (simp only [hW, hT, hU, hV, bB, bC]; rfl)
   refine pu_ (v := ?_) (a' := ?_) HT_.out 18 (some 100) ?_ ?_ ?_; rotate_left 2; (intro w'; go_simp; with_reducible rfl); (simp only [hW, hT, hU, hV, bB, bC]; rfl)
   refine tk_ (v := ?_) (a' := ?_) HT_.out HW_.out hHeld 14 (some 96) ?_ ?_ ?_; rotate_left 2; (intro w' hS; have s0 : w'.cell? ⟨gt, 0, none⟩ = some _ := hS.cell 0 rfl 0; have s1 : w'.cell? ⟨gt, 1, none⟩ = some _ := hS.cell 0 rfl 1; have s2 : w'.cell? ⟨gt, 2, none⟩ = some _ := hS.cell 0 rfl 2; have s3 : w'.cell? ⟨gt, 3, none⟩ = some _ := hS.cell 0 rfl 3; have s4 : w'.cell? ⟨gt, 4, none⟩ = some _ := hS.cell 0 rfl 4; have s5 : w'.cell? ⟨gt, 5, none⟩ = some _ := hS.cell 0 rfl 5; have s6 : w'.cell? ⟨gt, 6, none⟩ = some _ := hS.cell 0 rfl 6; have s7 : w'.cell? ⟨gt, 7, none⟩ = some _ := hS.cell 0 rfl 7; have s8 : w'.cell? ⟨gt, 8, none⟩ = some _ := hS.cell 0 rfl 8; have s9 : w'.cell? ⟨gt, 9, none⟩ = some _ := hS.cell 0 rfl 9; have s10 : w'.cell? ⟨gt, 10, none⟩ = some _ := hS.cell 0 rfl 10; have s11 : w'.cell? ⟨gt, 11, none⟩ = some _ := hS.cell 0 rfl 11; have s12 : w'.cell? ⟨gt, 12, none⟩ = some _ := hS.cell 0 rfl 12; go_simp; with_reducible rfl); (simp only [hW, hT, hU, hV, bB, bC]; rfl)
   refine tk_ (v := ?_) (a' := ?_) HT_.out HW_.out hHeld 16 (some 98) ?_ ?_ ?_; rotate_left 2; (intro w' hS; have s0 : w'.cell? ⟨gt, 9, none⟩ = some _ := hS.cell 0 rfl 9; have s1 : w'.cell? ⟨gt, 10, none⟩ = some _ := hS.cell 0 rfl 10; have s2 : w'.cell? ⟨gt, 11, none⟩ = some _ := hS.cell 0 rfl 11; have s3 : w'.cell? ⟨gt, 12, none⟩ = some _ := hS.cell 0 rfl 12; go_simp; with_reducible rfl); (simp only [hW, hT, hU, hV, bB, bC]; rfl)
   refine on_ HT_.out 17 (some 99) (fun K hK => ?_)
   refine bJ Try.func116 (by kernel_rfl) rfl #[.agg #[.int .i64 a0_9, .int .i64 a0_10, .slice A0_11 l0_11.length c0_11, .slice A0_12 l0_12.length c0_12]] (by rfl) rfl rfl (by simp only [List.map_toArray, List.map_cons, List.map_nil]; rfl) ?_
   with_reducible refine (backstitchref3_Values.calls k a0_9 a0_10 A0_11 c0_11 l0_11 A0_12 c0_12 l0_12 vb _ (Kd.C_below HR11.out HS566_.out.below) HC11.out (Kd.C_below HR12.out HS566_.out.below) HC12.out HQB.out).mono ?_
   rintro e_ w567_ ⟨v4, rfl, ho_, hb_⟩
   refine ⟨_, rfl, ?_⟩
   have HS568_ := Aside0.mk (HS566_.out.call hb_)
   have HV := Aside0.mk ho_
   obtain ⟨A4, c4, rfl⟩ := Kd.R_slice HV.out
   clear ho_
   clear hb_ HS566_ hHeld
   refine hK.out _ _ HS568_.out (fun hHeld => ?_)
   clear hK K
   refine bI (a' := ?_) ?_ ?_; rotate_left; (show hW _ (some 99) _ = _; simp only [hW, hT, hU, hV, bB, bC]; rfl)
   refine on_ HT_.out 19 (some 101) (fun K hK => ?_)
   refine bJ Try.func114 (by kernel_rfl) rfl #[.agg #[.int .i64 a0_0, .int .i64 a0_1, .int .i64 a0_2, .slice A0_3 l0_3.length c0_3, .slice A0_4 l0_4.length c0_4, .int .i64 a0_5, .int .i64 a0_6, .slice A0_7 l0_7.length c0_7, .slice A0_8 l0_8.length c0_8, .int .i64 a0_9, .int .i64 a0_10, .slice A0_11 l0_11.length c0_11, .slice A0_12 l0_12.length c0_12], .slice A4 vb.length c4, .int .i64 (l0_3.length : Int)] (by rfl) rfl rfl (by simp only [List.map_toArray, List.map_cons, List.map_nil]; rfl) ?_
   with_reducible refine (backstitchref3_valuesMay.calls k a0_0 a0_1 a0_2 A0_3 c0_3 l0_3 A0_4 c0_4 l0_4 a0_5 a0_6 A0_7 c0_7 l0_7 A0_8 c0_8 l0_8 a0_9 a0_10 A0_11 c0_11 l0_11 A0_12 c0_12 l0_12 A4 c4 vb (l0_3.length : Int) bb _ (Kd.C_below HR3.out HS568_.out.below) HC3.out (Kd.C_below HR4.out HS568_.out.below) HC4.out (Kd.C_below HR7.out HS568_.out.below) HC7.out (Kd.C_below HR8.out HS568_.out.below) HC8.out (Kd.C_below HR11.out HS568_.out.below) HC11.out (Kd.C_below HR12.out HS568_.out.below) HC12.out (Kd.R_reads' HV.out).2.2 (Kd.R_reads' HV.out).2.1 HBB.out).mono ?_
   rintro e_ w569_ ⟨rfl, hb_⟩
   refine ⟨_, rfl, ?_⟩
   have HS570_ := Aside0.mk (HS568_.out.call hb_)
   clear hb_ HS568_ hHeld
   refine hK.out _ _ HS570_.out (fun hHeld => ?_)
   clear hK K
   refine bI (a' := ?_) ?_ ?_; rotate_left; (show hW _ (some 101) _ = _; simp only [hW, hT, hU, hV, bB, bC]; rfl)
   refine pu_ (v := ?_) (a' := ?_) HT_.out 20 (some 102) ?_ ?_ ?_; rotate_left 2; (intro w'; go_simp; with_reducible rfl); (simp only [hW, hT, hU, hV, bB, bC]; rfl)
   refine pu_ (v := ?_) (a' := ?_) HT_.out 21 (some 103) ?_ ?_ ?_; rotate_left 2; (intro w'; go_simp; with_reducible rfl); (simp only [hW, hT, hU, hV, bB, bC]; rfl)
   refine dn_ HT_.out ?_
   clear hHeld HT_ HW_
   have HSt := HS570_
   generalize w569_ = w7 at *
   clear HS570_
   have he2 := HE2.out
   rcases bb with _ | _
   ·obtain rfl := Option.some.inj he2
    obtain rfl := HO.out (by decide)
    go_wp2
    go_ret
    exact ⟨rfl, HSt.out.below⟩
   obtain rfl := Option.some.inj he2
   have hfin := HN.out rfl
   unfold backstitchref3_TraceFault.fin at hfin
   have HF := Aside0.mk hfin
   have c4t : w7.cell? ⟨gt, 4, none⟩ = some (.slice A0_4 l0_4.length c0_4) := (HSt.out.cell 0 rfl 4).trans rfl
   clear hfin he2 HN HO HE2
   go_wp2
   clear c4t
   rename World => wo
   go_loopw [107] (fun v107 wr => ∃ i : Int, v107 = .int .i64 i ∧ Aside0 (0 ≤ i ∧ i ≤ l0_4.length) ∧ Aside0 ((backstitchref3_TraceFault.exs k a0_0 a0_1 a0_2 l0_3 l0_4 a0_5 a0_6 l0_7 l0_8 a0_9 a0_10 l0_11 l0_12 (l0_4.drop i.toNat)).bind (fun e => if e = 0 then backstitchref3_TraceFault.lrg k ((⟨a0_5, a0_6, l0_7, l0_8⟩ : S31) :: (⟨a0_9, a0_10, l0_11, l0_12⟩ : S31) :: l0_4) else some e) = some r) ∧ Aside0 (St w wr ((blkA gt #[.int .i64 a0_0, .int .i64 a0_1, .int .i64 a0_2, .slice A0_3 l0_3.length c0_3, .slice A0_4 l0_4.length c0_4, .int .i64 a0_5, .int .i64 a0_6, .slice A0_7 l0_7.length c0_7, .slice A0_8 l0_8.length c0_8, .int .i64 a0_9, .int .i64 a0_10, .slice A0_11 l0_11.length c0_11, .slice A0_12 l0_12.length c0_12] 123) :: []))) (fun v107 _ => l0_4.length - (intOf v107).toNat)
   case atStart => exact ⟨0, rfl, ⟨by omega⟩, HF, HSt⟩
   case round =>
    clear HF HSt
    obtain ⟨i, rfl, Hi, HX, HSr⟩ := hrel
    have hi0 : 0 ≤ i := Hi.out.1
    by_cases hlt : i < (l0_4.length : Int)
    rotate_left
    ·have ht : decide (i < (l0_4.length : Int)) = false := decide_eq_false hlt
     have hx := HX.out
     rw [List.drop_eq_nil_of_le (by omega), backstitchref3_TraceFault.exs, Option.bind_some, if_pos rfl] at hx
     have HF := Aside0.mk hx
     clear hx HX
     have c595_ : wr.cell? ⟨gt, 4, none⟩ = some (.slice A0_4 l0_4.length c0_4) := (HSr.out.cell 0 rfl 4).trans rfl
     have c596_ : wr.cell? ⟨gt, 5, none⟩ = some (.int .i64 a0_5) := (HSr.out.cell 0 rfl 5).trans rfl
     have c597_ : wr.cell? ⟨gt, 6, none⟩ = some (.int .i64 a0_6) := (HSr.out.cell 0 rfl 6).trans rfl
     have c598_ : wr.cell? ⟨gt, 7, none⟩ = some (.slice A0_7 l0_7.length c0_7) := (HSr.out.cell 0 rfl 7).trans rfl
     have c599_ : wr.cell? ⟨gt, 8, none⟩ = some (.slice A0_8 l0_8.length c0_8) := (HSr.out.cell 0 rfl 8).trans rfl
     have c600_ : wr.cell? ⟨gt, 9, none⟩ = some (.int .i64 a0_9) := (HSr.out.cell 0 rfl 9).trans rfl
     have c601_ : wr.cell? ⟨gt, 10, none⟩ = some (.int .i64 a0_10) := (HSr.out.cell 0 rfl 10).trans rfl
     have c602_ : wr.cell? ⟨gt, 11, none⟩ = some (.slice A0_11 l0_11.length c0_11) := (HSr.out.cell 0 rfl 11).trans rfl
     have c603_ : wr.cell? ⟨gt, 12, none⟩ = some (.slice A0_12 l0_12.length c0_12) := (HSr.out.cell 0 rfl 12).trans rfl
     have c4a_ : ∀ o, (wr.alloc o).cell? ⟨gt, 4, none⟩ = some (.slice A0_4 l0_4.length c0_4) := fun o => ((HSr.out.alloc o).cell 0 rfl 4).trans rfl
     go_wp2_with (first | ((with_reducible refine bM (b := .append) (xs := #[.tmp 122, .tmp 124]) rfl ?_); (try (refine bD (by rfl) ?_; dsimp only)); at_builtin; obtain ⟨ok_, hf_, hr_, hs_⟩ := ((HSr.out.litRs 31 4 [[.int .i64 a0_5, .int .i64 a0_6, .slice A0_7 l0_7.length c0_7, .slice A0_8 l0_8.length c0_8], [.int .i64 a0_9, .int .i64 a0_10, .slice A0_11 l0_11.length c0_11, .slice A0_12 l0_12.length c0_12]] [.int .i64 a0_5, .int .i64 a0_6, .slice A0_7 l0_7.length c0_7, .slice A0_8 l0_8.length c0_8, .int .i64 a0_9, .int .i64 a0_10, .slice A0_11 l0_11.length c0_11, .slice A0_12 l0_12.length c0_12] rfl (by simp) (by simp [maxLen]) (by simp) (by simp [Value.oneCell']))).app 0 rfl; refine Kd.R_append_rows (Kd.raw 4) (Rr := (Kd.raw 4).K (wr.alloc (.cells [.int .i64 a0_5, .int .i64 a0_6, .slice A0_7 l0_7.length c0_7, .slice A0_8 l0_8.length c0_8, .int .i64 a0_9, .int .i64 a0_10, .slice A0_11 l0_11.length c0_11, .slice A0_12 l0_12.length c0_12].toArray 31))) (w0 := w) w.heap.size rfl (.tmp 122) (.tmp 124) 121 31 ((.agg #[.int .i64 0, .int .i64 0, .slice none 0 0, .slice none 0 0])) 64 rfl Try.underlying121 info31 rfl (by decide) (by omega) (.slice (some ⟨wr.heap.size, 0, none⟩) 2 2) [[.int .i64 a0_5, .int .i64 a0_6, .slice A0_7 l0_7.length c0_7, .slice A0_8 l0_8.length c0_8], [.int .i64 a0_9, .int .i64 a0_10, .slice A0_11 l0_11.length c0_11, .slice A0_12 l0_12.length c0_12]] xs A0_4 l0_4.length c0_4 ok_ (fun _ => False) rfl rfl hr_ ?aR ?aM (fun _ hk => hk.elim) hf_ ((HSr.out.litRs 31 4 [[.int .i64 a0_5, .int .i64 a0_6, .slice A0_7 l0_7.length c0_7, .slice A0_8 l0_8.length c0_8], [.int .i64 a0_9, .int .i64 a0_10, .slice A0_11 l0_11.length c0_11, .slice A0_12 l0_12.length c0_12]] [.int .i64 a0_5, .int .i64 a0_6, .slice A0_7 l0_7.length c0_7, .slice A0_8 l0_8.length c0_8, .int .i64 a0_9, .int .i64 a0_10, .slice A0_11 l0_11.length c0_11, .slice A0_12 l0_12.length c0_12] rfl (by simp) (by simp [maxLen]) (by simp) (by simp [Value.oneCell']))).below ((HSr.out.litRs 31 4 [[.int .i64 a0_5, .int .i64 a0_6, .slice A0_7 l0_7.length c0_7, .slice A0_8 l0_8.length c0_8], [.int .i64 a0_9, .int .i64 a0_10, .slice A0_11 l0_11.length c0_11, .slice A0_12 l0_12.length c0_12]] [.int .i64 a0_5, .int .i64 a0_6, .slice A0_7 l0_7.length c0_7, .slice A0_8 l0_8.length c0_8, .int .i64 a0_9, .int .i64 a0_10, .slice A0_11 l0_11.length c0_11, .slice A0_12 l0_12.length c0_12] rfl (by simp) (by simp [maxLen]) (by simp) (by simp [Value.oneCell']))).size ?aL ?_; (case aR => exact (by have := HXR.out; rw [HXL.out] at this; exact Kd.C_alloc (Kd.C_below this HSr.out.below) _)); (case aM => exact fun x cs h => h); (case aL => have := HLEN.out; have := HXL.out; simp; omega); intro Ap606_ w604_ ho_ hb_ hg_ hat_; have HS605_ := Aside0.mk (hs_ _ _ _ ho_ hb_ hg_); have hN_ := Kd.R_slice ho_; obtain ⟨A607_, c609_, rfl⟩ := hN_; clear ho_ hb_ hg_ hat_ hf_ hr_ hs_ c595_ c596_ c597_ c598_ c599_ c600_ c601_ c602_ c603_ c4a_ HSr; have HXE := Aside0.mk (show (([[.int .i64 a0_5, .int .i64 a0_6, .slice A0_7 l0_7.length c0_7, .slice A0_8 l0_8.length c0_8], [.int .i64 a0_9, .int .i64 a0_10, .slice A0_11 l0_11.length c0_11, .slice A0_12 l0_12.length c0_12]] ++ xs) : List (List Value)).length = l0_4.length + 2 by simp [HXL.out]); have HXQ := Aside0.mk (show ∀ (j : Nat) (x : S31) (c : List Value), ((⟨a0_5, a0_6, l0_7, l0_8⟩ : S31) :: (⟨a0_9, a0_10, l0_11, l0_12⟩ : S31) :: l0_4)[j]? = some x → (([[.int .i64 a0_5, .int .i64 a0_6, .slice A0_7 l0_7.length c0_7, .slice A0_8 l0_8.length c0_8], [.int .i64 a0_9, .int .i64 a0_10, .slice A0_11 l0_11.length c0_11, .slice A0_12 l0_12.length c0_12]] ++ xs) : List (List Value))[j]? = some c → k31.K w x c from backstitchref3_TraceFault.exitK HXF.out HR3.out HC3.out HR4.out HC4.out HR7.out HC7.out HR8.out HC8.out HR11.out HC11.out HR12.out HC12.out (Below.refl _ _)); generalize (([[.int .i64 a0_5, .int .i64 a0_6, .slice A0_7 l0_7.length c0_7, .slice A0_8 l0_8.length c0_8], [.int .i64 a0_9, .int .i64 a0_10, .slice A0_11 l0_11.length c0_11, .slice A0_12 l0_12.length c0_12]] ++ xs) : List (List Value)) = xe at HS605_ HXE HXQ ⊢))
     rename World => wo3
     go_loopw [127] (fun v127 wr => ∃ i : Int, v127 = .int .i64 i ∧ Aside0 (0 ≤ i ∧ i ≤ l0_4.length + 2) ∧ Aside0 (backstitchref3_TraceFault.lrg k (((⟨a0_5, a0_6, l0_7, l0_8⟩ : S31) :: (⟨a0_9, a0_10, l0_11, l0_12⟩ : S31) :: l0_4).drop i.toNat) = some r) ∧ Aside0 (St w wr ((rowA w.heap.size (Kd.raw 4) 31 (.slice A607_ xe.length c609_) xe) :: (blkA gt #[.int .i64 a0_0, .int .i64 a0_1, .int .i64 a0_2, .slice A0_3 l0_3.length c0_3, .slice A0_4 l0_4.length c0_4, .int .i64 a0_5, .int .i64 a0_6, .slice A0_7 l0_7.length c0_7, .slice A0_8 l0_8.length c0_8, .int .i64 a0_9, .int .i64 a0_10, .slice A0_11 l0_11.length c0_11, .slice A0_12 l0_12.length c0_12] 123) :: []))) (fun v127 _ => l0_4.length + 2 - (intOf v127).toNat)
     case atStart => exact ⟨0, rfl, ⟨by omega⟩, HF, HS605_⟩
     case round =>
      clear HF HS605_
      obtain ⟨i, rfl, Hi, HX, HSr⟩ := hrel
      have hi0 : 0 ≤ i := Hi.out.1
      by_cases hlt : i < (xe.length : Int)
      rotate_left
      ·have ht : decide (i < (xe.length : Int)) = false := decide_eq_false hlt
       have hx := HX.out
       rw [List.drop_eq_nil_of_le (by have := HXE.out; simp; omega), backstitchref3_TraceFault.lrg] at hx
       obtain rfl := Option.some.inj hx
       clear hx
       go_wp2
       go_ret
       exact ⟨rfl, HSr.out.below⟩
      have ht : decide (i < (xe.length : Int)) = true := decide_eq_true hlt
      have HW := Aside0.mk (show wrap64 (i + 1) = i + 1 by have := HLEN.out; have := HXE.out; unfold wrap64; omega)
      have hx := HX.out
      rw [backstitchref3_TraceFault.drop ((⟨a0_5, a0_6, l0_7, l0_8⟩ : S31) :: (⟨a0_9, a0_10, l0_11, l0_12⟩ : S31) :: l0_4) i hi0 (by have := HXE.out; simp; omega), backstitchref3_TraceFault.lrg] at hx
      obtain ⟨bl, hbl, hx2⟩ := Option.bind_eq_some_iff.1 hx
      obtain ⟨ady, Y2, d2, Y3, d3, e, hy0, hy1, hy2, hy3, hd2, hC2, hd3, hC3⟩ := backstitchref3_TraceFault.elem (Kd.R_reads' (HSr.out.row 0 rfl)).2.2 (by rw [HXE.out]; simp) HXQ.out i hi0 hlt
      cases e
      generalize rd_T31 ((⟨a0_5, a0_6, l0_7, l0_8⟩ : S31) :: (⟨a0_9, a0_10, l0_11, l0_12⟩ : S31) :: l0_4) i = y at *
      have HBL := Aside0.mk hbl
      have HE3 := Aside0.mk hx2
      have HYC2 := Aside0.mk hC2
      have HYC3 := Aside0.mk hC3
      have HYD2 := Aside0.mk hd2
      have HYD3 := Aside0.mk hd3
      clear hC2 hC3 hd2 hd3
      clear hx hx2 hbl HX
      rcases bl with _ | _
      ·have HX4 := HE3
       rw [if_neg (by decide)] at HX4
       clear HE3
       go_wp2_with (first | ((with_reducible refine bG (N := 9) rfl ?_); (try (refine bD (by rfl) ?_; dsimp only)); refine bE ?hg (N := 9) ?hd (cs := #[.int .i64 0, .int .i64 0, .slice none 0 0, .slice none 0 0]) (t := 31) ?hr ?_; (case hd => rfl); (case hg => rfl); (case hr => first | (go_simp; done) | (go_simp; rfl)); intro gy hg_ w610_ hx_ hb_; have HS611_ := Aside0.mk (HSr.out.box hg_ hx_ hb_); have c612_ : w610_.cell? ⟨gy, 0, none⟩ = some (.int .i64 0) := (HS611_.out.cell 0 rfl 0).trans rfl; have c613_ : w610_.cell? ⟨gy, 1, none⟩ = some (.int .i64 0) := (HS611_.out.cell 0 rfl 1).trans rfl; have c614_ : w610_.cell? ⟨gy, 2, none⟩ = some (.slice none 0 0) := (HS611_.out.cell 0 rfl 2).trans rfl; have c615_ : w610_.cell? ⟨gy, 3, none⟩ = some (.slice none 0 0) := (HS611_.out.cell 0 rfl 3).trans rfl; have f616_ : w610_.frozen? ⟨gy, 0, none⟩ = false := HS611_.out.frz 0 rfl 0; have f617_ : w610_.frozen? ⟨gy, 1, none⟩ = false := HS611_.out.frz 0 rfl 1; have f618_ : w610_.frozen? ⟨gy, 2, none⟩ = false := HS611_.out.frz 0 rfl 2; have f619_ : w610_.frozen? ⟨gy, 3, none⟩ = false := HS611_.out.frz 0 rfl 3; have hbx_ := hb_; replace hy0 := (hbx_.cell (World.block_lt_of_cell? _ _ hy0)).trans hy0; replace hy1 := (hbx_.cell (World.block_lt_of_cell? _ _ hy1)).trans hy1; replace hy2 := (hbx_.cell (World.block_lt_of_cell? _ _ hy2)).trans hy2; replace hy3 := (hbx_.cell (World.block_lt_of_cell? _ _ hy3)).trans hy3; clear hbx_; clear hg_ hx_ hb_  HSr) | ((with_reducible refine bH (t := 31) (p := 9) rfl ?_); refine bF (t := 31) (p := 9) (v := .tmp 130) (w1 := ((((w610_.setCell ⟨gy, 0, none⟩ (.int .i64 y.f0)).setCell ⟨gy, 1, none⟩ (.int .i64 y.f1)).setCell ⟨gy, 2, none⟩ (.slice Y2 y.f2.length d2)).setCell ⟨gy, 3, none⟩ (.slice Y3 y.f3.length d3))) ?hg ?ho ?hn ?hr ?_; (case ho => rfl); (case hg => rfl); (case hn => rfl); (case hr => first | (go_simp; done) | (go_simp; rfl)); intro w620_ hw_; have HS621_ : Aside0 (St w w620_ ((blkA gy #[.int .i64 y.f0, .int .i64 y.f1, .slice Y2 y.f2.length d2, .slice Y3 y.f3.length d3] 31) :: (rowA w.heap.size (Kd.raw 4) 31 (.slice (some ady) xe.length c609_) xe) :: (blkA gt #[.int .i64 a0_0, .int .i64 a0_1, .int .i64 a0_2, .slice A0_3 l0_3.length c0_3, .slice A0_4 l0_4.length c0_4, .int .i64 a0_5, .int .i64 a0_6, .slice A0_7 l0_7.length c0_7, .slice A0_8 l0_8.length c0_8, .int .i64 a0_9, .int .i64 a0_10, .slice A0_11 l0_11.length c0_11, .slice A0_12 l0_12.length c0_12] 123) :: [])) := ⟨by rw [hw_]; exact ((((HS611_.out.put 0 rfl 0 (.int .i64 y.f0) rfl).put 0 rfl 1 (.int .i64 y.f1) rfl).put 0 rfl 2 (.slice Y2 y.f2.length d2) rfl).put 0 rfl 3 (.slice Y3 y.f3.length d3) rfl)⟩; have c622_ : w620_.cell? ⟨gy, 0, none⟩ = some (.int .i64 y.f0) := (HS621_.out.cell 0 rfl 0).trans rfl; have c623_ : w620_.cell? ⟨gy, 1, none⟩ = some (.int .i64 y.f1) := (HS621_.out.cell 0 rfl 1).trans rfl; have c624_ : w620_.cell? ⟨gy, 2, none⟩ = some (.slice Y2 y.f2.length d2) := (HS621_.out.cell 0 rfl 2).trans rfl; have c625_ : w620_.cell? ⟨gy, 3, none⟩ = some (.slice Y3 y.f3.length d3) := (HS621_.out.cell 0 rfl 3).trans rfl; clear hw_ c612_ c613_ c614_ c615_ f616_ f617_ f618_ f619_ HS611_ hy0 hy1 hy2 hy3) | (go_at_call 117; refine (backstitchref3_exitLarge.calls k y.f0 y.f1 Y2 d2 y.f2 Y3 d3 y.f3 false _ (Kd.C_below HYC2.out HS621_.out.below) HYD2.out (Kd.C_below HYC3.out HS621_.out.below) HYD3.out HBL.out).mono ?_; rintro e_ w626_ ⟨rfl, hb_⟩; have HS627_ := Aside0.mk (HS621_.out.call hb_); clear hb_; clear c622_ c623_ c624_ c625_ HS621_))
       go_roundw
       case rel => exact ⟨i + 1, by first | rw [HW.out] | rfl, ⟨by have := HXE.out; omega⟩, HX4, ⟨(HS627_.out).drop 0 rfl⟩⟩
       case measure => simp only [intOf]; (try rw [HW.out]); have := HXE.out; omega
      ·obtain rfl := Option.some.inj HE3.out
       go_wp2_with (first | ((with_reducible refine bG (N := 9) rfl ?_); (try (refine bD (by rfl) ?_; dsimp only)); refine bE ?hg (N := 9) ?hd (cs := #[.int .i64 0, .int .i64 0, .slice none 0 0, .slice none 0 0]) (t := 31) ?hr ?_; (case hd => rfl); (case hg => rfl); (case hr => first | (go_simp; done) | (go_simp; rfl)); intro gy hg_ w610_ hx_ hb_; have HS611_ := Aside0.mk (HSr.out.box hg_ hx_ hb_); have c612_ : w610_.cell? ⟨gy, 0, none⟩ = some (.int .i64 0) := (HS611_.out.cell 0 rfl 0).trans rfl; have c613_ : w610_.cell? ⟨gy, 1, none⟩ = some (.int .i64 0) := (HS611_.out.cell 0 rfl 1).trans rfl; have c614_ : w610_.cell? ⟨gy, 2, none⟩ = some (.slice none 0 0) := (HS611_.out.cell 0 rfl 2).trans rfl; have c615_ : w610_.cell? ⟨gy, 3, none⟩ = some (.slice none 0 0) := (HS611_.out.cell 0 rfl 3).trans rfl; have f616_ : w610_.frozen? ⟨gy, 0, none⟩ = false := HS611_.out.frz 0 rfl 0; have f617_ : w610_.frozen? ⟨gy, 1, none⟩ = false := HS611_.out.frz 0 rfl 1; have f618_ : w610_.frozen? ⟨gy, 2, none⟩ = false := HS611_.out.frz 0 rfl 2; have f619_ : w610_.frozen? ⟨gy, 3, none⟩ = false := HS611_.out.frz 0 rfl 3; have hbx_ := hb_; replace hy0 := (hbx_.cell (World.block_lt_of_cell? _ _ hy0)).trans hy0; replace hy1 := (hbx_.cell (World.block_lt_of_cell? _ _ hy1)).trans hy1; replace hy2 := (hbx_.cell (World.block_lt_of_cell? _ _ hy2)).trans hy2; replace hy3 := (hbx_.cell (World.block_lt_of_cell? _ _ hy3)).trans hy3; clear hbx_; clear hg_ hx_ hb_  HSr) | ((with_reducible refine bH (t := 31) (p := 9) rfl ?_); refine bF (t := 31) (p := 9) (v := .tmp 130) (w1 := ((((w610_.setCell ⟨gy, 0, none⟩ (.int .i64 y.f0)).setCell ⟨gy, 1, none⟩ (.int .i64 y.f1)).setCell ⟨gy, 2, none⟩ (.slice Y2 y.f2.length d2)).setCell ⟨gy, 3, none⟩ (.slice Y3 y.f3.length d3))) ?hg ?ho ?hn ?hr ?_; (case ho => rfl); (case hg => rfl); (case hn => rfl); (case hr => first | (go_simp; done) | (go_simp; rfl)); intro w620_ hw_; have HS621_ : Aside0 (St w w620_ ((blkA gy #[.int .i64 y.f0, .int .i64 y.f1, .slice Y2 y.f2.length d2, .slice Y3 y.f3.length d3] 31) :: (rowA w.heap.size (Kd.raw 4) 31 (.slice (some ady) xe.length c609_) xe) :: (blkA gt #[.int .i64 a0_0, .int .i64 a0_1, .int .i64 a0_2, .slice A0_3 l0_3.length c0_3, .slice A0_4 l0_4.length c0_4, .int .i64 a0_5, .int .i64 a0_6, .slice A0_7 l0_7.length c0_7, .slice A0_8 l0_8.length c0_8, .int .i64 a0_9, .int .i64 a0_10, .slice A0_11 l0_11.length c0_11, .slice A0_12 l0_12.length c0_12] 123) :: [])) := ⟨by rw [hw_]; exact ((((HS611_.out.put 0 rfl 0 (.int .i64 y.f0) rfl).put 0 rfl 1 (.int .i64 y.f1) rfl).put 0 rfl 2 (.slice Y2 y.f2.length d2) rfl).put 0 rfl 3 (.slice Y3 y.f3.length d3) rfl)⟩; have c622_ : w620_.cell? ⟨gy, 0, none⟩ = some (.int .i64 y.f0) := (HS621_.out.cell 0 rfl 0).trans rfl; have c623_ : w620_.cell? ⟨gy, 1, none⟩ = some (.int .i64 y.f1) := (HS621_.out.cell 0 rfl 1).trans rfl; have c624_ : w620_.cell? ⟨gy, 2, none⟩ = some (.slice Y2 y.f2.length d2) := (HS621_.out.cell 0 rfl 2).trans rfl; have c625_ : w620_.cell? ⟨gy, 3, none⟩ = some (.slice Y3 y.f3.length d3) := (HS621_.out.cell 0 rfl 3).trans rfl; clear hw_ c612_ c613_ c614_ c615_ f616_ f617_ f618_ f619_ HS611_ hy0 hy1 hy2 hy3) | (go_at_call 117; refine (backstitchref3_exitLarge.calls k y.f0 y.f1 Y2 d2 y.f2 Y3 d3 y.f3 true _ (Kd.C_below HYC2.out HS621_.out.below) HYD2.out (Kd.C_below HYC3.out HS621_.out.below) HYD3.out HBL.out).mono ?_; rintro e_ w626_ ⟨rfl, hb_⟩; have HS627_ := Aside0.mk (HS621_.out.call hb_); clear hb_; clear c622_ c623_ c624_ c625_ HS621_))
       go_ret
       exact ⟨rfl, HS627_.out.below⟩
    have ht : decide (i < (l0_4.length : Int)) = true := decide_eq_true hlt
    have HW := Aside0.mk (show wrap64 (i + 1) = i + 1 by have := HLEN.out; unfold wrap64; omega)
    have hx := HX.out
    rw [backstitchref3_TraceFault.drop l0_4 i hi0 hlt, backstitchref3_TraceFault.exs] at hx
    obtain ⟨e1, hx1, hx2⟩ := Option.bind_eq_some_iff.1 hx
    obtain ⟨b2, hb2_, hx3⟩ := Option.bind_eq_some_iff.1 hx1
    unfold backstitchref3_TraceFault.may at hb2_
    obtain ⟨v, hv_, hb2n⟩ := Option.bind_eq_some_iff.1 hb2_
    obtain ⟨ady, Y2, d2, Y3, d3, e, hy0, hy1, hy2, hy3, hd2, hC2, hd3, hC3⟩ := at_T31 HR4.out i hi0 hlt
    cases e
    generalize rd_T31 l0_4 i = y at *
    replace hy0 := (HSr.out.below.cell (World.block_lt_of_cell? w _ hy0)).trans hy0
    replace hy1 := (HSr.out.below.cell (World.block_lt_of_cell? w _ hy1)).trans hy1
    replace hy2 := (HSr.out.below.cell (World.block_lt_of_cell? w _ hy2)).trans hy2
    replace hy3 := (HSr.out.below.cell (World.block_lt_of_cell? w _ hy3)).trans hy3
    have HQ2 := Aside0.mk hv_
    have HB2 := Aside0.mk hb2n
    have HE3 := Aside0.mk hx2
    have HE4 := Aside0.mk hx3
    have HYC2 := Aside0.mk hC2
    have HYC3 := Aside0.mk hC3
    have HYD2 := Aside0.mk hd2
    have HYD3 := Aside0.mk hd3
    clear hC2 hC3 hd2 hd3
    clear hx hx1 hx2 hx3 hv_ hb2_ hb2n HX
    go_wp2_with (first | ((with_reducible refine bG (N := 7) rfl ?_); (try (refine bD (by rfl) ?_; dsimp only)); refine bE ?hg (N := 7) ?hd (cs := #[.int .i64 0, .int .i64 0, .slice none 0 0, .slice none 0 0]) (t := 31) ?hr ?_; (case hd => rfl); (case hg => rfl); (case hr => first | (go_simp; done) | (go_simp; rfl)); intro gy hg_ w577_ hx_ hb_; have HS578_ := Aside0.mk (HSr.out.box hg_ hx_ hb_); have c579_ : w577_.cell? ⟨gy, 0, none⟩ = some (.int .i64 0) := (HS578_.out.cell 0 rfl 0).trans rfl; have c580_ : w577_.cell? ⟨gy, 1, none⟩ = some (.int .i64 0) := (HS578_.out.cell 0 rfl 1).trans rfl; have c581_ : w577_.cell? ⟨gy, 2, none⟩ = some (.slice none 0 0) := (HS578_.out.cell 0 rfl 2).trans rfl; have c582_ : w577_.cell? ⟨gy, 3, none⟩ = some (.slice none 0 0) := (HS578_.out.cell 0 rfl 3).trans rfl; have f583_ : w577_.frozen? ⟨gy, 0, none⟩ = false := HS578_.out.frz 0 rfl 0; have f584_ : w577_.frozen? ⟨gy, 1, none⟩ = false := HS578_.out.frz 0 rfl 1; have f585_ : w577_.frozen? ⟨gy, 2, none⟩ = false := HS578_.out.frz 0 rfl 2; have f586_ : w577_.frozen? ⟨gy, 3, none⟩ = false := HS578_.out.frz 0 rfl 3; have hbx_ := hb_; replace hy0 := (hbx_.cell (World.block_lt_of_cell? _ _ hy0)).trans hy0; replace hy1 := (hbx_.cell (World.block_lt_of_cell? _ _ hy1)).trans hy1; replace hy2 := (hbx_.cell (World.block_lt_of_cell? _ _ hy2)).trans hy2; replace hy3 := (hbx_.cell (World.block_lt_of_cell? _ _ hy3)).trans hy3; clear hbx_; clear hg_ hx_ hb_  HSr) | ((with_reducible refine bH (t := 31) (p := 7) rfl ?_); refine bF (t := 31) (p := 7) (v := .tmp 110) (w1 := ((((w577_.setCell ⟨gy, 0, none⟩ (.int .i64 y.f0)).setCell ⟨gy, 1, none⟩ (.int .i64 y.f1)).setCell ⟨gy, 2, none⟩ (.slice Y2 y.f2.length d2)).setCell ⟨gy, 3, none⟩ (.slice Y3 y.f3.length d3))) ?hg ?ho ?hn ?hr ?_; (case ho => rfl); (case hg => rfl); (case hn => rfl); (case hr => first | (go_simp; done) | (go_simp; rfl)); intro w587_ hw_; have HS588_ : Aside0 (St w w587_ ((blkA gy #[.int .i64 y.f0, .int .i64 y.f1, .slice Y2 y.f2.length d2, .slice Y3 y.f3.length d3] 31) :: (blkA gt #[.int .i64 a0_0, .int .i64 a0_1, .int .i64 a0_2, .slice A0_3 l0_3.length c0_3, .slice (some ady) l0_4.length c0_4, .int .i64 a0_5, .int .i64 a0_6, .slice A0_7 l0_7.length c0_7, .slice A0_8 l0_8.length c0_8, .int .i64 a0_9, .int .i64 a0_10, .slice A0_11 l0_11.length c0_11, .slice A0_12 l0_12.length c0_12] 123) :: [])) := ⟨by rw [hw_]; exact ((((HS578_.out.put 0 rfl 0 (.int .i64 y.f0) rfl).put 0 rfl 1 (.int .i64 y.f1) rfl).put 0 rfl 2 (.slice Y2 y.f2.length d2) rfl).put 0 rfl 3 (.slice Y3 y.f3.length d3) rfl)⟩; clear hw_ c579_ c580_ c581_ c582_ f583_ f584_ f585_ f586_ HS578_ hy0 hy1 hy2 hy3))
    refine st_ (fun w' => St w w' ((blkA gy #[.int .i64 y.f0, .int .i64 y.f1, .slice Y2 y.f2.length d2, .slice Y3 y.f3.length d3] 31) :: (blkA gt #[.int .i64 a0_0, .int .i64 a0_1, .int .i64 a0_2, .slice A0_3 l0_3.length c0_3, .slice (some ady) l0_4.length c0_4, .int .i64 a0_5, .int .i64 a0_6, .slice A0_7 l0_7.length c0_7, .slice A0_8 l0_8.length c0_8, .int .i64 a0_9, .int .i64 a0_10, .slice A0_11 l0_11.length c0_11, .slice A0_12 l0_12.length c0_12] 123) :: [])) backstitchref3_TraceFault.tab21 backstitchref3_TraceFault.bits21 HS588_.out.drew (fun HT_ HW_ hHeld => ?_)
    clear HS588_
    generalize w587_.drew = w589_ at hHeld ⊢
    have HS590_ := Aside0.mk (show St w w589_ ((blkA gy #[.int .i64 y.f0, .int .i64 y.f1, .slice Y2 y.f2.length d2, .slice Y3 y.f3.length d3] 31) :: (blkA gt #[.int .i64 a0_0, .int .i64 a0_1, .int .i64 a0_2, .slice A0_3 l0_3.length c0_3, .slice (some ady) l0_4.length c0_4, .int .i64 a0_5, .int .i64 a0_6, .slice A0_7 l0_7.length c0_7, .slice A0_8 l0_8.length c0_8, .int .i64 a0_9, .int .i64 a0_10, .slice A0_11 l0_11.length c0_11, .slice A0_12 l0_12.length c0_12] 123) :: []) from hHeld)
    refine pu_ (v := ?_) (a' := ?_) HT_.out 3 (some 114) ?_ ?_ ?_; rotate_left 2; (intro w'; go_simp; with_reducible rfl); (simp only [hW, hT, hU, hV, bB, bC]; rfl)
    refine tk_ (v := ?_) (a' := ?_) HT_.out HW_.out hHeld 0 (some 111) ?_ ?_ ?_; rotate_left 2; (intro w' hS; have s0 : w'.cell? ⟨gt, 0, none⟩ = some _ := hS.cell 1 rfl 0; have s1 : w'.cell? ⟨gt, 1, none⟩ = some _ := hS.cell 1 rfl 1; have s2 : w'.cell? ⟨gt, 2, none⟩ = some _ := hS.cell 1 rfl 2; have s3 : w'.cell? ⟨gt, 3, none⟩ = some _ := hS.cell 1 rfl 3; have s4 : w'.cell? ⟨gt, 4, none⟩ = some _ := hS.cell 1 rfl 4; have s5 : w'.cell? ⟨gt, 5, none⟩ = some _ := hS.cell 1 rfl 5; have s6 : w'.cell? ⟨gt, 6, none⟩ = some _ := hS.cell 1 rfl 6; have s7 : w'.cell? ⟨gt, 7, none⟩ = some _ := hS.cell 1 rfl 7; have s8 : w'.cell? ⟨gt, 8, none⟩ = some _ := hS.cell 1 rfl 8; have s9 : w'.cell? ⟨gt, 9, none⟩ = some _ := hS.cell 1 rfl 9; have s10 : w'.cell? ⟨gt, 10, none⟩ = some _ := hS.cell 1 rfl 10; have s11 : w'.cell? ⟨gt, 11, none⟩ = some _ := hS.cell 1 rfl 11; have s12 : w'.cell? ⟨gt, 12, none⟩ = some _ := hS.cell 1 rfl 12; go_simp; with_reducible rfl); (simp only [hW, hT, hU, hV, bB, bC]; rfl)
    refine tk_ (v := ?_) (a' := ?_) HT_.out HW_.out hHeld 1 (some 112) ?_ ?_ ?_; rotate_left 2; (intro w' hS; have s0 : w'.cell? ⟨gy, 0, none⟩ = some _ := hS.cell 0 rfl 0; have s1 : w'.cell? ⟨gy, 1, none⟩ = some _ := hS.cell 0 rfl 1; have s2 : w'.cell? ⟨gy, 2, none⟩ = some _ := hS.cell 0 rfl 2; have s3 : w'.cell? ⟨gy, 3, none⟩ = some _ := hS.cell 0 rfl 3; go_simp; with_reducible rfl); (simp only [hW, hT, hU, hV, bB, bC]; rfl)
    refine on_ HT_.out 2 (some 113) (fun K hK => ?_)
    refine bJ Try.func116 (by kernel_rfl) rfl #[.agg #[.int .i64 y.f0, .int .i64 y.f1, .slice Y2 y.f2.length d2, .slice Y3 y.f3.length d3]] (by rfl) rfl rfl (by simp only [List.map_toArray, List.map_cons, List.map_nil]; rfl) ?_
    with_reducible refine (backstitchref3_Values.calls k y.f0 y.f1 Y2 d2 y.f2 Y3 d3 y.f3 v _ (Kd.C_below HYC2.out HS590_.out.below) HYD2.out (Kd.C_below HYC3.out HS590_.out.below) HYD3.out HQ2.out).mono ?_
    rintro e_ w591_ ⟨v4, rfl, ho_, hb_⟩
    refine ⟨_, rfl, ?_⟩
    have HS592_ := Aside0.mk (HS590_.out.call hb_)
    have HV := Aside0.mk ho_
    obtain ⟨A4, c4, rfl⟩ := Kd.R_slice HV.out
    clear ho_
    clear hb_ HS590_ hHeld
    refine hK.out _ _ HS592_.out (fun hHeld => ?_)
    clear hK K
    refine bI (a' := ?_) ?_ ?_; rotate_left; (show hW _ (some 113) _ = _; simp only [hW, hT, hU, hV, bB, bC]; rfl)
    refine on_ HT_.out 4 (some 115) (fun K hK => ?_)
    refine bJ Try.func114 (by kernel_rfl) rfl #[.agg #[.int .i64 a0_0, .int .i64 a0_1, .int .i64 a0_2, .slice A0_3 l0_3.length c0_3, .slice (some ady) l0_4.length c0_4, .int .i64 a0_5, .int .i64 a0_6, .slice A0_7 l0_7.length c0_7, .slice A0_8 l0_8.length c0_8, .int .i64 a0_9, .int .i64 a0_10, .slice A0_11 l0_11.length c0_11, .slice A0_12 l0_12.length c0_12], .slice A4 v.length c4, .int .i64 (l0_3.length : Int)] (by rfl) rfl rfl (by simp only [List.map_toArray, List.map_cons, List.map_nil]; rfl) ?_
    with_reducible refine (backstitchref3_valuesMay.calls k a0_0 a0_1 a0_2 A0_3 c0_3 l0_3 (some ady) c0_4 l0_4 a0_5 a0_6 A0_7 c0_7 l0_7 A0_8 c0_8 l0_8 a0_9 a0_10 A0_11 c0_11 l0_11 A0_12 c0_12 l0_12 A4 c4 v (l0_3.length : Int) b2 _ (Kd.C_below HR3.out HS592_.out.below) HC3.out (Kd.C_below HR4.out HS592_.out.below) HC4.out (Kd.C_below HR7.out HS592_.out.below) HC7.out (Kd.C_below HR8.out HS592_.out.below) HC8.out (Kd.C_below HR11.out HS592_.out.below) HC11.out (Kd.C_below HR12.out HS592_.out.below) HC12.out (Kd.R_reads' HV.out).2.2 (Kd.R_reads' HV.out).2.1 HB2.out).mono ?_
    rintro e_ w593_ ⟨rfl, hb_⟩
    refine ⟨_, rfl, ?_⟩
    have HS594_ := Aside0.mk (HS592_.out.call hb_)
    clear hb_ HS592_ hHeld
    refine hK.out _ _ HS594_.out (fun hHeld => ?_)
    clear hK K
    refine bI (a' := ?_) ?_ ?_; rotate_left; (show hW _ (some 115) _ = _; simp only [hW, hT, hU, hV, bB, bC]; rfl)
    refine pu_ (v := ?_) (a' := ?_) HT_.out 5 (some 116) ?_ ?_ ?_; rotate_left 2; (intro w'; go_simp; with_reducible rfl); (simp only [hW, hT, hU, hV, bB, bC]; rfl)
    refine dn_ HT_.out ?_
    clear hHeld HT_ HW_
    have hx2 := HE3.out
    have hx3 := HE4.out
    rcases b2 with _ | _
    ·obtain rfl := Option.some.inj hx3
     obtain rfl := Option.some.inj hx2
     go_wp2
     go_ret
     exact ⟨rfl, HS594_.out.below⟩
    ·rw [if_pos rfl] at hx3
     have HX4 := Aside0.mk (show (backstitchref3_TraceFault.exs k a0_0 a0_1 a0_2 l0_3 l0_4 a0_5 a0_6 l0_7 l0_8 a0_9 a0_10 l0_11 l0_12 (l0_4.drop (i + 1).toNat)).bind (fun e => if e = 0 then backstitchref3_TraceFault.lrg k ((⟨a0_5, a0_6, l0_7, l0_8⟩ : S31) :: (⟨a0_9, a0_10, l0_11, l0_12⟩ : S31) :: l0_4) else some e) = some r by rw [hx3]; exact hx2)
     clear hx2 hx3
     go_wp2
     go_roundw
     case rel => exact ⟨i + 1, by first | rw [HW.out] | rfl, ⟨by omega⟩, HX4, ⟨(HS594_.out).drop 0 rfl⟩⟩
     case measure => simp only [intOf]; (try rw [HW.out]); omega
end

end Go.Proofs.Ytlojkphocbbjdaa.PLiveTells
