-- Printed for this claim by a program of this session (inj.py), beside the kit's print. Not trusted: Lean checks it.
import Derived.Test.YtlojkphocbbjdaaPLiveTellsx0
import Derived.Test.YtlojkphocbbjdaaPLiveTellsx2
namespace Go.Proofs.Ytlojkphocbbjdaa.PLiveTells
open Go.RowKit Go.Proofs.YtlojkphocbbjdaaW.PrintWords Go.Proofs.YtlojkphocbbjdaaW.PrintLast Go.Proofs.YtlojkphocbbjdaaW.PrintMore
open Go.Proofs.YtlojkphocbbjdaaW.PrintWords renaming blk_cell → bA, blk_drew → bC, blk_drewN → bD, blk_alloc → bE, pw_below_drewN → bF, below_set → bG, below_drew1 → bH, blk_frozen → bK, below_alloc → bL, blk_below → bO, below_step → bP, below_size → bR, blk_put → bS, blk_far → bT, gate_guard → bX, box_event → cB, gate_dst → cD, gate_callee → cE, blk_lt → cG
open Go.Proofs.YtlojkphocbbjdaaW.PrintLast renaming i64_w → bI, i32_w → bJ, any_of → bM, pure_ → bN, take_ofW → bQ, take_ → bU, with_tabW → bV, one_of → bW, norm_ → bY, goes_ → bZ, done_of → cA, start_ → cC, done_ → cF, waitsOk → cH, goesL_ → cI, opsOf → cL
open Go.Proofs.YtlojkphocbbjdaaW.PrintMore renaming min_three → cJ, max_three → cK, min_four → cM, min2_int → cN
open Bool renaming true → hQ, false → hR
open List renaming setIfInBounds_toArray → hS, set_cons_zero → hT, set_cons_succ → hU
open Go.Act renaming put → hV
attribute [local go_sem] max2_int cN max_two min_two cK cJ max_four cM   -- for this text's walks alone
set_option linter.unusedVariables false
set_option linter.unusedSimpArgs false

/-! ### live_one: function 122 -/
def live_one.j0 : Nat → Int → Bool → Int → Int → Int → List (S181) → List (S31) → Int → Int → List (S38) → List (S63) → Int → Int → List (S38) → List (S63) → Int → Int → Int → Int → Int → Int → Int → Int → Option (Int)
 | 0, _, _, _, _, _, _, _, _, _, _, _, _, _, _, _, _, _, _, _, _, _, _, _ => none
 | k + 1, x1, x16, x103000, x103001, x103002, x103003, x103004, x103005, x103006, x103007, x103008, x103009, x103010, x103011, x103012, x105000, x105001, x105002, x105003, x105004, x105005, x105006, x105007 => if x16 = true then (some 3) else (if x105005 ≥ 0 then (if 0 ≤ x105005 then (if x105005 < (x103004.length : Int) then ((live_Values.f k ((rd_T31 x103004 x105005).f0) ((rd_T31 x103004 x105005).f1) ((rd_T31 x103004 x105005).f2) ((rd_T31 x103004 x105005).f3)).bind fun t111 => ((live_all.f x103000 x103001 x103002 x103003 x103004 x103005 x103006 x103007 x103008 x103009 x103010 x103011 x103012 t111 x1).bind fun t114 => (if t114 = true then (some 0) else (some 3)))) else (none)) else (none)) else (some 0))
def live_one.f (k : Nat) (a0_0 : Int) (a0_1 : Int) (a0_2 : Int) (l0_3 : List (S181)) (l0_4 : List (S31)) (a0_5 : Int) (a0_6 : Int) (l0_7 : List (S38)) (l0_8 : List (S63)) (a0_9 : Int) (a0_10 : Int) (l0_11 : List (S38)) (l0_12 : List (S63)) (a1 : Int) : Option (Int) := if 0 ≤ a1 then (if a1 < (l0_3.length : Int) then ((live_known.f ((rd_T181 l0_3 a1).f0)).bind fun t105 => (if t105 = true then ((ir_Asks.f ((rd_T181 l0_3 a1).f0) ((rd_T181 l0_3 a1).f1) ((rd_T181 l0_3 a1).f2) ((rd_T181 l0_3 a1).f3) ((rd_T181 l0_3 a1).f4) ((rd_T181 l0_3 a1).f5) ((rd_T181 l0_3 a1).f6.f0) ((rd_T181 l0_3 a1).f6.f1)).bind fun t106 => ((live_all.f a0_0 a0_1 a0_2 l0_3 l0_4 a0_5 a0_6 l0_7 l0_8 a0_9 a0_10 l0_11 l0_12 t106 a1).bind fun t109 => (if t109 = true then (if ((rd_T181 l0_3 a1).f5) < (-1) then (live_one.j0 k a1 true a0_0 a0_1 a0_2 l0_3 l0_4 a0_5 a0_6 l0_7 l0_8 a0_9 a0_10 l0_11 l0_12 ((rd_T181 l0_3 a1).f0) ((rd_T181 l0_3 a1).f1) ((rd_T181 l0_3 a1).f2) ((rd_T181 l0_3 a1).f3) ((rd_T181 l0_3 a1).f4) ((rd_T181 l0_3 a1).f5) ((rd_T181 l0_3 a1).f6.f0) ((rd_T181 l0_3 a1).f6.f1)) else (live_one.j0 k a1 (decide (((rd_T181 l0_3 a1).f5) ≥ (l0_4.length : Int))) a0_0 a0_1 a0_2 l0_3 l0_4 a0_5 a0_6 l0_7 l0_8 a0_9 a0_10 l0_11 l0_12 ((rd_T181 l0_3 a1).f0) ((rd_T181 l0_3 a1).f1) ((rd_T181 l0_3 a1).f2) ((rd_T181 l0_3 a1).f3) ((rd_T181 l0_3 a1).f4) ((rd_T181 l0_3 a1).f5) ((rd_T181 l0_3 a1).f6.f0) ((rd_T181 l0_3 a1).f6.f1))) else (live_one.j0 k a1 true a0_0 a0_1 a0_2 l0_3 l0_4 a0_5 a0_6 l0_7 l0_8 a0_9 a0_10 l0_11 l0_12 ((rd_T181 l0_3 a1).f0) ((rd_T181 l0_3 a1).f1) ((rd_T181 l0_3 a1).f2) ((rd_T181 l0_3 a1).f3) ((rd_T181 l0_3 a1).f4) ((rd_T181 l0_3 a1).f5) ((rd_T181 l0_3 a1).f6.f0) ((rd_T181 l0_3 a1).f6.f1))))) else (some 7))) else (none)) else (none)
theorem live_one.mono_l : ∀ k, (∀ y0 y1 y2 y3 y4 y5 y6 y7 y8 y9 y10 y11 y12 y13 y14 y15 y16 y17 y18 y19 y20 y21 y22, LeO (live_one.j0 k y0 y1 y2 y3 y4 y5 y6 y7 y8 y9 y10 y11 y12 y13 y14 y15 y16 y17 y18 y19 y20 y21 y22) (live_one.j0 (k + 1) y0 y1 y2 y3 y4 y5 y6 y7 y8 y9 y10 y11 y12 y13 y14 y15 y16 y17 y18 y19 y20 y21 y22))
 | 0 => fun _ _ _ _ _ _ _ _ _ _ _ _ _ _ _ _ _ _ _ _ _ _ _ r h => by simp [live_one.j0] at h
 | k + 1 => by
  have ih0 := live_one.mono_l k
  ·intro y0 y1 y2 y3 y4 y5 y6 y7 y8 y9 y10 y11 y12 y13 y14 y15 y16 y17 y18 y19 y20 y21 y22
   unfold live_one.j0
   repeat' first
   | (with_reducible exact ih0 _ _ _ _ _ _ _ _ _ _ _ _ _ _ _ _ _ _ _ _ _ _ _)
   | (with_reducible exact live_Values.mono _ _ _ _ _)
   | (with_reducible exact LeO.refl _)
   | (with_reducible exact LeO.none _)
   | (with_reducible refine LeO.ite ?_ ?_)
   | (with_reducible refine LeO.bind ?_ (fun _ => ?_))
   | exact ih0 _ _ _ _ _ _ _ _ _ _ _ _ _ _ _ _ _ _ _ _ _ _ _
   | exact live_Values.mono _ _ _ _ _
   | exact LeO.none _
   | refine LeO.ite ?_ ?_
   | refine LeO.bind ?_ (fun _ => ?_)
theorem live_one.mono : ∀ a0 a1 a2 a3 a4 a5 a6 a7 a8 a9 a10 a11 a12 a13 k, LeO (live_one.f k a0 a1 a2 a3 a4 a5 a6 a7 a8 a9 a10 a11 a12 a13) (live_one.f (k + 1) a0 a1 a2 a3 a4 a5 a6 a7 a8 a9 a10 a11 a12 a13) := by
 intro a0 a1 a2 a3 a4 a5 a6 a7 a8 a9 a10 a11 a12 a13 k
 have ih0 := live_one.mono_l k
 unfold live_one.f
 repeat' first
   | (with_reducible exact ih0 _ _ _ _ _ _ _ _ _ _ _ _ _ _ _ _ _ _ _ _ _ _ _)
   | (with_reducible exact live_Values.mono _ _ _ _ _)
   | (with_reducible exact LeO.refl _)
   | (with_reducible exact LeO.none _)
   | (with_reducible refine LeO.ite ?_ ?_)
   | (with_reducible refine LeO.bind ?_ (fun _ => ?_))
   | exact ih0 _ _ _ _ _ _ _ _ _ _ _ _ _ _ _ _ _ _ _ _ _ _ _
   | exact live_Values.mono _ _ _ _ _
   | exact LeO.none _
   | refine LeO.ite ?_ ?_
   | refine LeO.bind ?_ (fun _ => ?_)
def live_one.T4 : Bool × List (List Nat × List Nat) := (true, [([], []), ([], []), ([1], [1]), ([], []), ([0, 2, 3, 2], [0, 2, 3]), ([4], [4]), ([5, 4], [5]), ([6], [6]), ([7, 6], [6, 7]), ([8, 6], [6, 8]), ([6, 9], [6, 9]), ([10, 6], [10]), ([11], [11]), ([12, 11], [11, 12]), ([11], [11]), ([14, 11], [11, 14]), ([15, 11], [11, 15]), ([13, 16, 11], [11, 13, 16]), ([11, 17], [11, 17]), ([18, 11], [18])])
def live_one.B4 : List Nat := [0, 0, 2, 0, 15, 31, 63, 127, 255, 511, 1023, 2047, 4095, 8191, 4095, 20479, 53247, 131071, 262143, 524287]
theorem live_one.tab4 : rtab .any (cL Try.f122 4) = live_one.T4 := by kernel_rfl
theorem live_one.bits4 : cH live_one.T4.2 live_one.B4 = true := by kernel_rfl
def live_one.T6 : Bool × List (List Nat × List Nat) := (true, [([], []), ([0], [0]), ([1], [1]), ([2], [2]), ([3], [3]), ([3], [3]), ([5, 3], [3, 5]), ([3], [3]), ([7, 3], [3, 7]), ([6, 8, 3], [3, 6, 8]), ([9, 3], [3, 9]), ([10, 3, 3], [3, 10]), ([3], [3]), ([4, 11, 12, 11, 3], [3, 4, 11, 12]), ([13, 3], [3, 13]), ([3, 14], [3, 14]), ([15, 13], [15])])
def live_one.B6 : List Nat := [0, 1, 3, 7, 15, 15, 47, 15, 143, 495, 1007, 2031, 15, 8191, 16383, 32767, 65535]
theorem live_one.tab6 : rtab .any (cL Try.f122 6) = live_one.T6 := by kernel_rfl
theorem live_one.bits6 : cH live_one.T6.2 live_one.B6 = true := by kernel_rfl
set_option maxHeartbeats 8000000 in
set_option maxRecDepth 100000 in
theorem live_one.calls (k : Nat) (a0_0 : Int) (a0_1 : Int) (a0_2 : Int) (A0_3 : Option Addr) (c0_3 : Nat) (l0_3 : List (S181)) (A0_4 : Option Addr) (c0_4 : Nat) (l0_4 : List (S31)) (a0_5 : Int) (a0_6 : Int) (A0_7 : Option Addr) (c0_7 : Nat) (l0_7 : List (S38)) (A0_8 : Option Addr) (c0_8 : Nat) (l0_8 : List (S63)) (a0_9 : Int) (a0_10 : Int) (A0_11 : Option Addr) (c0_11 : Nat) (l0_11 : List (S38)) (A0_12 : Option Addr) (c0_12 : Nat) (l0_12 : List (S63)) (a1 : Int) (r : Int) (w : World) (hr0_3 : Kd.C k181 w A0_3 l0_3.length l0_3) (hc0_3 : l0_3.length ≤ c0_3) (hr0_4 : Kd.C k31 w A0_4 l0_4.length l0_4) (hc0_4 : l0_4.length ≤ c0_4) (hr0_7 : Kd.C k38 w A0_7 l0_7.length l0_7) (hc0_7 : l0_7.length ≤ c0_7) (hr0_8 : Kd.C k63 w A0_8 l0_8.length l0_8) (hc0_8 : l0_8.length ≤ c0_8) (hr0_11 : Kd.C k38 w A0_11 l0_11.length l0_11) (hc0_11 : l0_11.length ≤ c0_11) (hr0_12 : Kd.C k63 w A0_12 l0_12.length l0_12) (hc0_12 : l0_12.length ≤ c0_12) (h : live_one.f k a0_0 a0_1 a0_2 l0_3 l0_4 a0_5 a0_6 l0_7 l0_8 a0_9 a0_10 l0_11 l0_12 a1 = some r) :
  Calls Try.prog 122 #[.agg #[.int .i64 a0_0, .int .i64 a0_1, .int .i64 a0_2, .slice A0_3 l0_3.length c0_3, .slice A0_4 l0_4.length c0_4, .int .i64 a0_5, .int .i64 a0_6, .slice A0_7 l0_7.length c0_7, .slice A0_8 l0_8.length c0_8, .int .i64 a0_9, .int .i64 a0_10, .slice A0_11 l0_11.length c0_11, .slice A0_12 l0_12.length c0_12], .int .i64 a1] w fun e w' => e = .returned (.int .i64 r) ∧ Below w.heap.size w w' := by
 have hu123 := Try.underlying123
 have hu181 := Try.underlying181
 have hu31 := Try.underlying31
 have HR0_3 := Aside0.mk hr0_3
 have HC0_3 := Aside0.mk hc0_3
 clear hr0_3 hc0_3
 have HR0_4 := Aside0.mk hr0_4
 have HC0_4 := Aside0.mk hc0_4
 clear hr0_4 hc0_4
 have HR0_7 := Aside0.mk hr0_7
 have HC0_7 := Aside0.mk hc0_7
 clear hr0_7 hc0_7
 have HR0_8 := Aside0.mk hr0_8
 have HC0_8 := Aside0.mk hc0_8
 clear hr0_8 hc0_8
 have HR0_11 := Aside0.mk hr0_11
 have HC0_11 := Aside0.mk hc0_11
 clear hr0_11 hc0_11
 have HR0_12 := Aside0.mk hr0_12
 have HC0_12 := Aside0.mk hc0_12
 clear hr0_12 hc0_12
 have HB := Aside0.mk (Below.refl w.heap.size w)
 have H : (if 0 ≤ a1 then (if a1 < (l0_3.length : Int) then ((live_known.f ((rd_T181 l0_3 a1).f0)).bind fun t105 => (if t105 = true then ((ir_Asks.f ((rd_T181 l0_3 a1).f0) ((rd_T181 l0_3 a1).f1) ((rd_T181 l0_3 a1).f2) ((rd_T181 l0_3 a1).f3) ((rd_T181 l0_3 a1).f4) ((rd_T181 l0_3 a1).f5) ((rd_T181 l0_3 a1).f6.f0) ((rd_T181 l0_3 a1).f6.f1)).bind fun t106 => ((live_all.f a0_0 a0_1 a0_2 l0_3 l0_4 a0_5 a0_6 l0_7 l0_8 a0_9 a0_10 l0_11 l0_12 t106 a1).bind fun t109 => (if t109 = true then (if ((rd_T181 l0_3 a1).f5) < (-1) then (live_one.j0 k a1 true a0_0 a0_1 a0_2 l0_3 l0_4 a0_5 a0_6 l0_7 l0_8 a0_9 a0_10 l0_11 l0_12 ((rd_T181 l0_3 a1).f0) ((rd_T181 l0_3 a1).f1) ((rd_T181 l0_3 a1).f2) ((rd_T181 l0_3 a1).f3) ((rd_T181 l0_3 a1).f4) ((rd_T181 l0_3 a1).f5) ((rd_T181 l0_3 a1).f6.f0) ((rd_T181 l0_3 a1).f6.f1)) else (live_one.j0 k a1 (decide (((rd_T181 l0_3 a1).f5) ≥ (l0_4.length : Int))) a0_0 a0_1 a0_2 l0_3 l0_4 a0_5 a0_6 l0_7 l0_8 a0_9 a0_10 l0_11 l0_12 ((rd_T181 l0_3 a1).f0) ((rd_T181 l0_3 a1).f1) ((rd_T181 l0_3 a1).f2) ((rd_T181 l0_3 a1).f3) ((rd_T181 l0_3 a1).f4) ((rd_T181 l0_3 a1).f5) ((rd_T181 l0_3 a1).f6.f0) ((rd_T181 l0_3 a1).f6.f1))) else (live_one.j0 k a1 true a0_0 a0_1 a0_2 l0_3 l0_4 a0_5 a0_6 l0_7 l0_8 a0_9 a0_10 l0_11 l0_12 ((rd_T181 l0_3 a1).f0) ((rd_T181 l0_3 a1).f1) ((rd_T181 l0_3 a1).f2) ((rd_T181 l0_3 a1).f3) ((rd_T181 l0_3 a1).f4) ((rd_T181 l0_3 a1).f5) ((rd_T181 l0_3 a1).f6.f0) ((rd_T181 l0_3 a1).f6.f1))))) else (some 7))) else (none)) else (none)) = some r := h
 clear h
 by_cases c3 : 0 ≤ a1
 rotate_left
 ·rw [if_neg c3] at H
  exact absurd H (by simp)
 rw [if_pos c3] at H
 have c3b0 : decide (0 ≤ a1) = true := decide_eq_true c3
 clear c3
 by_cases c4 : a1 < (l0_3.length : Int)
 rotate_left
 ·rw [if_neg c4] at H
  exact absurd H (by simp)
 rw [if_pos c4] at H
 have c4b0 : decide (a1 < (l0_3.length : Int)) = true := decide_eq_true c4
 clear c4
 replace H := Option.bind_eq_some_iff.mp H
 obtain ⟨t105, A50, H⟩ := H
 replace H : (if t105 = true then ((ir_Asks.f ((rd_T181 l0_3 a1).f0) ((rd_T181 l0_3 a1).f1) ((rd_T181 l0_3 a1).f2) ((rd_T181 l0_3 a1).f3) ((rd_T181 l0_3 a1).f4) ((rd_T181 l0_3 a1).f5) ((rd_T181 l0_3 a1).f6.f0) ((rd_T181 l0_3 a1).f6.f1)).bind fun t106 => ((live_all.f a0_0 a0_1 a0_2 l0_3 l0_4 a0_5 a0_6 l0_7 l0_8 a0_9 a0_10 l0_11 l0_12 t106 a1).bind fun t109 => (if t109 = true then (if ((rd_T181 l0_3 a1).f5) < (-1) then (live_one.j0 k a1 true a0_0 a0_1 a0_2 l0_3 l0_4 a0_5 a0_6 l0_7 l0_8 a0_9 a0_10 l0_11 l0_12 ((rd_T181 l0_3 a1).f0) ((rd_T181 l0_3 a1).f1) ((rd_T181 l0_3 a1).f2) ((rd_T181 l0_3 a1).f3) ((rd_T181 l0_3 a1).f4) ((rd_T181 l0_3 a1).f5) ((rd_T181 l0_3 a1).f6.f0) ((rd_T181 l0_3 a1).f6.f1)) else (live_one.j0 k a1 (decide (((rd_T181 l0_3 a1).f5) ≥ (l0_4.length : Int))) a0_0 a0_1 a0_2 l0_3 l0_4 a0_5 a0_6 l0_7 l0_8 a0_9 a0_10 l0_11 l0_12 ((rd_T181 l0_3 a1).f0) ((rd_T181 l0_3 a1).f1) ((rd_T181 l0_3 a1).f2) ((rd_T181 l0_3 a1).f3) ((rd_T181 l0_3 a1).f4) ((rd_T181 l0_3 a1).f5) ((rd_T181 l0_3 a1).f6.f0) ((rd_T181 l0_3 a1).f6.f1))) else (live_one.j0 k a1 true a0_0 a0_1 a0_2 l0_3 l0_4 a0_5 a0_6 l0_7 l0_8 a0_9 a0_10 l0_11 l0_12 ((rd_T181 l0_3 a1).f0) ((rd_T181 l0_3 a1).f1) ((rd_T181 l0_3 a1).f2) ((rd_T181 l0_3 a1).f3) ((rd_T181 l0_3 a1).f4) ((rd_T181 l0_3 a1).f5) ((rd_T181 l0_3 a1).f6.f0) ((rd_T181 l0_3 a1).f6.f1))))) else (some 7)) = some r := H
 have A5 := Aside0.mk A50
 clear A50
 by_cases c6 : t105 = true
 rotate_left
 ·replace c6 := Bool.eq_false_iff.mpr c6
  subst c6
  have H1 : (some 7) = some r := by rw [if_neg (show ¬ (false = true) by decide)] at H; exact H
  clear H
  have H := H1
  clear H1
  obtain rfl := Option.some.inj H
  go_enter Try.func122, Try.ntmps122
  go_wp2_with (first | ((with_reducible refine cD (N := 2) rfl ?_); (try (refine bX (by rfl) ?_; dsimp only)); refine cB ?hg (N := 2) ?hd (cs := #[.int .i64 a0_0, .int .i64 a0_1, .int .i64 a0_2, .slice A0_3 l0_3.length c0_3, .slice A0_4 l0_4.length c0_4, .int .i64 a0_5, .int .i64 a0_6, .slice A0_7 l0_7.length c0_7, .slice A0_8 l0_8.length c0_8, .int .i64 a0_9, .int .i64 a0_10, .slice A0_11 l0_11.length c0_11, .slice A0_12 l0_12.length c0_12]) (t := 123) ?hr ?_; (case hd => rfl); (case hg => rfl); (case hr => first | (go_simp; done) | (go_simp; rfl)); intro gb102 hg w46 hbox hb; have n0_ := Aside0.mk (bP (by repeat (first | (with_reducible first | exact HB.out | apply bL | apply bF | apply bH) | exact HB.out)) hb); have n1_ := Aside0.mk (hbox); have n2_ := Aside0.mk ((by rw [hg]; exact (bR (by repeat (first | (with_reducible first | exact HB.out | apply bL | apply bF | apply bH) | exact HB.out))) : w.heap.size ≤ gb102)); have n3_ := Aside0.mk ((by rw [hg]; exact (bR (by repeat (first | (with_reducible first | exact HB.out | apply bL | apply bF | apply bH) | exact HB.out))) : w.heap.size ≤ gb102)); clear HB; have HB := n0_; have BK102 := n1_; have GW102 := n2_; have GE102 := n3_; clear n0_ n1_ n2_ n3_; clear hb hbox hg; have hcz47_0 : w46.cell? ⟨gb102, 0, none⟩ = some (.int .i64 a0_0) := (bA BK102.out 0).trans rfl; have hcz47_1 : w46.cell? ⟨gb102, 1, none⟩ = some (.int .i64 a0_1) := (bA BK102.out 1).trans rfl; have hcz47_2 : w46.cell? ⟨gb102, 2, none⟩ = some (.int .i64 a0_2) := (bA BK102.out 2).trans rfl; have hcz47_3 : w46.cell? ⟨gb102, 3, none⟩ = some (.slice A0_3 l0_3.length c0_3) := (bA BK102.out 3).trans rfl; have hcz47_4 : w46.cell? ⟨gb102, 4, none⟩ = some (.slice A0_4 l0_4.length c0_4) := (bA BK102.out 4).trans rfl; have hcz47_5 : w46.cell? ⟨gb102, 5, none⟩ = some (.int .i64 a0_5) := (bA BK102.out 5).trans rfl; have hcz47_6 : w46.cell? ⟨gb102, 6, none⟩ = some (.int .i64 a0_6) := (bA BK102.out 6).trans rfl; have hcz47_7 : w46.cell? ⟨gb102, 7, none⟩ = some (.slice A0_7 l0_7.length c0_7) := (bA BK102.out 7).trans rfl; have hcz47_8 : w46.cell? ⟨gb102, 8, none⟩ = some (.slice A0_8 l0_8.length c0_8) := (bA BK102.out 8).trans rfl; have hcz47_9 : w46.cell? ⟨gb102, 9, none⟩ = some (.int .i64 a0_9) := (bA BK102.out 9).trans rfl; have hcz47_10 : w46.cell? ⟨gb102, 10, none⟩ = some (.int .i64 a0_10) := (bA BK102.out 10).trans rfl; have hcz47_11 : w46.cell? ⟨gb102, 11, none⟩ = some (.slice A0_11 l0_11.length c0_11) := (bA BK102.out 11).trans rfl; have hcz47_12 : w46.cell? ⟨gb102, 12, none⟩ = some (.slice A0_12 l0_12.length c0_12) := (bA BK102.out 12).trans rfl; have hfz47_0 := bK BK102.out 0; have hfz47_1 := bK BK102.out 1; have hfz47_2 := bK BK102.out 2; have hfz47_3 := bK BK102.out 3; have hfz47_4 := bK BK102.out 4; have hfz47_5 := bK BK102.out 5; have hfz47_6 := bK BK102.out 6; have hfz47_7 := bK BK102.out 7; have hfz47_8 := bK BK102.out 8; have hfz47_9 := bK BK102.out 9; have hfz47_10 := bK BK102.out 10; have hfz47_11 := bK BK102.out 11; have hfz47_12 := bK BK102.out 12; have p103 : 0 ≤ (a1 : Int) := of_decide_eq_true (by first | (with_reducible assumption) | assumption); have q103 : a1 < (l0_3.length : Int) := of_decide_eq_true (by first | (with_reducible assumption) | assumption); obtain ⟨ad103, e103, hx103_0, hx103_1, hx103_2, hx103_3, hx103_4, hx103_5, hx103_6, hx103_7⟩ := at_T181 HR0_3.out a1 p103 q103; cases e103; try replace hx103_0 := (HB.out.cell (World.block_lt_of_cell? w _ hx103_0)).trans hx103_0; try replace hx103_1 := (HB.out.cell (World.block_lt_of_cell? w _ hx103_1)).trans hx103_1; try replace hx103_2 := (HB.out.cell (World.block_lt_of_cell? w _ hx103_2)).trans hx103_2; try replace hx103_3 := (HB.out.cell (World.block_lt_of_cell? w _ hx103_3)).trans hx103_3; try replace hx103_4 := (HB.out.cell (World.block_lt_of_cell? w _ hx103_4)).trans hx103_4; try replace hx103_5 := (HB.out.cell (World.block_lt_of_cell? w _ hx103_5)).trans hx103_5; try replace hx103_6 := (HB.out.cell (World.block_lt_of_cell? w _ hx103_6)).trans hx103_6; try replace hx103_7 := (HB.out.cell (World.block_lt_of_cell? w _ hx103_7)).trans hx103_7; replace p103 := eq_true p103; replace q103 := eq_true q103) | ((with_reducible refine cD (N := 5) rfl ?_); (try (refine bX (by rfl) ?_; dsimp only)); refine cB ?hg (N := 5) ?hd (cs := #[.int .i64 0, .int .i64 0, .int .i64 0, .int .i64 0, .int .i64 0, .int .i64 0, .int .i64 0, .int .i64 0]) (t := 181) ?hr ?_; (case hd => rfl); (case hg => rfl); (case hr => first | (go_simp; done) | (go_simp; rfl)); intro gb104 hg w48 hbox hb; have n0_ := Aside0.mk (bO (g := gb102) (o := .cells #[.int .i64 a0_0, .int .i64 a0_1, .int .i64 a0_2, .slice (some ad103) l0_3.length c0_3, .slice A0_4 l0_4.length c0_4, .int .i64 a0_5, .int .i64 a0_6, .slice A0_7 l0_7.length c0_7, .slice A0_8 l0_8.length c0_8, .int .i64 a0_9, .int .i64 a0_10, .slice A0_11 l0_11.length c0_11, .slice A0_12 l0_12.length c0_12] 123 (0, 0)) (by (with_reducible repeat (first | refine bD ?_ _ | refine bC ?_ | refine bE ?_ _)); exact BK102.out) hb); have n1_ := Aside0.mk (bP (by repeat (first | (with_reducible first | exact HB.out | apply bL | apply bF | apply bH | refine bG ?_ GE102.out) | exact HB.out)) hb); have n2_ := Aside0.mk (hbox); have n3_ := Aside0.mk ((by rw [hg]; exact (bR (by repeat (first | (with_reducible first | exact HB.out | apply bL | apply bF | apply bH | refine bG ?_ GE102.out) | exact HB.out))) : w.heap.size ≤ gb104)); have n4_ := Aside0.mk ((by rw [hg]; exact (bR (by repeat (first | (with_reducible first | exact HB.out | apply bL | apply bF | apply bH | refine bG ?_ GE102.out) | exact HB.out))) : w.heap.size ≤ gb104)); have n5_ := Aside0.mk ((by rw [hg]; exact Nat.ne_of_lt (cG (g := gb102) (o := .cells #[.int .i64 a0_0, .int .i64 a0_1, .int .i64 a0_2, .slice (some ad103) l0_3.length c0_3, .slice A0_4 l0_4.length c0_4, .int .i64 a0_5, .int .i64 a0_6, .slice A0_7 l0_7.length c0_7, .slice A0_8 l0_8.length c0_8, .int .i64 a0_9, .int .i64 a0_10, .slice A0_11 l0_11.length c0_11, .slice A0_12 l0_12.length c0_12] 123 (0, 0)) (by (with_reducible repeat (first | refine bD ?_ _ | refine bC ?_ | refine bE ?_ _)); exact BK102.out)) : gb102 ≠ gb104)); have n6_ := Aside0.mk ((by rw [hg]; exact Nat.ne_of_gt (cG (g := gb102) (o := .cells #[.int .i64 a0_0, .int .i64 a0_1, .int .i64 a0_2, .slice (some ad103) l0_3.length c0_3, .slice A0_4 l0_4.length c0_4, .int .i64 a0_5, .int .i64 a0_6, .slice A0_7 l0_7.length c0_7, .slice A0_8 l0_8.length c0_8, .int .i64 a0_9, .int .i64 a0_10, .slice A0_11 l0_11.length c0_11, .slice A0_12 l0_12.length c0_12] 123 (0, 0)) (by (with_reducible repeat (first | refine bD ?_ _ | refine bC ?_ | refine bE ?_ _)); exact BK102.out)) : gb104 ≠ gb102)); clear BK102; clear HB; have BK102 := n0_; have HB := n1_; have BK104 := n2_; have GW104 := n3_; have GE104 := n4_; have NB102_104 := n5_; have NB104_102 := n6_; clear n0_ n1_ n2_ n3_ n4_ n5_ n6_; clear hb hbox hg; have hnb49 := NB104_102.out; have hnc49 := NB102_104.out; have hcz50_0 : w48.cell? ⟨gb104, 0, none⟩ = some (.int .i64 0) := (bA BK104.out 0).trans rfl; have hcz50_1 : w48.cell? ⟨gb104, 1, none⟩ = some (.int .i64 0) := (bA BK104.out 1).trans rfl; have hcz50_2 : w48.cell? ⟨gb104, 2, none⟩ = some (.int .i64 0) := (bA BK104.out 2).trans rfl; have hcz50_3 : w48.cell? ⟨gb104, 3, none⟩ = some (.int .i64 0) := (bA BK104.out 3).trans rfl; have hcz50_4 : w48.cell? ⟨gb104, 4, none⟩ = some (.int .i64 0) := (bA BK104.out 4).trans rfl; have hcz50_5 : w48.cell? ⟨gb104, 5, none⟩ = some (.int .i64 0) := (bA BK104.out 5).trans rfl; have hcz50_6 : w48.cell? ⟨gb104, 6, none⟩ = some (.int .i64 0) := (bA BK104.out 6).trans rfl; have hcz50_7 : w48.cell? ⟨gb104, 7, none⟩ = some (.int .i64 0) := (bA BK104.out 7).trans rfl; have hfz50_0 := bK BK104.out 0; have hfz50_1 := bK BK104.out 1; have hfz50_2 := bK BK104.out 2; have hfz50_3 := bK BK104.out 3; have hfz50_4 := bK BK104.out 4; have hfz50_5 := bK BK104.out 5; have hfz50_6 := bK BK104.out 6; have hfz50_7 := bK BK104.out 7) | ((with_reducible refine cE (f := 154) rfl ?_); refine cI (some 14) rfl rfl Try.func154 (by kernel_rfl) rfl #[.int .i64 ((rd_T181 l0_3 a1).f0)] rfl (by (try simp only [List.map_toArray, List.map_cons, List.map_nil]); first | done | rfl | (simp only [List.length_drop, List.length_take]; rfl)) ?_; (with_reducible refine (live_known.calls ((rd_T181 l0_3 a1).f0) false _ A5.out).mono ?_); rintro e w51 ⟨rfl, hb⟩; refine ⟨_, rfl, ?_⟩; have n0_ := Aside0.mk (bO (g := gb102) (o := .cells #[.int .i64 a0_0, .int .i64 a0_1, .int .i64 a0_2, .slice (some ad103) l0_3.length c0_3, .slice A0_4 l0_4.length c0_4, .int .i64 a0_5, .int .i64 a0_6, .slice A0_7 l0_7.length c0_7, .slice A0_8 l0_8.length c0_8, .int .i64 a0_9, .int .i64 a0_10, .slice A0_11 l0_11.length c0_11, .slice A0_12 l0_12.length c0_12] 123 (0, 0)) (by (with_reducible repeat (first | refine bD ?_ _ | refine bC ?_ | refine bE ?_ _)); refine bT ?_ NB102_104.out _; (with_reducible repeat (first | refine bD ?_ _ | refine bC ?_ | refine bE ?_ _)); refine bT ?_ NB102_104.out _; (with_reducible repeat (first | refine bD ?_ _ | refine bC ?_ | refine bE ?_ _)); refine bT ?_ NB102_104.out _; (with_reducible repeat (first | refine bD ?_ _ | refine bC ?_ | refine bE ?_ _)); refine bT ?_ NB102_104.out _; (with_reducible repeat (first | refine bD ?_ _ | refine bC ?_ | refine bE ?_ _)); refine bT ?_ NB102_104.out _; (with_reducible repeat (first | refine bD ?_ _ | refine bC ?_ | refine bE ?_ _)); refine bT ?_ NB102_104.out _; (with_reducible repeat (first | refine bD ?_ _ | refine bC ?_ | refine bE ?_ _)); refine bT ?_ NB102_104.out _; (with_reducible repeat (first | refine bD ?_ _ | refine bC ?_ | refine bE ?_ _)); refine bT ?_ NB102_104.out _; (with_reducible repeat (first | refine bD ?_ _ | refine bC ?_ | refine bE ?_ _)); exact BK102.out) hb); have n1_ := Aside0.mk (bO (g := gb104) (o := .cells #[.int .i64 ((rd_T181 l0_3 a1).f0), .int .i64 ((rd_T181 l0_3 a1).f1), .int .i64 ((rd_T181 l0_3 a1).f2), .int .i64 ((rd_T181 l0_3 a1).f3), .int .i64 ((rd_T181 l0_3 a1).f4), .int .i64 ((rd_T181 l0_3 a1).f5), .int .i64 ((rd_T181 l0_3 a1).f6.f0), .int .i64 ((rd_T181 l0_3 a1).f6.f1)] 181 (0, 0)) (by (with_reducible repeat (first | refine bD ?_ _ | refine bC ?_ | refine bE ?_ _)); refine bS (cs := #[.int .i64 ((rd_T181 l0_3 a1).f0), .int .i64 ((rd_T181 l0_3 a1).f1), .int .i64 ((rd_T181 l0_3 a1).f2), .int .i64 ((rd_T181 l0_3 a1).f3), .int .i64 ((rd_T181 l0_3 a1).f4), .int .i64 ((rd_T181 l0_3 a1).f5), .int .i64 ((rd_T181 l0_3 a1).f6.f0), .int .i64 0]) ?_ 7 _ rfl; (with_reducible repeat (first | refine bD ?_ _ | refine bC ?_ | refine bE ?_ _)); refine bS (cs := #[.int .i64 ((rd_T181 l0_3 a1).f0), .int .i64 ((rd_T181 l0_3 a1).f1), .int .i64 ((rd_T181 l0_3 a1).f2), .int .i64 ((rd_T181 l0_3 a1).f3), .int .i64 ((rd_T181 l0_3 a1).f4), .int .i64 ((rd_T181 l0_3 a1).f5), .int .i64 0, .int .i64 0]) ?_ 6 _ rfl; (with_reducible repeat (first | refine bD ?_ _ | refine bC ?_ | refine bE ?_ _)); refine bS (cs := #[.int .i64 ((rd_T181 l0_3 a1).f0), .int .i64 ((rd_T181 l0_3 a1).f1), .int .i64 ((rd_T181 l0_3 a1).f2), .int .i64 ((rd_T181 l0_3 a1).f3), .int .i64 ((rd_T181 l0_3 a1).f4), .int .i64 0, .int .i64 0, .int .i64 0]) ?_ 5 _ rfl; (with_reducible repeat (first | refine bD ?_ _ | refine bC ?_ | refine bE ?_ _)); refine bS (cs := #[.int .i64 ((rd_T181 l0_3 a1).f0), .int .i64 ((rd_T181 l0_3 a1).f1), .int .i64 ((rd_T181 l0_3 a1).f2), .int .i64 ((rd_T181 l0_3 a1).f3), .int .i64 0, .int .i64 0, .int .i64 0, .int .i64 0]) ?_ 4 _ rfl; (with_reducible repeat (first | refine bD ?_ _ | refine bC ?_ | refine bE ?_ _)); refine bS (cs := #[.int .i64 ((rd_T181 l0_3 a1).f0), .int .i64 ((rd_T181 l0_3 a1).f1), .int .i64 ((rd_T181 l0_3 a1).f2), .int .i64 0, .int .i64 0, .int .i64 0, .int .i64 0, .int .i64 0]) ?_ 3 _ rfl; (with_reducible repeat (first | refine bD ?_ _ | refine bC ?_ | refine bE ?_ _)); refine bS (cs := #[.int .i64 ((rd_T181 l0_3 a1).f0), .int .i64 ((rd_T181 l0_3 a1).f1), .int .i64 0, .int .i64 0, .int .i64 0, .int .i64 0, .int .i64 0, .int .i64 0]) ?_ 2 _ rfl; (with_reducible repeat (first | refine bD ?_ _ | refine bC ?_ | refine bE ?_ _)); refine bS (cs := #[.int .i64 ((rd_T181 l0_3 a1).f0), .int .i64 0, .int .i64 0, .int .i64 0, .int .i64 0, .int .i64 0, .int .i64 0, .int .i64 0]) ?_ 1 _ rfl; (with_reducible repeat (first | refine bD ?_ _ | refine bC ?_ | refine bE ?_ _)); refine bS (cs := #[.int .i64 0, .int .i64 0, .int .i64 0, .int .i64 0, .int .i64 0, .int .i64 0, .int .i64 0, .int .i64 0]) ?_ 0 _ rfl; (with_reducible repeat (first | refine bD ?_ _ | refine bC ?_ | refine bE ?_ _)); exact BK104.out) hb); have n2_ := Aside0.mk (bP (by repeat (first | (with_reducible first | exact HB.out | apply bL | apply bF | apply bH | refine bG ?_ GE102.out | refine bG ?_ GE104.out) | exact HB.out)) hb); clear BK102; clear BK104; clear HB; have BK102 := n0_; have BK104 := n1_; have HB := n2_; clear n0_ n1_ n2_; (try clear hb); (try clear hb2); (try clear hk); (try clear hi)))
  go_ret
  exact ⟨by first | rfl | (simp <;> rfl) | (simp [*] <;> rfl), by repeat (first | (with_reducible first | exact HB.out | apply bL | apply bF | apply bH | refine bG ?_ GE102.out | refine bG ?_ GE104.out) | exact HB.out)⟩
 subst c6
 have H1 : ((ir_Asks.f ((rd_T181 l0_3 a1).f0) ((rd_T181 l0_3 a1).f1) ((rd_T181 l0_3 a1).f2) ((rd_T181 l0_3 a1).f3) ((rd_T181 l0_3 a1).f4) ((rd_T181 l0_3 a1).f5) ((rd_T181 l0_3 a1).f6.f0) ((rd_T181 l0_3 a1).f6.f1)).bind fun t106 => ((live_all.f a0_0 a0_1 a0_2 l0_3 l0_4 a0_5 a0_6 l0_7 l0_8 a0_9 a0_10 l0_11 l0_12 t106 a1).bind fun t109 => (if t109 = true then (if ((rd_T181 l0_3 a1).f5) < (-1) then (live_one.j0 k a1 true a0_0 a0_1 a0_2 l0_3 l0_4 a0_5 a0_6 l0_7 l0_8 a0_9 a0_10 l0_11 l0_12 ((rd_T181 l0_3 a1).f0) ((rd_T181 l0_3 a1).f1) ((rd_T181 l0_3 a1).f2) ((rd_T181 l0_3 a1).f3) ((rd_T181 l0_3 a1).f4) ((rd_T181 l0_3 a1).f5) ((rd_T181 l0_3 a1).f6.f0) ((rd_T181 l0_3 a1).f6.f1)) else (live_one.j0 k a1 (decide (((rd_T181 l0_3 a1).f5) ≥ (l0_4.length : Int))) a0_0 a0_1 a0_2 l0_3 l0_4 a0_5 a0_6 l0_7 l0_8 a0_9 a0_10 l0_11 l0_12 ((rd_T181 l0_3 a1).f0) ((rd_T181 l0_3 a1).f1) ((rd_T181 l0_3 a1).f2) ((rd_T181 l0_3 a1).f3) ((rd_T181 l0_3 a1).f4) ((rd_T181 l0_3 a1).f5) ((rd_T181 l0_3 a1).f6.f0) ((rd_T181 l0_3 a1).f6.f1))) else (live_one.j0 k a1 true a0_0 a0_1 a0_2 l0_3 l0_4 a0_5 a0_6 l0_7 l0_8 a0_9 a0_10 l0_11 l0_12 ((rd_T181 l0_3 a1).f0) ((rd_T181 l0_3 a1).f1) ((rd_T181 l0_3 a1).f2) ((rd_T181 l0_3 a1).f3) ((rd_T181 l0_3 a1).f4) ((rd_T181 l0_3 a1).f5) ((rd_T181 l0_3 a1).f6.f0) ((rd_T181 l0_3 a1).f6.f1))))) = some r := by rw [if_pos rfl] at H; exact H
 clear H
 have H := H1
 clear H1
 have HC7 := Aside0.mk H
 clear H
 go_enter Try.func122, Try.ntmps122
 go_upto_region 4 with (first | ((with_reducible refine cD (N := 2) rfl ?_); (try (refine bX (by rfl) ?_; dsimp only)); refine cB ?hg (N := 2) ?hd (cs := #[.int .i64 a0_0, .int .i64 a0_1, .int .i64 a0_2, .slice A0_3 l0_3.length c0_3, .slice A0_4 l0_4.length c0_4, .int .i64 a0_5, .int .i64 a0_6, .slice A0_7 l0_7.length c0_7, .slice A0_8 l0_8.length c0_8, .int .i64 a0_9, .int .i64 a0_10, .slice A0_11 l0_11.length c0_11, .slice A0_12 l0_12.length c0_12]) (t := 123) ?hr ?_; (case hd => rfl); (case hg => rfl); (case hr => first | (go_simp; done) | (go_simp; rfl)); intro gb102 hg w8 hbox hb; have n0_ := Aside0.mk (bP (by repeat (first | (with_reducible first | exact HB.out | apply bL | apply bF | apply bH) | exact HB.out)) hb); have n1_ := Aside0.mk (hbox); have n2_ := Aside0.mk ((by rw [hg]; exact (bR (by repeat (first | (with_reducible first | exact HB.out | apply bL | apply bF | apply bH) | exact HB.out))) : w.heap.size ≤ gb102)); have n3_ := Aside0.mk ((by rw [hg]; exact (bR (by repeat (first | (with_reducible first | exact HB.out | apply bL | apply bF | apply bH) | exact HB.out))) : w.heap.size ≤ gb102)); clear HB; have HB := n0_; have BK102 := n1_; have GW102 := n2_; have GE102 := n3_; clear n0_ n1_ n2_ n3_; clear hb hbox hg; have hcz9_0 : w8.cell? ⟨gb102, 0, none⟩ = some (.int .i64 a0_0) := (bA BK102.out 0).trans rfl; have hcz9_1 : w8.cell? ⟨gb102, 1, none⟩ = some (.int .i64 a0_1) := (bA BK102.out 1).trans rfl; have hcz9_2 : w8.cell? ⟨gb102, 2, none⟩ = some (.int .i64 a0_2) := (bA BK102.out 2).trans rfl; have hcz9_3 : w8.cell? ⟨gb102, 3, none⟩ = some (.slice A0_3 l0_3.length c0_3) := (bA BK102.out 3).trans rfl; have hcz9_4 : w8.cell? ⟨gb102, 4, none⟩ = some (.slice A0_4 l0_4.length c0_4) := (bA BK102.out 4).trans rfl; have hcz9_5 : w8.cell? ⟨gb102, 5, none⟩ = some (.int .i64 a0_5) := (bA BK102.out 5).trans rfl; have hcz9_6 : w8.cell? ⟨gb102, 6, none⟩ = some (.int .i64 a0_6) := (bA BK102.out 6).trans rfl; have hcz9_7 : w8.cell? ⟨gb102, 7, none⟩ = some (.slice A0_7 l0_7.length c0_7) := (bA BK102.out 7).trans rfl; have hcz9_8 : w8.cell? ⟨gb102, 8, none⟩ = some (.slice A0_8 l0_8.length c0_8) := (bA BK102.out 8).trans rfl; have hcz9_9 : w8.cell? ⟨gb102, 9, none⟩ = some (.int .i64 a0_9) := (bA BK102.out 9).trans rfl; have hcz9_10 : w8.cell? ⟨gb102, 10, none⟩ = some (.int .i64 a0_10) := (bA BK102.out 10).trans rfl; have hcz9_11 : w8.cell? ⟨gb102, 11, none⟩ = some (.slice A0_11 l0_11.length c0_11) := (bA BK102.out 11).trans rfl; have hcz9_12 : w8.cell? ⟨gb102, 12, none⟩ = some (.slice A0_12 l0_12.length c0_12) := (bA BK102.out 12).trans rfl; have hfz9_0 := bK BK102.out 0; have hfz9_1 := bK BK102.out 1; have hfz9_2 := bK BK102.out 2; have hfz9_3 := bK BK102.out 3; have hfz9_4 := bK BK102.out 4; have hfz9_5 := bK BK102.out 5; have hfz9_6 := bK BK102.out 6; have hfz9_7 := bK BK102.out 7; have hfz9_8 := bK BK102.out 8; have hfz9_9 := bK BK102.out 9; have hfz9_10 := bK BK102.out 10; have hfz9_11 := bK BK102.out 11; have hfz9_12 := bK BK102.out 12; have p103 : 0 ≤ (a1 : Int) := of_decide_eq_true (by first | (with_reducible assumption) | assumption); have q103 : a1 < (l0_3.length : Int) := of_decide_eq_true (by first | (with_reducible assumption) | assumption); obtain ⟨ad103, e103, hx103_0, hx103_1, hx103_2, hx103_3, hx103_4, hx103_5, hx103_6, hx103_7⟩ := at_T181 HR0_3.out a1 p103 q103; cases e103; try replace hx103_0 := (HB.out.cell (World.block_lt_of_cell? w _ hx103_0)).trans hx103_0; try replace hx103_1 := (HB.out.cell (World.block_lt_of_cell? w _ hx103_1)).trans hx103_1; try replace hx103_2 := (HB.out.cell (World.block_lt_of_cell? w _ hx103_2)).trans hx103_2; try replace hx103_3 := (HB.out.cell (World.block_lt_of_cell? w _ hx103_3)).trans hx103_3; try replace hx103_4 := (HB.out.cell (World.block_lt_of_cell? w _ hx103_4)).trans hx103_4; try replace hx103_5 := (HB.out.cell (World.block_lt_of_cell? w _ hx103_5)).trans hx103_5; try replace hx103_6 := (HB.out.cell (World.block_lt_of_cell? w _ hx103_6)).trans hx103_6; try replace hx103_7 := (HB.out.cell (World.block_lt_of_cell? w _ hx103_7)).trans hx103_7; replace p103 := eq_true p103; replace q103 := eq_true q103) | ((with_reducible refine cD (N := 5) rfl ?_); (try (refine bX (by rfl) ?_; dsimp only)); refine cB ?hg (N := 5) ?hd (cs := #[.int .i64 0, .int .i64 0, .int .i64 0, .int .i64 0, .int .i64 0, .int .i64 0, .int .i64 0, .int .i64 0]) (t := 181) ?hr ?_; (case hd => rfl); (case hg => rfl); (case hr => first | (go_simp; done) | (go_simp; rfl)); intro gb104 hg w10 hbox hb; have n0_ := Aside0.mk (bO (g := gb102) (o := .cells #[.int .i64 a0_0, .int .i64 a0_1, .int .i64 a0_2, .slice (some ad103) l0_3.length c0_3, .slice A0_4 l0_4.length c0_4, .int .i64 a0_5, .int .i64 a0_6, .slice A0_7 l0_7.length c0_7, .slice A0_8 l0_8.length c0_8, .int .i64 a0_9, .int .i64 a0_10, .slice A0_11 l0_11.length c0_11, .slice A0_12 l0_12.length c0_12] 123 (0, 0)) (by (with_reducible repeat (first | refine bD ?_ _ | refine bC ?_ | refine bE ?_ _)); exact BK102.out) hb); have n1_ := Aside0.mk (bP (by repeat (first | (with_reducible first | exact HB.out | apply bL | apply bF | apply bH | refine bG ?_ GE102.out) | exact HB.out)) hb); have n2_ := Aside0.mk (hbox); have n3_ := Aside0.mk ((by rw [hg]; exact (bR (by repeat (first | (with_reducible first | exact HB.out | apply bL | apply bF | apply bH | refine bG ?_ GE102.out) | exact HB.out))) : w.heap.size ≤ gb104)); have n4_ := Aside0.mk ((by rw [hg]; exact (bR (by repeat (first | (with_reducible first | exact HB.out | apply bL | apply bF | apply bH | refine bG ?_ GE102.out) | exact HB.out))) : w.heap.size ≤ gb104)); have n5_ := Aside0.mk ((by rw [hg]; exact Nat.ne_of_lt (cG (g := gb102) (o := .cells #[.int .i64 a0_0, .int .i64 a0_1, .int .i64 a0_2, .slice (some ad103) l0_3.length c0_3, .slice A0_4 l0_4.length c0_4, .int .i64 a0_5, .int .i64 a0_6, .slice A0_7 l0_7.length c0_7, .slice A0_8 l0_8.length c0_8, .int .i64 a0_9, .int .i64 a0_10, .slice A0_11 l0_11.length c0_11, .slice A0_12 l0_12.length c0_12] 123 (0, 0)) (by (with_reducible repeat (first | refine bD ?_ _ | refine bC ?_ | refine bE ?_ _)); exact BK102.out)) : gb102 ≠ gb104)); have n6_ := Aside0.mk ((by rw [hg]; exact Nat.ne_of_gt (cG (g := gb102) (o := .cells #[.int .i64 a0_0, .int .i64 a0_1, .int .i64 a0_2, .slice (some ad103) l0_3.length c0_3, .slice A0_4 l0_4.length c0_4, .int .i64 a0_5, .int .i64 a0_6, .slice A0_7 l0_7.length c0_7, .slice A0_8 l0_8.length c0_8, .int .i64 a0_9, .int .i64 a0_10, .slice A0_11 l0_11.length c0_11, .slice A0_12 l0_12.length c0_12] 123 (0, 0)) (by (with_reducible repeat (first | refine bD ?_ _ | refine bC ?_ | refine bE ?_ _)); exact BK102.out)) : gb104 ≠ gb102)); clear BK102; clear HB; have BK102 := n0_; have HB := n1_; have BK104 := n2_; have GW104 := n3_; have GE104 := n4_; have NB102_104 := n5_; have NB104_102 := n6_; clear n0_ n1_ n2_ n3_ n4_ n5_ n6_; clear hb hbox hg; have hnb11 := NB104_102.out; have hnc11 := NB102_104.out; have hcz12_0 : w10.cell? ⟨gb104, 0, none⟩ = some (.int .i64 0) := (bA BK104.out 0).trans rfl; have hcz12_1 : w10.cell? ⟨gb104, 1, none⟩ = some (.int .i64 0) := (bA BK104.out 1).trans rfl; have hcz12_2 : w10.cell? ⟨gb104, 2, none⟩ = some (.int .i64 0) := (bA BK104.out 2).trans rfl; have hcz12_3 : w10.cell? ⟨gb104, 3, none⟩ = some (.int .i64 0) := (bA BK104.out 3).trans rfl; have hcz12_4 : w10.cell? ⟨gb104, 4, none⟩ = some (.int .i64 0) := (bA BK104.out 4).trans rfl; have hcz12_5 : w10.cell? ⟨gb104, 5, none⟩ = some (.int .i64 0) := (bA BK104.out 5).trans rfl; have hcz12_6 : w10.cell? ⟨gb104, 6, none⟩ = some (.int .i64 0) := (bA BK104.out 6).trans rfl; have hcz12_7 : w10.cell? ⟨gb104, 7, none⟩ = some (.int .i64 0) := (bA BK104.out 7).trans rfl; have hfz12_0 := bK BK104.out 0; have hfz12_1 := bK BK104.out 1; have hfz12_2 := bK BK104.out 2; have hfz12_3 := bK BK104.out 3; have hfz12_4 := bK BK104.out 4; have hfz12_5 := bK BK104.out 5; have hfz12_6 := bK BK104.out 6; have hfz12_7 := bK BK104.out 7) | ((with_reducible refine cE (f := 154) rfl ?_); refine cI (some 14) rfl rfl Try.func154 (by kernel_rfl) rfl #[.int .i64 ((rd_T181 l0_3 a1).f0)] rfl (by (try simp only [List.map_toArray, List.map_cons, List.map_nil]); first | done | rfl | (simp only [List.length_drop, List.length_take]; rfl)) ?_; (with_reducible refine (live_known.calls ((rd_T181 l0_3 a1).f0) true _ A5.out).mono ?_); rintro e w13 ⟨rfl, hb⟩; refine ⟨_, rfl, ?_⟩; have n0_ := Aside0.mk (bO (g := gb102) (o := .cells #[.int .i64 a0_0, .int .i64 a0_1, .int .i64 a0_2, .slice (some ad103) l0_3.length c0_3, .slice A0_4 l0_4.length c0_4, .int .i64 a0_5, .int .i64 a0_6, .slice A0_7 l0_7.length c0_7, .slice A0_8 l0_8.length c0_8, .int .i64 a0_9, .int .i64 a0_10, .slice A0_11 l0_11.length c0_11, .slice A0_12 l0_12.length c0_12] 123 (0, 0)) (by (with_reducible repeat (first | refine bD ?_ _ | refine bC ?_ | refine bE ?_ _)); refine bT ?_ NB102_104.out _; (with_reducible repeat (first | refine bD ?_ _ | refine bC ?_ | refine bE ?_ _)); refine bT ?_ NB102_104.out _; (with_reducible repeat (first | refine bD ?_ _ | refine bC ?_ | refine bE ?_ _)); refine bT ?_ NB102_104.out _; (with_reducible repeat (first | refine bD ?_ _ | refine bC ?_ | refine bE ?_ _)); refine bT ?_ NB102_104.out _; (with_reducible repeat (first | refine bD ?_ _ | refine bC ?_ | refine bE ?_ _)); refine bT ?_ NB102_104.out _; (with_reducible repeat (first | refine bD ?_ _ | refine bC ?_ | refine bE ?_ _)); refine bT ?_ NB102_104.out _; (with_reducible repeat (first | refine bD ?_ _ | refine bC ?_ | refine bE ?_ _)); refine bT ?_ NB102_104.out _; (with_reducible repeat (first | refine bD ?_ _ | refine bC ?_ | refine bE ?_ _)); refine bT ?_ NB102_104.out _; (with_reducible repeat (first | refine bD ?_ _ | refine bC ?_ | refine bE ?_ _)); exact BK102.out) hb); have n1_ := Aside0.mk (bO (g := gb104) (o := .cells #[.int .i64 ((rd_T181 l0_3 a1).f0), .int .i64 ((rd_T181 l0_3 a1).f1), .int .i64 ((rd_T181 l0_3 a1).f2), .int .i64 ((rd_T181 l0_3 a1).f3), .int .i64 ((rd_T181 l0_3 a1).f4), .int .i64 ((rd_T181 l0_3 a1).f5), .int .i64 ((rd_T181 l0_3 a1).f6.f0), .int .i64 ((rd_T181 l0_3 a1).f6.f1)] 181 (0, 0)) (by (with_reducible repeat (first | refine bD ?_ _ | refine bC ?_ | refine bE ?_ _)); refine bS (cs := #[.int .i64 ((rd_T181 l0_3 a1).f0), .int .i64 ((rd_T181 l0_3 a1).f1), .int .i64 ((rd_T181 l0_3 a1).f2), .int .i64 ((rd_T181 l0_3 a1).f3), .int .i64 ((rd_T181 l0_3 a1).f4), .int .i64 ((rd_T181 l0_3 a1).f5), .int .i64 ((rd_T181 l0_3 a1).f6.f0), .int .i64 0]) ?_ 7 _ rfl; (with_reducible repeat (first | refine bD ?_ _ | refine bC ?_ | refine bE ?_ _)); refine bS (cs := #[.int .i64 ((rd_T181 l0_3 a1).f0), .int .i64 ((rd_T181 l0_3 a1).f1), .int .i64 ((rd_T181 l0_3 a1).f2), .int .i64 ((rd_T181 l0_3 a1).f3), .int .i64 ((rd_T181 l0_3 a1).f4), .int .i64 ((rd_T181 l0_3 a1).f5), .int .i64 0, .int .i64 0]) ?_ 6 _ rfl; (with_reducible repeat (first | refine bD ?_ _ | refine bC ?_ | refine bE ?_ _)); refine bS (cs := #[.int .i64 ((rd_T181 l0_3 a1).f0), .int .i64 ((rd_T181 l0_3 a1).f1), .int .i64 ((rd_T181 l0_3 a1).f2), .int .i64 ((rd_T181 l0_3 a1).f3), .int .i64 ((rd_T181 l0_3 a1).f4), .int .i64 0, .int .i64 0, .int .i64 0]) ?_ 5 _ rfl; (with_reducible repeat (first | refine bD ?_ _ | refine bC ?_ | refine bE ?_ _)); refine bS (cs := #[.int .i64 ((rd_T181 l0_3 a1).f0), .int .i64 ((rd_T181 l0_3 a1).f1), .int .i64 ((rd_T181 l0_3 a1).f2), .int .i64 ((rd_T181 l0_3 a1).f3), .int .i64 0, .int .i64 0, .int .i64 0, .int .i64 0]) ?_ 4 _ rfl; (with_reducible repeat (first | refine bD ?_ _ | refine bC ?_ | refine bE ?_ _)); refine bS (cs := #[.int .i64 ((rd_T181 l0_3 a1).f0), .int .i64 ((rd_T181 l0_3 a1).f1), .int .i64 ((rd_T181 l0_3 a1).f2), .int .i64 0, .int .i64 0, .int .i64 0, .int .i64 0, .int .i64 0]) ?_ 3 _ rfl; (with_reducible repeat (first | refine bD ?_ _ | refine bC ?_ | refine bE ?_ _)); refine bS (cs := #[.int .i64 ((rd_T181 l0_3 a1).f0), .int .i64 ((rd_T181 l0_3 a1).f1), .int .i64 0, .int .i64 0, .int .i64 0, .int .i64 0, .int .i64 0, .int .i64 0]) ?_ 2 _ rfl; (with_reducible repeat (first | refine bD ?_ _ | refine bC ?_ | refine bE ?_ _)); refine bS (cs := #[.int .i64 ((rd_T181 l0_3 a1).f0), .int .i64 0, .int .i64 0, .int .i64 0, .int .i64 0, .int .i64 0, .int .i64 0, .int .i64 0]) ?_ 1 _ rfl; (with_reducible repeat (first | refine bD ?_ _ | refine bC ?_ | refine bE ?_ _)); refine bS (cs := #[.int .i64 0, .int .i64 0, .int .i64 0, .int .i64 0, .int .i64 0, .int .i64 0, .int .i64 0, .int .i64 0]) ?_ 0 _ rfl; (with_reducible repeat (first | refine bD ?_ _ | refine bC ?_ | refine bE ?_ _)); exact BK104.out) hb); have n2_ := Aside0.mk (bP (by repeat (first | (with_reducible first | exact HB.out | apply bL | apply bF | apply bH | refine bG ?_ GE102.out | refine bG ?_ GE104.out) | exact HB.out)) hb); clear BK102; clear BK104; clear HB; have BK102 := n0_; have BK104 := n1_; have HB := n2_; clear n0_ n1_ n2_; (try clear hb); (try clear hb2); (try clear hk); (try clear hi)))
 (try simp only [hV, hS, hT, hU])
 go_cut [16] (fun v16 wc => ∃ (kq : Nat) (x16_6 : Bool), v16 = .bool x16_6 ∧ Aside0 (live_one.j0 kq a1 x16_6 a0_0 a0_1 a0_2 l0_3 l0_4 a0_5 a0_6 l0_7 l0_8 a0_9 a0_10 l0_11 l0_12 ((rd_T181 l0_3 a1).f0) ((rd_T181 l0_3 a1).f1) ((rd_T181 l0_3 a1).f2) ((rd_T181 l0_3 a1).f3) ((rd_T181 l0_3 a1).f4) ((rd_T181 l0_3 a1).f5) ((rd_T181 l0_3 a1).f6.f0) ((rd_T181 l0_3 a1).f6.f1) = some r) ∧ Aside0 (kq ≤ k) ∧ Aside0 (wc.heap[gb102]? = some (.cells #[.int .i64 a0_0, .int .i64 a0_1, .int .i64 a0_2, (.slice (some ad103) l0_3.length c0_3), (.slice A0_4 l0_4.length c0_4), .int .i64 a0_5, .int .i64 a0_6, (.slice A0_7 l0_7.length c0_7), (.slice A0_8 l0_8.length c0_8), .int .i64 a0_9, .int .i64 a0_10, (.slice A0_11 l0_11.length c0_11), (.slice A0_12 l0_12.length c0_12)] 123 (0, 0))) ∧ Aside0 (wc.heap[gb104]? = some (.cells #[.int .i64 ((rd_T181 l0_3 a1).f0), .int .i64 ((rd_T181 l0_3 a1).f1), .int .i64 ((rd_T181 l0_3 a1).f2), .int .i64 ((rd_T181 l0_3 a1).f3), .int .i64 ((rd_T181 l0_3 a1).f4), .int .i64 ((rd_T181 l0_3 a1).f5), .int .i64 ((rd_T181 l0_3 a1).f6.f0), .int .i64 ((rd_T181 l0_3 a1).f6.f1)] 181 (0, 0))) ∧ Aside0 (Below w.heap.size w wc))
 case first =>
  have H := HC7.out
  clear HC7
  replace H := Option.bind_eq_some_iff.mp H
  obtain ⟨t106, A140, H⟩ := H
  replace H : ((live_all.f a0_0 a0_1 a0_2 l0_3 l0_4 a0_5 a0_6 l0_7 l0_8 a0_9 a0_10 l0_11 l0_12 t106 a1).bind fun t109 => (if t109 = true then (if ((rd_T181 l0_3 a1).f5) < (-1) then (live_one.j0 k a1 true a0_0 a0_1 a0_2 l0_3 l0_4 a0_5 a0_6 l0_7 l0_8 a0_9 a0_10 l0_11 l0_12 ((rd_T181 l0_3 a1).f0) ((rd_T181 l0_3 a1).f1) ((rd_T181 l0_3 a1).f2) ((rd_T181 l0_3 a1).f3) ((rd_T181 l0_3 a1).f4) ((rd_T181 l0_3 a1).f5) ((rd_T181 l0_3 a1).f6.f0) ((rd_T181 l0_3 a1).f6.f1)) else (live_one.j0 k a1 (decide (((rd_T181 l0_3 a1).f5) ≥ (l0_4.length : Int))) a0_0 a0_1 a0_2 l0_3 l0_4 a0_5 a0_6 l0_7 l0_8 a0_9 a0_10 l0_11 l0_12 ((rd_T181 l0_3 a1).f0) ((rd_T181 l0_3 a1).f1) ((rd_T181 l0_3 a1).f2) ((rd_T181 l0_3 a1).f3) ((rd_T181 l0_3 a1).f4) ((rd_T181 l0_3 a1).f5) ((rd_T181 l0_3 a1).f6.f0) ((rd_T181 l0_3 a1).f6.f1))) else (live_one.j0 k a1 true a0_0 a0_1 a0_2 l0_3 l0_4 a0_5 a0_6 l0_7 l0_8 a0_9 a0_10 l0_11 l0_12 ((rd_T181 l0_3 a1).f0) ((rd_T181 l0_3 a1).f1) ((rd_T181 l0_3 a1).f2) ((rd_T181 l0_3 a1).f3) ((rd_T181 l0_3 a1).f4) ((rd_T181 l0_3 a1).f5) ((rd_T181 l0_3 a1).f6.f0) ((rd_T181 l0_3 a1).f6.f1)))) = some r := H
  have A14 := Aside0.mk A140
  clear A140
  replace H := Option.bind_eq_some_iff.mp H
  obtain ⟨t109, A150, H⟩ := H
  replace H : (if t109 = true then (if ((rd_T181 l0_3 a1).f5) < (-1) then (live_one.j0 k a1 true a0_0 a0_1 a0_2 l0_3 l0_4 a0_5 a0_6 l0_7 l0_8 a0_9 a0_10 l0_11 l0_12 ((rd_T181 l0_3 a1).f0) ((rd_T181 l0_3 a1).f1) ((rd_T181 l0_3 a1).f2) ((rd_T181 l0_3 a1).f3) ((rd_T181 l0_3 a1).f4) ((rd_T181 l0_3 a1).f5) ((rd_T181 l0_3 a1).f6.f0) ((rd_T181 l0_3 a1).f6.f1)) else (live_one.j0 k a1 (decide (((rd_T181 l0_3 a1).f5) ≥ (l0_4.length : Int))) a0_0 a0_1 a0_2 l0_3 l0_4 a0_5 a0_6 l0_7 l0_8 a0_9 a0_10 l0_11 l0_12 ((rd_T181 l0_3 a1).f0) ((rd_T181 l0_3 a1).f1) ((rd_T181 l0_3 a1).f2) ((rd_T181 l0_3 a1).f3) ((rd_T181 l0_3 a1).f4) ((rd_T181 l0_3 a1).f5) ((rd_T181 l0_3 a1).f6.f0) ((rd_T181 l0_3 a1).f6.f1))) else (live_one.j0 k a1 true a0_0 a0_1 a0_2 l0_3 l0_4 a0_5 a0_6 l0_7 l0_8 a0_9 a0_10 l0_11 l0_12 ((rd_T181 l0_3 a1).f0) ((rd_T181 l0_3 a1).f1) ((rd_T181 l0_3 a1).f2) ((rd_T181 l0_3 a1).f3) ((rd_T181 l0_3 a1).f4) ((rd_T181 l0_3 a1).f5) ((rd_T181 l0_3 a1).f6.f0) ((rd_T181 l0_3 a1).f6.f1))) = some r := H
  have A15 := Aside0.mk A150
  clear A150
  by_cases c16 : t109 = true
  ·subst c16
   have H1 : (if ((rd_T181 l0_3 a1).f5) < (-1) then (live_one.j0 k a1 true a0_0 a0_1 a0_2 l0_3 l0_4 a0_5 a0_6 l0_7 l0_8 a0_9 a0_10 l0_11 l0_12 ((rd_T181 l0_3 a1).f0) ((rd_T181 l0_3 a1).f1) ((rd_T181 l0_3 a1).f2) ((rd_T181 l0_3 a1).f3) ((rd_T181 l0_3 a1).f4) ((rd_T181 l0_3 a1).f5) ((rd_T181 l0_3 a1).f6.f0) ((rd_T181 l0_3 a1).f6.f1)) else (live_one.j0 k a1 (decide (((rd_T181 l0_3 a1).f5) ≥ (l0_4.length : Int))) a0_0 a0_1 a0_2 l0_3 l0_4 a0_5 a0_6 l0_7 l0_8 a0_9 a0_10 l0_11 l0_12 ((rd_T181 l0_3 a1).f0) ((rd_T181 l0_3 a1).f1) ((rd_T181 l0_3 a1).f2) ((rd_T181 l0_3 a1).f3) ((rd_T181 l0_3 a1).f4) ((rd_T181 l0_3 a1).f5) ((rd_T181 l0_3 a1).f6.f0) ((rd_T181 l0_3 a1).f6.f1))) = some r := by rw [if_pos rfl] at H; exact H
   clear H
   have H := H1
   clear H1
   by_cases c17 : ((rd_T181 l0_3 a1).f5) < (-1)
   ·rw [if_pos c17] at H
    have c17b0 : decide (((rd_T181 l0_3 a1).f5) < (-1)) = true := decide_eq_true c17
    clear c17
    (first | rw [c17b0] | (simp only [bI, bJ]; rw [c17b0]) | skip)
    have H' := Aside0.mk H
    clear H
    try go_wp2
    have n0_ := Aside0.mk (bC BK102.out)
    have n1_ := Aside0.mk (bC BK104.out)
    have n2_ := Aside0.mk (bH HB.out)
    clear BK102
    clear BK104
    clear HB
    have BK102 := n0_
    have BK104 := n1_
    have HB := n2_
    clear n0_ n1_ n2_
    refine cC (n := 20) (S := fun w' => w'.cell? ⟨gb102, 0, none⟩ = some (.int .i64 a0_0) ∧ w'.cell? ⟨gb102, 1, none⟩ = some (.int .i64 a0_1) ∧ w'.cell? ⟨gb102, 2, none⟩ = some (.int .i64 a0_2) ∧ w'.cell? ⟨gb102, 3, none⟩ = some (.slice (some ad103) l0_3.length c0_3) ∧ w'.cell? ⟨gb102, 4, none⟩ = some (.slice A0_4 l0_4.length c0_4) ∧ w'.cell? ⟨gb102, 5, none⟩ = some (.int .i64 a0_5) ∧ w'.cell? ⟨gb102, 6, none⟩ = some (.int .i64 a0_6) ∧ w'.cell? ⟨gb102, 7, none⟩ = some (.slice A0_7 l0_7.length c0_7) ∧ w'.cell? ⟨gb102, 8, none⟩ = some (.slice A0_8 l0_8.length c0_8) ∧ w'.cell? ⟨gb102, 9, none⟩ = some (.int .i64 a0_9) ∧ w'.cell? ⟨gb102, 10, none⟩ = some (.int .i64 a0_10) ∧ w'.cell? ⟨gb102, 11, none⟩ = some (.slice A0_11 l0_11.length c0_11) ∧ w'.cell? ⟨gb102, 12, none⟩ = some (.slice A0_12 l0_12.length c0_12) ∧ w'.cell? ⟨gb104, 0, none⟩ = some (.int .i64 ((rd_T181 l0_3 a1).f0)) ∧ w'.cell? ⟨gb104, 1, none⟩ = some (.int .i64 ((rd_T181 l0_3 a1).f1)) ∧ w'.cell? ⟨gb104, 2, none⟩ = some (.int .i64 ((rd_T181 l0_3 a1).f2)) ∧ w'.cell? ⟨gb104, 3, none⟩ = some (.int .i64 ((rd_T181 l0_3 a1).f3)) ∧ w'.cell? ⟨gb104, 4, none⟩ = some (.int .i64 ((rd_T181 l0_3 a1).f4)) ∧ w'.cell? ⟨gb104, 5, none⟩ = some (.int .i64 ((rd_T181 l0_3 a1).f5)) ∧ w'.cell? ⟨gb104, 6, none⟩ = some (.int .i64 ((rd_T181 l0_3 a1).f6.f0)) ∧ w'.cell? ⟨gb104, 7, none⟩ = some (.int .i64 ((rd_T181 l0_3 a1).f6.f1))) (ds := []) #[hR,hR,hR,hR,hR,hR,hR,hR,hR,hR,hR,hR,hR,hR,hR,hR,hR,hR,hR,hR] (by kernel_rfl) rfl rfl ⟨(bA BK102.out 0).trans rfl, (bA BK102.out 1).trans rfl, (bA BK102.out 2).trans rfl, (bA BK102.out 3).trans rfl, (bA BK102.out 4).trans rfl, (bA BK102.out 5).trans rfl, (bA BK102.out 6).trans rfl, (bA BK102.out 7).trans rfl, (bA BK102.out 8).trans rfl, (bA BK102.out 9).trans rfl, (bA BK102.out 10).trans rfl, (bA BK102.out 11).trans rfl, (bA BK102.out 12).trans rfl, (bA BK104.out 0).trans rfl, (bA BK104.out 1).trans rfl, (bA BK104.out 2).trans rfl, (bA BK104.out 3).trans rfl, (bA BK104.out 4).trans rfl, (bA BK104.out 5).trans rfl, (bA BK104.out 6).trans rfl, (bA BK104.out 7).trans rfl⟩ (fun hHeld => ?_); refine bV live_one.tab4 live_one.bits4 (fun HT_ HW_ => ?_)
    generalize w13.drew = w18 at BK102 BK104 HB hHeld ⊢
    refine bN (i := 3) (N := some 20) (v := ?_) (a' := ?_) #[hR,hR,hR,hQ,hR,hR,hR,hR,hR,hR,hR,hR,hR,hR,hR,hR,hR,hR,hR,hR] rfl rfl (bM HT_.out (by kernel_rfl)) (fun _ _ _ h => h) (Or.inl ⟨by rfl, ?_⟩) ?_ ?_;rotate_left;(intro w';go_simp;with_reducible rfl);rotate_left;(simp only [hV, hS, hT, hU, bI, bJ];rfl)
    refine bU (i := 0) (N := some 17) (v := ?_) (a' := ?_) #[hQ,hR,hR,hQ,hR,hR,hR,hR,hR,hR,hR,hR,hR,hR,hR,hR,hR,hR,hR,hR] rfl rfl (bQ HT_.out HW_.out (by kernel_rfl)) (fun _ _ _ h => h) (Or.inl ⟨by rfl, ?_⟩) hHeld ?_ ?_;rotate_left;(rintro w' ⟨s0, s1, s2, s3, s4, s5, s6, s7, s8, s9, s10, s11, s12, s13, s14, s15, s16, s17, s18, s19, s20⟩;go_simp;with_reducible rfl);rotate_left;(simp only [hV, hS, hT, hU, bI, bJ];rfl)
    refine bU (i := 1) (N := some 18) (v := ?_) (a' := ?_) #[hQ,hQ,hR,hQ,hR,hR,hR,hR,hR,hR,hR,hR,hR,hR,hR,hR,hR,hR,hR,hR] rfl rfl (bQ HT_.out HW_.out (by kernel_rfl)) (fun _ _ _ h => h) (Or.inl ⟨by rfl, ?_⟩) hHeld ?_ ?_;rotate_left;(rintro w' ⟨s0, s1, s2, s3, s4, s5, s6, s7, s8, s9, s10, s11, s12, s13, s14, s15, s16, s17, s18, s19, s20⟩;go_simp;with_reducible rfl);rotate_left;(simp only [hV, hS, hT, hU, bI, bJ];rfl)
    refine one_ (i := 2) (N := some 19) #[hQ,hQ,hQ,hQ,hR,hR,hR,hR,hR,hR,hR,hR,hR,hR,hR,hR,hR,hR,hR,hR] rfl rfl (bW HT_.out (by kernel_rfl)) (by decide) (fun K hK => ?_)
    refine bZ Try.func120 (by kernel_rfl) rfl #[.agg #[.int .i64 ((rd_T181 l0_3 a1).f0), .int .i64 ((rd_T181 l0_3 a1).f1), .int .i64 ((rd_T181 l0_3 a1).f2), .int .i64 ((rd_T181 l0_3 a1).f3), .int .i64 ((rd_T181 l0_3 a1).f4), .int .i64 ((rd_T181 l0_3 a1).f5), .int .i64 ((rd_T181 l0_3 a1).f6.f0), .int .i64 ((rd_T181 l0_3 a1).f6.f1)]] (by rfl) rfl rfl (by (try simp only [List.map_toArray, List.map_cons, List.map_nil]); first | done | rfl | (simp only [List.length_drop, List.length_take]; rfl)) ?_
    with_reducible refine (ir_Asks.calls ((rd_T181 l0_3 a1).f0) ((rd_T181 l0_3 a1).f1) ((rd_T181 l0_3 a1).f2) ((rd_T181 l0_3 a1).f3) ((rd_T181 l0_3 a1).f4) ((rd_T181 l0_3 a1).f5) ((rd_T181 l0_3 a1).f6.f0) ((rd_T181 l0_3 a1).f6.f1) t106 _ A14.out).mono ?_
    rintro e w19 ⟨v107, rfl, ho0, hb⟩
    refine ⟨_, rfl, ?_⟩
    have n0_ := Aside0.mk (Kd.R_lower ho0 (bR (by repeat (first | (with_reducible first | exact HB.out | apply bL | apply bF | apply bH | refine bG ?_ GE102.out | refine bG ?_ GE104.out) | exact HB.out))))
    have n1_ := Aside0.mk (bO (g := gb102) (o := .cells #[.int .i64 a0_0, .int .i64 a0_1, .int .i64 a0_2, .slice (some ad103) l0_3.length c0_3, .slice A0_4 l0_4.length c0_4, .int .i64 a0_5, .int .i64 a0_6, .slice A0_7 l0_7.length c0_7, .slice A0_8 l0_8.length c0_8, .int .i64 a0_9, .int .i64 a0_10, .slice A0_11 l0_11.length c0_11, .slice A0_12 l0_12.length c0_12] 123 (0, 0)) (by (with_reducible repeat (first | refine bD ?_ _ | refine bC ?_ | refine bE ?_ _)); exact BK102.out) hb)
    have n2_ := Aside0.mk (bO (g := gb104) (o := .cells #[.int .i64 ((rd_T181 l0_3 a1).f0), .int .i64 ((rd_T181 l0_3 a1).f1), .int .i64 ((rd_T181 l0_3 a1).f2), .int .i64 ((rd_T181 l0_3 a1).f3), .int .i64 ((rd_T181 l0_3 a1).f4), .int .i64 ((rd_T181 l0_3 a1).f5), .int .i64 ((rd_T181 l0_3 a1).f6.f0), .int .i64 ((rd_T181 l0_3 a1).f6.f1)] 181 (0, 0)) (by (with_reducible repeat (first | refine bD ?_ _ | refine bC ?_ | refine bE ?_ _)); exact BK104.out) hb)
    have n3_ := Aside0.mk (bP (by repeat (first | (with_reducible first | exact HB.out | apply bL | apply bF | apply bH | refine bG ?_ GE102.out | refine bG ?_ GE104.out) | exact HB.out)) hb)
    clear BK102
    clear BK104
    clear HB
    have HO108 := n0_
    have BK102 := n1_
    have BK104 := n2_
    have HB := n3_
    clear n0_ n1_ n2_ n3_
    (try clear hb)
    (try clear hb2)
    (try clear hk)
    (try clear hi)
    (try clear ho0)
    obtain ⟨Ao20, co20, eo20⟩ := Kd.R_slice HO108.out
    (first | subst eo20 | (injection eo20 with f1_ f2_ f3_; have f4_ := f1_.symm; have f5_ := f3_.symm; clear f1_ f2_ f3_; subst f4_; subst f5_))
    refine hK.out _ _ ⟨(bA BK102.out 0).trans rfl, (bA BK102.out 1).trans rfl, (bA BK102.out 2).trans rfl, (bA BK102.out 3).trans rfl, (bA BK102.out 4).trans rfl, (bA BK102.out 5).trans rfl, (bA BK102.out 6).trans rfl, (bA BK102.out 7).trans rfl, (bA BK102.out 8).trans rfl, (bA BK102.out 9).trans rfl, (bA BK102.out 10).trans rfl, (bA BK102.out 11).trans rfl, (bA BK102.out 12).trans rfl, (bA BK104.out 0).trans rfl, (bA BK104.out 1).trans rfl, (bA BK104.out 2).trans rfl, (bA BK104.out 3).trans rfl, (bA BK104.out 4).trans rfl, (bA BK104.out 5).trans rfl, (bA BK104.out 6).trans rfl, (bA BK104.out 7).trans rfl⟩ (fun hHeld => ?_)
    clear hK K
    refine bY (a' := ?_) ?_ ?_
    rotate_left
    ·show hV _ (some 19) _ = _
     simp only [hV, hS, hT, hU, bI, bJ]
     rfl
    refine one_ (i := 4) (N := some 21) #[hQ,hQ,hQ,hQ,hQ,hR,hR,hR,hR,hR,hR,hR,hR,hR,hR,hR,hR,hR,hR,hR] rfl rfl (bW HT_.out (by kernel_rfl)) (by decide) (fun K hK => ?_)
    refine bZ Try.func123 (by kernel_rfl) rfl #[.agg #[.int .i64 a0_0, .int .i64 a0_1, .int .i64 a0_2, .slice (some ad103) l0_3.length c0_3, .slice A0_4 l0_4.length c0_4, .int .i64 a0_5, .int .i64 a0_6, .slice A0_7 l0_7.length c0_7, .slice A0_8 l0_8.length c0_8, .int .i64 a0_9, .int .i64 a0_10, .slice A0_11 l0_11.length c0_11, .slice A0_12 l0_12.length c0_12], .slice Ao20 t106.length co20, .int .i64 a1] (by rfl) rfl rfl (by (try simp only [List.map_toArray, List.map_cons, List.map_nil]); first | done | rfl | (simp only [List.length_drop, List.length_take]; rfl)) ?_
    with_reducible refine (live_all.calls a0_0 a0_1 a0_2 _ _ l0_3 _ _ l0_4 a0_5 a0_6 _ _ l0_7 _ _ l0_8 a0_9 a0_10 _ _ l0_11 _ _ l0_12 _ _ t106 a1 true _ ?side1 ?side2 ?side3 ?side4 ?side5 ?side6 ?side7 ?side8 ?side9 ?side10 ?side11 ?side12 ?side13 ?side14 A15.out).mono ?_
    (case side1 => repeat (first | exact (Kd.C_below HR0_3.out HB.out) | (with_reducible refine Kd.C_alloc ?_ _) | (with_reducible refine Kd.C_drewN ?_ _) | (with_reducible refine Kd.C_drew ?_)))
    (case side2 => exact HC0_3.out)
    (case side3 => repeat (first | exact (Kd.C_below HR0_4.out HB.out) | (with_reducible refine Kd.C_alloc ?_ _) | (with_reducible refine Kd.C_drewN ?_ _) | (with_reducible refine Kd.C_drew ?_)))
    (case side4 => exact HC0_4.out)
    (case side5 => repeat (first | exact (Kd.C_below HR0_7.out HB.out) | (with_reducible refine Kd.C_alloc ?_ _) | (with_reducible refine Kd.C_drewN ?_ _) | (with_reducible refine Kd.C_drew ?_)))
    (case side6 => exact HC0_7.out)
    (case side7 => repeat (first | exact (Kd.C_below HR0_8.out HB.out) | (with_reducible refine Kd.C_alloc ?_ _) | (with_reducible refine Kd.C_drewN ?_ _) | (with_reducible refine Kd.C_drew ?_)))
    (case side8 => exact HC0_8.out)
    (case side9 => repeat (first | exact (Kd.C_below HR0_11.out HB.out) | (with_reducible refine Kd.C_alloc ?_ _) | (with_reducible refine Kd.C_drewN ?_ _) | (with_reducible refine Kd.C_drew ?_)))
    (case side10 => exact HC0_11.out)
    (case side11 => repeat (first | exact (Kd.C_below HR0_12.out HB.out) | (with_reducible refine Kd.C_alloc ?_ _) | (with_reducible refine Kd.C_drewN ?_ _) | (with_reducible refine Kd.C_drew ?_)))
    (case side12 => exact HC0_12.out)
    (case side13 => repeat (first | exact (Kd.R_reads' HO108.out).2.2 | (with_reducible refine Kd.C_alloc ?_ _) | (with_reducible refine Kd.C_drewN ?_ _) | (with_reducible refine Kd.C_drew ?_)))
    (case side14 => exact (Kd.R_reads' HO108.out).2.1)
    rintro e w21 ⟨rfl, hb⟩
    refine ⟨_, rfl, ?_⟩
    have n0_ := Aside0.mk (Kd.R_below (by (with_reducible repeat (first | apply Kd.R_alloc | apply Kd.R_drewN | apply Kd.R_drew)); exact HO108.out) hb)
    have n1_ := Aside0.mk (bO (g := gb102) (o := .cells #[.int .i64 a0_0, .int .i64 a0_1, .int .i64 a0_2, .slice (some ad103) l0_3.length c0_3, .slice A0_4 l0_4.length c0_4, .int .i64 a0_5, .int .i64 a0_6, .slice A0_7 l0_7.length c0_7, .slice A0_8 l0_8.length c0_8, .int .i64 a0_9, .int .i64 a0_10, .slice A0_11 l0_11.length c0_11, .slice A0_12 l0_12.length c0_12] 123 (0, 0)) (by (with_reducible repeat (first | refine bD ?_ _ | refine bC ?_ | refine bE ?_ _)); exact BK102.out) hb)
    have n2_ := Aside0.mk (bO (g := gb104) (o := .cells #[.int .i64 ((rd_T181 l0_3 a1).f0), .int .i64 ((rd_T181 l0_3 a1).f1), .int .i64 ((rd_T181 l0_3 a1).f2), .int .i64 ((rd_T181 l0_3 a1).f3), .int .i64 ((rd_T181 l0_3 a1).f4), .int .i64 ((rd_T181 l0_3 a1).f5), .int .i64 ((rd_T181 l0_3 a1).f6.f0), .int .i64 ((rd_T181 l0_3 a1).f6.f1)] 181 (0, 0)) (by (with_reducible repeat (first | refine bD ?_ _ | refine bC ?_ | refine bE ?_ _)); exact BK104.out) hb)
    have n3_ := Aside0.mk (bP (by repeat (first | (with_reducible first | exact HB.out | apply bL | apply bF | apply bH | refine bG ?_ GE102.out | refine bG ?_ GE104.out) | exact HB.out)) hb)
    clear HO108
    clear BK102
    clear BK104
    clear HB
    have HO108 := n0_
    have BK102 := n1_
    have BK104 := n2_
    have HB := n3_
    clear n0_ n1_ n2_ n3_
    (try clear hb)
    (try clear hb2)
    (try clear hk)
    (try clear hi)
    refine hK.out _ _ ⟨(bA BK102.out 0).trans rfl, (bA BK102.out 1).trans rfl, (bA BK102.out 2).trans rfl, (bA BK102.out 3).trans rfl, (bA BK102.out 4).trans rfl, (bA BK102.out 5).trans rfl, (bA BK102.out 6).trans rfl, (bA BK102.out 7).trans rfl, (bA BK102.out 8).trans rfl, (bA BK102.out 9).trans rfl, (bA BK102.out 10).trans rfl, (bA BK102.out 11).trans rfl, (bA BK102.out 12).trans rfl, (bA BK104.out 0).trans rfl, (bA BK104.out 1).trans rfl, (bA BK104.out 2).trans rfl, (bA BK104.out 3).trans rfl, (bA BK104.out 4).trans rfl, (bA BK104.out 5).trans rfl, (bA BK104.out 6).trans rfl, (bA BK104.out 7).trans rfl⟩ (fun hHeld => ?_)
    clear hK K
    refine bY (a' := ?_) ?_ ?_
    rotate_left
    ·show hV _ (some 21) _ = _
     simp only [hV, hS, hT, hU, bI, bJ]
     rfl
    refine bN (i := 5) (N := some 22) (v := ?_) (a' := ?_) #[hQ,hQ,hQ,hQ,hQ,hQ,hR,hR,hR,hR,hR,hR,hR,hR,hR,hR,hR,hR,hR,hR] rfl rfl (bM HT_.out (by kernel_rfl)) (fun _ _ _ h => h) (Or.inl ⟨by rfl, ?_⟩) ?_ ?_;rotate_left;(intro w';go_simp;with_reducible rfl);rotate_left;(simp only [hV, hS, hT, hU, bI, bJ];rfl)
    refine bN (i := 6) (N := some 23) (v := ?_) (a' := ?_) #[hQ,hQ,hQ,hQ,hQ,hQ,hQ,hR,hR,hR,hR,hR,hR,hR,hR,hR,hR,hR,hR,hR] rfl rfl (bM HT_.out (by kernel_rfl)) (fun _ _ _ h => h) (Or.inl ⟨by rfl, ?_⟩) ?_ ?_;rotate_left;(intro w';go_simp;with_reducible rfl);rotate_left;(simp only [hV, hS, hT, hU, bI, bJ];rfl)
    refine bN (i := 7) (N := some 24) (v := ?_) (a' := ?_) #[hQ,hQ,hQ,hQ,hQ,hQ,hQ,hQ,hR,hR,hR,hR,hR,hR,hR,hR,hR,hR,hR,hR] rfl rfl (bM HT_.out (by kernel_rfl)) (fun _ _ _ h => h) (Or.inl ⟨by rfl, ?_⟩) ?_ ?_;rotate_left;(intro w';go_simp;with_reducible rfl);rotate_left;(simp only [hV, hS, hT, hU, bI, bJ];rfl)
    refine bU (i := 8) (N := some 25) (v := ?_) (a' := ?_) #[hQ,hQ,hQ,hQ,hQ,hQ,hQ,hQ,hQ,hR,hR,hR,hR,hR,hR,hR,hR,hR,hR,hR] rfl rfl (bQ HT_.out HW_.out (by kernel_rfl)) (fun _ _ _ h => h) (Or.inl ⟨by rfl, ?_⟩) hHeld ?_ ?_;rotate_left;(rintro w' ⟨s0, s1, s2, s3, s4, s5, s6, s7, s8, s9, s10, s11, s12, s13, s14, s15, s16, s17, s18, s19, s20⟩;go_simp;with_reducible rfl);rotate_left;(simp only [hV, hS, hT, hU, bI, bJ];rfl)
    refine bN (i := 9) (N := some 26) (v := ?_) (a' := ?_) #[hQ,hQ,hQ,hQ,hQ,hQ,hQ,hQ,hQ,hQ,hR,hR,hR,hR,hR,hR,hR,hR,hR,hR] rfl rfl (bM HT_.out (by kernel_rfl)) (fun _ _ _ h => h) (Or.inl ⟨by rfl, ?_⟩) ?_ ?_;rotate_left;(intro w';go_simp;with_reducible rfl);rotate_left;(simp only [hV, hS, hT, hU, bI, bJ];rfl)
    refine bN (i := 10) (N := some 27) (v := ?_) (a' := ?_) #[hQ,hQ,hQ,hQ,hQ,hQ,hQ,hQ,hQ,hQ,hQ,hR,hR,hR,hR,hR,hR,hR,hR,hR] rfl rfl (bM HT_.out (by kernel_rfl)) (fun _ _ _ h => h) (Or.inl ⟨by rfl, ?_⟩) ?_ ?_;rotate_left;(intro w';go_simp;with_reducible rfl);rotate_left;(simp only [hV, hS, hT, hU, bI, bJ];rfl)
    refine bN (i := 11) (N := some 28) (v := ?_) (a' := ?_) #[hQ,hQ,hQ,hQ,hQ,hQ,hQ,hQ,hQ,hQ,hQ,hQ,hR,hR,hR,hR,hR,hR,hR,hR] rfl rfl (bM HT_.out (by kernel_rfl)) (fun _ _ _ h => h) (Or.inl ⟨by rfl, ?_⟩) ?_ ?_;rotate_left;(intro w';go_simp;with_reducible rfl);rotate_left;(simp only [hV, hS, hT, hU, bI, bJ];rfl)
    refine bN (i := 12) (N := some 29) (v := undef) (a' := ?_) #[hQ,hQ,hQ,hQ,hQ,hQ,hQ,hQ,hQ,hQ,hQ,hQ,hQ,hR,hR,hR,hR,hR,hR,hR] rfl rfl (bM HT_.out (by kernel_rfl)) (fun _ _ _ h => h) (Or.inr ⟨by rfl, rfl⟩) ?_ ?_
    rotate_left
    ·simp only [hV, hS, hT, hU, bI, bJ]
     rfl
    refine bN (i := 13) (N := some 30) (v := undef) (a' := ?_) #[hQ,hQ,hQ,hQ,hQ,hQ,hQ,hQ,hQ,hQ,hQ,hQ,hQ,hQ,hR,hR,hR,hR,hR,hR] rfl rfl (bM HT_.out (by kernel_rfl)) (fun _ _ _ h => h) (Or.inr ⟨by rfl, rfl⟩) ?_ ?_
    rotate_left
    ·simp only [hV, hS, hT, hU, bI, bJ]
     rfl
    refine bN (i := 14) (N := some 31) (v := undef) (a' := ?_) #[hQ,hQ,hQ,hQ,hQ,hQ,hQ,hQ,hQ,hQ,hQ,hQ,hQ,hQ,hQ,hR,hR,hR,hR,hR] rfl rfl (bM HT_.out (by kernel_rfl)) (fun _ _ _ h => h) (Or.inr ⟨by rfl, rfl⟩) ?_ ?_
    rotate_left
    ·simp only [hV, hS, hT, hU, bI, bJ]
     rfl
    refine bN (i := 15) (N := some 32) (v := undef) (a' := ?_) #[hQ,hQ,hQ,hQ,hQ,hQ,hQ,hQ,hQ,hQ,hQ,hQ,hQ,hQ,hQ,hQ,hR,hR,hR,hR] rfl rfl (bM HT_.out (by kernel_rfl)) (fun _ _ _ h => h) (Or.inr ⟨by rfl, rfl⟩) ?_ ?_
    rotate_left
    ·simp only [hV, hS, hT, hU, bI, bJ]
     rfl
    refine bN (i := 16) (N := some 33) (v := undef) (a' := ?_) #[hQ,hQ,hQ,hQ,hQ,hQ,hQ,hQ,hQ,hQ,hQ,hQ,hQ,hQ,hQ,hQ,hQ,hR,hR,hR] rfl rfl (bM HT_.out (by kernel_rfl)) (fun _ _ _ h => h) (Or.inr ⟨by rfl, rfl⟩) ?_ ?_
    rotate_left
    ·simp only [hV, hS, hT, hU, bI, bJ]
     rfl
    refine bN (i := 17) (N := some 34) (v := undef) (a' := ?_) #[hQ,hQ,hQ,hQ,hQ,hQ,hQ,hQ,hQ,hQ,hQ,hQ,hQ,hQ,hQ,hQ,hQ,hQ,hR,hR] rfl rfl (bM HT_.out (by kernel_rfl)) (fun _ _ _ h => h) (Or.inr ⟨by rfl, rfl⟩) ?_ ?_
    rotate_left
    ·simp only [hV, hS, hT, hU, bI, bJ]
     rfl
    refine bN (i := 18) (N := some 35) (v := ?_) (a' := ?_) #[hQ,hQ,hQ,hQ,hQ,hQ,hQ,hQ,hQ,hQ,hQ,hQ,hQ,hQ,hQ,hQ,hQ,hQ,hQ,hR] rfl rfl (bM HT_.out (by kernel_rfl)) (fun _ _ _ h => h) (Or.inl ⟨by rfl, ?_⟩) ?_ ?_;rotate_left;(intro w';go_simp;with_reducible rfl);rotate_left;(simp only [hV, hS, hT, hU, bI, bJ];rfl)
    refine bN (i := 19) (N := some 16) (v := ?_) (a' := ?_) #[hQ,hQ,hQ,hQ,hQ,hQ,hQ,hQ,hQ,hQ,hQ,hQ,hQ,hQ,hQ,hQ,hQ,hQ,hQ,hQ] rfl rfl (bM HT_.out (by kernel_rfl)) (fun _ _ _ h => h) (Or.inl ⟨by rfl, ?_⟩) ?_ ?_;rotate_left;(intro w';go_simp;with_reducible rfl);rotate_left;(simp only [hV, hS, hT, hU, bI, bJ];rfl)
    refine cF (cA HT_.out (by kernel_rfl)) ?_
    try go_wp2
    go_meet
    case rel => exact ⟨_, (true), (by first | rfl | (simp; done) | (simp [*]; done)), H', ⟨by first | omega | exact Nat.le_refl _⟩, ⟨by (with_reducible repeat (first | refine bD ?_ _ | refine bC ?_ | refine bE ?_ _)); exact BK102.out⟩, ⟨by (with_reducible repeat (first | refine bD ?_ _ | refine bC ?_ | refine bE ?_ _)); exact BK104.out⟩, ⟨by repeat (first | (with_reducible first | exact HB.out | apply bL | apply bF | apply bH | refine bG ?_ GE102.out | refine bG ?_ GE104.out) | exact HB.out)⟩⟩
   rw [if_neg c17] at H
   have c17b0 : decide (((rd_T181 l0_3 a1).f5) < (-1)) = false := decide_eq_false c17
   clear c17
   (first | rw [c17b0] | (simp only [bI, bJ]; rw [c17b0]) | skip)
   have H' := Aside0.mk H
   clear H
   try go_wp2
   have n0_ := Aside0.mk (bC BK102.out)
   have n1_ := Aside0.mk (bC BK104.out)
   have n2_ := Aside0.mk (bH HB.out)
   clear BK102
   clear BK104
   clear HB
   have BK102 := n0_
   have BK104 := n1_
   have HB := n2_
   clear n0_ n1_ n2_
   refine cC (n := 20) (S := fun w' => w'.cell? ⟨gb102, 0, none⟩ = some (.int .i64 a0_0) ∧ w'.cell? ⟨gb102, 1, none⟩ = some (.int .i64 a0_1) ∧ w'.cell? ⟨gb102, 2, none⟩ = some (.int .i64 a0_2) ∧ w'.cell? ⟨gb102, 3, none⟩ = some (.slice (some ad103) l0_3.length c0_3) ∧ w'.cell? ⟨gb102, 4, none⟩ = some (.slice A0_4 l0_4.length c0_4) ∧ w'.cell? ⟨gb102, 5, none⟩ = some (.int .i64 a0_5) ∧ w'.cell? ⟨gb102, 6, none⟩ = some (.int .i64 a0_6) ∧ w'.cell? ⟨gb102, 7, none⟩ = some (.slice A0_7 l0_7.length c0_7) ∧ w'.cell? ⟨gb102, 8, none⟩ = some (.slice A0_8 l0_8.length c0_8) ∧ w'.cell? ⟨gb102, 9, none⟩ = some (.int .i64 a0_9) ∧ w'.cell? ⟨gb102, 10, none⟩ = some (.int .i64 a0_10) ∧ w'.cell? ⟨gb102, 11, none⟩ = some (.slice A0_11 l0_11.length c0_11) ∧ w'.cell? ⟨gb102, 12, none⟩ = some (.slice A0_12 l0_12.length c0_12) ∧ w'.cell? ⟨gb104, 0, none⟩ = some (.int .i64 ((rd_T181 l0_3 a1).f0)) ∧ w'.cell? ⟨gb104, 1, none⟩ = some (.int .i64 ((rd_T181 l0_3 a1).f1)) ∧ w'.cell? ⟨gb104, 2, none⟩ = some (.int .i64 ((rd_T181 l0_3 a1).f2)) ∧ w'.cell? ⟨gb104, 3, none⟩ = some (.int .i64 ((rd_T181 l0_3 a1).f3)) ∧ w'.cell? ⟨gb104, 4, none⟩ = some (.int .i64 ((rd_T181 l0_3 a1).f4)) ∧ w'.cell? ⟨gb104, 5, none⟩ = some (.int .i64 ((rd_T181 l0_3 a1).f5)) ∧ w'.cell? ⟨gb104, 6, none⟩ = some (.int .i64 ((rd_T181 l0_3 a1).f6.f0)) ∧ w'.cell? ⟨gb104, 7, none⟩ = some (.int .i64 ((rd_T181 l0_3 a1).f6.f1))) (ds := []) #[hR,hR,hR,hR,hR,hR,hR,hR,hR,hR,hR,hR,hR,hR,hR,hR,hR,hR,hR,hR] (by kernel_rfl) rfl rfl ⟨(bA BK102.out 0).trans rfl, (bA BK102.out 1).trans rfl, (bA BK102.out 2).trans rfl, (bA BK102.out 3).trans rfl, (bA BK102.out 4).trans rfl, (bA BK102.out 5).trans rfl, (bA BK102.out 6).trans rfl, (bA BK102.out 7).trans rfl, (bA BK102.out 8).trans rfl, (bA BK102.out 9).trans rfl, (bA BK102.out 10).trans rfl, (bA BK102.out 11).trans rfl, (bA BK102.out 12).trans rfl, (bA BK104.out 0).trans rfl, (bA BK104.out 1).trans rfl, (bA BK104.out 2).trans rfl, (bA BK104.out 3).trans rfl, (bA BK104.out 4).trans rfl, (bA BK104.out 5).trans rfl, (bA BK104.out 6).trans rfl, (bA BK104.out 7).trans rfl⟩ (fun hHeld => ?_); refine bV live_one.tab4 live_one.bits4 (fun HT_ HW_ => ?_)
   generalize w13.drew = w22 at BK102 BK104 HB hHeld ⊢
   refine bN (i := 3) (N := some 20) (v := ?_) (a' := ?_) #[hR,hR,hR,hQ,hR,hR,hR,hR,hR,hR,hR,hR,hR,hR,hR,hR,hR,hR,hR,hR] rfl rfl (bM HT_.out (by kernel_rfl)) (fun _ _ _ h => h) (Or.inl ⟨by rfl, ?_⟩) ?_ ?_;rotate_left;(intro w';go_simp;with_reducible rfl);rotate_left;(simp only [hV, hS, hT, hU, bI, bJ];rfl)
   refine bU (i := 0) (N := some 17) (v := ?_) (a' := ?_) #[hQ,hR,hR,hQ,hR,hR,hR,hR,hR,hR,hR,hR,hR,hR,hR,hR,hR,hR,hR,hR] rfl rfl (bQ HT_.out HW_.out (by kernel_rfl)) (fun _ _ _ h => h) (Or.inl ⟨by rfl, ?_⟩) hHeld ?_ ?_;rotate_left;(rintro w' ⟨s0, s1, s2, s3, s4, s5, s6, s7, s8, s9, s10, s11, s12, s13, s14, s15, s16, s17, s18, s19, s20⟩;go_simp;with_reducible rfl);rotate_left;(simp only [hV, hS, hT, hU, bI, bJ];rfl)
   refine bU (i := 1) (N := some 18) (v := ?_) (a' := ?_) #[hQ,hQ,hR,hQ,hR,hR,hR,hR,hR,hR,hR,hR,hR,hR,hR,hR,hR,hR,hR,hR] rfl rfl (bQ HT_.out HW_.out (by kernel_rfl)) (fun _ _ _ h => h) (Or.inl ⟨by rfl, ?_⟩) hHeld ?_ ?_;rotate_left;(rintro w' ⟨s0, s1, s2, s3, s4, s5, s6, s7, s8, s9, s10, s11, s12, s13, s14, s15, s16, s17, s18, s19, s20⟩;go_simp;with_reducible rfl);rotate_left;(simp only [hV, hS, hT, hU, bI, bJ];rfl)
   refine one_ (i := 2) (N := some 19) #[hQ,hQ,hQ,hQ,hR,hR,hR,hR,hR,hR,hR,hR,hR,hR,hR,hR,hR,hR,hR,hR] rfl rfl (bW HT_.out (by kernel_rfl)) (by decide) (fun K hK => ?_)
   refine bZ Try.func120 (by kernel_rfl) rfl #[.agg #[.int .i64 ((rd_T181 l0_3 a1).f0), .int .i64 ((rd_T181 l0_3 a1).f1), .int .i64 ((rd_T181 l0_3 a1).f2), .int .i64 ((rd_T181 l0_3 a1).f3), .int .i64 ((rd_T181 l0_3 a1).f4), .int .i64 ((rd_T181 l0_3 a1).f5), .int .i64 ((rd_T181 l0_3 a1).f6.f0), .int .i64 ((rd_T181 l0_3 a1).f6.f1)]] (by rfl) rfl rfl (by (try simp only [List.map_toArray, List.map_cons, List.map_nil]); first | done | rfl | (simp only [List.length_drop, List.length_take]; rfl)) ?_
   with_reducible refine (ir_Asks.calls ((rd_T181 l0_3 a1).f0) ((rd_T181 l0_3 a1).f1) ((rd_T181 l0_3 a1).f2) ((rd_T181 l0_3 a1).f3) ((rd_T181 l0_3 a1).f4) ((rd_T181 l0_3 a1).f5) ((rd_T181 l0_3 a1).f6.f0) ((rd_T181 l0_3 a1).f6.f1) t106 _ A14.out).mono ?_
   rintro e w23 ⟨v107, rfl, ho0, hb⟩
   refine ⟨_, rfl, ?_⟩
   have n0_ := Aside0.mk (Kd.R_lower ho0 (bR (by repeat (first | (with_reducible first | exact HB.out | apply bL | apply bF | apply bH | refine bG ?_ GE102.out | refine bG ?_ GE104.out) | exact HB.out))))
   have n1_ := Aside0.mk (bO (g := gb102) (o := .cells #[.int .i64 a0_0, .int .i64 a0_1, .int .i64 a0_2, .slice (some ad103) l0_3.length c0_3, .slice A0_4 l0_4.length c0_4, .int .i64 a0_5, .int .i64 a0_6, .slice A0_7 l0_7.length c0_7, .slice A0_8 l0_8.length c0_8, .int .i64 a0_9, .int .i64 a0_10, .slice A0_11 l0_11.length c0_11, .slice A0_12 l0_12.length c0_12] 123 (0, 0)) (by (with_reducible repeat (first | refine bD ?_ _ | refine bC ?_ | refine bE ?_ _)); exact BK102.out) hb)
   have n2_ := Aside0.mk (bO (g := gb104) (o := .cells #[.int .i64 ((rd_T181 l0_3 a1).f0), .int .i64 ((rd_T181 l0_3 a1).f1), .int .i64 ((rd_T181 l0_3 a1).f2), .int .i64 ((rd_T181 l0_3 a1).f3), .int .i64 ((rd_T181 l0_3 a1).f4), .int .i64 ((rd_T181 l0_3 a1).f5), .int .i64 ((rd_T181 l0_3 a1).f6.f0), .int .i64 ((rd_T181 l0_3 a1).f6.f1)] 181 (0, 0)) (by (with_reducible repeat (first | refine bD ?_ _ | refine bC ?_ | refine bE ?_ _)); exact BK104.out) hb)
   have n3_ := Aside0.mk (bP (by repeat (first | (with_reducible first | exact HB.out | apply bL | apply bF | apply bH | refine bG ?_ GE102.out | refine bG ?_ GE104.out) | exact HB.out)) hb)
   clear BK102
   clear BK104
   clear HB
   have HO108 := n0_
   have BK102 := n1_
   have BK104 := n2_
   have HB := n3_
   clear n0_ n1_ n2_ n3_
   (try clear hb)
   (try clear hb2)
   (try clear hk)
   (try clear hi)
   (try clear ho0)
   obtain ⟨Ao24, co24, eo24⟩ := Kd.R_slice HO108.out
   (first | subst eo24 | (injection eo24 with f1_ f2_ f3_; have f4_ := f1_.symm; have f5_ := f3_.symm; clear f1_ f2_ f3_; subst f4_; subst f5_))
   refine hK.out _ _ ⟨(bA BK102.out 0).trans rfl, (bA BK102.out 1).trans rfl, (bA BK102.out 2).trans rfl, (bA BK102.out 3).trans rfl, (bA BK102.out 4).trans rfl, (bA BK102.out 5).trans rfl, (bA BK102.out 6).trans rfl, (bA BK102.out 7).trans rfl, (bA BK102.out 8).trans rfl, (bA BK102.out 9).trans rfl, (bA BK102.out 10).trans rfl, (bA BK102.out 11).trans rfl, (bA BK102.out 12).trans rfl, (bA BK104.out 0).trans rfl, (bA BK104.out 1).trans rfl, (bA BK104.out 2).trans rfl, (bA BK104.out 3).trans rfl, (bA BK104.out 4).trans rfl, (bA BK104.out 5).trans rfl, (bA BK104.out 6).trans rfl, (bA BK104.out 7).trans rfl⟩ (fun hHeld => ?_)
   clear hK K
   refine bY (a' := ?_) ?_ ?_
   rotate_left
   ·show hV _ (some 19) _ = _
    simp only [hV, hS, hT, hU, bI, bJ]
    rfl
   refine one_ (i := 4) (N := some 21) #[hQ,hQ,hQ,hQ,hQ,hR,hR,hR,hR,hR,hR,hR,hR,hR,hR,hR,hR,hR,hR,hR] rfl rfl (bW HT_.out (by kernel_rfl)) (by decide) (fun K hK => ?_)
   refine bZ Try.func123 (by kernel_rfl) rfl #[.agg #[.int .i64 a0_0, .int .i64 a0_1, .int .i64 a0_2, .slice (some ad103) l0_3.length c0_3, .slice A0_4 l0_4.length c0_4, .int .i64 a0_5, .int .i64 a0_6, .slice A0_7 l0_7.length c0_7, .slice A0_8 l0_8.length c0_8, .int .i64 a0_9, .int .i64 a0_10, .slice A0_11 l0_11.length c0_11, .slice A0_12 l0_12.length c0_12], .slice Ao24 t106.length co24, .int .i64 a1] (by rfl) rfl rfl (by (try simp only [List.map_toArray, List.map_cons, List.map_nil]); first | done | rfl | (simp only [List.length_drop, List.length_take]; rfl)) ?_
   with_reducible refine (live_all.calls a0_0 a0_1 a0_2 _ _ l0_3 _ _ l0_4 a0_5 a0_6 _ _ l0_7 _ _ l0_8 a0_9 a0_10 _ _ l0_11 _ _ l0_12 _ _ t106 a1 true _ ?side1 ?side2 ?side3 ?side4 ?side5 ?side6 ?side7 ?side8 ?side9 ?side10 ?side11 ?side12 ?side13 ?side14 A15.out).mono ?_
   (case side1 => repeat (first | exact (Kd.C_below HR0_3.out HB.out) | (with_reducible refine Kd.C_alloc ?_ _) | (with_reducible refine Kd.C_drewN ?_ _) | (with_reducible refine Kd.C_drew ?_)))
   (case side2 => exact HC0_3.out)
   (case side3 => repeat (first | exact (Kd.C_below HR0_4.out HB.out) | (with_reducible refine Kd.C_alloc ?_ _) | (with_reducible refine Kd.C_drewN ?_ _) | (with_reducible refine Kd.C_drew ?_)))
   (case side4 => exact HC0_4.out)
   (case side5 => repeat (first | exact (Kd.C_below HR0_7.out HB.out) | (with_reducible refine Kd.C_alloc ?_ _) | (with_reducible refine Kd.C_drewN ?_ _) | (with_reducible refine Kd.C_drew ?_)))
   (case side6 => exact HC0_7.out)
   (case side7 => repeat (first | exact (Kd.C_below HR0_8.out HB.out) | (with_reducible refine Kd.C_alloc ?_ _) | (with_reducible refine Kd.C_drewN ?_ _) | (with_reducible refine Kd.C_drew ?_)))
   (case side8 => exact HC0_8.out)
   (case side9 => repeat (first | exact (Kd.C_below HR0_11.out HB.out) | (with_reducible refine Kd.C_alloc ?_ _) | (with_reducible refine Kd.C_drewN ?_ _) | (with_reducible refine Kd.C_drew ?_)))
   (case side10 => exact HC0_11.out)
   (case side11 => repeat (first | exact (Kd.C_below HR0_12.out HB.out) | (with_reducible refine Kd.C_alloc ?_ _) | (with_reducible refine Kd.C_drewN ?_ _) | (with_reducible refine Kd.C_drew ?_)))
   (case side12 => exact HC0_12.out)
   (case side13 => repeat (first | exact (Kd.R_reads' HO108.out).2.2 | (with_reducible refine Kd.C_alloc ?_ _) | (with_reducible refine Kd.C_drewN ?_ _) | (with_reducible refine Kd.C_drew ?_)))
   (case side14 => exact (Kd.R_reads' HO108.out).2.1)
   rintro e w25 ⟨rfl, hb⟩
   refine ⟨_, rfl, ?_⟩
   have n0_ := Aside0.mk (Kd.R_below (by (with_reducible repeat (first | apply Kd.R_alloc | apply Kd.R_drewN | apply Kd.R_drew)); exact HO108.out) hb)
   have n1_ := Aside0.mk (bO (g := gb102) (o := .cells #[.int .i64 a0_0, .int .i64 a0_1, .int .i64 a0_2, .slice (some ad103) l0_3.length c0_3, .slice A0_4 l0_4.length c0_4, .int .i64 a0_5, .int .i64 a0_6, .slice A0_7 l0_7.length c0_7, .slice A0_8 l0_8.length c0_8, .int .i64 a0_9, .int .i64 a0_10, .slice A0_11 l0_11.length c0_11, .slice A0_12 l0_12.length c0_12] 123 (0, 0)) (by (with_reducible repeat (first | refine bD ?_ _ | refine bC ?_ | refine bE ?_ _)); exact BK102.out) hb)
   have n2_ := Aside0.mk (bO (g := gb104) (o := .cells #[.int .i64 ((rd_T181 l0_3 a1).f0), .int .i64 ((rd_T181 l0_3 a1).f1), .int .i64 ((rd_T181 l0_3 a1).f2), .int .i64 ((rd_T181 l0_3 a1).f3), .int .i64 ((rd_T181 l0_3 a1).f4), .int .i64 ((rd_T181 l0_3 a1).f5), .int .i64 ((rd_T181 l0_3 a1).f6.f0), .int .i64 ((rd_T181 l0_3 a1).f6.f1)] 181 (0, 0)) (by (with_reducible repeat (first | refine bD ?_ _ | refine bC ?_ | refine bE ?_ _)); exact BK104.out) hb)
   have n3_ := Aside0.mk (bP (by repeat (first | (with_reducible first | exact HB.out | apply bL | apply bF | apply bH | refine bG ?_ GE102.out | refine bG ?_ GE104.out) | exact HB.out)) hb)
   clear HO108
   clear BK102
   clear BK104
   clear HB
   have HO108 := n0_
   have BK102 := n1_
   have BK104 := n2_
   have HB := n3_
   clear n0_ n1_ n2_ n3_
   (try clear hb)
   (try clear hb2)
   (try clear hk)
   (try clear hi)
   refine hK.out _ _ ⟨(bA BK102.out 0).trans rfl, (bA BK102.out 1).trans rfl, (bA BK102.out 2).trans rfl, (bA BK102.out 3).trans rfl, (bA BK102.out 4).trans rfl, (bA BK102.out 5).trans rfl, (bA BK102.out 6).trans rfl, (bA BK102.out 7).trans rfl, (bA BK102.out 8).trans rfl, (bA BK102.out 9).trans rfl, (bA BK102.out 10).trans rfl, (bA BK102.out 11).trans rfl, (bA BK102.out 12).trans rfl, (bA BK104.out 0).trans rfl, (bA BK104.out 1).trans rfl, (bA BK104.out 2).trans rfl, (bA BK104.out 3).trans rfl, (bA BK104.out 4).trans rfl, (bA BK104.out 5).trans rfl, (bA BK104.out 6).trans rfl, (bA BK104.out 7).trans rfl⟩ (fun hHeld => ?_)
   clear hK K
   refine bY (a' := ?_) ?_ ?_
   rotate_left
   ·show hV _ (some 21) _ = _
    simp only [hV, hS, hT, hU, bI, bJ]
    rfl
   refine bN (i := 5) (N := some 22) (v := ?_) (a' := ?_) #[hQ,hQ,hQ,hQ,hQ,hQ,hR,hR,hR,hR,hR,hR,hR,hR,hR,hR,hR,hR,hR,hR] rfl rfl (bM HT_.out (by kernel_rfl)) (fun _ _ _ h => h) (Or.inl ⟨by rfl, ?_⟩) ?_ ?_;rotate_left;(intro w';go_simp;with_reducible rfl);rotate_left;(simp only [hV, hS, hT, hU, bI, bJ];rfl)
   refine bN (i := 6) (N := some 23) (v := ?_) (a' := ?_) #[hQ,hQ,hQ,hQ,hQ,hQ,hQ,hR,hR,hR,hR,hR,hR,hR,hR,hR,hR,hR,hR,hR] rfl rfl (bM HT_.out (by kernel_rfl)) (fun _ _ _ h => h) (Or.inl ⟨by rfl, ?_⟩) ?_ ?_;rotate_left;(intro w';go_simp;with_reducible rfl);rotate_left;(simp only [hV, hS, hT, hU, bI, bJ];rfl)
   refine bN (i := 7) (N := some 24) (v := ?_) (a' := ?_) #[hQ,hQ,hQ,hQ,hQ,hQ,hQ,hQ,hR,hR,hR,hR,hR,hR,hR,hR,hR,hR,hR,hR] rfl rfl (bM HT_.out (by kernel_rfl)) (fun _ _ _ h => h) (Or.inl ⟨by rfl, ?_⟩) ?_ ?_;rotate_left;(intro w';go_simp;with_reducible rfl);rotate_left;(simp only [hV, hS, hT, hU, bI, bJ];rfl)
   refine bU (i := 8) (N := some 25) (v := ?_) (a' := ?_) #[hQ,hQ,hQ,hQ,hQ,hQ,hQ,hQ,hQ,hR,hR,hR,hR,hR,hR,hR,hR,hR,hR,hR] rfl rfl (bQ HT_.out HW_.out (by kernel_rfl)) (fun _ _ _ h => h) (Or.inl ⟨by rfl, ?_⟩) hHeld ?_ ?_;rotate_left;(rintro w' ⟨s0, s1, s2, s3, s4, s5, s6, s7, s8, s9, s10, s11, s12, s13, s14, s15, s16, s17, s18, s19, s20⟩;go_simp;with_reducible rfl);rotate_left;(simp only [hV, hS, hT, hU, bI, bJ];rfl)
   refine bN (i := 9) (N := some 26) (v := ?_) (a' := ?_) #[hQ,hQ,hQ,hQ,hQ,hQ,hQ,hQ,hQ,hQ,hR,hR,hR,hR,hR,hR,hR,hR,hR,hR] rfl rfl (bM HT_.out (by kernel_rfl)) (fun _ _ _ h => h) (Or.inl ⟨by rfl, ?_⟩) ?_ ?_;rotate_left;(intro w';go_simp;with_reducible rfl);rotate_left;(simp only [hV, hS, hT, hU, bI, bJ];rfl)
   refine bN (i := 10) (N := some 27) (v := ?_) (a' := ?_) #[hQ,hQ,hQ,hQ,hQ,hQ,hQ,hQ,hQ,hQ,hQ,hR,hR,hR,hR,hR,hR,hR,hR,hR] rfl rfl (bM HT_.out (by kernel_rfl)) (fun _ _ _ h => h) (Or.inl ⟨by rfl, ?_⟩) ?_ ?_;rotate_left;(intro w';go_simp;with_reducible rfl);rotate_left;(simp only [hV, hS, hT, hU, bI, bJ];rfl)
   refine bN (i := 11) (N := some 28) (v := ?_) (a' := ?_) #[hQ,hQ,hQ,hQ,hQ,hQ,hQ,hQ,hQ,hQ,hQ,hQ,hR,hR,hR,hR,hR,hR,hR,hR] rfl rfl (bM HT_.out (by kernel_rfl)) (fun _ _ _ h => h) (Or.inl ⟨by rfl, ?_⟩) ?_ ?_;rotate_left;(intro w';go_simp;with_reducible rfl);rotate_left;(simp only [hV, hS, hT, hU, bI, bJ];rfl)
   refine bN (i := 12) (N := some 29) (v := ?_) (a' := ?_) #[hQ,hQ,hQ,hQ,hQ,hQ,hQ,hQ,hQ,hQ,hQ,hQ,hQ,hR,hR,hR,hR,hR,hR,hR] rfl rfl (bM HT_.out (by kernel_rfl)) (fun _ _ _ h => h) (Or.inl ⟨by rfl, ?_⟩) ?_ ?_;rotate_left;(intro w';go_simp;with_reducible rfl);rotate_left;(simp only [hV, hS, hT, hU, bI, bJ];rfl)
   refine bN (i := 14) (N := some 31) (v := ?_) (a' := ?_) #[hQ,hQ,hQ,hQ,hQ,hQ,hQ,hQ,hQ,hQ,hQ,hQ,hQ,hR,hQ,hR,hR,hR,hR,hR] rfl rfl (bM HT_.out (by kernel_rfl)) (fun _ _ _ h => h) (Or.inl ⟨by rfl, ?_⟩) ?_ ?_;rotate_left;(intro w';go_simp;with_reducible rfl);rotate_left;(simp only [hV, hS, hT, hU, bI, bJ];rfl)
   refine bU (i := 13) (N := some 30) (v := ?_) (a' := ?_) #[hQ,hQ,hQ,hQ,hQ,hQ,hQ,hQ,hQ,hQ,hQ,hQ,hQ,hQ,hQ,hR,hR,hR,hR,hR] rfl rfl (bQ HT_.out HW_.out (by kernel_rfl)) (fun _ _ _ h => h) (Or.inl ⟨by rfl, ?_⟩) hHeld ?_ ?_;rotate_left;(rintro w' ⟨s0, s1, s2, s3, s4, s5, s6, s7, s8, s9, s10, s11, s12, s13, s14, s15, s16, s17, s18, s19, s20⟩;go_simp;with_reducible rfl);rotate_left;(simp only [hV, hS, hT, hU, bI, bJ];rfl)
   refine bU (i := 15) (N := some 32) (v := ?_) (a' := ?_) #[hQ,hQ,hQ,hQ,hQ,hQ,hQ,hQ,hQ,hQ,hQ,hQ,hQ,hQ,hQ,hQ,hR,hR,hR,hR] rfl rfl (bQ HT_.out HW_.out (by kernel_rfl)) (fun _ _ _ h => h) (Or.inl ⟨by rfl, ?_⟩) hHeld ?_ ?_;rotate_left;(rintro w' ⟨s0, s1, s2, s3, s4, s5, s6, s7, s8, s9, s10, s11, s12, s13, s14, s15, s16, s17, s18, s19, s20⟩;go_simp;with_reducible rfl);rotate_left;(simp only [hV, hS, hT, hU, bI, bJ];rfl)
   refine bN (i := 16) (N := some 33) (v := ?_) (a' := ?_) #[hQ,hQ,hQ,hQ,hQ,hQ,hQ,hQ,hQ,hQ,hQ,hQ,hQ,hQ,hQ,hQ,hQ,hR,hR,hR] rfl rfl (bM HT_.out (by kernel_rfl)) (fun _ _ _ h => h) (Or.inl ⟨by rfl, ?_⟩) ?_ ?_;rotate_left;(intro w';go_simp;with_reducible rfl);rotate_left;(simp only [hV, hS, hT, hU, bI, bJ];rfl)
   refine bN (i := 17) (N := some 34) (v := ?_) (a' := ?_) #[hQ,hQ,hQ,hQ,hQ,hQ,hQ,hQ,hQ,hQ,hQ,hQ,hQ,hQ,hQ,hQ,hQ,hQ,hR,hR] rfl rfl (bM HT_.out (by kernel_rfl)) (fun _ _ _ h => h) (Or.inl ⟨by rfl, ?_⟩) ?_ ?_;rotate_left;(intro w';go_simp;with_reducible rfl);rotate_left;(simp only [hV, hS, hT, hU, bI, bJ];rfl)
   refine bN (i := 18) (N := some 35) (v := ?_) (a' := ?_) #[hQ,hQ,hQ,hQ,hQ,hQ,hQ,hQ,hQ,hQ,hQ,hQ,hQ,hQ,hQ,hQ,hQ,hQ,hQ,hR] rfl rfl (bM HT_.out (by kernel_rfl)) (fun _ _ _ h => h) (Or.inl ⟨by rfl, ?_⟩) ?_ ?_;rotate_left;(intro w';go_simp;with_reducible rfl);rotate_left;(simp only [hV, hS, hT, hU, bI, bJ];rfl)
   refine bN (i := 19) (N := some 16) (v := ?_) (a' := ?_) #[hQ,hQ,hQ,hQ,hQ,hQ,hQ,hQ,hQ,hQ,hQ,hQ,hQ,hQ,hQ,hQ,hQ,hQ,hQ,hQ] rfl rfl (bM HT_.out (by kernel_rfl)) (fun _ _ _ h => h) (Or.inl ⟨by rfl, ?_⟩) ?_ ?_;rotate_left;(intro w';go_simp;with_reducible rfl);rotate_left;(simp only [hV, hS, hT, hU, bI, bJ];rfl)
   refine cF (cA HT_.out (by kernel_rfl)) ?_
   try go_wp2
   go_meet
   case rel => exact ⟨_, (decide (((rd_T181 l0_3 a1).f5) ≥ (l0_4.length : Int))), (by first | rfl | (simp; done) | (simp [*]; done)), H', ⟨by first | omega | exact Nat.le_refl _⟩, ⟨by (with_reducible repeat (first | refine bD ?_ _ | refine bC ?_ | refine bE ?_ _)); exact BK102.out⟩, ⟨by (with_reducible repeat (first | refine bD ?_ _ | refine bC ?_ | refine bE ?_ _)); exact BK104.out⟩, ⟨by repeat (first | (with_reducible first | exact HB.out | apply bL | apply bF | apply bH | refine bG ?_ GE102.out | refine bG ?_ GE104.out) | exact HB.out)⟩⟩
  ·replace c16 := Bool.eq_false_iff.mpr c16
   subst c16
   have H1 : (live_one.j0 k a1 true a0_0 a0_1 a0_2 l0_3 l0_4 a0_5 a0_6 l0_7 l0_8 a0_9 a0_10 l0_11 l0_12 ((rd_T181 l0_3 a1).f0) ((rd_T181 l0_3 a1).f1) ((rd_T181 l0_3 a1).f2) ((rd_T181 l0_3 a1).f3) ((rd_T181 l0_3 a1).f4) ((rd_T181 l0_3 a1).f5) ((rd_T181 l0_3 a1).f6.f0) ((rd_T181 l0_3 a1).f6.f1)) = some r := by rw [if_neg (show ¬ (false = true) by decide)] at H; exact H
   clear H
   have H := H1
   clear H1
   have H' := Aside0.mk H
   clear H
   try go_wp2
   have n0_ := Aside0.mk (bC BK102.out)
   have n1_ := Aside0.mk (bC BK104.out)
   have n2_ := Aside0.mk (bH HB.out)
   clear BK102
   clear BK104
   clear HB
   have BK102 := n0_
   have BK104 := n1_
   have HB := n2_
   clear n0_ n1_ n2_
   refine cC (n := 20) (S := fun w' => w'.cell? ⟨gb102, 0, none⟩ = some (.int .i64 a0_0) ∧ w'.cell? ⟨gb102, 1, none⟩ = some (.int .i64 a0_1) ∧ w'.cell? ⟨gb102, 2, none⟩ = some (.int .i64 a0_2) ∧ w'.cell? ⟨gb102, 3, none⟩ = some (.slice (some ad103) l0_3.length c0_3) ∧ w'.cell? ⟨gb102, 4, none⟩ = some (.slice A0_4 l0_4.length c0_4) ∧ w'.cell? ⟨gb102, 5, none⟩ = some (.int .i64 a0_5) ∧ w'.cell? ⟨gb102, 6, none⟩ = some (.int .i64 a0_6) ∧ w'.cell? ⟨gb102, 7, none⟩ = some (.slice A0_7 l0_7.length c0_7) ∧ w'.cell? ⟨gb102, 8, none⟩ = some (.slice A0_8 l0_8.length c0_8) ∧ w'.cell? ⟨gb102, 9, none⟩ = some (.int .i64 a0_9) ∧ w'.cell? ⟨gb102, 10, none⟩ = some (.int .i64 a0_10) ∧ w'.cell? ⟨gb102, 11, none⟩ = some (.slice A0_11 l0_11.length c0_11) ∧ w'.cell? ⟨gb102, 12, none⟩ = some (.slice A0_12 l0_12.length c0_12) ∧ w'.cell? ⟨gb104, 0, none⟩ = some (.int .i64 ((rd_T181 l0_3 a1).f0)) ∧ w'.cell? ⟨gb104, 1, none⟩ = some (.int .i64 ((rd_T181 l0_3 a1).f1)) ∧ w'.cell? ⟨gb104, 2, none⟩ = some (.int .i64 ((rd_T181 l0_3 a1).f2)) ∧ w'.cell? ⟨gb104, 3, none⟩ = some (.int .i64 ((rd_T181 l0_3 a1).f3)) ∧ w'.cell? ⟨gb104, 4, none⟩ = some (.int .i64 ((rd_T181 l0_3 a1).f4)) ∧ w'.cell? ⟨gb104, 5, none⟩ = some (.int .i64 ((rd_T181 l0_3 a1).f5)) ∧ w'.cell? ⟨gb104, 6, none⟩ = some (.int .i64 ((rd_T181 l0_3 a1).f6.f0)) ∧ w'.cell? ⟨gb104, 7, none⟩ = some (.int .i64 ((rd_T181 l0_3 a1).f6.f1))) (ds := []) #[hR,hR,hR,hR,hR,hR,hR,hR,hR,hR,hR,hR,hR,hR,hR,hR,hR,hR,hR,hR] (by kernel_rfl) rfl rfl ⟨(bA BK102.out 0).trans rfl, (bA BK102.out 1).trans rfl, (bA BK102.out 2).trans rfl, (bA BK102.out 3).trans rfl, (bA BK102.out 4).trans rfl, (bA BK102.out 5).trans rfl, (bA BK102.out 6).trans rfl, (bA BK102.out 7).trans rfl, (bA BK102.out 8).trans rfl, (bA BK102.out 9).trans rfl, (bA BK102.out 10).trans rfl, (bA BK102.out 11).trans rfl, (bA BK102.out 12).trans rfl, (bA BK104.out 0).trans rfl, (bA BK104.out 1).trans rfl, (bA BK104.out 2).trans rfl, (bA BK104.out 3).trans rfl, (bA BK104.out 4).trans rfl, (bA BK104.out 5).trans rfl, (bA BK104.out 6).trans rfl, (bA BK104.out 7).trans rfl⟩ (fun hHeld => ?_); refine bV live_one.tab4 live_one.bits4 (fun HT_ HW_ => ?_)
   generalize w13.drew = w26 at BK102 BK104 HB hHeld ⊢
   refine bN (i := 3) (N := some 20) (v := ?_) (a' := ?_) #[hR,hR,hR,hQ,hR,hR,hR,hR,hR,hR,hR,hR,hR,hR,hR,hR,hR,hR,hR,hR] rfl rfl (bM HT_.out (by kernel_rfl)) (fun _ _ _ h => h) (Or.inl ⟨by rfl, ?_⟩) ?_ ?_;rotate_left;(intro w';go_simp;with_reducible rfl);rotate_left;(simp only [hV, hS, hT, hU, bI, bJ];rfl)
   refine bU (i := 0) (N := some 17) (v := ?_) (a' := ?_) #[hQ,hR,hR,hQ,hR,hR,hR,hR,hR,hR,hR,hR,hR,hR,hR,hR,hR,hR,hR,hR] rfl rfl (bQ HT_.out HW_.out (by kernel_rfl)) (fun _ _ _ h => h) (Or.inl ⟨by rfl, ?_⟩) hHeld ?_ ?_;rotate_left;(rintro w' ⟨s0, s1, s2, s3, s4, s5, s6, s7, s8, s9, s10, s11, s12, s13, s14, s15, s16, s17, s18, s19, s20⟩;go_simp;with_reducible rfl);rotate_left;(simp only [hV, hS, hT, hU, bI, bJ];rfl)
   refine bU (i := 1) (N := some 18) (v := ?_) (a' := ?_) #[hQ,hQ,hR,hQ,hR,hR,hR,hR,hR,hR,hR,hR,hR,hR,hR,hR,hR,hR,hR,hR] rfl rfl (bQ HT_.out HW_.out (by kernel_rfl)) (fun _ _ _ h => h) (Or.inl ⟨by rfl, ?_⟩) hHeld ?_ ?_;rotate_left;(rintro w' ⟨s0, s1, s2, s3, s4, s5, s6, s7, s8, s9, s10, s11, s12, s13, s14, s15, s16, s17, s18, s19, s20⟩;go_simp;with_reducible rfl);rotate_left;(simp only [hV, hS, hT, hU, bI, bJ];rfl)
   refine one_ (i := 2) (N := some 19) #[hQ,hQ,hQ,hQ,hR,hR,hR,hR,hR,hR,hR,hR,hR,hR,hR,hR,hR,hR,hR,hR] rfl rfl (bW HT_.out (by kernel_rfl)) (by decide) (fun K hK => ?_)
   refine bZ Try.func120 (by kernel_rfl) rfl #[.agg #[.int .i64 ((rd_T181 l0_3 a1).f0), .int .i64 ((rd_T181 l0_3 a1).f1), .int .i64 ((rd_T181 l0_3 a1).f2), .int .i64 ((rd_T181 l0_3 a1).f3), .int .i64 ((rd_T181 l0_3 a1).f4), .int .i64 ((rd_T181 l0_3 a1).f5), .int .i64 ((rd_T181 l0_3 a1).f6.f0), .int .i64 ((rd_T181 l0_3 a1).f6.f1)]] (by rfl) rfl rfl (by (try simp only [List.map_toArray, List.map_cons, List.map_nil]); first | done | rfl | (simp only [List.length_drop, List.length_take]; rfl)) ?_
   with_reducible refine (ir_Asks.calls ((rd_T181 l0_3 a1).f0) ((rd_T181 l0_3 a1).f1) ((rd_T181 l0_3 a1).f2) ((rd_T181 l0_3 a1).f3) ((rd_T181 l0_3 a1).f4) ((rd_T181 l0_3 a1).f5) ((rd_T181 l0_3 a1).f6.f0) ((rd_T181 l0_3 a1).f6.f1) t106 _ A14.out).mono ?_
   rintro e w27 ⟨v107, rfl, ho0, hb⟩
   refine ⟨_, rfl, ?_⟩
   have n0_ := Aside0.mk (Kd.R_lower ho0 (bR (by repeat (first | (with_reducible first | exact HB.out | apply bL | apply bF | apply bH | refine bG ?_ GE102.out | refine bG ?_ GE104.out) | exact HB.out))))
   have n1_ := Aside0.mk (bO (g := gb102) (o := .cells #[.int .i64 a0_0, .int .i64 a0_1, .int .i64 a0_2, .slice (some ad103) l0_3.length c0_3, .slice A0_4 l0_4.length c0_4, .int .i64 a0_5, .int .i64 a0_6, .slice A0_7 l0_7.length c0_7, .slice A0_8 l0_8.length c0_8, .int .i64 a0_9, .int .i64 a0_10, .slice A0_11 l0_11.length c0_11, .slice A0_12 l0_12.length c0_12] 123 (0, 0)) (by (with_reducible repeat (first | refine bD ?_ _ | refine bC ?_ | refine bE ?_ _)); exact BK102.out) hb)
   have n2_ := Aside0.mk (bO (g := gb104) (o := .cells #[.int .i64 ((rd_T181 l0_3 a1).f0), .int .i64 ((rd_T181 l0_3 a1).f1), .int .i64 ((rd_T181 l0_3 a1).f2), .int .i64 ((rd_T181 l0_3 a1).f3), .int .i64 ((rd_T181 l0_3 a1).f4), .int .i64 ((rd_T181 l0_3 a1).f5), .int .i64 ((rd_T181 l0_3 a1).f6.f0), .int .i64 ((rd_T181 l0_3 a1).f6.f1)] 181 (0, 0)) (by (with_reducible repeat (first | refine bD ?_ _ | refine bC ?_ | refine bE ?_ _)); exact BK104.out) hb)
   have n3_ := Aside0.mk (bP (by repeat (first | (with_reducible first | exact HB.out | apply bL | apply bF | apply bH | refine bG ?_ GE102.out | refine bG ?_ GE104.out) | exact HB.out)) hb)
   clear BK102
   clear BK104
   clear HB
   have HO108 := n0_
   have BK102 := n1_
   have BK104 := n2_
   have HB := n3_
   clear n0_ n1_ n2_ n3_
   (try clear hb)
   (try clear hb2)
   (try clear hk)
   (try clear hi)
   (try clear ho0)
   obtain ⟨Ao28, co28, eo28⟩ := Kd.R_slice HO108.out
   (first | subst eo28 | (injection eo28 with f1_ f2_ f3_; have f4_ := f1_.symm; have f5_ := f3_.symm; clear f1_ f2_ f3_; subst f4_; subst f5_))
   refine hK.out _ _ ⟨(bA BK102.out 0).trans rfl, (bA BK102.out 1).trans rfl, (bA BK102.out 2).trans rfl, (bA BK102.out 3).trans rfl, (bA BK102.out 4).trans rfl, (bA BK102.out 5).trans rfl, (bA BK102.out 6).trans rfl, (bA BK102.out 7).trans rfl, (bA BK102.out 8).trans rfl, (bA BK102.out 9).trans rfl, (bA BK102.out 10).trans rfl, (bA BK102.out 11).trans rfl, (bA BK102.out 12).trans rfl, (bA BK104.out 0).trans rfl, (bA BK104.out 1).trans rfl, (bA BK104.out 2).trans rfl, (bA BK104.out 3).trans rfl, (bA BK104.out 4).trans rfl, (bA BK104.out 5).trans rfl, (bA BK104.out 6).trans rfl, (bA BK104.out 7).trans rfl⟩ (fun hHeld => ?_)
   clear hK K
   refine bY (a' := ?_) ?_ ?_
   rotate_left
   ·show hV _ (some 19) _ = _
    simp only [hV, hS, hT, hU, bI, bJ]
    rfl
   refine one_ (i := 4) (N := some 21) #[hQ,hQ,hQ,hQ,hQ,hR,hR,hR,hR,hR,hR,hR,hR,hR,hR,hR,hR,hR,hR,hR] rfl rfl (bW HT_.out (by kernel_rfl)) (by decide) (fun K hK => ?_)
   refine bZ Try.func123 (by kernel_rfl) rfl #[.agg #[.int .i64 a0_0, .int .i64 a0_1, .int .i64 a0_2, .slice (some ad103) l0_3.length c0_3, .slice A0_4 l0_4.length c0_4, .int .i64 a0_5, .int .i64 a0_6, .slice A0_7 l0_7.length c0_7, .slice A0_8 l0_8.length c0_8, .int .i64 a0_9, .int .i64 a0_10, .slice A0_11 l0_11.length c0_11, .slice A0_12 l0_12.length c0_12], .slice Ao28 t106.length co28, .int .i64 a1] (by rfl) rfl rfl (by (try simp only [List.map_toArray, List.map_cons, List.map_nil]); first | done | rfl | (simp only [List.length_drop, List.length_take]; rfl)) ?_
   with_reducible refine (live_all.calls a0_0 a0_1 a0_2 _ _ l0_3 _ _ l0_4 a0_5 a0_6 _ _ l0_7 _ _ l0_8 a0_9 a0_10 _ _ l0_11 _ _ l0_12 _ _ t106 a1 false _ ?side1 ?side2 ?side3 ?side4 ?side5 ?side6 ?side7 ?side8 ?side9 ?side10 ?side11 ?side12 ?side13 ?side14 A15.out).mono ?_
   (case side1 => repeat (first | exact (Kd.C_below HR0_3.out HB.out) | (with_reducible refine Kd.C_alloc ?_ _) | (with_reducible refine Kd.C_drewN ?_ _) | (with_reducible refine Kd.C_drew ?_)))
   (case side2 => exact HC0_3.out)
   (case side3 => repeat (first | exact (Kd.C_below HR0_4.out HB.out) | (with_reducible refine Kd.C_alloc ?_ _) | (with_reducible refine Kd.C_drewN ?_ _) | (with_reducible refine Kd.C_drew ?_)))
   (case side4 => exact HC0_4.out)
   (case side5 => repeat (first | exact (Kd.C_below HR0_7.out HB.out) | (with_reducible refine Kd.C_alloc ?_ _) | (with_reducible refine Kd.C_drewN ?_ _) | (with_reducible refine Kd.C_drew ?_)))
   (case side6 => exact HC0_7.out)
   (case side7 => repeat (first | exact (Kd.C_below HR0_8.out HB.out) | (with_reducible refine Kd.C_alloc ?_ _) | (with_reducible refine Kd.C_drewN ?_ _) | (with_reducible refine Kd.C_drew ?_)))
   (case side8 => exact HC0_8.out)
   (case side9 => repeat (first | exact (Kd.C_below HR0_11.out HB.out) | (with_reducible refine Kd.C_alloc ?_ _) | (with_reducible refine Kd.C_drewN ?_ _) | (with_reducible refine Kd.C_drew ?_)))
   (case side10 => exact HC0_11.out)
   (case side11 => repeat (first | exact (Kd.C_below HR0_12.out HB.out) | (with_reducible refine Kd.C_alloc ?_ _) | (with_reducible refine Kd.C_drewN ?_ _) | (with_reducible refine Kd.C_drew ?_)))
   (case side12 => exact HC0_12.out)
   (case side13 => repeat (first | exact (Kd.R_reads' HO108.out).2.2 | (with_reducible refine Kd.C_alloc ?_ _) | (with_reducible refine Kd.C_drewN ?_ _) | (with_reducible refine Kd.C_drew ?_)))
   (case side14 => exact (Kd.R_reads' HO108.out).2.1)
   rintro e w29 ⟨rfl, hb⟩
   refine ⟨_, rfl, ?_⟩
   have n0_ := Aside0.mk (Kd.R_below (by (with_reducible repeat (first | apply Kd.R_alloc | apply Kd.R_drewN | apply Kd.R_drew)); exact HO108.out) hb)
   have n1_ := Aside0.mk (bO (g := gb102) (o := .cells #[.int .i64 a0_0, .int .i64 a0_1, .int .i64 a0_2, .slice (some ad103) l0_3.length c0_3, .slice A0_4 l0_4.length c0_4, .int .i64 a0_5, .int .i64 a0_6, .slice A0_7 l0_7.length c0_7, .slice A0_8 l0_8.length c0_8, .int .i64 a0_9, .int .i64 a0_10, .slice A0_11 l0_11.length c0_11, .slice A0_12 l0_12.length c0_12] 123 (0, 0)) (by (with_reducible repeat (first | refine bD ?_ _ | refine bC ?_ | refine bE ?_ _)); exact BK102.out) hb)
   have n2_ := Aside0.mk (bO (g := gb104) (o := .cells #[.int .i64 ((rd_T181 l0_3 a1).f0), .int .i64 ((rd_T181 l0_3 a1).f1), .int .i64 ((rd_T181 l0_3 a1).f2), .int .i64 ((rd_T181 l0_3 a1).f3), .int .i64 ((rd_T181 l0_3 a1).f4), .int .i64 ((rd_T181 l0_3 a1).f5), .int .i64 ((rd_T181 l0_3 a1).f6.f0), .int .i64 ((rd_T181 l0_3 a1).f6.f1)] 181 (0, 0)) (by (with_reducible repeat (first | refine bD ?_ _ | refine bC ?_ | refine bE ?_ _)); exact BK104.out) hb)
   have n3_ := Aside0.mk (bP (by repeat (first | (with_reducible first | exact HB.out | apply bL | apply bF | apply bH | refine bG ?_ GE102.out | refine bG ?_ GE104.out) | exact HB.out)) hb)
   clear HO108
   clear BK102
   clear BK104
   clear HB
   have HO108 := n0_
   have BK102 := n1_
   have BK104 := n2_
   have HB := n3_
   clear n0_ n1_ n2_ n3_
   (try clear hb)
   (try clear hb2)
   (try clear hk)
   (try clear hi)
   refine hK.out _ _ ⟨(bA BK102.out 0).trans rfl, (bA BK102.out 1).trans rfl, (bA BK102.out 2).trans rfl, (bA BK102.out 3).trans rfl, (bA BK102.out 4).trans rfl, (bA BK102.out 5).trans rfl, (bA BK102.out 6).trans rfl, (bA BK102.out 7).trans rfl, (bA BK102.out 8).trans rfl, (bA BK102.out 9).trans rfl, (bA BK102.out 10).trans rfl, (bA BK102.out 11).trans rfl, (bA BK102.out 12).trans rfl, (bA BK104.out 0).trans rfl, (bA BK104.out 1).trans rfl, (bA BK104.out 2).trans rfl, (bA BK104.out 3).trans rfl, (bA BK104.out 4).trans rfl, (bA BK104.out 5).trans rfl, (bA BK104.out 6).trans rfl, (bA BK104.out 7).trans rfl⟩ (fun hHeld => ?_)
   clear hK K
   refine bY (a' := ?_) ?_ ?_
   rotate_left
   ·show hV _ (some 21) _ = _
    simp only [hV, hS, hT, hU, bI, bJ]
    rfl
   refine bN (i := 5) (N := some 22) (v := ?_) (a' := ?_) #[hQ,hQ,hQ,hQ,hQ,hQ,hR,hR,hR,hR,hR,hR,hR,hR,hR,hR,hR,hR,hR,hR] rfl rfl (bM HT_.out (by kernel_rfl)) (fun _ _ _ h => h) (Or.inl ⟨by rfl, ?_⟩) ?_ ?_;rotate_left;(intro w';go_simp;with_reducible rfl);rotate_left;(simp only [hV, hS, hT, hU, bI, bJ];rfl)
   refine bN (i := 6) (N := some 23) (v := ?_) (a' := ?_) #[hQ,hQ,hQ,hQ,hQ,hQ,hQ,hR,hR,hR,hR,hR,hR,hR,hR,hR,hR,hR,hR,hR] rfl rfl (bM HT_.out (by kernel_rfl)) (fun _ _ _ h => h) (Or.inl ⟨by rfl, ?_⟩) ?_ ?_;rotate_left;(intro w';go_simp;with_reducible rfl);rotate_left;(simp only [hV, hS, hT, hU, bI, bJ];rfl)
   refine bN (i := 7) (N := some 24) (v := undef) (a' := ?_) #[hQ,hQ,hQ,hQ,hQ,hQ,hQ,hQ,hR,hR,hR,hR,hR,hR,hR,hR,hR,hR,hR,hR] rfl rfl (bM HT_.out (by kernel_rfl)) (fun _ _ _ h => h) (Or.inr ⟨by rfl, rfl⟩) ?_ ?_
   rotate_left
   ·simp only [hV, hS, hT, hU, bI, bJ]
    rfl
   refine bN (i := 8) (N := some 25) (v := undef) (a' := ?_) #[hQ,hQ,hQ,hQ,hQ,hQ,hQ,hQ,hQ,hR,hR,hR,hR,hR,hR,hR,hR,hR,hR,hR] rfl rfl (bM HT_.out (by kernel_rfl)) (fun _ _ _ h => h) (Or.inr ⟨by rfl, rfl⟩) ?_ ?_
   rotate_left
   ·simp only [hV, hS, hT, hU, bI, bJ]
    rfl
   refine bN (i := 9) (N := some 26) (v := undef) (a' := ?_) #[hQ,hQ,hQ,hQ,hQ,hQ,hQ,hQ,hQ,hQ,hR,hR,hR,hR,hR,hR,hR,hR,hR,hR] rfl rfl (bM HT_.out (by kernel_rfl)) (fun _ _ _ h => h) (Or.inr ⟨by rfl, rfl⟩) ?_ ?_
   rotate_left
   ·simp only [hV, hS, hT, hU, bI, bJ]
    rfl
   refine bN (i := 10) (N := some 27) (v := ?_) (a' := ?_) #[hQ,hQ,hQ,hQ,hQ,hQ,hQ,hQ,hQ,hQ,hQ,hR,hR,hR,hR,hR,hR,hR,hR,hR] rfl rfl (bM HT_.out (by kernel_rfl)) (fun _ _ _ h => h) (Or.inl ⟨by rfl, ?_⟩) ?_ ?_;rotate_left;(intro w';go_simp;with_reducible rfl);rotate_left;(simp only [hV, hS, hT, hU, bI, bJ];rfl)
   refine bN (i := 11) (N := some 28) (v := ?_) (a' := ?_) #[hQ,hQ,hQ,hQ,hQ,hQ,hQ,hQ,hQ,hQ,hQ,hQ,hR,hR,hR,hR,hR,hR,hR,hR] rfl rfl (bM HT_.out (by kernel_rfl)) (fun _ _ _ h => h) (Or.inl ⟨by rfl, ?_⟩) ?_ ?_;rotate_left;(intro w';go_simp;with_reducible rfl);rotate_left;(simp only [hV, hS, hT, hU, bI, bJ];rfl)
   refine bN (i := 12) (N := some 29) (v := undef) (a' := ?_) #[hQ,hQ,hQ,hQ,hQ,hQ,hQ,hQ,hQ,hQ,hQ,hQ,hQ,hR,hR,hR,hR,hR,hR,hR] rfl rfl (bM HT_.out (by kernel_rfl)) (fun _ _ _ h => h) (Or.inr ⟨by rfl, rfl⟩) ?_ ?_
   rotate_left
   ·simp only [hV, hS, hT, hU, bI, bJ]
    rfl
   refine bN (i := 13) (N := some 30) (v := undef) (a' := ?_) #[hQ,hQ,hQ,hQ,hQ,hQ,hQ,hQ,hQ,hQ,hQ,hQ,hQ,hQ,hR,hR,hR,hR,hR,hR] rfl rfl (bM HT_.out (by kernel_rfl)) (fun _ _ _ h => h) (Or.inr ⟨by rfl, rfl⟩) ?_ ?_
   rotate_left
   ·simp only [hV, hS, hT, hU, bI, bJ]
    rfl
   refine bN (i := 14) (N := some 31) (v := undef) (a' := ?_) #[hQ,hQ,hQ,hQ,hQ,hQ,hQ,hQ,hQ,hQ,hQ,hQ,hQ,hQ,hQ,hR,hR,hR,hR,hR] rfl rfl (bM HT_.out (by kernel_rfl)) (fun _ _ _ h => h) (Or.inr ⟨by rfl, rfl⟩) ?_ ?_
   rotate_left
   ·simp only [hV, hS, hT, hU, bI, bJ]
    rfl
   refine bN (i := 15) (N := some 32) (v := undef) (a' := ?_) #[hQ,hQ,hQ,hQ,hQ,hQ,hQ,hQ,hQ,hQ,hQ,hQ,hQ,hQ,hQ,hQ,hR,hR,hR,hR] rfl rfl (bM HT_.out (by kernel_rfl)) (fun _ _ _ h => h) (Or.inr ⟨by rfl, rfl⟩) ?_ ?_
   rotate_left
   ·simp only [hV, hS, hT, hU, bI, bJ]
    rfl
   refine bN (i := 16) (N := some 33) (v := undef) (a' := ?_) #[hQ,hQ,hQ,hQ,hQ,hQ,hQ,hQ,hQ,hQ,hQ,hQ,hQ,hQ,hQ,hQ,hQ,hR,hR,hR] rfl rfl (bM HT_.out (by kernel_rfl)) (fun _ _ _ h => h) (Or.inr ⟨by rfl, rfl⟩) ?_ ?_
   rotate_left
   ·simp only [hV, hS, hT, hU, bI, bJ]
    rfl
   refine bN (i := 17) (N := some 34) (v := undef) (a' := ?_) #[hQ,hQ,hQ,hQ,hQ,hQ,hQ,hQ,hQ,hQ,hQ,hQ,hQ,hQ,hQ,hQ,hQ,hQ,hR,hR] rfl rfl (bM HT_.out (by kernel_rfl)) (fun _ _ _ h => h) (Or.inr ⟨by rfl, rfl⟩) ?_ ?_
   rotate_left
   ·simp only [hV, hS, hT, hU, bI, bJ]
    rfl
   refine bN (i := 18) (N := some 35) (v := ?_) (a' := ?_) #[hQ,hQ,hQ,hQ,hQ,hQ,hQ,hQ,hQ,hQ,hQ,hQ,hQ,hQ,hQ,hQ,hQ,hQ,hQ,hR] rfl rfl (bM HT_.out (by kernel_rfl)) (fun _ _ _ h => h) (Or.inl ⟨by rfl, ?_⟩) ?_ ?_;rotate_left;(intro w';go_simp;with_reducible rfl);rotate_left;(simp only [hV, hS, hT, hU, bI, bJ];rfl)
   refine bN (i := 19) (N := some 16) (v := ?_) (a' := ?_) #[hQ,hQ,hQ,hQ,hQ,hQ,hQ,hQ,hQ,hQ,hQ,hQ,hQ,hQ,hQ,hQ,hQ,hQ,hQ,hQ] rfl rfl (bM HT_.out (by kernel_rfl)) (fun _ _ _ h => h) (Or.inl ⟨by rfl, ?_⟩) ?_ ?_;rotate_left;(intro w';go_simp;with_reducible rfl);rotate_left;(simp only [hV, hS, hT, hU, bI, bJ];rfl)
   refine cF (cA HT_.out (by kernel_rfl)) ?_
   try go_wp2
   go_meet
   case rel => exact ⟨_, (true), (by first | rfl | (simp; done) | (simp [*]; done)), H', ⟨by first | omega | exact Nat.le_refl _⟩, ⟨by (with_reducible repeat (first | refine bD ?_ _ | refine bC ?_ | refine bE ?_ _)); exact BK102.out⟩, ⟨by (with_reducible repeat (first | refine bD ?_ _ | refine bC ?_ | refine bE ?_ _)); exact BK104.out⟩, ⟨by repeat (first | (with_reducible first | exact HB.out | apply bL | apply bF | apply bH | refine bG ?_ GE102.out | refine bG ?_ GE104.out) | exact HB.out)⟩⟩
 case rest =>
  clear HC7
  try clear c1
  try clear p2
  try clear c12
  try clear c16
  try clear c17
  try clear c17b0
  obtain ⟨kq, x16_6, rfl, HA, HJ6, BK102, BK104, HB⟩ := hcut
  cases kq with
  | zero => exact absurd HA.out (by simp [live_one.j0])
  | succ kj6 =>
   have H := HA.out
   clear HA
   simp only [live_one.j0] at H
   by_cases c30 : x16_6 = true
   ·subst c30
    have H1 : (some 3) = some r := by rw [if_pos rfl] at H; exact H
    clear H
    have H := H1
    clear H1
    obtain rfl := Option.some.inj H
    go_wp2
    go_ret
    exact ⟨by first | rfl | (simp <;> rfl) | (simp [*] <;> rfl), by repeat (first | (with_reducible first | exact HB.out | apply bL | apply bF | apply bH | refine bG ?_ GE102.out | refine bG ?_ GE104.out) | exact HB.out)⟩
   replace c30 := Bool.eq_false_iff.mpr c30
   subst c30
   have H1 : (if ((rd_T181 l0_3 a1).f5) ≥ 0 then (if 0 ≤ ((rd_T181 l0_3 a1).f5) then (if ((rd_T181 l0_3 a1).f5) < (l0_4.length : Int) then ((live_Values.f kj6 ((rd_T31 l0_4 ((rd_T181 l0_3 a1).f5)).f0) ((rd_T31 l0_4 ((rd_T181 l0_3 a1).f5)).f1) ((rd_T31 l0_4 ((rd_T181 l0_3 a1).f5)).f2) ((rd_T31 l0_4 ((rd_T181 l0_3 a1).f5)).f3)).bind fun t111 => ((live_all.f a0_0 a0_1 a0_2 l0_3 l0_4 a0_5 a0_6 l0_7 l0_8 a0_9 a0_10 l0_11 l0_12 t111 a1).bind fun t114 => (if t114 = true then (some 0) else (some 3)))) else (none)) else (none)) else (some 0)) = some r := by rw [if_neg (show ¬ (false = true) by decide)] at H; exact H
   clear H
   have H := H1
   clear H1
   by_cases c31 : ((rd_T181 l0_3 a1).f5) ≥ 0
   rotate_left
   ·rw [if_neg c31] at H
    have c31b0 : decide (0 ≤ ((rd_T181 l0_3 a1).f5)) = false := decide_eq_false c31
    clear c31
    obtain rfl := Option.some.inj H
    try go_wp2
    have n0_ := Aside0.mk (bC BK102.out)
    have n1_ := Aside0.mk (bC BK104.out)
    have n2_ := Aside0.mk (bH HB.out)
    clear BK102
    clear BK104
    clear HB
    have BK102 := n0_
    have BK104 := n1_
    have HB := n2_
    clear n0_ n1_ n2_
    refine cC (n := 17) (S := fun w' => w'.cell? ⟨gb104, 0, none⟩ = some (.int .i64 ((rd_T181 l0_3 a1).f0)) ∧ w'.cell? ⟨gb104, 1, none⟩ = some (.int .i64 ((rd_T181 l0_3 a1).f1)) ∧ w'.cell? ⟨gb104, 2, none⟩ = some (.int .i64 ((rd_T181 l0_3 a1).f2)) ∧ w'.cell? ⟨gb104, 3, none⟩ = some (.int .i64 ((rd_T181 l0_3 a1).f3)) ∧ w'.cell? ⟨gb104, 4, none⟩ = some (.int .i64 ((rd_T181 l0_3 a1).f4)) ∧ w'.cell? ⟨gb104, 5, none⟩ = some (.int .i64 ((rd_T181 l0_3 a1).f5)) ∧ w'.cell? ⟨gb104, 6, none⟩ = some (.int .i64 ((rd_T181 l0_3 a1).f6.f0)) ∧ w'.cell? ⟨gb104, 7, none⟩ = some (.int .i64 ((rd_T181 l0_3 a1).f6.f1))) (ds := []) #[hR,hR,hR,hR,hR,hR,hR,hR,hR,hR,hR,hR,hR,hR,hR,hR,hR] (by kernel_rfl) rfl rfl ⟨(bA BK104.out 0).trans rfl, (bA BK104.out 1).trans rfl, (bA BK104.out 2).trans rfl, (bA BK104.out 3).trans rfl, (bA BK104.out 4).trans rfl, (bA BK104.out 5).trans rfl, (bA BK104.out 6).trans rfl, (bA BK104.out 7).trans rfl⟩ (fun hHeld => ?_); refine bV live_one.tab6 live_one.bits6 (fun HT_ HW_ => ?_)
    generalize wc.drew = w45 at BK102 BK104 HB hHeld ⊢
    refine bN (i := 0) (N := some 37) (v := ?_) (a' := ?_) #[hQ,hR,hR,hR,hR,hR,hR,hR,hR,hR,hR,hR,hR,hR,hR,hR,hR] rfl rfl (bM HT_.out (by kernel_rfl)) (fun _ _ _ h => h) (Or.inl ⟨by rfl, ?_⟩) ?_ ?_;rotate_left;(intro w';go_simp;with_reducible rfl);rotate_left;(simp only [hV, hS, hT, hU, bI, bJ];rfl)
    refine bU (i := 1) (N := some 38) (v := ?_) (a' := ?_) #[hQ,hQ,hR,hR,hR,hR,hR,hR,hR,hR,hR,hR,hR,hR,hR,hR,hR] rfl rfl (bQ HT_.out HW_.out (by kernel_rfl)) (fun _ _ _ h => h) (Or.inl ⟨by rfl, ?_⟩) hHeld ?_ ?_;rotate_left;(rintro w' ⟨s0, s1, s2, s3, s4, s5, s6, s7⟩;go_simp;with_reducible rfl);rotate_left;(simp only [hV, hS, hT, hU, bI, bJ];rfl)
    refine bN (i := 2) (N := some 39) (v := ?_) (a' := ?_) #[hQ,hQ,hQ,hR,hR,hR,hR,hR,hR,hR,hR,hR,hR,hR,hR,hR,hR] rfl rfl (bM HT_.out (by kernel_rfl)) (fun _ _ _ h => h) (Or.inl ⟨by rfl, ?_⟩) ?_ ?_;rotate_left;(intro w';go_simp;with_reducible rfl);rotate_left;(simp only [hV, hS, hT, hU, bI, bJ];rfl)
    refine bN (i := 3) (N := some 40) (v := ?_) (a' := ?_) #[hQ,hQ,hQ,hQ,hR,hR,hR,hR,hR,hR,hR,hR,hR,hR,hR,hR,hR] rfl rfl (bM HT_.out (by kernel_rfl)) (fun _ _ _ h => h) (Or.inl ⟨by rfl, ?_⟩) ?_ ?_;rotate_left;(intro w';go_simp;with_reducible rfl);rotate_left;(simp only [hV, hS, hT, hU, bI, bJ];rfl)
    refine bN (i := 4) (N := some 41) (v := undef) (a' := ?_) #[hQ,hQ,hQ,hQ,hQ,hR,hR,hR,hR,hR,hR,hR,hR,hR,hR,hR,hR] rfl rfl (bM HT_.out (by kernel_rfl)) (fun _ _ _ h => h) (Or.inr ⟨by rfl, rfl⟩) ?_ ?_
    rotate_left
    ·simp only [hV, hS, hT, hU, bI, bJ]
     rfl
    refine bN (i := 5) (N := some 42) (v := undef) (a' := ?_) #[hQ,hQ,hQ,hQ,hQ,hQ,hR,hR,hR,hR,hR,hR,hR,hR,hR,hR,hR] rfl rfl (bM HT_.out (by kernel_rfl)) (fun _ _ _ h => h) (Or.inr ⟨by rfl, rfl⟩) ?_ ?_
    rotate_left
    ·simp only [hV, hS, hT, hU, bI, bJ]
     rfl
    refine bN (i := 6) (N := some 43) (v := undef) (a' := ?_) #[hQ,hQ,hQ,hQ,hQ,hQ,hQ,hR,hR,hR,hR,hR,hR,hR,hR,hR,hR] rfl rfl (bM HT_.out (by kernel_rfl)) (fun _ _ _ h => h) (Or.inr ⟨by rfl, rfl⟩) ?_ ?_
    rotate_left
    ·simp only [hV, hS, hT, hU, bI, bJ]
     rfl
    refine bN (i := 7) (N := some 44) (v := undef) (a' := ?_) #[hQ,hQ,hQ,hQ,hQ,hQ,hQ,hQ,hR,hR,hR,hR,hR,hR,hR,hR,hR] rfl rfl (bM HT_.out (by kernel_rfl)) (fun _ _ _ h => h) (Or.inr ⟨by rfl, rfl⟩) ?_ ?_
    rotate_left
    ·simp only [hV, hS, hT, hU, bI, bJ]
     rfl
    refine bN (i := 8) (N := some 45) (v := undef) (a' := ?_) #[hQ,hQ,hQ,hQ,hQ,hQ,hQ,hQ,hQ,hR,hR,hR,hR,hR,hR,hR,hR] rfl rfl (bM HT_.out (by kernel_rfl)) (fun _ _ _ h => h) (Or.inr ⟨by rfl, rfl⟩) ?_ ?_
    rotate_left
    ·simp only [hV, hS, hT, hU, bI, bJ]
     rfl
    refine bN (i := 9) (N := some 46) (v := undef) (a' := ?_) #[hQ,hQ,hQ,hQ,hQ,hQ,hQ,hQ,hQ,hQ,hR,hR,hR,hR,hR,hR,hR] rfl rfl (bM HT_.out (by kernel_rfl)) (fun _ _ _ h => h) (Or.inr ⟨by rfl, rfl⟩) ?_ ?_
    rotate_left
    ·simp only [hV, hS, hT, hU, bI, bJ]
     rfl
    refine bN (i := 10) (N := some 47) (v := undef) (a' := ?_) #[hQ,hQ,hQ,hQ,hQ,hQ,hQ,hQ,hQ,hQ,hQ,hR,hR,hR,hR,hR,hR] rfl rfl (bM HT_.out (by kernel_rfl)) (fun _ _ _ h => h) (Or.inr ⟨by rfl, rfl⟩) ?_ ?_
    rotate_left
    ·simp only [hV, hS, hT, hU, bI, bJ]
     rfl
    refine bN (i := 11) (N := some 48) (v := undef) (a' := ?_) #[hQ,hQ,hQ,hQ,hQ,hQ,hQ,hQ,hQ,hQ,hQ,hQ,hR,hR,hR,hR,hR] rfl rfl (bM HT_.out (by kernel_rfl)) (fun _ _ _ h => h) (Or.inr ⟨by rfl, rfl⟩) ?_ ?_
    rotate_left
    ·simp only [hV, hS, hT, hU, bI, bJ]
     rfl
    refine bN (i := 12) (N := some 49) (v := undef) (a' := ?_) #[hQ,hQ,hQ,hQ,hQ,hQ,hQ,hQ,hQ,hQ,hQ,hQ,hQ,hR,hR,hR,hR] rfl rfl (bM HT_.out (by kernel_rfl)) (fun _ _ _ h => h) (Or.inr ⟨by rfl, rfl⟩) ?_ ?_
    rotate_left
    ·simp only [hV, hS, hT, hU, bI, bJ]
     rfl
    refine bN (i := 13) (N := some 50) (v := undef) (a' := ?_) #[hQ,hQ,hQ,hQ,hQ,hQ,hQ,hQ,hQ,hQ,hQ,hQ,hQ,hQ,hR,hR,hR] rfl rfl (bM HT_.out (by kernel_rfl)) (fun _ _ _ h => h) (Or.inr ⟨by rfl, rfl⟩) ?_ ?_
    rotate_left
    ·simp only [hV, hS, hT, hU, bI, bJ]
     rfl
    refine bN (i := 14) (N := some 51) (v := undef) (a' := ?_) #[hQ,hQ,hQ,hQ,hQ,hQ,hQ,hQ,hQ,hQ,hQ,hQ,hQ,hQ,hQ,hR,hR] rfl rfl (bM HT_.out (by kernel_rfl)) (fun _ _ _ h => h) (Or.inr ⟨by rfl, rfl⟩) ?_ ?_
    rotate_left
    ·simp only [hV, hS, hT, hU, bI, bJ]
     rfl
    refine bN (i := 15) (N := some 52) (v := ?_) (a' := ?_) #[hQ,hQ,hQ,hQ,hQ,hQ,hQ,hQ,hQ,hQ,hQ,hQ,hQ,hQ,hQ,hQ,hR] rfl rfl (bM HT_.out (by kernel_rfl)) (fun _ _ _ h => h) (Or.inl ⟨by rfl, ?_⟩) ?_ ?_;rotate_left;(intro w';go_simp;with_reducible rfl);rotate_left;(simp only [hV, hS, hT, hU, bI, bJ];rfl)
    refine bN (i := 16) (N := some 36) (v := ?_) (a' := ?_) #[hQ,hQ,hQ,hQ,hQ,hQ,hQ,hQ,hQ,hQ,hQ,hQ,hQ,hQ,hQ,hQ,hQ] rfl rfl (bM HT_.out (by kernel_rfl)) (fun _ _ _ h => h) (Or.inl ⟨by rfl, ?_⟩) ?_ ?_;rotate_left;(intro w';go_simp;with_reducible rfl);rotate_left;(simp only [hV, hS, hT, hU, bI, bJ];rfl)
    refine cF (cA HT_.out (by kernel_rfl)) ?_
    try go_wp2
    go_ret
    exact ⟨by first | rfl | (simp <;> rfl) | (simp [*] <;> rfl), by repeat (first | (with_reducible first | exact HB.out | apply bL | apply bF | apply bH | refine bG ?_ GE102.out | refine bG ?_ GE104.out) | exact HB.out)⟩
   rw [if_pos c31] at H
   have c31b0 : decide (0 ≤ ((rd_T181 l0_3 a1).f5)) = true := decide_eq_true c31
   clear c31
   by_cases c32 : 0 ≤ ((rd_T181 l0_3 a1).f5)
   rotate_left
   ·rw [if_neg c32] at H
    exact absurd H (by simp)
   rw [if_pos c32] at H
   have c32b0 : decide (0 ≤ ((rd_T181 l0_3 a1).f5)) = true := decide_eq_true c32
   clear c32
   by_cases c33 : ((rd_T181 l0_3 a1).f5) < (l0_4.length : Int)
   rotate_left
   ·rw [if_neg c33] at H
    exact absurd H (by simp)
   rw [if_pos c33] at H
   have c33b0 : decide (((rd_T181 l0_3 a1).f5) < (l0_4.length : Int)) = true := decide_eq_true c33
   clear c33
   replace H := Option.bind_eq_some_iff.mp H
   obtain ⟨t111, A340, H⟩ := H
   replace H : ((live_all.f a0_0 a0_1 a0_2 l0_3 l0_4 a0_5 a0_6 l0_7 l0_8 a0_9 a0_10 l0_11 l0_12 t111 a1).bind fun t114 => (if t114 = true then (some 0) else (some 3))) = some r := H
   have A34 := Aside0.mk A340
   clear A340
   replace H := Option.bind_eq_some_iff.mp H
   obtain ⟨t114, A350, H⟩ := H
   replace H : (if t114 = true then (some 0) else (some 3)) = some r := H
   have A35 := Aside0.mk A350
   clear A350
   by_cases c36 : t114 = true
   ·subst c36
    have H1 : (some 0) = some r := by rw [if_pos rfl] at H; exact H
    clear H
    have H := H1
    clear H1
    obtain rfl := Option.some.inj H
    try go_wp2
    have n0_ := Aside0.mk (bC BK102.out)
    have n1_ := Aside0.mk (bC BK104.out)
    have n2_ := Aside0.mk (bH HB.out)
    clear BK102
    clear BK104
    clear HB
    have BK102 := n0_
    have BK104 := n1_
    have HB := n2_
    clear n0_ n1_ n2_
    have p110 : 0 ≤ (((rd_T181 l0_3 a1).f5) : Int) := of_decide_eq_true (by first | (with_reducible assumption) | assumption)
    have q110 : ((rd_T181 l0_3 a1).f5) < (l0_4.length : Int) := of_decide_eq_true (by first | (with_reducible assumption) | assumption)
    obtain ⟨ad110, A110_2, c110_2, A110_3, c110_3, e110, hx110_0, hx110_1, hx110_2, hx110_3, hl110_2, hi110_2, hl110_3, hi110_3⟩ := at_T31 HR0_4.out ((rd_T181 l0_3 a1).f5) p110 q110
    have hw110_3 := hx110_3
    have hw110_2 := hx110_2
    have hw110_1 := hx110_1
    have hw110_0 := hx110_0
    cases e110
    try replace hx110_0 := (HB.out.cell (World.block_lt_of_cell? w _ hx110_0)).trans hx110_0
    try replace hx110_1 := (HB.out.cell (World.block_lt_of_cell? w _ hx110_1)).trans hx110_1
    try replace hx110_2 := (HB.out.cell (World.block_lt_of_cell? w _ hx110_2)).trans hx110_2
    try replace hx110_3 := (HB.out.cell (World.block_lt_of_cell? w _ hx110_3)).trans hx110_3
    have HR110_2 := Aside0.mk hi110_2
    have HC110_2 := Aside0.mk hl110_2
    clear hi110_2 hl110_2
    have HR110_3 := Aside0.mk hi110_3
    have HC110_3 := Aside0.mk hl110_3
    clear hi110_3 hl110_3
    replace p110 := eq_true p110
    replace q110 := eq_true q110
    refine cC (n := 17) (S := fun w' => w'.cell? ⟨gb104, 0, none⟩ = some (.int .i64 ((rd_T181 l0_3 a1).f0)) ∧ w'.cell? ⟨gb104, 1, none⟩ = some (.int .i64 ((rd_T181 l0_3 a1).f1)) ∧ w'.cell? ⟨gb104, 2, none⟩ = some (.int .i64 ((rd_T181 l0_3 a1).f2)) ∧ w'.cell? ⟨gb104, 3, none⟩ = some (.int .i64 ((rd_T181 l0_3 a1).f3)) ∧ w'.cell? ⟨gb104, 4, none⟩ = some (.int .i64 ((rd_T181 l0_3 a1).f4)) ∧ w'.cell? ⟨gb104, 5, none⟩ = some (.int .i64 ((rd_T181 l0_3 a1).f5)) ∧ w'.cell? ⟨gb104, 6, none⟩ = some (.int .i64 ((rd_T181 l0_3 a1).f6.f0)) ∧ w'.cell? ⟨gb104, 7, none⟩ = some (.int .i64 ((rd_T181 l0_3 a1).f6.f1)) ∧ w'.cell? ⟨gb102, 0, none⟩ = some (.int .i64 a0_0) ∧ w'.cell? ⟨gb102, 1, none⟩ = some (.int .i64 a0_1) ∧ w'.cell? ⟨gb102, 2, none⟩ = some (.int .i64 a0_2) ∧ w'.cell? ⟨gb102, 3, none⟩ = some (.slice (some ad103) l0_3.length c0_3) ∧ w'.cell? ⟨gb102, 4, none⟩ = some (.slice (some ad110) l0_4.length c0_4) ∧ w'.cell? ⟨gb102, 5, none⟩ = some (.int .i64 a0_5) ∧ w'.cell? ⟨gb102, 6, none⟩ = some (.int .i64 a0_6) ∧ w'.cell? ⟨gb102, 7, none⟩ = some (.slice A0_7 l0_7.length c0_7) ∧ w'.cell? ⟨gb102, 8, none⟩ = some (.slice A0_8 l0_8.length c0_8) ∧ w'.cell? ⟨gb102, 9, none⟩ = some (.int .i64 a0_9) ∧ w'.cell? ⟨gb102, 10, none⟩ = some (.int .i64 a0_10) ∧ w'.cell? ⟨gb102, 11, none⟩ = some (.slice A0_11 l0_11.length c0_11) ∧ w'.cell? ⟨gb102, 12, none⟩ = some (.slice A0_12 l0_12.length c0_12) ∧ w'.cell? (ad110.add ((((rd_T181 l0_3 a1).f5)).toNat * 4)) = some (.int .i64 ((rd_T31 l0_4 ((rd_T181 l0_3 a1).f5)).f0)) ∧ w'.cell? ⟨(ad110.add ((((rd_T181 l0_3 a1).f5)).toNat * 4)).block, (ad110.add ((((rd_T181 l0_3 a1).f5)).toNat * 4)).off + 1, none⟩ = some (.int .i64 ((rd_T31 l0_4 ((rd_T181 l0_3 a1).f5)).f1)) ∧ w'.cell? ⟨(ad110.add ((((rd_T181 l0_3 a1).f5)).toNat * 4)).block, (ad110.add ((((rd_T181 l0_3 a1).f5)).toNat * 4)).off + 2, none⟩ = some (.slice A110_2 ((rd_T31 l0_4 ((rd_T181 l0_3 a1).f5)).f2).length c110_2) ∧ w'.cell? ⟨(ad110.add ((((rd_T181 l0_3 a1).f5)).toNat * 4)).block, (ad110.add ((((rd_T181 l0_3 a1).f5)).toNat * 4)).off + 3, none⟩ = some (.slice A110_3 ((rd_T31 l0_4 ((rd_T181 l0_3 a1).f5)).f3).length c110_3)) (ds := []) #[hR,hR,hR,hR,hR,hR,hR,hR,hR,hR,hR,hR,hR,hR,hR,hR,hR] (by kernel_rfl) rfl rfl ⟨(bA BK104.out 0).trans rfl, (bA BK104.out 1).trans rfl, (bA BK104.out 2).trans rfl, (bA BK104.out 3).trans rfl, (bA BK104.out 4).trans rfl, (bA BK104.out 5).trans rfl, (bA BK104.out 6).trans rfl, (bA BK104.out 7).trans rfl, (bA BK102.out 0).trans rfl, (bA BK102.out 1).trans rfl, (bA BK102.out 2).trans rfl, (bA BK102.out 3).trans rfl, (bA BK102.out 4).trans rfl, (bA BK102.out 5).trans rfl, (bA BK102.out 6).trans rfl, (bA BK102.out 7).trans rfl, (bA BK102.out 8).trans rfl, (bA BK102.out 9).trans rfl, (bA BK102.out 10).trans rfl, (bA BK102.out 11).trans rfl, (bA BK102.out 12).trans rfl, ((HB.out.cell (World.block_lt_of_cell? w _ hw110_0)).trans hw110_0), ((HB.out.cell (World.block_lt_of_cell? w _ hw110_1)).trans hw110_1), ((HB.out.cell (World.block_lt_of_cell? w _ hw110_2)).trans hw110_2), ((HB.out.cell (World.block_lt_of_cell? w _ hw110_3)).trans hw110_3)⟩ (fun hHeld => ?_); refine bV live_one.tab6 live_one.bits6 (fun HT_ HW_ => ?_)
    generalize wc.drew = w37 at BK102 BK104 HB HR110_2 HR110_3 hx110_0 hx110_1 hx110_2 hx110_3 hHeld ⊢
    refine bN (i := 0) (N := some 37) (v := ?_) (a' := ?_) #[hQ,hR,hR,hR,hR,hR,hR,hR,hR,hR,hR,hR,hR,hR,hR,hR,hR] rfl rfl (bM HT_.out (by kernel_rfl)) (fun _ _ _ h => h) (Or.inl ⟨by rfl, ?_⟩) ?_ ?_;rotate_left;(intro w';go_simp;with_reducible rfl);rotate_left;(simp only [hV, hS, hT, hU, bI, bJ];rfl)
    refine bU (i := 1) (N := some 38) (v := ?_) (a' := ?_) #[hQ,hQ,hR,hR,hR,hR,hR,hR,hR,hR,hR,hR,hR,hR,hR,hR,hR] rfl rfl (bQ HT_.out HW_.out (by kernel_rfl)) (fun _ _ _ h => h) (Or.inl ⟨by rfl, ?_⟩) hHeld ?_ ?_;rotate_left;(rintro w' ⟨s0, s1, s2, s3, s4, s5, s6, s7, s8, s9, s10, s11, s12, s13, s14, s15, s16, s17, s18, s19, s20, s21, s22, s23, s24⟩;go_simp;with_reducible rfl);rotate_left;(simp only [hV, hS, hT, hU, bI, bJ];rfl)
    refine bN (i := 2) (N := some 39) (v := ?_) (a' := ?_) #[hQ,hQ,hQ,hR,hR,hR,hR,hR,hR,hR,hR,hR,hR,hR,hR,hR,hR] rfl rfl (bM HT_.out (by kernel_rfl)) (fun _ _ _ h => h) (Or.inl ⟨by rfl, ?_⟩) ?_ ?_;rotate_left;(intro w';go_simp;with_reducible rfl);rotate_left;(simp only [hV, hS, hT, hU, bI, bJ];rfl)
    refine bN (i := 3) (N := some 40) (v := ?_) (a' := ?_) #[hQ,hQ,hQ,hQ,hR,hR,hR,hR,hR,hR,hR,hR,hR,hR,hR,hR,hR] rfl rfl (bM HT_.out (by kernel_rfl)) (fun _ _ _ h => h) (Or.inl ⟨by rfl, ?_⟩) ?_ ?_;rotate_left;(intro w';go_simp;with_reducible rfl);rotate_left;(simp only [hV, hS, hT, hU, bI, bJ];rfl)
    refine bN (i := 5) (N := some 42) (v := ?_) (a' := ?_) #[hQ,hQ,hQ,hQ,hR,hQ,hR,hR,hR,hR,hR,hR,hR,hR,hR,hR,hR] rfl rfl (bM HT_.out (by kernel_rfl)) (fun _ _ _ h => h) (Or.inl ⟨by rfl, ?_⟩) ?_ ?_;rotate_left;(intro w';go_simp;with_reducible rfl);rotate_left;(simp only [hV, hS, hT, hU, bI, bJ];rfl)
    refine bN (i := 7) (N := some 44) (v := ?_) (a' := ?_) #[hQ,hQ,hQ,hQ,hR,hQ,hR,hQ,hR,hR,hR,hR,hR,hR,hR,hR,hR] rfl rfl (bM HT_.out (by kernel_rfl)) (fun _ _ _ h => h) (Or.inl ⟨by rfl, ?_⟩) ?_ ?_;rotate_left;(intro w';go_simp;with_reducible rfl);rotate_left;(simp only [hV, hS, hT, hU, bI, bJ];rfl)
    refine bN (i := 12) (N := some 49) (v := ?_) (a' := ?_) #[hQ,hQ,hQ,hQ,hR,hQ,hR,hQ,hR,hR,hR,hR,hQ,hR,hR,hR,hR] rfl rfl (bM HT_.out (by kernel_rfl)) (fun _ _ _ h => h) (Or.inl ⟨by rfl, ?_⟩) ?_ ?_;rotate_left;(intro w';go_simp;with_reducible rfl);rotate_left;(simp only [hV, hS, hT, hU, bI, bJ];rfl)
    refine bU (i := 4) (N := some 41) (v := ?_) (a' := ?_) #[hQ,hQ,hQ,hQ,hQ,hQ,hR,hQ,hR,hR,hR,hR,hQ,hR,hR,hR,hR] rfl rfl (bQ HT_.out HW_.out (by kernel_rfl)) (fun _ _ _ h => h) (Or.inl ⟨by rfl, ?_⟩) hHeld ?_ ?_;rotate_left;(rintro w' ⟨s0, s1, s2, s3, s4, s5, s6, s7, s8, s9, s10, s11, s12, s13, s14, s15, s16, s17, s18, s19, s20, s21, s22, s23, s24⟩;go_simp;with_reducible rfl);rotate_left;(simp only [hV, hS, hT, hU, bI, bJ];rfl)
    refine bU (i := 6) (N := some 43) (v := ?_) (a' := ?_) #[hQ,hQ,hQ,hQ,hQ,hQ,hQ,hQ,hR,hR,hR,hR,hQ,hR,hR,hR,hR] rfl rfl (bQ HT_.out HW_.out (by kernel_rfl)) (fun _ _ _ h => h) (Or.inl ⟨by rfl, ?_⟩) hHeld ?_ ?_;rotate_left;(rintro w' ⟨s0, s1, s2, s3, s4, s5, s6, s7, s8, s9, s10, s11, s12, s13, s14, s15, s16, s17, s18, s19, s20, s21, s22, s23, s24⟩;go_simp;with_reducible rfl);rotate_left;(simp only [hV, hS, hT, hU, bI, bJ];rfl)
    refine bU (i := 8) (N := some 45) (v := ?_) (a' := ?_) #[hQ,hQ,hQ,hQ,hQ,hQ,hQ,hQ,hQ,hR,hR,hR,hQ,hR,hR,hR,hR] rfl rfl (bQ HT_.out HW_.out (by kernel_rfl)) (fun _ _ _ h => h) (Or.inl ⟨by rfl, ?_⟩) hHeld ?_ ?_;rotate_left;(rintro w' ⟨s0, s1, s2, s3, s4, s5, s6, s7, s8, s9, s10, s11, s12, s13, s14, s15, s16, s17, s18, s19, s20, s21, s22, s23, s24⟩;go_simp;with_reducible rfl);rotate_left;(simp only [hV, hS, hT, hU, bI, bJ];rfl)
    refine bN (i := 9) (N := some 46) (v := ?_) (a' := ?_) #[hQ,hQ,hQ,hQ,hQ,hQ,hQ,hQ,hQ,hQ,hR,hR,hQ,hR,hR,hR,hR] rfl rfl (bM HT_.out (by kernel_rfl)) (fun _ _ _ h => h) (Or.inl ⟨by rfl, ?_⟩) ?_ ?_;rotate_left;(intro w';go_simp;with_reducible rfl);rotate_left;(simp only [hV, hS, hT, hU, bI, bJ];rfl)
    refine bU (i := 10) (N := some 47) (v := ?_) (a' := ?_) #[hQ,hQ,hQ,hQ,hQ,hQ,hQ,hQ,hQ,hQ,hQ,hR,hQ,hR,hR,hR,hR] rfl rfl (bQ HT_.out HW_.out (by kernel_rfl)) (fun _ _ _ h => h) (Or.inl ⟨by rfl, ?_⟩) hHeld ?_ ?_;rotate_left;(rintro w' ⟨s0, s1, s2, s3, s4, s5, s6, s7, s8, s9, s10, s11, s12, s13, s14, s15, s16, s17, s18, s19, s20, s21, s22, s23, s24⟩;go_simp;with_reducible rfl);rotate_left;(simp only [hV, hS, hT, hU, bI, bJ];rfl)
    refine one_ (i := 11) (N := some 48) #[hQ,hQ,hQ,hQ,hQ,hQ,hQ,hQ,hQ,hQ,hQ,hQ,hQ,hR,hR,hR,hR] rfl rfl (bW HT_.out (by kernel_rfl)) (by decide) (fun K hK => ?_)
    refine bZ Try.func121 (by kernel_rfl) rfl #[.agg #[.int .i64 ((rd_T31 l0_4 ((rd_T181 l0_3 a1).f5)).f0), .int .i64 ((rd_T31 l0_4 ((rd_T181 l0_3 a1).f5)).f1), .slice A110_2 ((rd_T31 l0_4 ((rd_T181 l0_3 a1).f5)).f2).length c110_2, .slice A110_3 ((rd_T31 l0_4 ((rd_T181 l0_3 a1).f5)).f3).length c110_3]] (by rfl) rfl rfl (by (try simp only [List.map_toArray, List.map_cons, List.map_nil]); first | done | rfl | (simp only [List.length_drop, List.length_take]; rfl)) ?_
    with_reducible refine (live_Values.calls kj6 ((rd_T31 l0_4 ((rd_T181 l0_3 a1).f5)).f0) ((rd_T31 l0_4 ((rd_T181 l0_3 a1).f5)).f1) _ _ ((rd_T31 l0_4 ((rd_T181 l0_3 a1).f5)).f2) _ _ ((rd_T31 l0_4 ((rd_T181 l0_3 a1).f5)).f3) t111 _ ?side1 ?side2 ?side3 ?side4 A34.out).mono ?_
    (case side1 => repeat (first | exact (Kd.C_below HR110_2.out HB.out) | (with_reducible refine Kd.C_alloc ?_ _) | (with_reducible refine Kd.C_drewN ?_ _) | (with_reducible refine Kd.C_drew ?_)))
    (case side2 => exact HC110_2.out)
    (case side3 => repeat (first | exact (Kd.C_below HR110_3.out HB.out) | (with_reducible refine Kd.C_alloc ?_ _) | (with_reducible refine Kd.C_drewN ?_ _) | (with_reducible refine Kd.C_drew ?_)))
    (case side4 => exact HC110_3.out)
    rintro e w38 ⟨v112, rfl, ho0, hb⟩
    refine ⟨_, rfl, ?_⟩
    have n0_ := Aside0.mk (Kd.R_lower ho0 (bR (by repeat (first | (with_reducible first | exact HB.out | apply bL | apply bF | apply bH | refine bG ?_ GE102.out | refine bG ?_ GE104.out) | exact HB.out))))
    have n1_ := Aside0.mk (bO (g := gb102) (o := .cells #[.int .i64 a0_0, .int .i64 a0_1, .int .i64 a0_2, .slice (some ad103) l0_3.length c0_3, .slice (some ad110) l0_4.length c0_4, .int .i64 a0_5, .int .i64 a0_6, .slice A0_7 l0_7.length c0_7, .slice A0_8 l0_8.length c0_8, .int .i64 a0_9, .int .i64 a0_10, .slice A0_11 l0_11.length c0_11, .slice A0_12 l0_12.length c0_12] 123 (0, 0)) (by (with_reducible repeat (first | refine bD ?_ _ | refine bC ?_ | refine bE ?_ _)); exact BK102.out) hb)
    have n2_ := Aside0.mk (bO (g := gb104) (o := .cells #[.int .i64 ((rd_T181 l0_3 a1).f0), .int .i64 ((rd_T181 l0_3 a1).f1), .int .i64 ((rd_T181 l0_3 a1).f2), .int .i64 ((rd_T181 l0_3 a1).f3), .int .i64 ((rd_T181 l0_3 a1).f4), .int .i64 ((rd_T181 l0_3 a1).f5), .int .i64 ((rd_T181 l0_3 a1).f6.f0), .int .i64 ((rd_T181 l0_3 a1).f6.f1)] 181 (0, 0)) (by (with_reducible repeat (first | refine bD ?_ _ | refine bC ?_ | refine bE ?_ _)); exact BK104.out) hb)
    have n3_ := Aside0.mk (bP (by repeat (first | (with_reducible first | exact HB.out | apply bL | apply bF | apply bH | refine bG ?_ GE102.out | refine bG ?_ GE104.out) | exact HB.out)) hb)
    clear BK102
    clear BK104
    clear HB
    have HO113 := n0_
    have BK102 := n1_
    have BK104 := n2_
    have HB := n3_
    clear n0_ n1_ n2_ n3_
    (try clear hb)
    (try clear hb2)
    (try clear hk)
    (try clear hi)
    (try clear ho0)
    obtain ⟨Ao39, co39, eo39⟩ := Kd.R_slice HO113.out
    (first | subst eo39 | (injection eo39 with f1_ f2_ f3_; have f4_ := f1_.symm; have f5_ := f3_.symm; clear f1_ f2_ f3_; subst f4_; subst f5_))
    refine hK.out _ _ ⟨(bA BK104.out 0).trans rfl, (bA BK104.out 1).trans rfl, (bA BK104.out 2).trans rfl, (bA BK104.out 3).trans rfl, (bA BK104.out 4).trans rfl, (bA BK104.out 5).trans rfl, (bA BK104.out 6).trans rfl, (bA BK104.out 7).trans rfl, (bA BK102.out 0).trans rfl, (bA BK102.out 1).trans rfl, (bA BK102.out 2).trans rfl, (bA BK102.out 3).trans rfl, (bA BK102.out 4).trans rfl, (bA BK102.out 5).trans rfl, (bA BK102.out 6).trans rfl, (bA BK102.out 7).trans rfl, (bA BK102.out 8).trans rfl, (bA BK102.out 9).trans rfl, (bA BK102.out 10).trans rfl, (bA BK102.out 11).trans rfl, (bA BK102.out 12).trans rfl, ((HB.out.cell (World.block_lt_of_cell? w _ hw110_0)).trans hw110_0), ((HB.out.cell (World.block_lt_of_cell? w _ hw110_1)).trans hw110_1), ((HB.out.cell (World.block_lt_of_cell? w _ hw110_2)).trans hw110_2), ((HB.out.cell (World.block_lt_of_cell? w _ hw110_3)).trans hw110_3)⟩ (fun hHeld => ?_)
    clear hK K
    refine bY (a' := ?_) ?_ ?_
    rotate_left
    ·show hV _ (some 48) _ = _
     simp only [hV, hS, hT, hU, bI, bJ]
     rfl
    refine one_ (i := 13) (N := some 50) #[hQ,hQ,hQ,hQ,hQ,hQ,hQ,hQ,hQ,hQ,hQ,hQ,hQ,hQ,hR,hR,hR] rfl rfl (bW HT_.out (by kernel_rfl)) (by decide) (fun K hK => ?_)
    refine bZ Try.func123 (by kernel_rfl) rfl #[.agg #[.int .i64 a0_0, .int .i64 a0_1, .int .i64 a0_2, .slice (some ad103) l0_3.length c0_3, .slice (some ad110) l0_4.length c0_4, .int .i64 a0_5, .int .i64 a0_6, .slice A0_7 l0_7.length c0_7, .slice A0_8 l0_8.length c0_8, .int .i64 a0_9, .int .i64 a0_10, .slice A0_11 l0_11.length c0_11, .slice A0_12 l0_12.length c0_12], .slice Ao39 t111.length co39, .int .i64 a1] (by rfl) rfl rfl (by (try simp only [List.map_toArray, List.map_cons, List.map_nil]); first | done | rfl | (simp only [List.length_drop, List.length_take]; rfl)) ?_
    with_reducible refine (live_all.calls a0_0 a0_1 a0_2 _ _ l0_3 _ _ l0_4 a0_5 a0_6 _ _ l0_7 _ _ l0_8 a0_9 a0_10 _ _ l0_11 _ _ l0_12 _ _ t111 a1 true _ ?side1 ?side2 ?side3 ?side4 ?side5 ?side6 ?side7 ?side8 ?side9 ?side10 ?side11 ?side12 ?side13 ?side14 A35.out).mono ?_
    (case side1 => repeat (first | exact (Kd.C_below HR0_3.out HB.out) | (with_reducible refine Kd.C_alloc ?_ _) | (with_reducible refine Kd.C_drewN ?_ _) | (with_reducible refine Kd.C_drew ?_)))
    (case side2 => exact HC0_3.out)
    (case side3 => repeat (first | exact (Kd.C_below HR0_4.out HB.out) | (with_reducible refine Kd.C_alloc ?_ _) | (with_reducible refine Kd.C_drewN ?_ _) | (with_reducible refine Kd.C_drew ?_)))
    (case side4 => exact HC0_4.out)
    (case side5 => repeat (first | exact (Kd.C_below HR0_7.out HB.out) | (with_reducible refine Kd.C_alloc ?_ _) | (with_reducible refine Kd.C_drewN ?_ _) | (with_reducible refine Kd.C_drew ?_)))
    (case side6 => exact HC0_7.out)
    (case side7 => repeat (first | exact (Kd.C_below HR0_8.out HB.out) | (with_reducible refine Kd.C_alloc ?_ _) | (with_reducible refine Kd.C_drewN ?_ _) | (with_reducible refine Kd.C_drew ?_)))
    (case side8 => exact HC0_8.out)
    (case side9 => repeat (first | exact (Kd.C_below HR0_11.out HB.out) | (with_reducible refine Kd.C_alloc ?_ _) | (with_reducible refine Kd.C_drewN ?_ _) | (with_reducible refine Kd.C_drew ?_)))
    (case side10 => exact HC0_11.out)
    (case side11 => repeat (first | exact (Kd.C_below HR0_12.out HB.out) | (with_reducible refine Kd.C_alloc ?_ _) | (with_reducible refine Kd.C_drewN ?_ _) | (with_reducible refine Kd.C_drew ?_)))
    (case side12 => exact HC0_12.out)
    (case side13 => repeat (first | exact (Kd.R_reads' HO113.out).2.2 | (with_reducible refine Kd.C_alloc ?_ _) | (with_reducible refine Kd.C_drewN ?_ _) | (with_reducible refine Kd.C_drew ?_)))
    (case side14 => exact (Kd.R_reads' HO113.out).2.1)
    rintro e w40 ⟨rfl, hb⟩
    refine ⟨_, rfl, ?_⟩
    have n0_ := Aside0.mk (Kd.R_below (by (with_reducible repeat (first | apply Kd.R_alloc | apply Kd.R_drewN | apply Kd.R_drew)); exact HO113.out) hb)
    have n1_ := Aside0.mk (bO (g := gb102) (o := .cells #[.int .i64 a0_0, .int .i64 a0_1, .int .i64 a0_2, .slice (some ad103) l0_3.length c0_3, .slice (some ad110) l0_4.length c0_4, .int .i64 a0_5, .int .i64 a0_6, .slice A0_7 l0_7.length c0_7, .slice A0_8 l0_8.length c0_8, .int .i64 a0_9, .int .i64 a0_10, .slice A0_11 l0_11.length c0_11, .slice A0_12 l0_12.length c0_12] 123 (0, 0)) (by (with_reducible repeat (first | refine bD ?_ _ | refine bC ?_ | refine bE ?_ _)); exact BK102.out) hb)
    have n2_ := Aside0.mk (bO (g := gb104) (o := .cells #[.int .i64 ((rd_T181 l0_3 a1).f0), .int .i64 ((rd_T181 l0_3 a1).f1), .int .i64 ((rd_T181 l0_3 a1).f2), .int .i64 ((rd_T181 l0_3 a1).f3), .int .i64 ((rd_T181 l0_3 a1).f4), .int .i64 ((rd_T181 l0_3 a1).f5), .int .i64 ((rd_T181 l0_3 a1).f6.f0), .int .i64 ((rd_T181 l0_3 a1).f6.f1)] 181 (0, 0)) (by (with_reducible repeat (first | refine bD ?_ _ | refine bC ?_ | refine bE ?_ _)); exact BK104.out) hb)
    have n3_ := Aside0.mk (bP (by repeat (first | (with_reducible first | exact HB.out | apply bL | apply bF | apply bH | refine bG ?_ GE102.out | refine bG ?_ GE104.out) | exact HB.out)) hb)
    clear HO113
    clear BK102
    clear BK104
    clear HB
    have HO113 := n0_
    have BK102 := n1_
    have BK104 := n2_
    have HB := n3_
    clear n0_ n1_ n2_ n3_
    (try clear hb)
    (try clear hb2)
    (try clear hk)
    (try clear hi)
    refine hK.out _ _ ⟨(bA BK104.out 0).trans rfl, (bA BK104.out 1).trans rfl, (bA BK104.out 2).trans rfl, (bA BK104.out 3).trans rfl, (bA BK104.out 4).trans rfl, (bA BK104.out 5).trans rfl, (bA BK104.out 6).trans rfl, (bA BK104.out 7).trans rfl, (bA BK102.out 0).trans rfl, (bA BK102.out 1).trans rfl, (bA BK102.out 2).trans rfl, (bA BK102.out 3).trans rfl, (bA BK102.out 4).trans rfl, (bA BK102.out 5).trans rfl, (bA BK102.out 6).trans rfl, (bA BK102.out 7).trans rfl, (bA BK102.out 8).trans rfl, (bA BK102.out 9).trans rfl, (bA BK102.out 10).trans rfl, (bA BK102.out 11).trans rfl, (bA BK102.out 12).trans rfl, ((HB.out.cell (World.block_lt_of_cell? w _ hw110_0)).trans hw110_0), ((HB.out.cell (World.block_lt_of_cell? w _ hw110_1)).trans hw110_1), ((HB.out.cell (World.block_lt_of_cell? w _ hw110_2)).trans hw110_2), ((HB.out.cell (World.block_lt_of_cell? w _ hw110_3)).trans hw110_3)⟩ (fun hHeld => ?_)
    clear hK K
    refine bY (a' := ?_) ?_ ?_
    rotate_left
    ·show hV _ (some 50) _ = _
     simp only [hV, hS, hT, hU, bI, bJ]
     rfl
    refine bN (i := 14) (N := some 51) (v := ?_) (a' := ?_) #[hQ,hQ,hQ,hQ,hQ,hQ,hQ,hQ,hQ,hQ,hQ,hQ,hQ,hQ,hQ,hR,hR] rfl rfl (bM HT_.out (by kernel_rfl)) (fun _ _ _ h => h) (Or.inl ⟨by rfl, ?_⟩) ?_ ?_;rotate_left;(intro w';go_simp;with_reducible rfl);rotate_left;(simp only [hV, hS, hT, hU, bI, bJ];rfl)
    refine bN (i := 15) (N := some 52) (v := ?_) (a' := ?_) #[hQ,hQ,hQ,hQ,hQ,hQ,hQ,hQ,hQ,hQ,hQ,hQ,hQ,hQ,hQ,hQ,hR] rfl rfl (bM HT_.out (by kernel_rfl)) (fun _ _ _ h => h) (Or.inl ⟨by rfl, ?_⟩) ?_ ?_;rotate_left;(intro w';go_simp;with_reducible rfl);rotate_left;(simp only [hV, hS, hT, hU, bI, bJ];rfl)
    refine bN (i := 16) (N := some 36) (v := ?_) (a' := ?_) #[hQ,hQ,hQ,hQ,hQ,hQ,hQ,hQ,hQ,hQ,hQ,hQ,hQ,hQ,hQ,hQ,hQ] rfl rfl (bM HT_.out (by kernel_rfl)) (fun _ _ _ h => h) (Or.inl ⟨by rfl, ?_⟩) ?_ ?_;rotate_left;(intro w';go_simp;with_reducible rfl);rotate_left;(simp only [hV, hS, hT, hU, bI, bJ];rfl)
    refine cF (cA HT_.out (by kernel_rfl)) ?_
    try go_wp2
    go_ret
    exact ⟨by first | rfl | (simp <;> rfl) | (simp [*] <;> rfl), by repeat (first | (with_reducible first | exact HB.out | apply bL | apply bF | apply bH | refine bG ?_ GE102.out | refine bG ?_ GE104.out) | exact HB.out)⟩
   replace c36 := Bool.eq_false_iff.mpr c36
   subst c36
   have H1 : (some 3) = some r := by rw [if_neg (show ¬ (false = true) by decide)] at H; exact H
   clear H
   have H := H1
   clear H1
   obtain rfl := Option.some.inj H
   try go_wp2
   have n0_ := Aside0.mk (bC BK102.out)
   have n1_ := Aside0.mk (bC BK104.out)
   have n2_ := Aside0.mk (bH HB.out)
   clear BK102
   clear BK104
   clear HB
   have BK102 := n0_
   have BK104 := n1_
   have HB := n2_
   clear n0_ n1_ n2_
   have p110 : 0 ≤ (((rd_T181 l0_3 a1).f5) : Int) := of_decide_eq_true (by first | (with_reducible assumption) | assumption)
   have q110 : ((rd_T181 l0_3 a1).f5) < (l0_4.length : Int) := of_decide_eq_true (by first | (with_reducible assumption) | assumption)
   obtain ⟨ad110, A110_2, c110_2, A110_3, c110_3, e110, hx110_0, hx110_1, hx110_2, hx110_3, hl110_2, hi110_2, hl110_3, hi110_3⟩ := at_T31 HR0_4.out ((rd_T181 l0_3 a1).f5) p110 q110
   have hw110_3 := hx110_3
   have hw110_2 := hx110_2
   have hw110_1 := hx110_1
   have hw110_0 := hx110_0
   cases e110
   try replace hx110_0 := (HB.out.cell (World.block_lt_of_cell? w _ hx110_0)).trans hx110_0
   try replace hx110_1 := (HB.out.cell (World.block_lt_of_cell? w _ hx110_1)).trans hx110_1
   try replace hx110_2 := (HB.out.cell (World.block_lt_of_cell? w _ hx110_2)).trans hx110_2
   try replace hx110_3 := (HB.out.cell (World.block_lt_of_cell? w _ hx110_3)).trans hx110_3
   have HR110_2 := Aside0.mk hi110_2
   have HC110_2 := Aside0.mk hl110_2
   clear hi110_2 hl110_2
   have HR110_3 := Aside0.mk hi110_3
   have HC110_3 := Aside0.mk hl110_3
   clear hi110_3 hl110_3
   replace p110 := eq_true p110
   replace q110 := eq_true q110
   refine cC (n := 17) (S := fun w' => w'.cell? ⟨gb104, 0, none⟩ = some (.int .i64 ((rd_T181 l0_3 a1).f0)) ∧ w'.cell? ⟨gb104, 1, none⟩ = some (.int .i64 ((rd_T181 l0_3 a1).f1)) ∧ w'.cell? ⟨gb104, 2, none⟩ = some (.int .i64 ((rd_T181 l0_3 a1).f2)) ∧ w'.cell? ⟨gb104, 3, none⟩ = some (.int .i64 ((rd_T181 l0_3 a1).f3)) ∧ w'.cell? ⟨gb104, 4, none⟩ = some (.int .i64 ((rd_T181 l0_3 a1).f4)) ∧ w'.cell? ⟨gb104, 5, none⟩ = some (.int .i64 ((rd_T181 l0_3 a1).f5)) ∧ w'.cell? ⟨gb104, 6, none⟩ = some (.int .i64 ((rd_T181 l0_3 a1).f6.f0)) ∧ w'.cell? ⟨gb104, 7, none⟩ = some (.int .i64 ((rd_T181 l0_3 a1).f6.f1)) ∧ w'.cell? ⟨gb102, 0, none⟩ = some (.int .i64 a0_0) ∧ w'.cell? ⟨gb102, 1, none⟩ = some (.int .i64 a0_1) ∧ w'.cell? ⟨gb102, 2, none⟩ = some (.int .i64 a0_2) ∧ w'.cell? ⟨gb102, 3, none⟩ = some (.slice (some ad103) l0_3.length c0_3) ∧ w'.cell? ⟨gb102, 4, none⟩ = some (.slice (some ad110) l0_4.length c0_4) ∧ w'.cell? ⟨gb102, 5, none⟩ = some (.int .i64 a0_5) ∧ w'.cell? ⟨gb102, 6, none⟩ = some (.int .i64 a0_6) ∧ w'.cell? ⟨gb102, 7, none⟩ = some (.slice A0_7 l0_7.length c0_7) ∧ w'.cell? ⟨gb102, 8, none⟩ = some (.slice A0_8 l0_8.length c0_8) ∧ w'.cell? ⟨gb102, 9, none⟩ = some (.int .i64 a0_9) ∧ w'.cell? ⟨gb102, 10, none⟩ = some (.int .i64 a0_10) ∧ w'.cell? ⟨gb102, 11, none⟩ = some (.slice A0_11 l0_11.length c0_11) ∧ w'.cell? ⟨gb102, 12, none⟩ = some (.slice A0_12 l0_12.length c0_12) ∧ w'.cell? (ad110.add ((((rd_T181 l0_3 a1).f5)).toNat * 4)) = some (.int .i64 ((rd_T31 l0_4 ((rd_T181 l0_3 a1).f5)).f0)) ∧ w'.cell? ⟨(ad110.add ((((rd_T181 l0_3 a1).f5)).toNat * 4)).block, (ad110.add ((((rd_T181 l0_3 a1).f5)).toNat * 4)).off + 1, none⟩ = some (.int .i64 ((rd_T31 l0_4 ((rd_T181 l0_3 a1).f5)).f1)) ∧ w'.cell? ⟨(ad110.add ((((rd_T181 l0_3 a1).f5)).toNat * 4)).block, (ad110.add ((((rd_T181 l0_3 a1).f5)).toNat * 4)).off + 2, none⟩ = some (.slice A110_2 ((rd_T31 l0_4 ((rd_T181 l0_3 a1).f5)).f2).length c110_2) ∧ w'.cell? ⟨(ad110.add ((((rd_T181 l0_3 a1).f5)).toNat * 4)).block, (ad110.add ((((rd_T181 l0_3 a1).f5)).toNat * 4)).off + 3, none⟩ = some (.slice A110_3 ((rd_T31 l0_4 ((rd_T181 l0_3 a1).f5)).f3).length c110_3)) (ds := []) #[hR,hR,hR,hR,hR,hR,hR,hR,hR,hR,hR,hR,hR,hR,hR,hR,hR] (by kernel_rfl) rfl rfl ⟨(bA BK104.out 0).trans rfl, (bA BK104.out 1).trans rfl, (bA BK104.out 2).trans rfl, (bA BK104.out 3).trans rfl, (bA BK104.out 4).trans rfl, (bA BK104.out 5).trans rfl, (bA BK104.out 6).trans rfl, (bA BK104.out 7).trans rfl, (bA BK102.out 0).trans rfl, (bA BK102.out 1).trans rfl, (bA BK102.out 2).trans rfl, (bA BK102.out 3).trans rfl, (bA BK102.out 4).trans rfl, (bA BK102.out 5).trans rfl, (bA BK102.out 6).trans rfl, (bA BK102.out 7).trans rfl, (bA BK102.out 8).trans rfl, (bA BK102.out 9).trans rfl, (bA BK102.out 10).trans rfl, (bA BK102.out 11).trans rfl, (bA BK102.out 12).trans rfl, ((HB.out.cell (World.block_lt_of_cell? w _ hw110_0)).trans hw110_0), ((HB.out.cell (World.block_lt_of_cell? w _ hw110_1)).trans hw110_1), ((HB.out.cell (World.block_lt_of_cell? w _ hw110_2)).trans hw110_2), ((HB.out.cell (World.block_lt_of_cell? w _ hw110_3)).trans hw110_3)⟩ (fun hHeld => ?_); refine bV live_one.tab6 live_one.bits6 (fun HT_ HW_ => ?_)
   generalize wc.drew = w41 at BK102 BK104 HB HR110_2 HR110_3 hx110_0 hx110_1 hx110_2 hx110_3 hHeld ⊢
   refine bN (i := 0) (N := some 37) (v := ?_) (a' := ?_) #[hQ,hR,hR,hR,hR,hR,hR,hR,hR,hR,hR,hR,hR,hR,hR,hR,hR] rfl rfl (bM HT_.out (by kernel_rfl)) (fun _ _ _ h => h) (Or.inl ⟨by rfl, ?_⟩) ?_ ?_;rotate_left;(intro w';go_simp;with_reducible rfl);rotate_left;(simp only [hV, hS, hT, hU, bI, bJ];rfl)
   refine bU (i := 1) (N := some 38) (v := ?_) (a' := ?_) #[hQ,hQ,hR,hR,hR,hR,hR,hR,hR,hR,hR,hR,hR,hR,hR,hR,hR] rfl rfl (bQ HT_.out HW_.out (by kernel_rfl)) (fun _ _ _ h => h) (Or.inl ⟨by rfl, ?_⟩) hHeld ?_ ?_;rotate_left;(rintro w' ⟨s0, s1, s2, s3, s4, s5, s6, s7, s8, s9, s10, s11, s12, s13, s14, s15, s16, s17, s18, s19, s20, s21, s22, s23, s24⟩;go_simp;with_reducible rfl);rotate_left;(simp only [hV, hS, hT, hU, bI, bJ];rfl)
   refine bN (i := 2) (N := some 39) (v := ?_) (a' := ?_) #[hQ,hQ,hQ,hR,hR,hR,hR,hR,hR,hR,hR,hR,hR,hR,hR,hR,hR] rfl rfl (bM HT_.out (by kernel_rfl)) (fun _ _ _ h => h) (Or.inl ⟨by rfl, ?_⟩) ?_ ?_;rotate_left;(intro w';go_simp;with_reducible rfl);rotate_left;(simp only [hV, hS, hT, hU, bI, bJ];rfl)
   refine bN (i := 3) (N := some 40) (v := ?_) (a' := ?_) #[hQ,hQ,hQ,hQ,hR,hR,hR,hR,hR,hR,hR,hR,hR,hR,hR,hR,hR] rfl rfl (bM HT_.out (by kernel_rfl)) (fun _ _ _ h => h) (Or.inl ⟨by rfl, ?_⟩) ?_ ?_;rotate_left;(intro w';go_simp;with_reducible rfl);rotate_left;(simp only [hV, hS, hT, hU, bI, bJ];rfl)
   refine bN (i := 5) (N := some 42) (v := ?_) (a' := ?_) #[hQ,hQ,hQ,hQ,hR,hQ,hR,hR,hR,hR,hR,hR,hR,hR,hR,hR,hR] rfl rfl (bM HT_.out (by kernel_rfl)) (fun _ _ _ h => h) (Or.inl ⟨by rfl, ?_⟩) ?_ ?_;rotate_left;(intro w';go_simp;with_reducible rfl);rotate_left;(simp only [hV, hS, hT, hU, bI, bJ];rfl)
   refine bN (i := 7) (N := some 44) (v := ?_) (a' := ?_) #[hQ,hQ,hQ,hQ,hR,hQ,hR,hQ,hR,hR,hR,hR,hR,hR,hR,hR,hR] rfl rfl (bM HT_.out (by kernel_rfl)) (fun _ _ _ h => h) (Or.inl ⟨by rfl, ?_⟩) ?_ ?_;rotate_left;(intro w';go_simp;with_reducible rfl);rotate_left;(simp only [hV, hS, hT, hU, bI, bJ];rfl)
   refine bN (i := 12) (N := some 49) (v := ?_) (a' := ?_) #[hQ,hQ,hQ,hQ,hR,hQ,hR,hQ,hR,hR,hR,hR,hQ,hR,hR,hR,hR] rfl rfl (bM HT_.out (by kernel_rfl)) (fun _ _ _ h => h) (Or.inl ⟨by rfl, ?_⟩) ?_ ?_;rotate_left;(intro w';go_simp;with_reducible rfl);rotate_left;(simp only [hV, hS, hT, hU, bI, bJ];rfl)
   refine bU (i := 4) (N := some 41) (v := ?_) (a' := ?_) #[hQ,hQ,hQ,hQ,hQ,hQ,hR,hQ,hR,hR,hR,hR,hQ,hR,hR,hR,hR] rfl rfl (bQ HT_.out HW_.out (by kernel_rfl)) (fun _ _ _ h => h) (Or.inl ⟨by rfl, ?_⟩) hHeld ?_ ?_;rotate_left;(rintro w' ⟨s0, s1, s2, s3, s4, s5, s6, s7, s8, s9, s10, s11, s12, s13, s14, s15, s16, s17, s18, s19, s20, s21, s22, s23, s24⟩;go_simp;with_reducible rfl);rotate_left;(simp only [hV, hS, hT, hU, bI, bJ];rfl)
   refine bU (i := 6) (N := some 43) (v := ?_) (a' := ?_) #[hQ,hQ,hQ,hQ,hQ,hQ,hQ,hQ,hR,hR,hR,hR,hQ,hR,hR,hR,hR] rfl rfl (bQ HT_.out HW_.out (by kernel_rfl)) (fun _ _ _ h => h) (Or.inl ⟨by rfl, ?_⟩) hHeld ?_ ?_;rotate_left;(rintro w' ⟨s0, s1, s2, s3, s4, s5, s6, s7, s8, s9, s10, s11, s12, s13, s14, s15, s16, s17, s18, s19, s20, s21, s22, s23, s24⟩;go_simp;with_reducible rfl);rotate_left;(simp only [hV, hS, hT, hU, bI, bJ];rfl)
   refine bU (i := 8) (N := some 45) (v := ?_) (a' := ?_) #[hQ,hQ,hQ,hQ,hQ,hQ,hQ,hQ,hQ,hR,hR,hR,hQ,hR,hR,hR,hR] rfl rfl (bQ HT_.out HW_.out (by kernel_rfl)) (fun _ _ _ h => h) (Or.inl ⟨by rfl, ?_⟩) hHeld ?_ ?_;rotate_left;(rintro w' ⟨s0, s1, s2, s3, s4, s5, s6, s7, s8, s9, s10, s11, s12, s13, s14, s15, s16, s17, s18, s19, s20, s21, s22, s23, s24⟩;go_simp;with_reducible rfl);rotate_left;(simp only [hV, hS, hT, hU, bI, bJ];rfl)
   refine bN (i := 9) (N := some 46) (v := ?_) (a' := ?_) #[hQ,hQ,hQ,hQ,hQ,hQ,hQ,hQ,hQ,hQ,hR,hR,hQ,hR,hR,hR,hR] rfl rfl (bM HT_.out (by kernel_rfl)) (fun _ _ _ h => h) (Or.inl ⟨by rfl, ?_⟩) ?_ ?_;rotate_left;(intro w';go_simp;with_reducible rfl);rotate_left;(simp only [hV, hS, hT, hU, bI, bJ];rfl)
   refine bU (i := 10) (N := some 47) (v := ?_) (a' := ?_) #[hQ,hQ,hQ,hQ,hQ,hQ,hQ,hQ,hQ,hQ,hQ,hR,hQ,hR,hR,hR,hR] rfl rfl (bQ HT_.out HW_.out (by kernel_rfl)) (fun _ _ _ h => h) (Or.inl ⟨by rfl, ?_⟩) hHeld ?_ ?_;rotate_left;(rintro w' ⟨s0, s1, s2, s3, s4, s5, s6, s7, s8, s9, s10, s11, s12, s13, s14, s15, s16, s17, s18, s19, s20, s21, s22, s23, s24⟩;go_simp;with_reducible rfl);rotate_left;(simp only [hV, hS, hT, hU, bI, bJ];rfl)
   refine one_ (i := 11) (N := some 48) #[hQ,hQ,hQ,hQ,hQ,hQ,hQ,hQ,hQ,hQ,hQ,hQ,hQ,hR,hR,hR,hR] rfl rfl (bW HT_.out (by kernel_rfl)) (by decide) (fun K hK => ?_)
   refine bZ Try.func121 (by kernel_rfl) rfl #[.agg #[.int .i64 ((rd_T31 l0_4 ((rd_T181 l0_3 a1).f5)).f0), .int .i64 ((rd_T31 l0_4 ((rd_T181 l0_3 a1).f5)).f1), .slice A110_2 ((rd_T31 l0_4 ((rd_T181 l0_3 a1).f5)).f2).length c110_2, .slice A110_3 ((rd_T31 l0_4 ((rd_T181 l0_3 a1).f5)).f3).length c110_3]] (by rfl) rfl rfl (by (try simp only [List.map_toArray, List.map_cons, List.map_nil]); first | done | rfl | (simp only [List.length_drop, List.length_take]; rfl)) ?_
   with_reducible refine (live_Values.calls kj6 ((rd_T31 l0_4 ((rd_T181 l0_3 a1).f5)).f0) ((rd_T31 l0_4 ((rd_T181 l0_3 a1).f5)).f1) _ _ ((rd_T31 l0_4 ((rd_T181 l0_3 a1).f5)).f2) _ _ ((rd_T31 l0_4 ((rd_T181 l0_3 a1).f5)).f3) t111 _ ?side1 ?side2 ?side3 ?side4 A34.out).mono ?_
   (case side1 => repeat (first | exact (Kd.C_below HR110_2.out HB.out) | (with_reducible refine Kd.C_alloc ?_ _) | (with_reducible refine Kd.C_drewN ?_ _) | (with_reducible refine Kd.C_drew ?_)))
   (case side2 => exact HC110_2.out)
   (case side3 => repeat (first | exact (Kd.C_below HR110_3.out HB.out) | (with_reducible refine Kd.C_alloc ?_ _) | (with_reducible refine Kd.C_drewN ?_ _) | (with_reducible refine Kd.C_drew ?_)))
   (case side4 => exact HC110_3.out)
   rintro e w42 ⟨v112, rfl, ho0, hb⟩
   refine ⟨_, rfl, ?_⟩
   have n0_ := Aside0.mk (Kd.R_lower ho0 (bR (by repeat (first | (with_reducible first | exact HB.out | apply bL | apply bF | apply bH | refine bG ?_ GE102.out | refine bG ?_ GE104.out) | exact HB.out))))
   have n1_ := Aside0.mk (bO (g := gb102) (o := .cells #[.int .i64 a0_0, .int .i64 a0_1, .int .i64 a0_2, .slice (some ad103) l0_3.length c0_3, .slice (some ad110) l0_4.length c0_4, .int .i64 a0_5, .int .i64 a0_6, .slice A0_7 l0_7.length c0_7, .slice A0_8 l0_8.length c0_8, .int .i64 a0_9, .int .i64 a0_10, .slice A0_11 l0_11.length c0_11, .slice A0_12 l0_12.length c0_12] 123 (0, 0)) (by (with_reducible repeat (first | refine bD ?_ _ | refine bC ?_ | refine bE ?_ _)); exact BK102.out) hb)
   have n2_ := Aside0.mk (bO (g := gb104) (o := .cells #[.int .i64 ((rd_T181 l0_3 a1).f0), .int .i64 ((rd_T181 l0_3 a1).f1), .int .i64 ((rd_T181 l0_3 a1).f2), .int .i64 ((rd_T181 l0_3 a1).f3), .int .i64 ((rd_T181 l0_3 a1).f4), .int .i64 ((rd_T181 l0_3 a1).f5), .int .i64 ((rd_T181 l0_3 a1).f6.f0), .int .i64 ((rd_T181 l0_3 a1).f6.f1)] 181 (0, 0)) (by (with_reducible repeat (first | refine bD ?_ _ | refine bC ?_ | refine bE ?_ _)); exact BK104.out) hb)
   have n3_ := Aside0.mk (bP (by repeat (first | (with_reducible first | exact HB.out | apply bL | apply bF | apply bH | refine bG ?_ GE102.out | refine bG ?_ GE104.out) | exact HB.out)) hb)
   clear BK102
   clear BK104
   clear HB
   have HO113 := n0_
   have BK102 := n1_
   have BK104 := n2_
   have HB := n3_
   clear n0_ n1_ n2_ n3_
   (try clear hb)
   (try clear hb2)
   (try clear hk)
   (try clear hi)
   (try clear ho0)
   obtain ⟨Ao43, co43, eo43⟩ := Kd.R_slice HO113.out
   (first | subst eo43 | (injection eo43 with f1_ f2_ f3_; have f4_ := f1_.symm; have f5_ := f3_.symm; clear f1_ f2_ f3_; subst f4_; subst f5_))
   refine hK.out _ _ ⟨(bA BK104.out 0).trans rfl, (bA BK104.out 1).trans rfl, (bA BK104.out 2).trans rfl, (bA BK104.out 3).trans rfl, (bA BK104.out 4).trans rfl, (bA BK104.out 5).trans rfl, (bA BK104.out 6).trans rfl, (bA BK104.out 7).trans rfl, (bA BK102.out 0).trans rfl, (bA BK102.out 1).trans rfl, (bA BK102.out 2).trans rfl, (bA BK102.out 3).trans rfl, (bA BK102.out 4).trans rfl, (bA BK102.out 5).trans rfl, (bA BK102.out 6).trans rfl, (bA BK102.out 7).trans rfl, (bA BK102.out 8).trans rfl, (bA BK102.out 9).trans rfl, (bA BK102.out 10).trans rfl, (bA BK102.out 11).trans rfl, (bA BK102.out 12).trans rfl, ((HB.out.cell (World.block_lt_of_cell? w _ hw110_0)).trans hw110_0), ((HB.out.cell (World.block_lt_of_cell? w _ hw110_1)).trans hw110_1), ((HB.out.cell (World.block_lt_of_cell? w _ hw110_2)).trans hw110_2), ((HB.out.cell (World.block_lt_of_cell? w _ hw110_3)).trans hw110_3)⟩ (fun hHeld => ?_)
   clear hK K
   refine bY (a' := ?_) ?_ ?_
   rotate_left
   ·show hV _ (some 48) _ = _
    simp only [hV, hS, hT, hU, bI, bJ]
    rfl
   refine one_ (i := 13) (N := some 50) #[hQ,hQ,hQ,hQ,hQ,hQ,hQ,hQ,hQ,hQ,hQ,hQ,hQ,hQ,hR,hR,hR] rfl rfl (bW HT_.out (by kernel_rfl)) (by decide) (fun K hK => ?_)
   refine bZ Try.func123 (by kernel_rfl) rfl #[.agg #[.int .i64 a0_0, .int .i64 a0_1, .int .i64 a0_2, .slice (some ad103) l0_3.length c0_3, .slice (some ad110) l0_4.length c0_4, .int .i64 a0_5, .int .i64 a0_6, .slice A0_7 l0_7.length c0_7, .slice A0_8 l0_8.length c0_8, .int .i64 a0_9, .int .i64 a0_10, .slice A0_11 l0_11.length c0_11, .slice A0_12 l0_12.length c0_12], .slice Ao43 t111.length co43, .int .i64 a1] (by rfl) rfl rfl (by (try simp only [List.map_toArray, List.map_cons, List.map_nil]); first | done | rfl | (simp only [List.length_drop, List.length_take]; rfl)) ?_
   with_reducible refine (live_all.calls a0_0 a0_1 a0_2 _ _ l0_3 _ _ l0_4 a0_5 a0_6 _ _ l0_7 _ _ l0_8 a0_9 a0_10 _ _ l0_11 _ _ l0_12 _ _ t111 a1 false _ ?side1 ?side2 ?side3 ?side4 ?side5 ?side6 ?side7 ?side8 ?side9 ?side10 ?side11 ?side12 ?side13 ?side14 A35.out).mono ?_
   (case side1 => repeat (first | exact (Kd.C_below HR0_3.out HB.out) | (with_reducible refine Kd.C_alloc ?_ _) | (with_reducible refine Kd.C_drewN ?_ _) | (with_reducible refine Kd.C_drew ?_)))
   (case side2 => exact HC0_3.out)
   (case side3 => repeat (first | exact (Kd.C_below HR0_4.out HB.out) | (with_reducible refine Kd.C_alloc ?_ _) | (with_reducible refine Kd.C_drewN ?_ _) | (with_reducible refine Kd.C_drew ?_)))
   (case side4 => exact HC0_4.out)
   (case side5 => repeat (first | exact (Kd.C_below HR0_7.out HB.out) | (with_reducible refine Kd.C_alloc ?_ _) | (with_reducible refine Kd.C_drewN ?_ _) | (with_reducible refine Kd.C_drew ?_)))
   (case side6 => exact HC0_7.out)
   (case side7 => repeat (first | exact (Kd.C_below HR0_8.out HB.out) | (with_reducible refine Kd.C_alloc ?_ _) | (with_reducible refine Kd.C_drewN ?_ _) | (with_reducible refine Kd.C_drew ?_)))
   (case side8 => exact HC0_8.out)
   (case side9 => repeat (first | exact (Kd.C_below HR0_11.out HB.out) | (with_reducible refine Kd.C_alloc ?_ _) | (with_reducible refine Kd.C_drewN ?_ _) | (with_reducible refine Kd.C_drew ?_)))
   (case side10 => exact HC0_11.out)
   (case side11 => repeat (first | exact (Kd.C_below HR0_12.out HB.out) | (with_reducible refine Kd.C_alloc ?_ _) | (with_reducible refine Kd.C_drewN ?_ _) | (with_reducible refine Kd.C_drew ?_)))
   (case side12 => exact HC0_12.out)
   (case side13 => repeat (first | exact (Kd.R_reads' HO113.out).2.2 | (with_reducible refine Kd.C_alloc ?_ _) | (with_reducible refine Kd.C_drewN ?_ _) | (with_reducible refine Kd.C_drew ?_)))
   (case side14 => exact (Kd.R_reads' HO113.out).2.1)
   rintro e w44 ⟨rfl, hb⟩
   refine ⟨_, rfl, ?_⟩
   have n0_ := Aside0.mk (Kd.R_below (by (with_reducible repeat (first | apply Kd.R_alloc | apply Kd.R_drewN | apply Kd.R_drew)); exact HO113.out) hb)
   have n1_ := Aside0.mk (bO (g := gb102) (o := .cells #[.int .i64 a0_0, .int .i64 a0_1, .int .i64 a0_2, .slice (some ad103) l0_3.length c0_3, .slice (some ad110) l0_4.length c0_4, .int .i64 a0_5, .int .i64 a0_6, .slice A0_7 l0_7.length c0_7, .slice A0_8 l0_8.length c0_8, .int .i64 a0_9, .int .i64 a0_10, .slice A0_11 l0_11.length c0_11, .slice A0_12 l0_12.length c0_12] 123 (0, 0)) (by (with_reducible repeat (first | refine bD ?_ _ | refine bC ?_ | refine bE ?_ _)); exact BK102.out) hb)
   have n2_ := Aside0.mk (bO (g := gb104) (o := .cells #[.int .i64 ((rd_T181 l0_3 a1).f0), .int .i64 ((rd_T181 l0_3 a1).f1), .int .i64 ((rd_T181 l0_3 a1).f2), .int .i64 ((rd_T181 l0_3 a1).f3), .int .i64 ((rd_T181 l0_3 a1).f4), .int .i64 ((rd_T181 l0_3 a1).f5), .int .i64 ((rd_T181 l0_3 a1).f6.f0), .int .i64 ((rd_T181 l0_3 a1).f6.f1)] 181 (0, 0)) (by (with_reducible repeat (first | refine bD ?_ _ | refine bC ?_ | refine bE ?_ _)); exact BK104.out) hb)
   have n3_ := Aside0.mk (bP (by repeat (first | (with_reducible first | exact HB.out | apply bL | apply bF | apply bH | refine bG ?_ GE102.out | refine bG ?_ GE104.out) | exact HB.out)) hb)
   clear HO113
   clear BK102
   clear BK104
   clear HB
   have HO113 := n0_
   have BK102 := n1_
   have BK104 := n2_
   have HB := n3_
   clear n0_ n1_ n2_ n3_
   (try clear hb)
   (try clear hb2)
   (try clear hk)
   (try clear hi)
   refine hK.out _ _ ⟨(bA BK104.out 0).trans rfl, (bA BK104.out 1).trans rfl, (bA BK104.out 2).trans rfl, (bA BK104.out 3).trans rfl, (bA BK104.out 4).trans rfl, (bA BK104.out 5).trans rfl, (bA BK104.out 6).trans rfl, (bA BK104.out 7).trans rfl, (bA BK102.out 0).trans rfl, (bA BK102.out 1).trans rfl, (bA BK102.out 2).trans rfl, (bA BK102.out 3).trans rfl, (bA BK102.out 4).trans rfl, (bA BK102.out 5).trans rfl, (bA BK102.out 6).trans rfl, (bA BK102.out 7).trans rfl, (bA BK102.out 8).trans rfl, (bA BK102.out 9).trans rfl, (bA BK102.out 10).trans rfl, (bA BK102.out 11).trans rfl, (bA BK102.out 12).trans rfl, ((HB.out.cell (World.block_lt_of_cell? w _ hw110_0)).trans hw110_0), ((HB.out.cell (World.block_lt_of_cell? w _ hw110_1)).trans hw110_1), ((HB.out.cell (World.block_lt_of_cell? w _ hw110_2)).trans hw110_2), ((HB.out.cell (World.block_lt_of_cell? w _ hw110_3)).trans hw110_3)⟩ (fun hHeld => ?_)
   clear hK K
   refine bY (a' := ?_) ?_ ?_
   rotate_left
   ·show hV _ (some 50) _ = _
    simp only [hV, hS, hT, hU, bI, bJ]
    rfl
   refine bN (i := 14) (N := some 51) (v := ?_) (a' := ?_) #[hQ,hQ,hQ,hQ,hQ,hQ,hQ,hQ,hQ,hQ,hQ,hQ,hQ,hQ,hQ,hR,hR] rfl rfl (bM HT_.out (by kernel_rfl)) (fun _ _ _ h => h) (Or.inl ⟨by rfl, ?_⟩) ?_ ?_;rotate_left;(intro w';go_simp;with_reducible rfl);rotate_left;(simp only [hV, hS, hT, hU, bI, bJ];rfl)
   refine bN (i := 15) (N := some 52) (v := ?_) (a' := ?_) #[hQ,hQ,hQ,hQ,hQ,hQ,hQ,hQ,hQ,hQ,hQ,hQ,hQ,hQ,hQ,hQ,hR] rfl rfl (bM HT_.out (by kernel_rfl)) (fun _ _ _ h => h) (Or.inl ⟨by rfl, ?_⟩) ?_ ?_;rotate_left;(intro w';go_simp;with_reducible rfl);rotate_left;(simp only [hV, hS, hT, hU, bI, bJ];rfl)
   refine bN (i := 16) (N := some 36) (v := ?_) (a' := ?_) #[hQ,hQ,hQ,hQ,hQ,hQ,hQ,hQ,hQ,hQ,hQ,hQ,hQ,hQ,hQ,hQ,hQ] rfl rfl (bM HT_.out (by kernel_rfl)) (fun _ _ _ h => h) (Or.inl ⟨by rfl, ?_⟩) ?_ ?_;rotate_left;(intro w';go_simp;with_reducible rfl);rotate_left;(simp only [hV, hS, hT, hU, bI, bJ];rfl)
   refine cF (cA HT_.out (by kernel_rfl)) ?_
   try go_wp2
   go_ret
   exact ⟨by first | rfl | (simp <;> rfl) | (simp [*] <;> rfl), by repeat (first | (with_reducible first | exact HB.out | apply bL | apply bF | apply bH | refine bG ?_ GE102.out | refine bG ?_ GE104.out) | exact HB.out)⟩

end Go.Proofs.Ytlojkphocbbjdaa.PLiveTells
