-- Printed for this claim by a program of this session (inj.py), beside the kit's print. Not trusted: Lean checks it.
import Derived.Test.YtlojkphocbbjdaaPLiveTellsx0
import Derived.Test.YtlojkphocbbjdaaPLiveTellsx1
import Derived.Test.YtlojkphocbbjdaaPLiveTellsx4
import Derived.Test.YtlojkphocbbjdaaPLiveTellsx5
import Derived.Test.YtlojkphocbbjdaaPLiveTellsx8
import Derived.Test.YtlojkphocbbjdaaPLiveTellsx9
namespace Go.Proofs.Ytlojkphocbbjdaa.PLiveTells
open Go.RowKit Go.Proofs.YtlojkphocbbjdaaW.PrintWords Go.Proofs.YtlojkphocbbjdaaW.PrintLast Go.Proofs.YtlojkphocbbjdaaW.PrintMore
open Go.Proofs.YtlojkphocbbjdaaW.PrintWords renaming blk_cell → bA, blk_frozen → bB, pw_below_drewN → bC, below_drew1 → bE, below_alloc → bF, below_set → bG, blk_drewN → bH, blk_drew → bI, blk_alloc → bJ, below_step → bK, blk_below → bL, gate_callee → bO, below_size → bP, box_event → bV, gate_dst → bX
open Go.Proofs.YtlojkphocbbjdaaW.PrintLast renaming i64_w → bM, i32_w → bN, any_of → bQ, pure_ → bR, take_ofW → bS, goesL_ → bT, with_tabW → bU, take_ → bW, done_of → bY, start_ → bZ, one_of → cA, norm_ → cD, goes_ → cI, done_ → cJ, waitsOk → cK, opsOf → cN
open Go.Proofs.YtlojkphocbbjdaaW.PrintMore renaming min_three → cB, max_three → cC, min_four → cE, min2_int → cF, max_four → cG, max2_int → cH, min_two → cL, max_two → cM
open Bool renaming true → hQ, false → hR
open List renaming setIfInBounds_toArray → hS
attribute [local go_sem] cH cF cM cL cC cB cG cE   -- for this text's walks alone
set_option linter.unusedVariables false
set_option linter.unusedSimpArgs false

attribute [local go_sem high] eqA129
/-! ### backstitchlaw3_LiveTells: function 13 -/
mutual
def backstitchlaw3_LiveTells.j0 : Nat → Int → List (S129) → Bool → Int → Int → Int → List (S181) → List (S31) → Int → Int → List (S38) → List (S63) → Int → Int → List (S38) → List (S63) → Option (Bool)
 | 0, _, _, _, _, _, _, _, _, _, _, _, _, _, _, _, _ => none
 | k + 1, x3, x4, x24, x172000, x172001, x172002, x172003, x172004, x172005, x172006, x172007, x172008, x172009, x172010, x172011, x172012 => if x24 = true then (some false) else (if x3 = 0 then (if (x4.length : Int) = (x172003.length : Int) then (backstitchlaw3_LiveTells.l0 k x4 (x4.length : Int) 0 x172000 x172001 x172002 x172003 x172004 x172005 x172006 x172007 x172008 x172009 x172010 x172011 x172012) else (some false)) else (some ((x4.length : Int) == 0)))
def backstitchlaw3_LiveTells.l0 : Nat → List (S129) → Int → Int → Int → Int → Int → List (S181) → List (S31) → Int → Int → List (S38) → List (S63) → Int → Int → List (S38) → List (S63) → Option (Bool)
 | 0, _, _, _, _, _, _, _, _, _, _, _, _, _, _, _, _ => none
 | k + 1, x4, x37, x38, x172000, x172001, x172002, x172003, x172004, x172005, x172006, x172007, x172008, x172009, x172010, x172011, x172012 => if x38 < x37 then (if 0 ≤ x38 then (if x38 < (x4.length : Int) then ((backstitchref3_Span.f k x172000 x172001 x172002 x172003 x172004 x172005 x172006 x172007 x172008 x172009 x172010 x172011 x172012 x38).bind fun bt180 => (if (!(((rd_T129 x4 x38).f0) == bt180.1) || (!(((rd_T129 x4 x38).f1) == bt180.2))) = true then (some false) else (backstitchlaw3_LiveTells.l0 k x4 x37 (wrap64 (x38 + 1)) x172000 x172001 x172002 x172003 x172004 x172005 x172006 x172007 x172008 x172009 x172010 x172011 x172012))) else (none)) else (none)) else (some true)
end
def backstitchlaw3_LiveTells.f (k : Nat) (a0_0 : Int) (a0_1 : Int) (a0_2 : Int) (l0_3 : List (S181)) (l0_4 : List (S31)) (a0_5 : Int) (a0_6 : Int) (l0_7 : List (S38)) (l0_8 : List (S63)) (a0_9 : Int) (a0_10 : Int) (l0_11 : List (S38)) (l0_12 : List (S63)) : Option (Bool) := (backstitchlaw3_lived.f k).bind fun t172 => (if t172 = true then ((backstitchref3_TraceFault.f k a0_0 a0_1 a0_2 l0_3 l0_4 a0_5 a0_6 l0_7 l0_8 a0_9 a0_10 l0_11 l0_12).bind fun t173 => ((live_Spans.f k a0_0 a0_1 a0_2 l0_3 l0_4 a0_5 a0_6 l0_7 l0_8 a0_9 a0_10 l0_11 l0_12).bind fun bt174 => ((live_Check.f k a0_0 a0_1 a0_2 l0_3 l0_4 a0_5 a0_6 l0_7 l0_8 a0_9 a0_10 l0_11 l0_12).bind fun t178 => (if t178 = t173 then (backstitchlaw3_LiveTells.j0 k t173 bt174.1 (bt174.2 != t173) a0_0 a0_1 a0_2 l0_3 l0_4 a0_5 a0_6 l0_7 l0_8 a0_9 a0_10 l0_11 l0_12) else (backstitchlaw3_LiveTells.j0 k t173 bt174.1 true a0_0 a0_1 a0_2 l0_3 l0_4 a0_5 a0_6 l0_7 l0_8 a0_9 a0_10 l0_11 l0_12))))) else (some false))
theorem backstitchlaw3_LiveTells.mono_l : ∀ k, (∀ y0 y1 y2 y3 y4 y5 y6 y7 y8 y9 y10 y11 y12 y13 y14 y15, LeO (backstitchlaw3_LiveTells.j0 k y0 y1 y2 y3 y4 y5 y6 y7 y8 y9 y10 y11 y12 y13 y14 y15) (backstitchlaw3_LiveTells.j0 (k + 1) y0 y1 y2 y3 y4 y5 y6 y7 y8 y9 y10 y11 y12 y13 y14 y15)) ∧ (∀ y0 y1 y2 y3 y4 y5 y6 y7 y8 y9 y10 y11 y12 y13 y14 y15, LeO (backstitchlaw3_LiveTells.l0 k y0 y1 y2 y3 y4 y5 y6 y7 y8 y9 y10 y11 y12 y13 y14 y15) (backstitchlaw3_LiveTells.l0 (k + 1) y0 y1 y2 y3 y4 y5 y6 y7 y8 y9 y10 y11 y12 y13 y14 y15))
 | 0 => ⟨fun _ _ _ _ _ _ _ _ _ _ _ _ _ _ _ _ r h => by simp [backstitchlaw3_LiveTells.j0] at h, fun _ _ _ _ _ _ _ _ _ _ _ _ _ _ _ _ r h => by simp [backstitchlaw3_LiveTells.l0] at h⟩
 | k + 1 => by
  obtain ⟨ih0, ih1⟩ := backstitchlaw3_LiveTells.mono_l k
  refine ⟨?_, ?_⟩
  ·intro y0 y1 y2 y3 y4 y5 y6 y7 y8 y9 y10 y11 y12 y13 y14 y15
   unfold backstitchlaw3_LiveTells.j0
   repeat' first
   | (with_reducible exact ih0 _ _ _ _ _ _ _ _ _ _ _ _ _ _ _ _)
   | (with_reducible exact ih1 _ _ _ _ _ _ _ _ _ _ _ _ _ _ _ _)
   | (with_reducible exact backstitchlaw3_lived.mono _)
   | (with_reducible exact backstitchref3_Span.mono _ _ _ _ _ _ _ _ _ _ _ _ _ _ _)
   | (with_reducible exact backstitchref3_TraceFault.mono _ _ _ _ _ _ _ _ _ _ _ _ _ _)
   | (with_reducible exact live_Check.mono _ _ _ _ _ _ _ _ _ _ _ _ _ _)
   | (with_reducible exact live_Spans.mono _ _ _ _ _ _ _ _ _ _ _ _ _ _)
   | (with_reducible exact LeO.refl _)
   | (with_reducible exact LeO.none _)
   | (with_reducible refine LeO.ite ?_ ?_)
   | (with_reducible refine LeO.bind ?_ (fun _ => ?_))
   | exact ih0 _ _ _ _ _ _ _ _ _ _ _ _ _ _ _ _
   | exact ih1 _ _ _ _ _ _ _ _ _ _ _ _ _ _ _ _
   | exact backstitchlaw3_lived.mono _
   | exact backstitchref3_Span.mono _ _ _ _ _ _ _ _ _ _ _ _ _ _ _
   | exact backstitchref3_TraceFault.mono _ _ _ _ _ _ _ _ _ _ _ _ _ _
   | exact live_Check.mono _ _ _ _ _ _ _ _ _ _ _ _ _ _
   | exact live_Spans.mono _ _ _ _ _ _ _ _ _ _ _ _ _ _
   | exact LeO.none _
   | refine LeO.ite ?_ ?_
   | refine LeO.bind ?_ (fun _ => ?_)
  ·intro y0 y1 y2 y3 y4 y5 y6 y7 y8 y9 y10 y11 y12 y13 y14 y15
   unfold backstitchlaw3_LiveTells.l0
   repeat' first
   | (with_reducible exact ih0 _ _ _ _ _ _ _ _ _ _ _ _ _ _ _ _)
   | (with_reducible exact ih1 _ _ _ _ _ _ _ _ _ _ _ _ _ _ _ _)
   | (with_reducible exact backstitchlaw3_lived.mono _)
   | (with_reducible exact backstitchref3_Span.mono _ _ _ _ _ _ _ _ _ _ _ _ _ _ _)
   | (with_reducible exact backstitchref3_TraceFault.mono _ _ _ _ _ _ _ _ _ _ _ _ _ _)
   | (with_reducible exact live_Check.mono _ _ _ _ _ _ _ _ _ _ _ _ _ _)
   | (with_reducible exact live_Spans.mono _ _ _ _ _ _ _ _ _ _ _ _ _ _)
   | (with_reducible exact LeO.refl _)
   | (with_reducible exact LeO.none _)
   | (with_reducible refine LeO.ite ?_ ?_)
   | (with_reducible refine LeO.bind ?_ (fun _ => ?_))
   | exact ih0 _ _ _ _ _ _ _ _ _ _ _ _ _ _ _ _
   | exact ih1 _ _ _ _ _ _ _ _ _ _ _ _ _ _ _ _
   | exact backstitchlaw3_lived.mono _
   | exact backstitchref3_Span.mono _ _ _ _ _ _ _ _ _ _ _ _ _ _ _
   | exact backstitchref3_TraceFault.mono _ _ _ _ _ _ _ _ _ _ _ _ _ _
   | exact live_Check.mono _ _ _ _ _ _ _ _ _ _ _ _ _ _
   | exact live_Spans.mono _ _ _ _ _ _ _ _ _ _ _ _ _ _
   | exact LeO.none _
   | refine LeO.ite ?_ ?_
   | refine LeO.bind ?_ (fun _ => ?_)
def backstitchlaw3_LiveTells.T14 : Bool × List (List Nat × List Nat) := (true, [([], []), ([], []), ([0, 1], [0, 1]), ([2], [2]), ([], []), ([], []), ([4, 5], [4, 5]), ([3, 6], [3, 6])])
def backstitchlaw3_LiveTells.B14 : List Nat := [0, 0, 3, 7, 0, 0, 48, 127]
theorem backstitchlaw3_LiveTells.tab14 : rtab .any (cN Try.f13 14) = backstitchlaw3_LiveTells.T14 := by kernel_rfl
theorem backstitchlaw3_LiveTells.bits14 : cK backstitchlaw3_LiveTells.T14.2 backstitchlaw3_LiveTells.B14 = true := by kernel_rfl
set_option maxHeartbeats 8000000 in
set_option maxRecDepth 100000 in
theorem backstitchlaw3_LiveTells.calls (k : Nat) (a0_0 : Int) (a0_1 : Int) (a0_2 : Int) (A0_3 : Option Addr) (c0_3 : Nat) (l0_3 : List (S181)) (A0_4 : Option Addr) (c0_4 : Nat) (l0_4 : List (S31)) (a0_5 : Int) (a0_6 : Int) (A0_7 : Option Addr) (c0_7 : Nat) (l0_7 : List (S38)) (A0_8 : Option Addr) (c0_8 : Nat) (l0_8 : List (S63)) (a0_9 : Int) (a0_10 : Int) (A0_11 : Option Addr) (c0_11 : Nat) (l0_11 : List (S38)) (A0_12 : Option Addr) (c0_12 : Nat) (l0_12 : List (S63)) (r : Bool) (w : World) (hr0_3 : Kd.C k181 w A0_3 l0_3.length l0_3) (hc0_3 : l0_3.length ≤ c0_3) (hr0_4 : Kd.C k31 w A0_4 l0_4.length l0_4) (hc0_4 : l0_4.length ≤ c0_4) (hr0_7 : Kd.C k38 w A0_7 l0_7.length l0_7) (hc0_7 : l0_7.length ≤ c0_7) (hr0_8 : Kd.C k63 w A0_8 l0_8.length l0_8) (hc0_8 : l0_8.length ≤ c0_8) (hr0_11 : Kd.C k38 w A0_11 l0_11.length l0_11) (hc0_11 : l0_11.length ≤ c0_11) (hr0_12 : Kd.C k63 w A0_12 l0_12.length l0_12) (hc0_12 : l0_12.length ≤ c0_12) (h : backstitchlaw3_LiveTells.f k a0_0 a0_1 a0_2 l0_3 l0_4 a0_5 a0_6 l0_7 l0_8 a0_9 a0_10 l0_11 l0_12 = some r) :
  Calls Try.prog 13 #[.agg #[.int .i64 a0_0, .int .i64 a0_1, .int .i64 a0_2, .slice A0_3 l0_3.length c0_3, .slice A0_4 l0_4.length c0_4, .int .i64 a0_5, .int .i64 a0_6, .slice A0_7 l0_7.length c0_7, .slice A0_8 l0_8.length c0_8, .int .i64 a0_9, .int .i64 a0_10, .slice A0_11 l0_11.length c0_11, .slice A0_12 l0_12.length c0_12]] w fun e w' => e = .returned (.bool r) ∧ Below w.heap.size w w' := by
 have hu123 := Try.underlying123
 have hu129 := Try.underlying129
 have HR0_3 := Aside0.mk hr0_3
 have HC0_3 := Aside0.mk hc0_3
 clear hr0_3 hc0_3
 have HR0_4 := Aside0.mk hr0_4
 have HC0_4 := Aside0.mk hc0_4
 clear hr0_4 hc0_4
 have HR0_7 := Aside0.mk hr0_7
 have HC0_7 := Aside0.mk hc0_7
 clear hr0_7 hc0_7
 have HR0_8 := Aside0.mk hr0_8
 have HC0_8 := Aside0.mk hc0_8
 clear hr0_8 hc0_8
 have HR0_11 := Aside0.mk hr0_11
 have HC0_11 := Aside0.mk hc0_11
 clear hr0_11 hc0_11
 have HR0_12 := Aside0.mk hr0_12
 have HC0_12 := Aside0.mk hc0_12
 clear hr0_12 hc0_12
 have HB := Aside0.mk (Below.refl w.heap.size w)
 have H : ((backstitchlaw3_lived.f k).bind fun t172 => (if t172 = true then ((backstitchref3_TraceFault.f k a0_0 a0_1 a0_2 l0_3 l0_4 a0_5 a0_6 l0_7 l0_8 a0_9 a0_10 l0_11 l0_12).bind fun t173 => ((live_Spans.f k a0_0 a0_1 a0_2 l0_3 l0_4 a0_5 a0_6 l0_7 l0_8 a0_9 a0_10 l0_11 l0_12).bind fun bt174 => ((live_Check.f k a0_0 a0_1 a0_2 l0_3 l0_4 a0_5 a0_6 l0_7 l0_8 a0_9 a0_10 l0_11 l0_12).bind fun t178 => (if t178 = t173 then (backstitchlaw3_LiveTells.j0 k t173 bt174.1 (bt174.2 != t173) a0_0 a0_1 a0_2 l0_3 l0_4 a0_5 a0_6 l0_7 l0_8 a0_9 a0_10 l0_11 l0_12) else (backstitchlaw3_LiveTells.j0 k t173 bt174.1 true a0_0 a0_1 a0_2 l0_3 l0_4 a0_5 a0_6 l0_7 l0_8 a0_9 a0_10 l0_11 l0_12))))) else (some false))) = some r := h
 clear h
 replace H := Option.bind_eq_some_iff.mp H
 obtain ⟨t172, A20, H⟩ := H
 replace H : (if t172 = true then ((backstitchref3_TraceFault.f k a0_0 a0_1 a0_2 l0_3 l0_4 a0_5 a0_6 l0_7 l0_8 a0_9 a0_10 l0_11 l0_12).bind fun t173 => ((live_Spans.f k a0_0 a0_1 a0_2 l0_3 l0_4 a0_5 a0_6 l0_7 l0_8 a0_9 a0_10 l0_11 l0_12).bind fun bt174 => ((live_Check.f k a0_0 a0_1 a0_2 l0_3 l0_4 a0_5 a0_6 l0_7 l0_8 a0_9 a0_10 l0_11 l0_12).bind fun t178 => (if t178 = t173 then (backstitchlaw3_LiveTells.j0 k t173 bt174.1 (bt174.2 != t173) a0_0 a0_1 a0_2 l0_3 l0_4 a0_5 a0_6 l0_7 l0_8 a0_9 a0_10 l0_11 l0_12) else (backstitchlaw3_LiveTells.j0 k t173 bt174.1 true a0_0 a0_1 a0_2 l0_3 l0_4 a0_5 a0_6 l0_7 l0_8 a0_9 a0_10 l0_11 l0_12))))) else (some false)) = some r := H
 have A2 := Aside0.mk A20
 clear A20
 by_cases c3 : t172 = true
 rotate_left
 ·replace c3 := Bool.eq_false_iff.mpr c3
  subst c3
  have H1 : (some false) = some r := by rw [if_neg (show ¬ (false = true) by decide)] at H; exact H
  clear H
  have H := H1
  clear H1
  obtain rfl := Option.some.inj H
  go_enter Try.func13, Try.ntmps13
  go_wp2_with (first | ((with_reducible refine bX (N := 1) rfl ?_); refine bV ?hg (N := 1) ?hd (cs := #[.int .i64 a0_0, .int .i64 a0_1, .int .i64 a0_2, .slice A0_3 l0_3.length c0_3, .slice A0_4 l0_4.length c0_4, .int .i64 a0_5, .int .i64 a0_6, .slice A0_7 l0_7.length c0_7, .slice A0_8 l0_8.length c0_8, .int .i64 a0_9, .int .i64 a0_10, .slice A0_11 l0_11.length c0_11, .slice A0_12 l0_12.length c0_12]) (t := 123) ?hr ?_; (case hd => rfl); (case hg => rfl); (case hr => first | (go_simp; done) | (go_simp; rfl)); intro gb171 hg w36 hbox hb; have n0_ := Aside0.mk (bK (by repeat (first | (with_reducible first | exact HB.out | apply bF | apply bC | apply bE) | exact HB.out)) hb); have n1_ := Aside0.mk (hbox); have n2_ := Aside0.mk ((by rw [hg]; exact (bP (by repeat (first | (with_reducible first | exact HB.out | apply bF | apply bC | apply bE) | exact HB.out))) : w.heap.size ≤ gb171)); have n3_ := Aside0.mk ((by rw [hg]; exact (bP (by repeat (first | (with_reducible first | exact HB.out | apply bF | apply bC | apply bE) | exact HB.out))) : w.heap.size ≤ gb171)); clear HB; have HB := n0_; have BK171 := n1_; have GW171 := n2_; have GE171 := n3_; clear n0_ n1_ n2_ n3_; clear hb hbox hg) | ((with_reducible refine bO (f := 66) rfl ?_); refine bT (some 7) rfl rfl Try.func66 (by kernel_rfl) rfl #[] rfl (by (try simp only [List.map_toArray, List.map_cons, List.map_nil]); first | done | rfl | (simp only [List.length_drop, List.length_take]; rfl)) ?_; (with_reducible refine (backstitchlaw3_lived.calls k  false _ A2.out).mono ?_); rintro e w37 ⟨rfl, hb⟩; refine ⟨_, rfl, ?_⟩; have n0_ := Aside0.mk (bL (g := gb171) (o := .cells #[.int .i64 a0_0, .int .i64 a0_1, .int .i64 a0_2, .slice A0_3 l0_3.length c0_3, .slice A0_4 l0_4.length c0_4, .int .i64 a0_5, .int .i64 a0_6, .slice A0_7 l0_7.length c0_7, .slice A0_8 l0_8.length c0_8, .int .i64 a0_9, .int .i64 a0_10, .slice A0_11 l0_11.length c0_11, .slice A0_12 l0_12.length c0_12] 123 (0, 0)) (by (with_reducible repeat (first | refine bH ?_ _ | refine bI ?_ | refine bJ ?_ _)); exact BK171.out) hb); have n1_ := Aside0.mk (bK (by repeat (first | (with_reducible first | exact HB.out | apply bF | apply bC | apply bE | refine bG ?_ GE171.out) | exact HB.out)) hb); clear BK171; clear HB; have BK171 := n0_; have HB := n1_; clear n0_ n1_; (try clear hb); (try clear hb2); (try clear hk); (try clear hi)))
  go_ret
  exact ⟨by first | rfl | (simp <;> rfl) | (simp [*] <;> rfl), by repeat (first | (with_reducible first | exact HB.out | apply bF | apply bC | apply bE | refine bG ?_ GE171.out) | exact HB.out)⟩
 subst c3
 have H1 : ((backstitchref3_TraceFault.f k a0_0 a0_1 a0_2 l0_3 l0_4 a0_5 a0_6 l0_7 l0_8 a0_9 a0_10 l0_11 l0_12).bind fun t173 => ((live_Spans.f k a0_0 a0_1 a0_2 l0_3 l0_4 a0_5 a0_6 l0_7 l0_8 a0_9 a0_10 l0_11 l0_12).bind fun bt174 => ((live_Check.f k a0_0 a0_1 a0_2 l0_3 l0_4 a0_5 a0_6 l0_7 l0_8 a0_9 a0_10 l0_11 l0_12).bind fun t178 => (if t178 = t173 then (backstitchlaw3_LiveTells.j0 k t173 bt174.1 (bt174.2 != t173) a0_0 a0_1 a0_2 l0_3 l0_4 a0_5 a0_6 l0_7 l0_8 a0_9 a0_10 l0_11 l0_12) else (backstitchlaw3_LiveTells.j0 k t173 bt174.1 true a0_0 a0_1 a0_2 l0_3 l0_4 a0_5 a0_6 l0_7 l0_8 a0_9 a0_10 l0_11 l0_12))))) = some r := by rw [if_pos rfl] at H; exact H
 clear H
 have H := H1
 clear H1
 replace H := Option.bind_eq_some_iff.mp H
 obtain ⟨t173, A40, H⟩ := H
 replace H : ((live_Spans.f k a0_0 a0_1 a0_2 l0_3 l0_4 a0_5 a0_6 l0_7 l0_8 a0_9 a0_10 l0_11 l0_12).bind fun bt174 => ((live_Check.f k a0_0 a0_1 a0_2 l0_3 l0_4 a0_5 a0_6 l0_7 l0_8 a0_9 a0_10 l0_11 l0_12).bind fun t178 => (if t178 = t173 then (backstitchlaw3_LiveTells.j0 k t173 bt174.1 (bt174.2 != t173) a0_0 a0_1 a0_2 l0_3 l0_4 a0_5 a0_6 l0_7 l0_8 a0_9 a0_10 l0_11 l0_12) else (backstitchlaw3_LiveTells.j0 k t173 bt174.1 true a0_0 a0_1 a0_2 l0_3 l0_4 a0_5 a0_6 l0_7 l0_8 a0_9 a0_10 l0_11 l0_12)))) = some r := H
 have A4 := Aside0.mk A40
 clear A40
 replace H := Option.bind_eq_some_iff.mp H
 obtain ⟨⟨t174, t177⟩, A50, H⟩ := H
 replace H : ((live_Check.f k a0_0 a0_1 a0_2 l0_3 l0_4 a0_5 a0_6 l0_7 l0_8 a0_9 a0_10 l0_11 l0_12).bind fun t178 => (if t178 = t173 then (backstitchlaw3_LiveTells.j0 k t173 t174 (t177 != t173) a0_0 a0_1 a0_2 l0_3 l0_4 a0_5 a0_6 l0_7 l0_8 a0_9 a0_10 l0_11 l0_12) else (backstitchlaw3_LiveTells.j0 k t173 t174 true a0_0 a0_1 a0_2 l0_3 l0_4 a0_5 a0_6 l0_7 l0_8 a0_9 a0_10 l0_11 l0_12))) = some r := H
 have A5 := Aside0.mk A50
 clear A50
 have HC6 := Aside0.mk H
 clear H
 go_enter Try.func13, Try.ntmps13
 go_upto_region 5 with (first | ((with_reducible refine bX (N := 1) rfl ?_); refine bV ?hg (N := 1) ?hd (cs := #[.int .i64 a0_0, .int .i64 a0_1, .int .i64 a0_2, .slice A0_3 l0_3.length c0_3, .slice A0_4 l0_4.length c0_4, .int .i64 a0_5, .int .i64 a0_6, .slice A0_7 l0_7.length c0_7, .slice A0_8 l0_8.length c0_8, .int .i64 a0_9, .int .i64 a0_10, .slice A0_11 l0_11.length c0_11, .slice A0_12 l0_12.length c0_12]) (t := 123) ?hr ?_; (case hd => rfl); (case hg => rfl); (case hr => first | (go_simp; done) | (go_simp; rfl)); intro gb171 hg w7 hbox hb; have n0_ := Aside0.mk (bK (by repeat (first | (with_reducible first | exact HB.out | apply bF | apply bC | apply bE) | exact HB.out)) hb); have n1_ := Aside0.mk (hbox); have n2_ := Aside0.mk ((by rw [hg]; exact (bP (by repeat (first | (with_reducible first | exact HB.out | apply bF | apply bC | apply bE) | exact HB.out))) : w.heap.size ≤ gb171)); have n3_ := Aside0.mk ((by rw [hg]; exact (bP (by repeat (first | (with_reducible first | exact HB.out | apply bF | apply bC | apply bE) | exact HB.out))) : w.heap.size ≤ gb171)); clear HB; have HB := n0_; have BK171 := n1_; have GW171 := n2_; have GE171 := n3_; clear n0_ n1_ n2_ n3_; clear hb hbox hg) | ((with_reducible refine bO (f := 66) rfl ?_); refine bT (some 7) rfl rfl Try.func66 (by kernel_rfl) rfl #[] rfl (by (try simp only [List.map_toArray, List.map_cons, List.map_nil]); first | done | rfl | (simp only [List.length_drop, List.length_take]; rfl)) ?_; (with_reducible refine (backstitchlaw3_lived.calls k  true _ A2.out).mono ?_); rintro e w8 ⟨rfl, hb⟩; refine ⟨_, rfl, ?_⟩; have n0_ := Aside0.mk (bL (g := gb171) (o := .cells #[.int .i64 a0_0, .int .i64 a0_1, .int .i64 a0_2, .slice A0_3 l0_3.length c0_3, .slice A0_4 l0_4.length c0_4, .int .i64 a0_5, .int .i64 a0_6, .slice A0_7 l0_7.length c0_7, .slice A0_8 l0_8.length c0_8, .int .i64 a0_9, .int .i64 a0_10, .slice A0_11 l0_11.length c0_11, .slice A0_12 l0_12.length c0_12] 123 (0, 0)) (by (with_reducible repeat (first | refine bH ?_ _ | refine bI ?_ | refine bJ ?_ _)); exact BK171.out) hb); have n1_ := Aside0.mk (bK (by repeat (first | (with_reducible first | exact HB.out | apply bF | apply bC | apply bE | refine bG ?_ GE171.out) | exact HB.out)) hb); clear BK171; clear HB; have BK171 := n0_; have HB := n1_; clear n0_ n1_; (try clear hb); (try clear hb2); (try clear hk); (try clear hi); have hcz9_0 : w8.cell? ⟨gb171, 0, none⟩ = some (.int .i64 a0_0) := (bA BK171.out 0).trans rfl; have hcz9_1 : w8.cell? ⟨gb171, 1, none⟩ = some (.int .i64 a0_1) := (bA BK171.out 1).trans rfl; have hcz9_2 : w8.cell? ⟨gb171, 2, none⟩ = some (.int .i64 a0_2) := (bA BK171.out 2).trans rfl; have hcz9_3 : w8.cell? ⟨gb171, 3, none⟩ = some (.slice A0_3 l0_3.length c0_3) := (bA BK171.out 3).trans rfl; have hcz9_4 : w8.cell? ⟨gb171, 4, none⟩ = some (.slice A0_4 l0_4.length c0_4) := (bA BK171.out 4).trans rfl; have hcz9_5 : w8.cell? ⟨gb171, 5, none⟩ = some (.int .i64 a0_5) := (bA BK171.out 5).trans rfl; have hcz9_6 : w8.cell? ⟨gb171, 6, none⟩ = some (.int .i64 a0_6) := (bA BK171.out 6).trans rfl; have hcz9_7 : w8.cell? ⟨gb171, 7, none⟩ = some (.slice A0_7 l0_7.length c0_7) := (bA BK171.out 7).trans rfl; have hcz9_8 : w8.cell? ⟨gb171, 8, none⟩ = some (.slice A0_8 l0_8.length c0_8) := (bA BK171.out 8).trans rfl; have hcz9_9 : w8.cell? ⟨gb171, 9, none⟩ = some (.int .i64 a0_9) := (bA BK171.out 9).trans rfl; have hcz9_10 : w8.cell? ⟨gb171, 10, none⟩ = some (.int .i64 a0_10) := (bA BK171.out 10).trans rfl; have hcz9_11 : w8.cell? ⟨gb171, 11, none⟩ = some (.slice A0_11 l0_11.length c0_11) := (bA BK171.out 11).trans rfl; have hcz9_12 : w8.cell? ⟨gb171, 12, none⟩ = some (.slice A0_12 l0_12.length c0_12) := (bA BK171.out 12).trans rfl; have hfz9_0 := bB BK171.out 0; have hfz9_1 := bB BK171.out 1; have hfz9_2 := bB BK171.out 2; have hfz9_3 := bB BK171.out 3; have hfz9_4 := bB BK171.out 4; have hfz9_5 := bB BK171.out 5; have hfz9_6 := bB BK171.out 6; have hfz9_7 := bB BK171.out 7; have hfz9_8 := bB BK171.out 8; have hfz9_9 := bB BK171.out 9; have hfz9_10 := bB BK171.out 10; have hfz9_11 := bB BK171.out 11; have hfz9_12 := bB BK171.out 12) | ((with_reducible refine bO (f := 67) rfl ?_); refine bT (some 10) rfl rfl Try.func67 (by kernel_rfl) rfl #[.agg #[.int .i64 a0_0, .int .i64 a0_1, .int .i64 a0_2, .slice A0_3 l0_3.length c0_3, .slice A0_4 l0_4.length c0_4, .int .i64 a0_5, .int .i64 a0_6, .slice A0_7 l0_7.length c0_7, .slice A0_8 l0_8.length c0_8, .int .i64 a0_9, .int .i64 a0_10, .slice A0_11 l0_11.length c0_11, .slice A0_12 l0_12.length c0_12]] rfl (by (try simp only [List.map_toArray, List.map_cons, List.map_nil]); first | done | rfl | (simp only [List.length_drop, List.length_take]; rfl)) ?_; (with_reducible refine (backstitchref3_TraceFault.calls k a0_0 a0_1 a0_2 _ _ l0_3 _ _ l0_4 a0_5 a0_6 _ _ l0_7 _ _ l0_8 a0_9 a0_10 _ _ l0_11 _ _ l0_12 t173 _ ?side1 ?side2 ?side3 ?side4 ?side5 ?side6 ?side7 ?side8 ?side9 ?side10 ?side11 ?side12 A4.out).mono ?_); (case side1 => repeat (first | exact (Kd.C_below HR0_3.out HB.out) | (with_reducible refine Kd.C_alloc ?_ _) | (with_reducible refine Kd.C_drewN ?_ _) | (with_reducible refine Kd.C_drew ?_))); (case side2 => exact HC0_3.out); (case side3 => repeat (first | exact (Kd.C_below HR0_4.out HB.out) | (with_reducible refine Kd.C_alloc ?_ _) | (with_reducible refine Kd.C_drewN ?_ _) | (with_reducible refine Kd.C_drew ?_))); (case side4 => exact HC0_4.out); (case side5 => repeat (first | exact (Kd.C_below HR0_7.out HB.out) | (with_reducible refine Kd.C_alloc ?_ _) | (with_reducible refine Kd.C_drewN ?_ _) | (with_reducible refine Kd.C_drew ?_))); (case side6 => exact HC0_7.out); (case side7 => repeat (first | exact (Kd.C_below HR0_8.out HB.out) | (with_reducible refine Kd.C_alloc ?_ _) | (with_reducible refine Kd.C_drewN ?_ _) | (with_reducible refine Kd.C_drew ?_))); (case side8 => exact HC0_8.out); (case side9 => repeat (first | exact (Kd.C_below HR0_11.out HB.out) | (with_reducible refine Kd.C_alloc ?_ _) | (with_reducible refine Kd.C_drewN ?_ _) | (with_reducible refine Kd.C_drew ?_))); (case side10 => exact HC0_11.out); (case side11 => repeat (first | exact (Kd.C_below HR0_12.out HB.out) | (with_reducible refine Kd.C_alloc ?_ _) | (with_reducible refine Kd.C_drewN ?_ _) | (with_reducible refine Kd.C_drew ?_))); (case side12 => exact HC0_12.out); rintro e w10 ⟨rfl, hb⟩; refine ⟨_, rfl, ?_⟩; have n0_ := Aside0.mk (bL (g := gb171) (o := .cells #[.int .i64 a0_0, .int .i64 a0_1, .int .i64 a0_2, .slice A0_3 l0_3.length c0_3, .slice A0_4 l0_4.length c0_4, .int .i64 a0_5, .int .i64 a0_6, .slice A0_7 l0_7.length c0_7, .slice A0_8 l0_8.length c0_8, .int .i64 a0_9, .int .i64 a0_10, .slice A0_11 l0_11.length c0_11, .slice A0_12 l0_12.length c0_12] 123 (0, 0)) (by (with_reducible repeat (first | refine bH ?_ _ | refine bI ?_ | refine bJ ?_ _)); exact BK171.out) hb); have n1_ := Aside0.mk (bK (by repeat (first | (with_reducible first | exact HB.out | apply bF | apply bC | apply bE | refine bG ?_ GE171.out) | exact HB.out)) hb); clear BK171; clear HB; have BK171 := n0_; have HB := n1_; clear n0_ n1_; (try clear hb); (try clear hb2); (try clear hk); (try clear hi); have hcz11_0 : w10.cell? ⟨gb171, 0, none⟩ = some (.int .i64 a0_0) := (bA BK171.out 0).trans rfl; have hcz11_1 : w10.cell? ⟨gb171, 1, none⟩ = some (.int .i64 a0_1) := (bA BK171.out 1).trans rfl; have hcz11_2 : w10.cell? ⟨gb171, 2, none⟩ = some (.int .i64 a0_2) := (bA BK171.out 2).trans rfl; have hcz11_3 : w10.cell? ⟨gb171, 3, none⟩ = some (.slice A0_3 l0_3.length c0_3) := (bA BK171.out 3).trans rfl; have hcz11_4 : w10.cell? ⟨gb171, 4, none⟩ = some (.slice A0_4 l0_4.length c0_4) := (bA BK171.out 4).trans rfl; have hcz11_5 : w10.cell? ⟨gb171, 5, none⟩ = some (.int .i64 a0_5) := (bA BK171.out 5).trans rfl; have hcz11_6 : w10.cell? ⟨gb171, 6, none⟩ = some (.int .i64 a0_6) := (bA BK171.out 6).trans rfl; have hcz11_7 : w10.cell? ⟨gb171, 7, none⟩ = some (.slice A0_7 l0_7.length c0_7) := (bA BK171.out 7).trans rfl; have hcz11_8 : w10.cell? ⟨gb171, 8, none⟩ = some (.slice A0_8 l0_8.length c0_8) := (bA BK171.out 8).trans rfl; have hcz11_9 : w10.cell? ⟨gb171, 9, none⟩ = some (.int .i64 a0_9) := (bA BK171.out 9).trans rfl; have hcz11_10 : w10.cell? ⟨gb171, 10, none⟩ = some (.int .i64 a0_10) := (bA BK171.out 10).trans rfl; have hcz11_11 : w10.cell? ⟨gb171, 11, none⟩ = some (.slice A0_11 l0_11.length c0_11) := (bA BK171.out 11).trans rfl; have hcz11_12 : w10.cell? ⟨gb171, 12, none⟩ = some (.slice A0_12 l0_12.length c0_12) := (bA BK171.out 12).trans rfl; have hfz11_0 := bB BK171.out 0; have hfz11_1 := bB BK171.out 1; have hfz11_2 := bB BK171.out 2; have hfz11_3 := bB BK171.out 3; have hfz11_4 := bB BK171.out 4; have hfz11_5 := bB BK171.out 5; have hfz11_6 := bB BK171.out 6; have hfz11_7 := bB BK171.out 7; have hfz11_8 := bB BK171.out 8; have hfz11_9 := bB BK171.out 9; have hfz11_10 := bB BK171.out 10; have hfz11_11 := bB BK171.out 11; have hfz11_12 := bB BK171.out 12) | ((with_reducible refine bO (f := 68) rfl ?_); refine bT (some 13) rfl rfl Try.func68 (by kernel_rfl) rfl #[.agg #[.int .i64 a0_0, .int .i64 a0_1, .int .i64 a0_2, .slice A0_3 l0_3.length c0_3, .slice A0_4 l0_4.length c0_4, .int .i64 a0_5, .int .i64 a0_6, .slice A0_7 l0_7.length c0_7, .slice A0_8 l0_8.length c0_8, .int .i64 a0_9, .int .i64 a0_10, .slice A0_11 l0_11.length c0_11, .slice A0_12 l0_12.length c0_12]] rfl (by (try simp only [List.map_toArray, List.map_cons, List.map_nil]); first | done | rfl | (simp only [List.length_drop, List.length_take]; rfl)) ?_; (with_reducible refine (live_Spans.calls k a0_0 a0_1 a0_2 _ _ l0_3 _ _ l0_4 a0_5 a0_6 _ _ l0_7 _ _ l0_8 a0_9 a0_10 _ _ l0_11 _ _ l0_12 t174 t177 _ ?side1 ?side2 ?side3 ?side4 ?side5 ?side6 ?side7 ?side8 ?side9 ?side10 ?side11 ?side12 A5.out).mono ?_); (case side1 => repeat (first | exact (Kd.C_below HR0_3.out HB.out) | (with_reducible refine Kd.C_alloc ?_ _) | (with_reducible refine Kd.C_drewN ?_ _) | (with_reducible refine Kd.C_drew ?_))); (case side2 => exact HC0_3.out); (case side3 => repeat (first | exact (Kd.C_below HR0_4.out HB.out) | (with_reducible refine Kd.C_alloc ?_ _) | (with_reducible refine Kd.C_drewN ?_ _) | (with_reducible refine Kd.C_drew ?_))); (case side4 => exact HC0_4.out); (case side5 => repeat (first | exact (Kd.C_below HR0_7.out HB.out) | (with_reducible refine Kd.C_alloc ?_ _) | (with_reducible refine Kd.C_drewN ?_ _) | (with_reducible refine Kd.C_drew ?_))); (case side6 => exact HC0_7.out); (case side7 => repeat (first | exact (Kd.C_below HR0_8.out HB.out) | (with_reducible refine Kd.C_alloc ?_ _) | (with_reducible refine Kd.C_drewN ?_ _) | (with_reducible refine Kd.C_drew ?_))); (case side8 => exact HC0_8.out); (case side9 => repeat (first | exact (Kd.C_below HR0_11.out HB.out) | (with_reducible refine Kd.C_alloc ?_ _) | (with_reducible refine Kd.C_drewN ?_ _) | (with_reducible refine Kd.C_drew ?_))); (case side10 => exact HC0_11.out); (case side11 => repeat (first | exact (Kd.C_below HR0_12.out HB.out) | (with_reducible refine Kd.C_alloc ?_ _) | (with_reducible refine Kd.C_drewN ?_ _) | (with_reducible refine Kd.C_drew ?_))); (case side12 => exact HC0_12.out); rintro e w12 ⟨v175, rfl, ho0, hb⟩; refine ⟨_, rfl, ?_⟩; have n0_ := Aside0.mk (Kd.R_lower ho0 (bP (by repeat (first | (with_reducible first | exact HB.out | apply bF | apply bC | apply bE | refine bG ?_ GE171.out) | exact HB.out)))); have n1_ := Aside0.mk (bL (g := gb171) (o := .cells #[.int .i64 a0_0, .int .i64 a0_1, .int .i64 a0_2, .slice A0_3 l0_3.length c0_3, .slice A0_4 l0_4.length c0_4, .int .i64 a0_5, .int .i64 a0_6, .slice A0_7 l0_7.length c0_7, .slice A0_8 l0_8.length c0_8, .int .i64 a0_9, .int .i64 a0_10, .slice A0_11 l0_11.length c0_11, .slice A0_12 l0_12.length c0_12] 123 (0, 0)) (by (with_reducible repeat (first | refine bH ?_ _ | refine bI ?_ | refine bJ ?_ _)); exact BK171.out) hb); have n2_ := Aside0.mk (bK (by repeat (first | (with_reducible first | exact HB.out | apply bF | apply bC | apply bE | refine bG ?_ GE171.out) | exact HB.out)) hb); clear BK171; clear HB; have HO176 := n0_; have BK171 := n1_; have HB := n2_; clear n0_ n1_ n2_; (try clear hb); (try clear hb2); (try clear hk); (try clear hi); (try clear ho0)))
 (try simp only [Act.put, hS, List.set_cons_zero, List.set_cons_succ])
 go_cut [24] (fun v24 wc => ∃ (kq : Nat) (x24_5 : Bool), v24 = .bool x24_5 ∧ Aside0 (backstitchlaw3_LiveTells.j0 kq t173 t174 x24_5 a0_0 a0_1 a0_2 l0_3 l0_4 a0_5 a0_6 l0_7 l0_8 a0_9 a0_10 l0_11 l0_12 = some r) ∧ Aside0 (kq ≤ k) ∧ Aside0 (Kd.R k129 129 wc w.heap.size (fun _ => True) v175 t174) ∧ Aside0 (wc.heap[gb171]? = some (.cells #[.int .i64 a0_0, .int .i64 a0_1, .int .i64 a0_2, (.slice A0_3 l0_3.length c0_3), (.slice A0_4 l0_4.length c0_4), .int .i64 a0_5, .int .i64 a0_6, (.slice A0_7 l0_7.length c0_7), (.slice A0_8 l0_8.length c0_8), .int .i64 a0_9, .int .i64 a0_10, (.slice A0_11 l0_11.length c0_11), (.slice A0_12 l0_12.length c0_12)] 123 (0, 0))) ∧ Aside0 (Below w.heap.size w wc))
 case first =>
  have H := HC6.out
  clear HC6
  replace H := Option.bind_eq_some_iff.mp H
  obtain ⟨t178, A130, H⟩ := H
  replace H : (if t178 = t173 then (backstitchlaw3_LiveTells.j0 k t173 t174 (t177 != t173) a0_0 a0_1 a0_2 l0_3 l0_4 a0_5 a0_6 l0_7 l0_8 a0_9 a0_10 l0_11 l0_12) else (backstitchlaw3_LiveTells.j0 k t173 t174 true a0_0 a0_1 a0_2 l0_3 l0_4 a0_5 a0_6 l0_7 l0_8 a0_9 a0_10 l0_11 l0_12)) = some r := H
  have A13 := Aside0.mk A130
  clear A130
  by_cases c14 : t178 = t173
  ·rw [if_pos c14] at H
   have c14b0 : (t178 == t173) = true := beq_iff_eq.mpr c14
   have c14b1 : (t178 != t173) = false := bne_eq_false_iff_eq.mpr c14
   clear c14
   (first | rw [c14b0] | (simp only [bM, bN]; rw [c14b0]) | skip)
   have H' := Aside0.mk H
   clear H
   have hcz15_0 : w12.cell? ⟨gb171, 0, none⟩ = some (.int .i64 a0_0) := (bA BK171.out 0).trans rfl
   have hcz15_1 : w12.cell? ⟨gb171, 1, none⟩ = some (.int .i64 a0_1) := (bA BK171.out 1).trans rfl
   have hcz15_2 : w12.cell? ⟨gb171, 2, none⟩ = some (.int .i64 a0_2) := (bA BK171.out 2).trans rfl
   have hcz15_3 : w12.cell? ⟨gb171, 3, none⟩ = some (.slice A0_3 l0_3.length c0_3) := (bA BK171.out 3).trans rfl
   have hcz15_4 : w12.cell? ⟨gb171, 4, none⟩ = some (.slice A0_4 l0_4.length c0_4) := (bA BK171.out 4).trans rfl
   have hcz15_5 : w12.cell? ⟨gb171, 5, none⟩ = some (.int .i64 a0_5) := (bA BK171.out 5).trans rfl
   have hcz15_6 : w12.cell? ⟨gb171, 6, none⟩ = some (.int .i64 a0_6) := (bA BK171.out 6).trans rfl
   have hcz15_7 : w12.cell? ⟨gb171, 7, none⟩ = some (.slice A0_7 l0_7.length c0_7) := (bA BK171.out 7).trans rfl
   have hcz15_8 : w12.cell? ⟨gb171, 8, none⟩ = some (.slice A0_8 l0_8.length c0_8) := (bA BK171.out 8).trans rfl
   have hcz15_9 : w12.cell? ⟨gb171, 9, none⟩ = some (.int .i64 a0_9) := (bA BK171.out 9).trans rfl
   have hcz15_10 : w12.cell? ⟨gb171, 10, none⟩ = some (.int .i64 a0_10) := (bA BK171.out 10).trans rfl
   have hcz15_11 : w12.cell? ⟨gb171, 11, none⟩ = some (.slice A0_11 l0_11.length c0_11) := (bA BK171.out 11).trans rfl
   have hcz15_12 : w12.cell? ⟨gb171, 12, none⟩ = some (.slice A0_12 l0_12.length c0_12) := (bA BK171.out 12).trans rfl
   have hfz15_0 := bB BK171.out 0
   have hfz15_1 := bB BK171.out 1
   have hfz15_2 := bB BK171.out 2
   have hfz15_3 := bB BK171.out 3
   have hfz15_4 := bB BK171.out 4
   have hfz15_5 := bB BK171.out 5
   have hfz15_6 := bB BK171.out 6
   have hfz15_7 := bB BK171.out 7
   have hfz15_8 := bB BK171.out 8
   have hfz15_9 := bB BK171.out 9
   have hfz15_10 := bB BK171.out 10
   have hfz15_11 := bB BK171.out 11
   have hfz15_12 := bB BK171.out 12
   go_wp2_with (first | ((with_reducible refine bO (f := 69) rfl ?_); refine bT (some 17) rfl rfl Try.func69 (by kernel_rfl) rfl #[.agg #[.int .i64 a0_0, .int .i64 a0_1, .int .i64 a0_2, .slice A0_3 l0_3.length c0_3, .slice A0_4 l0_4.length c0_4, .int .i64 a0_5, .int .i64 a0_6, .slice A0_7 l0_7.length c0_7, .slice A0_8 l0_8.length c0_8, .int .i64 a0_9, .int .i64 a0_10, .slice A0_11 l0_11.length c0_11, .slice A0_12 l0_12.length c0_12]] rfl (by (try simp only [List.map_toArray, List.map_cons, List.map_nil]); first | done | rfl | (simp only [List.length_drop, List.length_take]; rfl)) ?_; (with_reducible refine (live_Check.calls k a0_0 a0_1 a0_2 _ _ l0_3 _ _ l0_4 a0_5 a0_6 _ _ l0_7 _ _ l0_8 a0_9 a0_10 _ _ l0_11 _ _ l0_12 t178 _ ?side1 ?side2 ?side3 ?side4 ?side5 ?side6 ?side7 ?side8 ?side9 ?side10 ?side11 ?side12 A13.out).mono ?_); (case side1 => repeat (first | exact (Kd.C_below HR0_3.out HB.out) | (with_reducible refine Kd.C_alloc ?_ _) | (with_reducible refine Kd.C_drewN ?_ _) | (with_reducible refine Kd.C_drew ?_))); (case side2 => exact HC0_3.out); (case side3 => repeat (first | exact (Kd.C_below HR0_4.out HB.out) | (with_reducible refine Kd.C_alloc ?_ _) | (with_reducible refine Kd.C_drewN ?_ _) | (with_reducible refine Kd.C_drew ?_))); (case side4 => exact HC0_4.out); (case side5 => repeat (first | exact (Kd.C_below HR0_7.out HB.out) | (with_reducible refine Kd.C_alloc ?_ _) | (with_reducible refine Kd.C_drewN ?_ _) | (with_reducible refine Kd.C_drew ?_))); (case side6 => exact HC0_7.out); (case side7 => repeat (first | exact (Kd.C_below HR0_8.out HB.out) | (with_reducible refine Kd.C_alloc ?_ _) | (with_reducible refine Kd.C_drewN ?_ _) | (with_reducible refine Kd.C_drew ?_))); (case side8 => exact HC0_8.out); (case side9 => repeat (first | exact (Kd.C_below HR0_11.out HB.out) | (with_reducible refine Kd.C_alloc ?_ _) | (with_reducible refine Kd.C_drewN ?_ _) | (with_reducible refine Kd.C_drew ?_))); (case side10 => exact HC0_11.out); (case side11 => repeat (first | exact (Kd.C_below HR0_12.out HB.out) | (with_reducible refine Kd.C_alloc ?_ _) | (with_reducible refine Kd.C_drewN ?_ _) | (with_reducible refine Kd.C_drew ?_))); (case side12 => exact HC0_12.out); rintro e w16 ⟨rfl, hb⟩; refine ⟨_, rfl, ?_⟩; have n0_ := Aside0.mk (Kd.R_below (by (with_reducible repeat (first | apply Kd.R_alloc | apply Kd.R_drewN | apply Kd.R_drew)); exact HO176.out) hb); have n1_ := Aside0.mk (bL (g := gb171) (o := .cells #[.int .i64 a0_0, .int .i64 a0_1, .int .i64 a0_2, .slice A0_3 l0_3.length c0_3, .slice A0_4 l0_4.length c0_4, .int .i64 a0_5, .int .i64 a0_6, .slice A0_7 l0_7.length c0_7, .slice A0_8 l0_8.length c0_8, .int .i64 a0_9, .int .i64 a0_10, .slice A0_11 l0_11.length c0_11, .slice A0_12 l0_12.length c0_12] 123 (0, 0)) (by (with_reducible repeat (first | refine bH ?_ _ | refine bI ?_ | refine bJ ?_ _)); exact BK171.out) hb); have n2_ := Aside0.mk (bK (by repeat (first | (with_reducible first | exact HB.out | apply bF | apply bC | apply bE | refine bG ?_ GE171.out) | exact HB.out)) hb); clear HO176; clear BK171; clear HB; have HO176 := n0_; have BK171 := n1_; have HB := n2_; clear n0_ n1_ n2_; (try clear hb); (try clear hb2); (try clear hk); (try clear hi)))
   go_meet
   case rel => exact ⟨_, ((t177 != t173)), (by first | rfl | (simp; done) | (simp [*]; done)), H', ⟨by first | omega | exact Nat.le_refl _⟩, ⟨by (with_reducible repeat (first | apply Kd.R_alloc | apply Kd.R_drewN | apply Kd.R_drew)); exact HO176.out⟩, ⟨by (with_reducible repeat (first | refine bH ?_ _ | refine bI ?_ | refine bJ ?_ _)); exact BK171.out⟩, ⟨by repeat (first | (with_reducible first | exact HB.out | apply bF | apply bC | apply bE | refine bG ?_ GE171.out) | exact HB.out)⟩⟩
  ·rw [if_neg c14] at H
   have c14b0 : (t178 == t173) = false := beq_eq_false_iff_ne.mpr c14
   have c14b1 : (t178 != t173) = true := bne_iff_ne.mpr c14
   (first | rw [c14b0] | (simp only [bM, bN]; rw [c14b0]) | skip)
   have H' := Aside0.mk H
   clear H
   have hcz17_0 : w12.cell? ⟨gb171, 0, none⟩ = some (.int .i64 a0_0) := (bA BK171.out 0).trans rfl
   have hcz17_1 : w12.cell? ⟨gb171, 1, none⟩ = some (.int .i64 a0_1) := (bA BK171.out 1).trans rfl
   have hcz17_2 : w12.cell? ⟨gb171, 2, none⟩ = some (.int .i64 a0_2) := (bA BK171.out 2).trans rfl
   have hcz17_3 : w12.cell? ⟨gb171, 3, none⟩ = some (.slice A0_3 l0_3.length c0_3) := (bA BK171.out 3).trans rfl
   have hcz17_4 : w12.cell? ⟨gb171, 4, none⟩ = some (.slice A0_4 l0_4.length c0_4) := (bA BK171.out 4).trans rfl
   have hcz17_5 : w12.cell? ⟨gb171, 5, none⟩ = some (.int .i64 a0_5) := (bA BK171.out 5).trans rfl
   have hcz17_6 : w12.cell? ⟨gb171, 6, none⟩ = some (.int .i64 a0_6) := (bA BK171.out 6).trans rfl
   have hcz17_7 : w12.cell? ⟨gb171, 7, none⟩ = some (.slice A0_7 l0_7.length c0_7) := (bA BK171.out 7).trans rfl
   have hcz17_8 : w12.cell? ⟨gb171, 8, none⟩ = some (.slice A0_8 l0_8.length c0_8) := (bA BK171.out 8).trans rfl
   have hcz17_9 : w12.cell? ⟨gb171, 9, none⟩ = some (.int .i64 a0_9) := (bA BK171.out 9).trans rfl
   have hcz17_10 : w12.cell? ⟨gb171, 10, none⟩ = some (.int .i64 a0_10) := (bA BK171.out 10).trans rfl
   have hcz17_11 : w12.cell? ⟨gb171, 11, none⟩ = some (.slice A0_11 l0_11.length c0_11) := (bA BK171.out 11).trans rfl
   have hcz17_12 : w12.cell? ⟨gb171, 12, none⟩ = some (.slice A0_12 l0_12.length c0_12) := (bA BK171.out 12).trans rfl
   have hfz17_0 := bB BK171.out 0
   have hfz17_1 := bB BK171.out 1
   have hfz17_2 := bB BK171.out 2
   have hfz17_3 := bB BK171.out 3
   have hfz17_4 := bB BK171.out 4
   have hfz17_5 := bB BK171.out 5
   have hfz17_6 := bB BK171.out 6
   have hfz17_7 := bB BK171.out 7
   have hfz17_8 := bB BK171.out 8
   have hfz17_9 := bB BK171.out 9
   have hfz17_10 := bB BK171.out 10
   have hfz17_11 := bB BK171.out 11
   have hfz17_12 := bB BK171.out 12
   go_wp2_with (first | ((with_reducible refine bO (f := 69) rfl ?_); refine bT (some 17) rfl rfl Try.func69 (by kernel_rfl) rfl #[.agg #[.int .i64 a0_0, .int .i64 a0_1, .int .i64 a0_2, .slice A0_3 l0_3.length c0_3, .slice A0_4 l0_4.length c0_4, .int .i64 a0_5, .int .i64 a0_6, .slice A0_7 l0_7.length c0_7, .slice A0_8 l0_8.length c0_8, .int .i64 a0_9, .int .i64 a0_10, .slice A0_11 l0_11.length c0_11, .slice A0_12 l0_12.length c0_12]] rfl (by (try simp only [List.map_toArray, List.map_cons, List.map_nil]); first | done | rfl | (simp only [List.length_drop, List.length_take]; rfl)) ?_; (with_reducible refine (live_Check.calls k a0_0 a0_1 a0_2 _ _ l0_3 _ _ l0_4 a0_5 a0_6 _ _ l0_7 _ _ l0_8 a0_9 a0_10 _ _ l0_11 _ _ l0_12 t178 _ ?side1 ?side2 ?side3 ?side4 ?side5 ?side6 ?side7 ?side8 ?side9 ?side10 ?side11 ?side12 A13.out).mono ?_); (case side1 => repeat (first | exact (Kd.C_below HR0_3.out HB.out) | (with_reducible refine Kd.C_alloc ?_ _) | (with_reducible refine Kd.C_drewN ?_ _) | (with_reducible refine Kd.C_drew ?_))); (case side2 => exact HC0_3.out); (case side3 => repeat (first | exact (Kd.C_below HR0_4.out HB.out) | (with_reducible refine Kd.C_alloc ?_ _) | (with_reducible refine Kd.C_drewN ?_ _) | (with_reducible refine Kd.C_drew ?_))); (case side4 => exact HC0_4.out); (case side5 => repeat (first | exact (Kd.C_below HR0_7.out HB.out) | (with_reducible refine Kd.C_alloc ?_ _) | (with_reducible refine Kd.C_drewN ?_ _) | (with_reducible refine Kd.C_drew ?_))); (case side6 => exact HC0_7.out); (case side7 => repeat (first | exact (Kd.C_below HR0_8.out HB.out) | (with_reducible refine Kd.C_alloc ?_ _) | (with_reducible refine Kd.C_drewN ?_ _) | (with_reducible refine Kd.C_drew ?_))); (case side8 => exact HC0_8.out); (case side9 => repeat (first | exact (Kd.C_below HR0_11.out HB.out) | (with_reducible refine Kd.C_alloc ?_ _) | (with_reducible refine Kd.C_drewN ?_ _) | (with_reducible refine Kd.C_drew ?_))); (case side10 => exact HC0_11.out); (case side11 => repeat (first | exact (Kd.C_below HR0_12.out HB.out) | (with_reducible refine Kd.C_alloc ?_ _) | (with_reducible refine Kd.C_drewN ?_ _) | (with_reducible refine Kd.C_drew ?_))); (case side12 => exact HC0_12.out); rintro e w18 ⟨rfl, hb⟩; refine ⟨_, rfl, ?_⟩; have n0_ := Aside0.mk (Kd.R_below (by (with_reducible repeat (first | apply Kd.R_alloc | apply Kd.R_drewN | apply Kd.R_drew)); exact HO176.out) hb); have n1_ := Aside0.mk (bL (g := gb171) (o := .cells #[.int .i64 a0_0, .int .i64 a0_1, .int .i64 a0_2, .slice A0_3 l0_3.length c0_3, .slice A0_4 l0_4.length c0_4, .int .i64 a0_5, .int .i64 a0_6, .slice A0_7 l0_7.length c0_7, .slice A0_8 l0_8.length c0_8, .int .i64 a0_9, .int .i64 a0_10, .slice A0_11 l0_11.length c0_11, .slice A0_12 l0_12.length c0_12] 123 (0, 0)) (by (with_reducible repeat (first | refine bH ?_ _ | refine bI ?_ | refine bJ ?_ _)); exact BK171.out) hb); have n2_ := Aside0.mk (bK (by repeat (first | (with_reducible first | exact HB.out | apply bF | apply bC | apply bE | refine bG ?_ GE171.out) | exact HB.out)) hb); clear HO176; clear BK171; clear HB; have HO176 := n0_; have BK171 := n1_; have HB := n2_; clear n0_ n1_ n2_; (try clear hb); (try clear hb2); (try clear hk); (try clear hi)))
   go_meet
   case rel => exact ⟨_, (true), (by first | rfl | (simp; done) | (simp [*]; done)), H', ⟨by first | omega | exact Nat.le_refl _⟩, ⟨by (with_reducible repeat (first | apply Kd.R_alloc | apply Kd.R_drewN | apply Kd.R_drew)); exact HO176.out⟩, ⟨by (with_reducible repeat (first | refine bH ?_ _ | refine bI ?_ | refine bJ ?_ _)); exact BK171.out⟩, ⟨by repeat (first | (with_reducible first | exact HB.out | apply bF | apply bC | apply bE | refine bG ?_ GE171.out) | exact HB.out)⟩⟩
 case rest =>
  clear HC6
  try clear c1
  try clear p2
  try clear c3
  try clear c6
  try clear c13
  try clear c14
  try clear c14b0
  try clear c14b1
  try clear hcz11_0
  try clear hcz11_1
  try clear hcz11_10
  try clear hcz11_11
  try clear hcz11_12
  try clear hcz11_2
  try clear hcz11_3
  try clear hcz11_4
  try clear hcz11_5
  try clear hcz11_6
  try clear hcz11_7
  try clear hcz11_8
  try clear hcz11_9
  try clear hcz15_0
  try clear hcz15_1
  try clear hcz15_10
  try clear hcz15_11
  try clear hcz15_12
  try clear hcz15_2
  try clear hcz15_3
  try clear hcz15_4
  try clear hcz15_5
  try clear hcz15_6
  try clear hcz15_7
  try clear hcz15_8
  try clear hcz15_9
  try clear hcz17_0
  try clear hcz17_1
  try clear hcz17_10
  try clear hcz17_11
  try clear hcz17_12
  try clear hcz17_2
  try clear hcz17_3
  try clear hcz17_4
  try clear hcz17_5
  try clear hcz17_6
  try clear hcz17_7
  try clear hcz17_8
  try clear hcz17_9
  try clear hcz9_0
  try clear hcz9_1
  try clear hcz9_10
  try clear hcz9_11
  try clear hcz9_12
  try clear hcz9_2
  try clear hcz9_3
  try clear hcz9_4
  try clear hcz9_5
  try clear hcz9_6
  try clear hcz9_7
  try clear hcz9_8
  try clear hcz9_9
  try clear hfz11_0
  try clear hfz11_1
  try clear hfz11_10
  try clear hfz11_11
  try clear hfz11_12
  try clear hfz11_2
  try clear hfz11_3
  try clear hfz11_4
  try clear hfz11_5
  try clear hfz11_6
  try clear hfz11_7
  try clear hfz11_8
  try clear hfz11_9
  try clear hfz15_0
  try clear hfz15_1
  try clear hfz15_10
  try clear hfz15_11
  try clear hfz15_12
  try clear hfz15_2
  try clear hfz15_3
  try clear hfz15_4
  try clear hfz15_5
  try clear hfz15_6
  try clear hfz15_7
  try clear hfz15_8
  try clear hfz15_9
  try clear hfz17_0
  try clear hfz17_1
  try clear hfz17_10
  try clear hfz17_11
  try clear hfz17_12
  try clear hfz17_2
  try clear hfz17_3
  try clear hfz17_4
  try clear hfz17_5
  try clear hfz17_6
  try clear hfz17_7
  try clear hfz17_8
  try clear hfz17_9
  try clear hfz9_0
  try clear hfz9_1
  try clear hfz9_10
  try clear hfz9_11
  try clear hfz9_12
  try clear hfz9_2
  try clear hfz9_3
  try clear hfz9_4
  try clear hfz9_5
  try clear hfz9_6
  try clear hfz9_7
  try clear hfz9_8
  try clear hfz9_9
  obtain ⟨kq, x24_5, rfl, HA, HJ5, HO_4, BK171, HB⟩ := hcut
  cases kq with
  | zero => exact absurd HA.out (by simp [backstitchlaw3_LiveTells.j0])
  | succ kj5 =>
   have H := HA.out
   clear HA
   simp only [backstitchlaw3_LiveTells.j0] at H
   by_cases c19 : x24_5 = true
   ·subst c19
    have H1 : (some false) = some r := by rw [if_pos rfl] at H; exact H
    clear H
    have H := H1
    clear H1
    obtain rfl := Option.some.inj H
    go_wp2
    go_ret
    exact ⟨by first | rfl | (simp <;> rfl) | (simp [*] <;> rfl), by repeat (first | (with_reducible first | exact HB.out | apply bF | apply bC | apply bE | refine bG ?_ GE171.out) | exact HB.out)⟩
   replace c19 := Bool.eq_false_iff.mpr c19
   subst c19
   have H1 : (if t173 = 0 then (if (t174.length : Int) = (l0_3.length : Int) then (backstitchlaw3_LiveTells.l0 kj5 t174 (t174.length : Int) 0 a0_0 a0_1 a0_2 l0_3 l0_4 a0_5 a0_6 l0_7 l0_8 a0_9 a0_10 l0_11 l0_12) else (some false)) else (some ((t174.length : Int) == 0))) = some r := by rw [if_neg (show ¬ (false = true) by decide)] at H; exact H
   clear H
   have H := H1
   clear H1
   by_cases c20 : t173 = 0
   rotate_left
   ·rw [if_neg c20] at H
    have c20b0 : (t173 == 0) = false := beq_eq_false_iff_ne.mpr c20
    have c20b1 : (t173 != 0) = true := bne_iff_ne.mpr c20
    obtain rfl := Option.some.inj H
    obtain ⟨Ao35, co35, eo35⟩ := Kd.R_slice HO_4.out
    subst eo35
    go_wp2
    go_ret
    exact ⟨by first | rfl | (simp <;> rfl) | (simp [*] <;> rfl), by repeat (first | (with_reducible first | exact HB.out | apply bF | apply bC | apply bE | refine bG ?_ GE171.out) | exact HB.out)⟩
   rw [if_pos c20] at H
   have c20b0 : (t173 == 0) = true := beq_iff_eq.mpr c20
   have c20b1 : (t173 != 0) = false := bne_eq_false_iff_eq.mpr c20
   clear c20
   by_cases c21 : (t174.length : Int) = (l0_3.length : Int)
   rotate_left
   ·rw [if_neg c21] at H
    have c21b0 : ((t174.length : Int) == (l0_3.length : Int)) = false := beq_eq_false_iff_ne.mpr c21
    have c21b1 : ((t174.length : Int) != (l0_3.length : Int)) = true := bne_iff_ne.mpr c21
    have c21b2 : (t174.length == l0_3.length) = false := by first | simpa using c21 | (simp at c21 ⊢; omega)
    obtain rfl := Option.some.inj H
    obtain ⟨Ao33, co33, eo33⟩ := Kd.R_slice HO_4.out
    subst eo33
    have hcz34_0 : wc.cell? ⟨gb171, 0, none⟩ = some (.int .i64 a0_0) := (bA BK171.out 0).trans rfl
    have hcz34_1 : wc.cell? ⟨gb171, 1, none⟩ = some (.int .i64 a0_1) := (bA BK171.out 1).trans rfl
    have hcz34_2 : wc.cell? ⟨gb171, 2, none⟩ = some (.int .i64 a0_2) := (bA BK171.out 2).trans rfl
    have hcz34_3 : wc.cell? ⟨gb171, 3, none⟩ = some (.slice A0_3 l0_3.length c0_3) := (bA BK171.out 3).trans rfl
    have hcz34_4 : wc.cell? ⟨gb171, 4, none⟩ = some (.slice A0_4 l0_4.length c0_4) := (bA BK171.out 4).trans rfl
    have hcz34_5 : wc.cell? ⟨gb171, 5, none⟩ = some (.int .i64 a0_5) := (bA BK171.out 5).trans rfl
    have hcz34_6 : wc.cell? ⟨gb171, 6, none⟩ = some (.int .i64 a0_6) := (bA BK171.out 6).trans rfl
    have hcz34_7 : wc.cell? ⟨gb171, 7, none⟩ = some (.slice A0_7 l0_7.length c0_7) := (bA BK171.out 7).trans rfl
    have hcz34_8 : wc.cell? ⟨gb171, 8, none⟩ = some (.slice A0_8 l0_8.length c0_8) := (bA BK171.out 8).trans rfl
    have hcz34_9 : wc.cell? ⟨gb171, 9, none⟩ = some (.int .i64 a0_9) := (bA BK171.out 9).trans rfl
    have hcz34_10 : wc.cell? ⟨gb171, 10, none⟩ = some (.int .i64 a0_10) := (bA BK171.out 10).trans rfl
    have hcz34_11 : wc.cell? ⟨gb171, 11, none⟩ = some (.slice A0_11 l0_11.length c0_11) := (bA BK171.out 11).trans rfl
    have hcz34_12 : wc.cell? ⟨gb171, 12, none⟩ = some (.slice A0_12 l0_12.length c0_12) := (bA BK171.out 12).trans rfl
    have hfz34_0 := bB BK171.out 0
    have hfz34_1 := bB BK171.out 1
    have hfz34_2 := bB BK171.out 2
    have hfz34_3 := bB BK171.out 3
    have hfz34_4 := bB BK171.out 4
    have hfz34_5 := bB BK171.out 5
    have hfz34_6 := bB BK171.out 6
    have hfz34_7 := bB BK171.out 7
    have hfz34_8 := bB BK171.out 8
    have hfz34_9 := bB BK171.out 9
    have hfz34_10 := bB BK171.out 10
    have hfz34_11 := bB BK171.out 11
    have hfz34_12 := bB BK171.out 12
    go_wp2
    go_ret
    exact ⟨by first | rfl | (simp <;> rfl) | (simp [*] <;> rfl), by repeat (first | (with_reducible first | exact HB.out | apply bF | apply bC | apply bE | refine bG ?_ GE171.out) | exact HB.out)⟩
   rw [if_pos c21] at H
   have c21b0 : ((t174.length : Int) == (l0_3.length : Int)) = true := beq_iff_eq.mpr c21
   have c21b1 : ((t174.length : Int) != (l0_3.length : Int)) = false := bne_eq_false_iff_eq.mpr c21
   have c21b2 : (t174.length == l0_3.length) = true := by first | simpa using c21 | (simp at c21 ⊢; omega)
   clear c21
   have H' := Aside0.mk H
   clear H
   obtain ⟨Ao22, co22, eo22⟩ := Kd.R_slice HO_4.out
   subst eo22
   have hcz23_0 : wc.cell? ⟨gb171, 0, none⟩ = some (.int .i64 a0_0) := (bA BK171.out 0).trans rfl
   have hcz23_1 : wc.cell? ⟨gb171, 1, none⟩ = some (.int .i64 a0_1) := (bA BK171.out 1).trans rfl
   have hcz23_2 : wc.cell? ⟨gb171, 2, none⟩ = some (.int .i64 a0_2) := (bA BK171.out 2).trans rfl
   have hcz23_3 : wc.cell? ⟨gb171, 3, none⟩ = some (.slice A0_3 l0_3.length c0_3) := (bA BK171.out 3).trans rfl
   have hcz23_4 : wc.cell? ⟨gb171, 4, none⟩ = some (.slice A0_4 l0_4.length c0_4) := (bA BK171.out 4).trans rfl
   have hcz23_5 : wc.cell? ⟨gb171, 5, none⟩ = some (.int .i64 a0_5) := (bA BK171.out 5).trans rfl
   have hcz23_6 : wc.cell? ⟨gb171, 6, none⟩ = some (.int .i64 a0_6) := (bA BK171.out 6).trans rfl
   have hcz23_7 : wc.cell? ⟨gb171, 7, none⟩ = some (.slice A0_7 l0_7.length c0_7) := (bA BK171.out 7).trans rfl
   have hcz23_8 : wc.cell? ⟨gb171, 8, none⟩ = some (.slice A0_8 l0_8.length c0_8) := (bA BK171.out 8).trans rfl
   have hcz23_9 : wc.cell? ⟨gb171, 9, none⟩ = some (.int .i64 a0_9) := (bA BK171.out 9).trans rfl
   have hcz23_10 : wc.cell? ⟨gb171, 10, none⟩ = some (.int .i64 a0_10) := (bA BK171.out 10).trans rfl
   have hcz23_11 : wc.cell? ⟨gb171, 11, none⟩ = some (.slice A0_11 l0_11.length c0_11) := (bA BK171.out 11).trans rfl
   have hcz23_12 : wc.cell? ⟨gb171, 12, none⟩ = some (.slice A0_12 l0_12.length c0_12) := (bA BK171.out 12).trans rfl
   have hfz23_0 := bB BK171.out 0
   have hfz23_1 := bB BK171.out 1
   have hfz23_2 := bB BK171.out 2
   have hfz23_3 := bB BK171.out 3
   have hfz23_4 := bB BK171.out 4
   have hfz23_5 := bB BK171.out 5
   have hfz23_6 := bB BK171.out 6
   have hfz23_7 := bB BK171.out 7
   have hfz23_8 := bB BK171.out 8
   have hfz23_9 := bB BK171.out 9
   have hfz23_10 := bB BK171.out 10
   have hfz23_11 := bB BK171.out 11
   have hfz23_12 := bB BK171.out 12
   go_wp2
   go_loopg [38] kj5 (fun kq v38 w' => ∃ (x38_2 : Int), v38 = .int .i64 x38_2 ∧ Aside0 (backstitchlaw3_LiveTells.l0 kq t174 (t174.length : Int) x38_2 a0_0 a0_1 a0_2 l0_3 l0_4 a0_5 a0_6 l0_7 l0_8 a0_9 a0_10 l0_11 l0_12 = some r) ∧ Aside0 (kq ≤ kj5) ∧ Aside0 (Kd.R k129 129 w' w.heap.size (fun _ => True) (.slice Ao22 t174.length co22) t174) ∧ Aside0 (w'.heap[gb171]? = some (.cells #[.int .i64 a0_0, .int .i64 a0_1, .int .i64 a0_2, (.slice A0_3 l0_3.length c0_3), (.slice A0_4 l0_4.length c0_4), .int .i64 a0_5, .int .i64 a0_6, (.slice A0_7 l0_7.length c0_7), (.slice A0_8 l0_8.length c0_8), .int .i64 a0_9, .int .i64 a0_10, (.slice A0_11 l0_11.length c0_11), (.slice A0_12 l0_12.length c0_12)] 123 (0, 0))) ∧ Aside0 (Below w.heap.size w w'))
   case atStart => exact ⟨(0), (by first | rfl | (simp; done) | (simp [*]; done)), H', ⟨Nat.le_refl _⟩, ⟨by (with_reducible repeat (first | apply Kd.R_alloc | apply Kd.R_drewN | apply Kd.R_drew)); exact HO_4.out⟩, ⟨by (with_reducible repeat (first | refine bH ?_ _ | refine bI ?_ | refine bJ ?_ _)); exact BK171.out⟩, ⟨by repeat (first | (with_reducible first | exact HB.out | apply bF | apply bC | apply bE | refine bG ?_ GE171.out) | exact HB.out)⟩⟩
   case round =>
    clear H'
    try clear c1
    try clear c2
    try clear p2
    try clear c3
    try clear c6
    try clear c13
    try clear c14
    try clear c14b0
    try clear c14b1
    try clear c19
    try clear c20
    try clear c20b0
    try clear c20b1
    try clear c21
    try clear c21b0
    try clear c21b1
    try clear c21b2
    try clear hcz11_0
    try clear hcz11_1
    try clear hcz11_10
    try clear hcz11_11
    try clear hcz11_12
    try clear hcz11_2
    try clear hcz11_3
    try clear hcz11_4
    try clear hcz11_5
    try clear hcz11_6
    try clear hcz11_7
    try clear hcz11_8
    try clear hcz11_9
    try clear hcz15_0
    try clear hcz15_1
    try clear hcz15_10
    try clear hcz15_11
    try clear hcz15_12
    try clear hcz15_2
    try clear hcz15_3
    try clear hcz15_4
    try clear hcz15_5
    try clear hcz15_6
    try clear hcz15_7
    try clear hcz15_8
    try clear hcz15_9
    try clear hcz17_0
    try clear hcz17_1
    try clear hcz17_10
    try clear hcz17_11
    try clear hcz17_12
    try clear hcz17_2
    try clear hcz17_3
    try clear hcz17_4
    try clear hcz17_5
    try clear hcz17_6
    try clear hcz17_7
    try clear hcz17_8
    try clear hcz17_9
    try clear hcz23_0
    try clear hcz23_1
    try clear hcz23_10
    try clear hcz23_11
    try clear hcz23_12
    try clear hcz23_2
    try clear hcz23_3
    try clear hcz23_4
    try clear hcz23_5
    try clear hcz23_6
    try clear hcz23_7
    try clear hcz23_8
    try clear hcz23_9
    try clear hcz9_0
    try clear hcz9_1
    try clear hcz9_10
    try clear hcz9_11
    try clear hcz9_12
    try clear hcz9_2
    try clear hcz9_3
    try clear hcz9_4
    try clear hcz9_5
    try clear hcz9_6
    try clear hcz9_7
    try clear hcz9_8
    try clear hcz9_9
    try clear hfz11_0
    try clear hfz11_1
    try clear hfz11_10
    try clear hfz11_11
    try clear hfz11_12
    try clear hfz11_2
    try clear hfz11_3
    try clear hfz11_4
    try clear hfz11_5
    try clear hfz11_6
    try clear hfz11_7
    try clear hfz11_8
    try clear hfz11_9
    try clear hfz15_0
    try clear hfz15_1
    try clear hfz15_10
    try clear hfz15_11
    try clear hfz15_12
    try clear hfz15_2
    try clear hfz15_3
    try clear hfz15_4
    try clear hfz15_5
    try clear hfz15_6
    try clear hfz15_7
    try clear hfz15_8
    try clear hfz15_9
    try clear hfz17_0
    try clear hfz17_1
    try clear hfz17_10
    try clear hfz17_11
    try clear hfz17_12
    try clear hfz17_2
    try clear hfz17_3
    try clear hfz17_4
    try clear hfz17_5
    try clear hfz17_6
    try clear hfz17_7
    try clear hfz17_8
    try clear hfz17_9
    try clear hfz23_0
    try clear hfz23_1
    try clear hfz23_10
    try clear hfz23_11
    try clear hfz23_12
    try clear hfz23_2
    try clear hfz23_3
    try clear hfz23_4
    try clear hfz23_5
    try clear hfz23_6
    try clear hfz23_7
    try clear hfz23_8
    try clear hfz23_9
    try clear hfz9_0
    try clear hfz9_1
    try clear hfz9_10
    try clear hfz9_11
    try clear hfz9_12
    try clear hfz9_2
    try clear hfz9_3
    try clear hfz9_4
    try clear hfz9_5
    try clear hfz9_6
    try clear hfz9_7
    try clear hfz9_8
    try clear hfz9_9
    try clear p2
    obtain ⟨x38_2, rfl, HA, HK2, HO_4, BK171, HB⟩ := hrel
    cases gk with
    | zero => exact absurd HA.out (by simp [backstitchlaw3_LiveTells.l0])
    | succ k2 =>
     have H := HA.out
     clear HA
     simp only [backstitchlaw3_LiveTells.l0] at H
     by_cases c24 : x38_2 < (t174.length : Int)
     rotate_left
     ·rw [if_neg c24] at H
      have c24b0 : decide (x38_2 < (t174.length : Int)) = false := decide_eq_false c24
      clear c24
      obtain rfl := Option.some.inj H
      go_wp2
      go_ret
      exact ⟨by first | rfl | (simp <;> rfl) | (simp [*] <;> rfl), by repeat (first | (with_reducible first | exact HB.out | apply bF | apply bC | apply bE | refine bG ?_ GE171.out) | exact HB.out)⟩
     rw [if_pos c24] at H
     have c24b0 : decide (x38_2 < (t174.length : Int)) = true := decide_eq_true c24
     clear c24
     by_cases c25 : 0 ≤ x38_2
     rotate_left
     ·rw [if_neg c25] at H
      exact absurd H (by simp)
     rw [if_pos c25] at H
     have c25b0 : decide (0 ≤ x38_2) = true := decide_eq_true c25
     clear c25
     by_cases c26 : x38_2 < (t174.length : Int)
     rotate_left
     ·rw [if_neg c26] at H
      exact absurd H (by simp)
     rw [if_pos c26] at H
     have c26b0 : decide (x38_2 < (t174.length : Int)) = true := decide_eq_true c26
     clear c26
     replace H := Option.bind_eq_some_iff.mp H
     obtain ⟨⟨t180, t181⟩, A270, H⟩ := H
     replace H : (if (!(((rd_T129 t174 x38_2).f0) == t180) || (!(((rd_T129 t174 x38_2).f1) == t181))) = true then (some false) else (backstitchlaw3_LiveTells.l0 k2 t174 (t174.length : Int) (wrap64 (x38_2 + 1)) a0_0 a0_1 a0_2 l0_3 l0_4 a0_5 a0_6 l0_7 l0_8 a0_9 a0_10 l0_11 l0_12)) = some r := H
     have A27 := Aside0.mk A270
     clear A270
     by_cases c28 : (!(((rd_T129 t174 x38_2).f0) == t180) || (!(((rd_T129 t174 x38_2).f1) == t181))) = true
     ·rw [if_pos c28] at H
      have c28b0 : (!(((rd_T129 t174 x38_2).f0) == t180) || (!(((rd_T129 t174 x38_2).f1) == t181))) = true := c28
      clear c28
      obtain rfl := Option.some.inj H
      try go_wp2
      have n0_ := Aside0.mk (Kd.R_drew HO_4.out)
      have n1_ := Aside0.mk (bI BK171.out)
      have n2_ := Aside0.mk (bE HB.out)
      clear HO_4
      clear BK171
      clear HB
      have HO_4 := n0_
      have BK171 := n1_
      have HB := n2_
      clear n0_ n1_ n2_
      have p179 : 0 ≤ (x38_2 : Int) := of_decide_eq_true (by first | (with_reducible assumption) | assumption)
      have q179 : x38_2 < (t174.length : Int) := of_decide_eq_true (by first | (with_reducible assumption) | assumption)
      obtain ⟨ad179, e179, hx179_0, hx179_1⟩ := at_T129 (Kd.R_reads' HO_4.out).2.2 x38_2 p179 q179
      cases e179
      replace p179 := eq_true p179
      replace q179 := eq_true q179
      refine bZ (n := 8) (S := fun w' => w'.cell? ⟨gb171, 0, none⟩ = some (.int .i64 a0_0) ∧ w'.cell? ⟨gb171, 1, none⟩ = some (.int .i64 a0_1) ∧ w'.cell? ⟨gb171, 2, none⟩ = some (.int .i64 a0_2) ∧ w'.cell? ⟨gb171, 3, none⟩ = some (.slice A0_3 l0_3.length c0_3) ∧ w'.cell? ⟨gb171, 4, none⟩ = some (.slice A0_4 l0_4.length c0_4) ∧ w'.cell? ⟨gb171, 5, none⟩ = some (.int .i64 a0_5) ∧ w'.cell? ⟨gb171, 6, none⟩ = some (.int .i64 a0_6) ∧ w'.cell? ⟨gb171, 7, none⟩ = some (.slice A0_7 l0_7.length c0_7) ∧ w'.cell? ⟨gb171, 8, none⟩ = some (.slice A0_8 l0_8.length c0_8) ∧ w'.cell? ⟨gb171, 9, none⟩ = some (.int .i64 a0_9) ∧ w'.cell? ⟨gb171, 10, none⟩ = some (.int .i64 a0_10) ∧ w'.cell? ⟨gb171, 11, none⟩ = some (.slice A0_11 l0_11.length c0_11) ∧ w'.cell? ⟨gb171, 12, none⟩ = some (.slice A0_12 l0_12.length c0_12) ∧ w'.cell? (ad179.add ((x38_2).toNat * 2)) = some (.int .i64 ((rd_T129 t174 x38_2).f0)) ∧ w'.cell? ⟨(ad179.add ((x38_2).toNat * 2)).block, (ad179.add ((x38_2).toNat * 2)).off + 1, none⟩ = some (.int .i64 ((rd_T129 t174 x38_2).f1))) (ds := []) #[hR,hR,hR,hR,hR,hR,hR,hR] (by kernel_rfl) rfl rfl ⟨(bA BK171.out 0).trans rfl, (bA BK171.out 1).trans rfl, (bA BK171.out 2).trans rfl, (bA BK171.out 3).trans rfl, (bA BK171.out 4).trans rfl, (bA BK171.out 5).trans rfl, (bA BK171.out 6).trans rfl, (bA BK171.out 7).trans rfl, (bA BK171.out 8).trans rfl, (bA BK171.out 9).trans rfl, (bA BK171.out 10).trans rfl, (bA BK171.out 11).trans rfl, (bA BK171.out 12).trans rfl, hx179_0, hx179_1⟩ (fun hHeld => ?_); refine bU backstitchlaw3_LiveTells.tab14 backstitchlaw3_LiveTells.bits14 (fun HT_ HW_ => ?_)
      generalize wr.drew = w29 at HO_4 BK171 HB hx179_0 hx179_1 hHeld ⊢
      refine bR (i := 0) (N := some 41) (v := ?_) (a' := ?_) #[hQ,hR,hR,hR,hR,hR,hR,hR] rfl rfl (bQ HT_.out (by kernel_rfl)) (fun _ _ _ h => h) (Or.inl ⟨by rfl, ?_⟩) ?_ ?_;rotate_left;(intro w';go_simp;with_reducible rfl);rotate_left;(simp only [Act.put, hS, List.set_cons_zero, List.set_cons_succ, bM, bN];rfl)
      refine bR (i := 1) (N := some 42) (v := ?_) (a' := ?_) #[hQ,hQ,hR,hR,hR,hR,hR,hR] rfl rfl (bQ HT_.out (by kernel_rfl)) (fun _ _ _ h => h) (Or.inl ⟨by rfl, ?_⟩) ?_ ?_;rotate_left;(intro w';go_simp;with_reducible rfl);rotate_left;(simp only [Act.put, hS, List.set_cons_zero, List.set_cons_succ, bM, bN];rfl)
      refine bR (i := 2) (N := some 43) (v := ?_) (a' := ?_) #[hQ,hQ,hQ,hR,hR,hR,hR,hR] rfl rfl (bQ HT_.out (by kernel_rfl)) (fun _ _ _ h => h) (Or.inl ⟨by rfl, ?_⟩) ?_ ?_;rotate_left;(intro w';go_simp;with_reducible rfl);rotate_left;(simp only [Act.put, hS, List.set_cons_zero, List.set_cons_succ, bM, bN];rfl)
      refine bR (i := 5) (N := some 46) (v := ?_) (a' := ?_) #[hQ,hQ,hQ,hR,hR,hQ,hR,hR] rfl rfl (bQ HT_.out (by kernel_rfl)) (fun _ _ _ h => h) (Or.inl ⟨by rfl, ?_⟩) ?_ ?_;rotate_left;(intro w';go_simp;with_reducible rfl);rotate_left;(simp only [Act.put, hS, List.set_cons_zero, List.set_cons_succ, bM, bN];rfl)
      refine bW (i := 3) (N := some 44) (v := ?_) (a' := ?_) #[hQ,hQ,hQ,hQ,hR,hQ,hR,hR] rfl rfl (bS HT_.out HW_.out (by kernel_rfl)) (fun _ _ _ h => h) (Or.inl ⟨by rfl, ?_⟩) hHeld ?_ ?_;rotate_left;(rintro w' ⟨s0, s1, s2, s3, s4, s5, s6, s7, s8, s9, s10, s11, s12, s13, s14⟩;go_simp;with_reducible rfl);rotate_left;(simp only [Act.put, hS, List.set_cons_zero, List.set_cons_succ, bM, bN];rfl)
      refine bW (i := 4) (N := some 45) (v := ?_) (a' := ?_) #[hQ,hQ,hQ,hQ,hQ,hQ,hR,hR] rfl rfl (bS HT_.out HW_.out (by kernel_rfl)) (fun _ _ _ h => h) (Or.inl ⟨by rfl, ?_⟩) hHeld ?_ ?_;rotate_left;(rintro w' ⟨s0, s1, s2, s3, s4, s5, s6, s7, s8, s9, s10, s11, s12, s13, s14⟩;go_simp;with_reducible rfl);rotate_left;(simp only [Act.put, hS, List.set_cons_zero, List.set_cons_succ, bM, bN];rfl)
      refine one_ (i := 6) (N := some 47) #[hQ,hQ,hQ,hQ,hQ,hQ,hQ,hR] rfl rfl (cA HT_.out (by kernel_rfl)) (by decide) (fun K hK => ?_)
      refine cI Try.func70 (by kernel_rfl) rfl #[.agg #[.int .i64 a0_0, .int .i64 a0_1, .int .i64 a0_2, .slice A0_3 l0_3.length c0_3, .slice A0_4 l0_4.length c0_4, .int .i64 a0_5, .int .i64 a0_6, .slice A0_7 l0_7.length c0_7, .slice A0_8 l0_8.length c0_8, .int .i64 a0_9, .int .i64 a0_10, .slice A0_11 l0_11.length c0_11, .slice A0_12 l0_12.length c0_12], .int .i64 x38_2] (by rfl) rfl rfl (by (try simp only [List.map_toArray, List.map_cons, List.map_nil]); first | done | rfl | (simp only [List.length_drop, List.length_take]; rfl)) ?_
      with_reducible refine (backstitchref3_Span.calls k2 a0_0 a0_1 a0_2 _ _ l0_3 _ _ l0_4 a0_5 a0_6 _ _ l0_7 _ _ l0_8 a0_9 a0_10 _ _ l0_11 _ _ l0_12 x38_2 t180 t181 _ ?side1 ?side2 ?side3 ?side4 ?side5 ?side6 ?side7 ?side8 ?side9 ?side10 ?side11 ?side12 A27.out).mono ?_
      (case side1 => repeat (first | exact (Kd.C_below HR0_3.out HB.out) | (with_reducible refine Kd.C_alloc ?_ _) | (with_reducible refine Kd.C_drewN ?_ _) | (with_reducible refine Kd.C_drew ?_)))
      (case side2 => exact HC0_3.out)
      (case side3 => repeat (first | exact (Kd.C_below HR0_4.out HB.out) | (with_reducible refine Kd.C_alloc ?_ _) | (with_reducible refine Kd.C_drewN ?_ _) | (with_reducible refine Kd.C_drew ?_)))
      (case side4 => exact HC0_4.out)
      (case side5 => repeat (first | exact (Kd.C_below HR0_7.out HB.out) | (with_reducible refine Kd.C_alloc ?_ _) | (with_reducible refine Kd.C_drewN ?_ _) | (with_reducible refine Kd.C_drew ?_)))
      (case side6 => exact HC0_7.out)
      (case side7 => repeat (first | exact (Kd.C_below HR0_8.out HB.out) | (with_reducible refine Kd.C_alloc ?_ _) | (with_reducible refine Kd.C_drewN ?_ _) | (with_reducible refine Kd.C_drew ?_)))
      (case side8 => exact HC0_8.out)
      (case side9 => repeat (first | exact (Kd.C_below HR0_11.out HB.out) | (with_reducible refine Kd.C_alloc ?_ _) | (with_reducible refine Kd.C_drewN ?_ _) | (with_reducible refine Kd.C_drew ?_)))
      (case side10 => exact HC0_11.out)
      (case side11 => repeat (first | exact (Kd.C_below HR0_12.out HB.out) | (with_reducible refine Kd.C_alloc ?_ _) | (with_reducible refine Kd.C_drewN ?_ _) | (with_reducible refine Kd.C_drew ?_)))
      (case side12 => exact HC0_12.out)
      rintro e w30 ⟨rfl, hb⟩
      have HS13_ := (hb.cell (World.block_lt_of_cell? _ _ (hHeld.2.2.2.2.2.2.2.2.2.2.2.2.2.1))).trans (hHeld.2.2.2.2.2.2.2.2.2.2.2.2.2.1)
      have HS14_ := (hb.cell (World.block_lt_of_cell? _ _ (hHeld.2.2.2.2.2.2.2.2.2.2.2.2.2.2))).trans (hHeld.2.2.2.2.2.2.2.2.2.2.2.2.2.2)
      refine ⟨_, rfl, ?_⟩
      have n0_ := Aside0.mk (Kd.R_below (by (with_reducible repeat (first | apply Kd.R_alloc | apply Kd.R_drewN | apply Kd.R_drew)); exact HO_4.out) hb)
      have n1_ := Aside0.mk (bL (g := gb171) (o := .cells #[.int .i64 a0_0, .int .i64 a0_1, .int .i64 a0_2, .slice A0_3 l0_3.length c0_3, .slice A0_4 l0_4.length c0_4, .int .i64 a0_5, .int .i64 a0_6, .slice A0_7 l0_7.length c0_7, .slice A0_8 l0_8.length c0_8, .int .i64 a0_9, .int .i64 a0_10, .slice A0_11 l0_11.length c0_11, .slice A0_12 l0_12.length c0_12] 123 (0, 0)) (by (with_reducible repeat (first | refine bH ?_ _ | refine bI ?_ | refine bJ ?_ _)); exact BK171.out) hb)
      have n2_ := Aside0.mk (bK (by repeat (first | (with_reducible first | exact HB.out | apply bF | apply bC | apply bE | refine bG ?_ GE171.out) | exact HB.out)) hb)
      clear HO_4
      clear BK171
      clear HB
      have HO_4 := n0_
      have BK171 := n1_
      have HB := n2_
      clear n0_ n1_ n2_
      (try clear hb)
      (try clear hb2)
      (try clear hk)
      (try clear hi)
      refine hK.out _ _ ⟨(bA BK171.out 0).trans rfl, (bA BK171.out 1).trans rfl, (bA BK171.out 2).trans rfl, (bA BK171.out 3).trans rfl, (bA BK171.out 4).trans rfl, (bA BK171.out 5).trans rfl, (bA BK171.out 6).trans rfl, (bA BK171.out 7).trans rfl, (bA BK171.out 8).trans rfl, (bA BK171.out 9).trans rfl, (bA BK171.out 10).trans rfl, (bA BK171.out 11).trans rfl, (bA BK171.out 12).trans rfl, HS13_, HS14_⟩ (fun hHeld => ?_)
      clear hK K
      refine cD (a' := ?_) ?_ ?_
      rotate_left
      ·show Act.put _ (some 47) _ = _
       simp only [Act.put, hS, List.set_cons_zero, List.set_cons_succ, bM, bN]
       rfl
      refine bR (i := 7) (N := some 48) (v := ?_) (a' := ?_) #[hQ,hQ,hQ,hQ,hQ,hQ,hQ,hQ] rfl rfl (bQ HT_.out (by kernel_rfl)) (fun _ _ _ h => h) (Or.inl ⟨by rfl, ?_⟩) ?_ ?_;rotate_left;(intro w';go_simp;with_reducible rfl);rotate_left;(simp only [Act.put, hS, List.set_cons_zero, List.set_cons_succ, bM, bN];rfl)
      refine cJ (bY HT_.out (by kernel_rfl)) ?_
      try go_wp2
      go_ret
      exact ⟨by first | rfl | (simp <;> rfl) | (simp [*] <;> rfl), by repeat (first | (with_reducible first | exact HB.out | apply bF | apply bC | apply bE | refine bG ?_ GE171.out) | exact HB.out)⟩
     rw [if_neg c28] at H
     have c28b0 : (!(((rd_T129 t174 x38_2).f0) == t180) || (!(((rd_T129 t174 x38_2).f1) == t181))) = false := by simpa using c28
     clear c28
     have H' := Aside0.mk H
     clear H
     try go_wp2
     have n0_ := Aside0.mk (Kd.R_drew HO_4.out)
     have n1_ := Aside0.mk (bI BK171.out)
     have n2_ := Aside0.mk (bE HB.out)
     clear HO_4
     clear BK171
     clear HB
     have HO_4 := n0_
     have BK171 := n1_
     have HB := n2_
     clear n0_ n1_ n2_
     have p179 : 0 ≤ (x38_2 : Int) := of_decide_eq_true (by first | (with_reducible assumption) | assumption)
     have q179 : x38_2 < (t174.length : Int) := of_decide_eq_true (by first | (with_reducible assumption) | assumption)
     obtain ⟨ad179, e179, hx179_0, hx179_1⟩ := at_T129 (Kd.R_reads' HO_4.out).2.2 x38_2 p179 q179
     cases e179
     replace p179 := eq_true p179
     replace q179 := eq_true q179
     refine bZ (n := 8) (S := fun w' => w'.cell? ⟨gb171, 0, none⟩ = some (.int .i64 a0_0) ∧ w'.cell? ⟨gb171, 1, none⟩ = some (.int .i64 a0_1) ∧ w'.cell? ⟨gb171, 2, none⟩ = some (.int .i64 a0_2) ∧ w'.cell? ⟨gb171, 3, none⟩ = some (.slice A0_3 l0_3.length c0_3) ∧ w'.cell? ⟨gb171, 4, none⟩ = some (.slice A0_4 l0_4.length c0_4) ∧ w'.cell? ⟨gb171, 5, none⟩ = some (.int .i64 a0_5) ∧ w'.cell? ⟨gb171, 6, none⟩ = some (.int .i64 a0_6) ∧ w'.cell? ⟨gb171, 7, none⟩ = some (.slice A0_7 l0_7.length c0_7) ∧ w'.cell? ⟨gb171, 8, none⟩ = some (.slice A0_8 l0_8.length c0_8) ∧ w'.cell? ⟨gb171, 9, none⟩ = some (.int .i64 a0_9) ∧ w'.cell? ⟨gb171, 10, none⟩ = some (.int .i64 a0_10) ∧ w'.cell? ⟨gb171, 11, none⟩ = some (.slice A0_11 l0_11.length c0_11) ∧ w'.cell? ⟨gb171, 12, none⟩ = some (.slice A0_12 l0_12.length c0_12) ∧ w'.cell? (ad179.add ((x38_2).toNat * 2)) = some (.int .i64 ((rd_T129 t174 x38_2).f0)) ∧ w'.cell? ⟨(ad179.add ((x38_2).toNat * 2)).block, (ad179.add ((x38_2).toNat * 2)).off + 1, none⟩ = some (.int .i64 ((rd_T129 t174 x38_2).f1))) (ds := []) #[hR,hR,hR,hR,hR,hR,hR,hR] (by kernel_rfl) rfl rfl ⟨(bA BK171.out 0).trans rfl, (bA BK171.out 1).trans rfl, (bA BK171.out 2).trans rfl, (bA BK171.out 3).trans rfl, (bA BK171.out 4).trans rfl, (bA BK171.out 5).trans rfl, (bA BK171.out 6).trans rfl, (bA BK171.out 7).trans rfl, (bA BK171.out 8).trans rfl, (bA BK171.out 9).trans rfl, (bA BK171.out 10).trans rfl, (bA BK171.out 11).trans rfl, (bA BK171.out 12).trans rfl, hx179_0, hx179_1⟩ (fun hHeld => ?_); refine bU backstitchlaw3_LiveTells.tab14 backstitchlaw3_LiveTells.bits14 (fun HT_ HW_ => ?_)
     generalize wr.drew = w31 at HO_4 BK171 HB hx179_0 hx179_1 hHeld ⊢
     refine bR (i := 0) (N := some 41) (v := ?_) (a' := ?_) #[hQ,hR,hR,hR,hR,hR,hR,hR] rfl rfl (bQ HT_.out (by kernel_rfl)) (fun _ _ _ h => h) (Or.inl ⟨by rfl, ?_⟩) ?_ ?_;rotate_left;(intro w';go_simp;with_reducible rfl);rotate_left;(simp only [Act.put, hS, List.set_cons_zero, List.set_cons_succ, bM, bN];rfl)
     refine bR (i := 1) (N := some 42) (v := ?_) (a' := ?_) #[hQ,hQ,hR,hR,hR,hR,hR,hR] rfl rfl (bQ HT_.out (by kernel_rfl)) (fun _ _ _ h => h) (Or.inl ⟨by rfl, ?_⟩) ?_ ?_;rotate_left;(intro w';go_simp;with_reducible rfl);rotate_left;(simp only [Act.put, hS, List.set_cons_zero, List.set_cons_succ, bM, bN];rfl)
     refine bR (i := 2) (N := some 43) (v := ?_) (a' := ?_) #[hQ,hQ,hQ,hR,hR,hR,hR,hR] rfl rfl (bQ HT_.out (by kernel_rfl)) (fun _ _ _ h => h) (Or.inl ⟨by rfl, ?_⟩) ?_ ?_;rotate_left;(intro w';go_simp;with_reducible rfl);rotate_left;(simp only [Act.put, hS, List.set_cons_zero, List.set_cons_succ, bM, bN];rfl)
     refine bR (i := 5) (N := some 46) (v := ?_) (a' := ?_) #[hQ,hQ,hQ,hR,hR,hQ,hR,hR] rfl rfl (bQ HT_.out (by kernel_rfl)) (fun _ _ _ h => h) (Or.inl ⟨by rfl, ?_⟩) ?_ ?_;rotate_left;(intro w';go_simp;with_reducible rfl);rotate_left;(simp only [Act.put, hS, List.set_cons_zero, List.set_cons_succ, bM, bN];rfl)
     refine bW (i := 3) (N := some 44) (v := ?_) (a' := ?_) #[hQ,hQ,hQ,hQ,hR,hQ,hR,hR] rfl rfl (bS HT_.out HW_.out (by kernel_rfl)) (fun _ _ _ h => h) (Or.inl ⟨by rfl, ?_⟩) hHeld ?_ ?_;rotate_left;(rintro w' ⟨s0, s1, s2, s3, s4, s5, s6, s7, s8, s9, s10, s11, s12, s13, s14⟩;go_simp;with_reducible rfl);rotate_left;(simp only [Act.put, hS, List.set_cons_zero, List.set_cons_succ, bM, bN];rfl)
     refine bW (i := 4) (N := some 45) (v := ?_) (a' := ?_) #[hQ,hQ,hQ,hQ,hQ,hQ,hR,hR] rfl rfl (bS HT_.out HW_.out (by kernel_rfl)) (fun _ _ _ h => h) (Or.inl ⟨by rfl, ?_⟩) hHeld ?_ ?_;rotate_left;(rintro w' ⟨s0, s1, s2, s3, s4, s5, s6, s7, s8, s9, s10, s11, s12, s13, s14⟩;go_simp;with_reducible rfl);rotate_left;(simp only [Act.put, hS, List.set_cons_zero, List.set_cons_succ, bM, bN];rfl)
     refine one_ (i := 6) (N := some 47) #[hQ,hQ,hQ,hQ,hQ,hQ,hQ,hR] rfl rfl (cA HT_.out (by kernel_rfl)) (by decide) (fun K hK => ?_)
     refine cI Try.func70 (by kernel_rfl) rfl #[.agg #[.int .i64 a0_0, .int .i64 a0_1, .int .i64 a0_2, .slice A0_3 l0_3.length c0_3, .slice A0_4 l0_4.length c0_4, .int .i64 a0_5, .int .i64 a0_6, .slice A0_7 l0_7.length c0_7, .slice A0_8 l0_8.length c0_8, .int .i64 a0_9, .int .i64 a0_10, .slice A0_11 l0_11.length c0_11, .slice A0_12 l0_12.length c0_12], .int .i64 x38_2] (by rfl) rfl rfl (by (try simp only [List.map_toArray, List.map_cons, List.map_nil]); first | done | rfl | (simp only [List.length_drop, List.length_take]; rfl)) ?_
     with_reducible refine (backstitchref3_Span.calls k2 a0_0 a0_1 a0_2 _ _ l0_3 _ _ l0_4 a0_5 a0_6 _ _ l0_7 _ _ l0_8 a0_9 a0_10 _ _ l0_11 _ _ l0_12 x38_2 t180 t181 _ ?side1 ?side2 ?side3 ?side4 ?side5 ?side6 ?side7 ?side8 ?side9 ?side10 ?side11 ?side12 A27.out).mono ?_
     (case side1 => repeat (first | exact (Kd.C_below HR0_3.out HB.out) | (with_reducible refine Kd.C_alloc ?_ _) | (with_reducible refine Kd.C_drewN ?_ _) | (with_reducible refine Kd.C_drew ?_)))
     (case side2 => exact HC0_3.out)
     (case side3 => repeat (first | exact (Kd.C_below HR0_4.out HB.out) | (with_reducible refine Kd.C_alloc ?_ _) | (with_reducible refine Kd.C_drewN ?_ _) | (with_reducible refine Kd.C_drew ?_)))
     (case side4 => exact HC0_4.out)
     (case side5 => repeat (first | exact (Kd.C_below HR0_7.out HB.out) | (with_reducible refine Kd.C_alloc ?_ _) | (with_reducible refine Kd.C_drewN ?_ _) | (with_reducible refine Kd.C_drew ?_)))
     (case side6 => exact HC0_7.out)
     (case side7 => repeat (first | exact (Kd.C_below HR0_8.out HB.out) | (with_reducible refine Kd.C_alloc ?_ _) | (with_reducible refine Kd.C_drewN ?_ _) | (with_reducible refine Kd.C_drew ?_)))
     (case side8 => exact HC0_8.out)
     (case side9 => repeat (first | exact (Kd.C_below HR0_11.out HB.out) | (with_reducible refine Kd.C_alloc ?_ _) | (with_reducible refine Kd.C_drewN ?_ _) | (with_reducible refine Kd.C_drew ?_)))
     (case side10 => exact HC0_11.out)
     (case side11 => repeat (first | exact (Kd.C_below HR0_12.out HB.out) | (with_reducible refine Kd.C_alloc ?_ _) | (with_reducible refine Kd.C_drewN ?_ _) | (with_reducible refine Kd.C_drew ?_)))
     (case side12 => exact HC0_12.out)
     rintro e w32 ⟨rfl, hb⟩
     have HS13_ := (hb.cell (World.block_lt_of_cell? _ _ (hHeld.2.2.2.2.2.2.2.2.2.2.2.2.2.1))).trans (hHeld.2.2.2.2.2.2.2.2.2.2.2.2.2.1)
     have HS14_ := (hb.cell (World.block_lt_of_cell? _ _ (hHeld.2.2.2.2.2.2.2.2.2.2.2.2.2.2))).trans (hHeld.2.2.2.2.2.2.2.2.2.2.2.2.2.2)
     refine ⟨_, rfl, ?_⟩
     have n0_ := Aside0.mk (Kd.R_below (by (with_reducible repeat (first | apply Kd.R_alloc | apply Kd.R_drewN | apply Kd.R_drew)); exact HO_4.out) hb)
     have n1_ := Aside0.mk (bL (g := gb171) (o := .cells #[.int .i64 a0_0, .int .i64 a0_1, .int .i64 a0_2, .slice A0_3 l0_3.length c0_3, .slice A0_4 l0_4.length c0_4, .int .i64 a0_5, .int .i64 a0_6, .slice A0_7 l0_7.length c0_7, .slice A0_8 l0_8.length c0_8, .int .i64 a0_9, .int .i64 a0_10, .slice A0_11 l0_11.length c0_11, .slice A0_12 l0_12.length c0_12] 123 (0, 0)) (by (with_reducible repeat (first | refine bH ?_ _ | refine bI ?_ | refine bJ ?_ _)); exact BK171.out) hb)
     have n2_ := Aside0.mk (bK (by repeat (first | (with_reducible first | exact HB.out | apply bF | apply bC | apply bE | refine bG ?_ GE171.out) | exact HB.out)) hb)
     clear HO_4
     clear BK171
     clear HB
     have HO_4 := n0_
     have BK171 := n1_
     have HB := n2_
     clear n0_ n1_ n2_
     (try clear hb)
     (try clear hb2)
     (try clear hk)
     (try clear hi)
     refine hK.out _ _ ⟨(bA BK171.out 0).trans rfl, (bA BK171.out 1).trans rfl, (bA BK171.out 2).trans rfl, (bA BK171.out 3).trans rfl, (bA BK171.out 4).trans rfl, (bA BK171.out 5).trans rfl, (bA BK171.out 6).trans rfl, (bA BK171.out 7).trans rfl, (bA BK171.out 8).trans rfl, (bA BK171.out 9).trans rfl, (bA BK171.out 10).trans rfl, (bA BK171.out 11).trans rfl, (bA BK171.out 12).trans rfl, HS13_, HS14_⟩ (fun hHeld => ?_)
     clear hK K
     refine cD (a' := ?_) ?_ ?_
     rotate_left
     ·show Act.put _ (some 47) _ = _
      simp only [Act.put, hS, List.set_cons_zero, List.set_cons_succ, bM, bN]
      rfl
     refine bR (i := 7) (N := some 48) (v := ?_) (a' := ?_) #[hQ,hQ,hQ,hQ,hQ,hQ,hQ,hQ] rfl rfl (bQ HT_.out (by kernel_rfl)) (fun _ _ _ h => h) (Or.inl ⟨by rfl, ?_⟩) ?_ ?_;rotate_left;(intro w';go_simp;with_reducible rfl);rotate_left;(simp only [Act.put, hS, List.set_cons_zero, List.set_cons_succ, bM, bN];rfl)
     refine cJ (bY HT_.out (by kernel_rfl)) ?_
     try go_wp2
     go_roundg k2
     case measure => have := HJ5.out; have := HK2.out; omega
     case rel => exact ⟨(wrap64 (x38_2 + 1)), (by first | rfl | (simp; done) | (simp [*]; done)), H', ⟨by have := HJ5.out; have := HK2.out; omega⟩, ⟨by (with_reducible repeat (first | apply Kd.R_alloc | apply Kd.R_drewN | apply Kd.R_drew)); exact HO_4.out⟩, ⟨by (with_reducible repeat (first | refine bH ?_ _ | refine bI ?_ | refine bJ ?_ _)); exact BK171.out⟩, ⟨by repeat (first | (with_reducible first | exact HB.out | apply bF | apply bC | apply bE | refine bG ?_ GE171.out) | exact HB.out)⟩⟩

end Go.Proofs.Ytlojkphocbbjdaa.PLiveTells
