-- Printed for this claim by a program of this session (inj.py), beside the kit's print. Not trusted: Lean checks it.
import Derived.Test.YtlojkphocbbjdaaPLiveTellsx0
namespace Go.Proofs.Ytlojkphocbbjdaa.PLiveTells
open Go.RowKit Go.Proofs.YtlojkphocbbjdaaW.PrintWords Go.Proofs.YtlojkphocbbjdaaW.PrintLast Go.Proofs.YtlojkphocbbjdaaW.PrintMore
open Go.Proofs.YtlojkphocbbjdaaW.PrintWords renaming pw_below_drewN → bA, below_drew1 → bC, below_alloc → bD, blk_frozen → bE, blk_drewN → bF, blk_alloc → bG, below_set → bH, blk_drew → bI, blk_cell → bJ, below_size → bK, blk_far → bL, below_step → bM, box_event → bN, blk_grown → bO, gate_dst → bP, blk_lt → bQ, gate_builtin → bR, blk_put → bS, blk_below → bT, gate_guard → bU
open Go.Proofs.YtlojkphocbbjdaaW.PrintMore renaming min_three → bV, max_three → bW, min_four → bX, min2_int → bY, max_four → bZ, max2_int → cA, min_two → cB, max_two → cC
open Bool renaming true → hQ, false → hR
attribute [local go_sem] cA bY cC cB bW bV bZ bX   -- for this text's walks alone
set_option linter.unusedVariables false
set_option linter.unusedSimpArgs false

/-! ### backstitchref3_Values: function 116 -/
mutual
def backstitchref3_Values.l0 : Nat → List Int → List (S38) → Int → Int → Int → Int → List (S38) → List (S63) → Option (List Int)
 | 0, _, _, _, _, _, _, _, _ => none
 | k + 1, x3, x9, x10, x11, x155000, x155001, x155002, x155003 => if x11 < x10 then (if 0 ≤ x11 then (if x11 < (x9.length : Int) then (if x3.length < 17592186044416 then (backstitchref3_Values.l0 k (x3 ++ [(rd_T38 x9 x11).f1]) x9 x10 (wrap64 (x11 + 1)) x155000 x155001 x155002 x155003) else (none)) else (none)) else (none)) else (backstitchref3_Values.l1 k x3 x155003 (x155003.length : Int) 0)
def backstitchref3_Values.l1 : Nat → List Int → List (S63) → Int → Int → Option (List Int)
 | 0, _, _, _, _ => none
 | k + 1, x3, x22, x23, x24 => if x24 < x23 then (if 0 ≤ x24 then (if x24 < (x22.length : Int) then (if x3.length < 17592186044416 then ((some (x3 ++ [(rd_T63 x22 x24).f0] : List Int)).bind fun y162 => (if y162.length + ((rd_T63 x22 x24).f3).length < 17592186044416 then (backstitchref3_Values.l1 k (y162 ++ ((rd_T63 x22 x24).f3)) x22 x23 (wrap64 (x24 + 1))) else (none))) else (none)) else (none)) else (none)) else (some x3)
end
def backstitchref3_Values.f (k : Nat) (a0_0 : Int) (a0_1 : Int) (l0_2 : List (S38)) (l0_3 : List (S63)) : Option (List Int) := backstitchref3_Values.l0 k ([] : List Int) l0_2 (l0_2.length : Int) 0 a0_0 a0_1 l0_2 l0_3
theorem backstitchref3_Values.mono_l : ∀ k, (∀ y0 y1 y2 y3 y4 y5 y6 y7, LeO (backstitchref3_Values.l0 k y0 y1 y2 y3 y4 y5 y6 y7) (backstitchref3_Values.l0 (k + 1) y0 y1 y2 y3 y4 y5 y6 y7)) ∧ (∀ y0 y1 y2 y3, LeO (backstitchref3_Values.l1 k y0 y1 y2 y3) (backstitchref3_Values.l1 (k + 1) y0 y1 y2 y3))
 | 0 => ⟨fun _ _ _ _ _ _ _ _ r h => by simp [backstitchref3_Values.l0] at h, fun _ _ _ _ r h => by simp [backstitchref3_Values.l1] at h⟩
 | k + 1 => by
  obtain ⟨ih0, ih1⟩ := backstitchref3_Values.mono_l k
  refine ⟨?_, ?_⟩
  ·intro y0 y1 y2 y3 y4 y5 y6 y7
   unfold backstitchref3_Values.l0
   repeat' first
   | (with_reducible exact ih0 _ _ _ _ _ _ _ _)
   | (with_reducible exact ih1 _ _ _ _)
   | (with_reducible exact LeO.refl _)
   | (with_reducible exact LeO.none _)
   | (with_reducible refine LeO.ite ?_ ?_)
   | (with_reducible refine LeO.bind ?_ (fun _ => ?_))
   | exact ih0 _ _ _ _ _ _ _ _
   | exact ih1 _ _ _ _
   | exact LeO.none _
   | refine LeO.ite ?_ ?_
   | refine LeO.bind ?_ (fun _ => ?_)
  ·intro y0 y1 y2 y3
   unfold backstitchref3_Values.l1
   repeat' first
   | (with_reducible exact ih0 _ _ _ _ _ _ _ _)
   | (with_reducible exact ih1 _ _ _ _)
   | (with_reducible exact LeO.refl _)
   | (with_reducible exact LeO.none _)
   | (with_reducible refine LeO.ite ?_ ?_)
   | (with_reducible refine LeO.bind ?_ (fun _ => ?_))
   | exact ih0 _ _ _ _ _ _ _ _
   | exact ih1 _ _ _ _
   | exact LeO.none _
   | refine LeO.ite ?_ ?_
   | refine LeO.bind ?_ (fun _ => ?_)
theorem backstitchref3_Values.mono : ∀ a0 a1 a2 a3 k, LeO (backstitchref3_Values.f k a0 a1 a2 a3) (backstitchref3_Values.f (k + 1) a0 a1 a2 a3) := by
 intro a0 a1 a2 a3 k
 obtain ⟨ih0, ih1⟩ := backstitchref3_Values.mono_l k
 unfold backstitchref3_Values.f
 repeat' first
   | (with_reducible exact ih0 _ _ _ _ _ _ _ _)
   | (with_reducible exact ih1 _ _ _ _)
   | (with_reducible exact LeO.refl _)
   | (with_reducible exact LeO.none _)
   | (with_reducible refine LeO.ite ?_ ?_)
   | (with_reducible refine LeO.bind ?_ (fun _ => ?_))
   | exact ih0 _ _ _ _ _ _ _ _
   | exact ih1 _ _ _ _
   | exact LeO.none _
   | refine LeO.ite ?_ ?_
   | refine LeO.bind ?_ (fun _ => ?_)
set_option maxHeartbeats 8000000 in
set_option maxRecDepth 100000 in
theorem backstitchref3_Values.calls (k : Nat) (a0_0 : Int) (a0_1 : Int) (A0_2 : Option Addr) (c0_2 : Nat) (l0_2 : List (S38)) (A0_3 : Option Addr) (c0_3 : Nat) (l0_3 : List (S63)) (r : List Int) (w : World) (hr0_2 : Kd.C k38 w A0_2 l0_2.length l0_2) (hc0_2 : l0_2.length ≤ c0_2) (hr0_3 : Kd.C k63 w A0_3 l0_3.length l0_3) (hc0_3 : l0_3.length ≤ c0_3) (h : backstitchref3_Values.f k a0_0 a0_1 l0_2 l0_3 = some r) :
  Calls Try.prog 116 #[.agg #[.int .i64 a0_0, .int .i64 a0_1, .slice A0_2 l0_2.length c0_2, .slice A0_3 l0_3.length c0_3]] w fun e w' => ∃ v0_ : Value, e = .returned (v0_) ∧ Kd.R (Kd.int .i64) 3 w' w.heap.size (fun _ => True) v0_ r ∧ Below w.heap.size w w' := by
 have hu31 := Try.underlying31
 have hu38 := Try.underlying38
 have hu63 := Try.underlying63
 have HR0_2 := Aside0.mk hr0_2
 have HC0_2 := Aside0.mk hc0_2
 clear hr0_2 hc0_2
 have HR0_3 := Aside0.mk hr0_3
 have HC0_3 := Aside0.mk hc0_3
 clear hr0_3 hc0_3
 have HB := Aside0.mk (Below.refl w.heap.size w)
 have H : (backstitchref3_Values.l0 k ([] : List Int) l0_2 (l0_2.length : Int) 0 a0_0 a0_1 l0_2 l0_3) = some r := h
 clear h
 have H' := Aside0.mk H
 clear H
 go_enter Try.func116, Try.ntmps116
 go_wp2_with (first | ((with_reducible refine bP (N := 1) rfl ?_); refine bN ?hg (N := 1) ?hd (cs := #[.int .i64 a0_0, .int .i64 a0_1, .slice A0_2 l0_2.length c0_2, .slice A0_3 l0_3.length c0_3]) (t := 31) ?hr ?_; (case hd => rfl); (case hg => rfl); (case hr => first | (go_simp; done) | (go_simp; rfl)); intro gb154 hg w2 hbox hb; have n0_ := Aside0.mk (bM (by repeat (first | (with_reducible first | exact HB.out | apply bD | apply bA | apply bC) | exact HB.out)) hb); have n1_ := Aside0.mk (hbox); have n2_ := Aside0.mk ((by rw [hg]; exact (bK (by repeat (first | (with_reducible first | exact HB.out | apply bD | apply bA | apply bC) | exact HB.out))) : w.heap.size ≤ gb154)); have n3_ := Aside0.mk ((by rw [hg]; exact (bK (by repeat (first | (with_reducible first | exact HB.out | apply bD | apply bA | apply bC) | exact HB.out))) : w.heap.size ≤ gb154)); clear HB; have HB := n0_; have BK154 := n1_; have GW154 := n2_; have GE154 := n3_; clear n0_ n1_ n2_ n3_; clear hb hbox hg; have hcz3_0 : w2.cell? ⟨gb154, 0, none⟩ = some (.int .i64 a0_0) := (bJ BK154.out 0).trans rfl; have hcz3_1 : w2.cell? ⟨gb154, 1, none⟩ = some (.int .i64 a0_1) := (bJ BK154.out 1).trans rfl; have hcz3_2 : w2.cell? ⟨gb154, 2, none⟩ = some (.slice A0_2 l0_2.length c0_2) := (bJ BK154.out 2).trans rfl; have hcz3_3 : w2.cell? ⟨gb154, 3, none⟩ = some (.slice A0_3 l0_3.length c0_3) := (bJ BK154.out 3).trans rfl; have hfz3_0 := bE BK154.out 0; have hfz3_1 := bE BK154.out 1; have hfz3_2 := bE BK154.out 2; have hfz3_3 := bE BK154.out 3))
 go_loopg [3, 11] k (fun kq v3 v11 w' => ∃ (x3_1 : List Int) (x11_1 : Int), v11 = .int .i64 x11_1 ∧ Aside0 (backstitchref3_Values.l0 kq x3_1 l0_2 (l0_2.length : Int) x11_1 a0_0 a0_1 l0_2 l0_3 = some r) ∧ Aside0 (kq ≤ k) ∧ Aside0 (Kd.R (Kd.int .i64) 3 w' w.heap.size (fun _ => True) v3 x3_1) ∧ Aside0 (w'.heap[gb154]? = some (.cells #[.int .i64 a0_0, .int .i64 a0_1, (.slice A0_2 l0_2.length c0_2), (.slice A0_3 l0_3.length c0_3)] 31 (0, 0))) ∧ Aside0 (Below w.heap.size w w'))
 case atStart => exact ⟨(([] : List Int)), (0), (by first | rfl | (simp; done) | (simp [*]; done)), H', ⟨Nat.le_refl _⟩, ⟨by first | exact Kd.R_nil _ _ _ _ _ | exact Kd.N_nil _ _ _ _ _ | exact Kd.V_nil _ _ _ _ _ | exact Kd.Q_nil _ _ _ _ _ | exact Kd.S_nil _ _ _ _ _⟩, ⟨by (with_reducible repeat (first | refine bF ?_ _ | refine bI ?_ | refine bG ?_ _)); exact BK154.out⟩, ⟨by repeat (first | (with_reducible first | exact HB.out | apply bD | apply bA | apply bC | refine bH ?_ GE154.out) | exact HB.out)⟩⟩
 case round =>
  clear H'
  try clear c1
  try clear p2
  try clear hcz3_0
  try clear hcz3_1
  try clear hcz3_2
  try clear hcz3_3
  try clear hfz3_0
  try clear hfz3_1
  try clear hfz3_2
  try clear hfz3_3
  obtain ⟨x3_1, x11_1, rfl, HA, HK1, HO_3, BK154, HB⟩ := hrel
  cases gk with
  | zero => exact absurd HA.out (by simp [backstitchref3_Values.l0])
  | succ k1 =>
   have H := HA.out
   clear HA
   simp only [backstitchref3_Values.l0] at H
   by_cases c4 : x11_1 < (l0_2.length : Int)
   ·rw [if_pos c4] at H
    have c4b0 : decide (x11_1 < (l0_2.length : Int)) = true := decide_eq_true c4
    clear c4
    by_cases c5 : 0 ≤ x11_1
    rotate_left
    ·rw [if_neg c5] at H
     exact absurd H (by simp)
    rw [if_pos c5] at H
    have c5b0 : decide (0 ≤ x11_1) = true := decide_eq_true c5
    clear c5
    by_cases c6 : x11_1 < (l0_2.length : Int)
    rotate_left
    ·rw [if_neg c6] at H
     exact absurd H (by simp)
    rw [if_pos c6] at H
    have c6b0 : decide (x11_1 < (l0_2.length : Int)) = true := decide_eq_true c6
    clear c6
    by_cases c7 : x3_1.length < 17592186044416
    rotate_left
    ·rw [if_neg c7] at H
     exact absurd H (by simp)
    rw [if_pos c7] at H
    have LMc7 := Aside0.mk c7
    clear c7
    obtain ⟨y157, hy157⟩ : ∃ y_ : List Int, y_ = (x3_1 ++ [(rd_T38 l0_2 x11_1).f1]) := ⟨_, rfl⟩
    replace H : (backstitchref3_Values.l0 k1 y157 l0_2 (l0_2.length : Int) (wrap64 (x11_1 + 1)) a0_0 a0_1 l0_2 l0_3) = some r := by first | (rw [hy157]; with_reducible exact H) | (have H2_ := (Option.bind_some _ _).symm.trans H; rw [hy157]; with_reducible exact H2_) | (have H2_ := (Option.bind_some _ _).symm.trans H; with_reducible exact H2_) | with_reducible exact H | (rw [hy157]; exact H) | exact H
    have Ny157 := Aside0.mk hy157
    clear hy157
    have H' := Aside0.mk H
    clear H
    have p155 : 0 ≤ (x11_1 : Int) := of_decide_eq_true (by first | (with_reducible assumption) | assumption)
    have q155 : x11_1 < (l0_2.length : Int) := of_decide_eq_true (by first | (with_reducible assumption) | assumption)
    obtain ⟨ad155, e155, hx155_0, hx155_1⟩ := at_T38 HR0_2.out x11_1 p155 q155
    cases e155
    try replace hx155_0 := (HB.out.cell (World.block_lt_of_cell? w _ hx155_0)).trans hx155_0
    try replace hx155_1 := (HB.out.cell (World.block_lt_of_cell? w _ hx155_1)).trans hx155_1
    replace p155 := eq_true p155
    replace q155 := eq_true q155
    go_wp2_with (first | ((with_reducible refine bP (N := 5) rfl ?_); refine bN ?hg (N := 5) ?hd (cs := #[.int .i64 0, .int .i64 0]) (t := 38) ?hr ?_; (case hd => rfl); (case hg => rfl); (case hr => first | (go_simp; done) | (go_simp; rfl)); intro gb156 hg w8 hbox hb; have n0_ := Aside0.mk (Kd.R_below (by (with_reducible repeat (first | apply Kd.R_alloc | apply Kd.R_drewN | apply Kd.R_drew)); exact HO_3.out) hb); have n1_ := Aside0.mk (bT (g := gb154) (o := .cells #[.int .i64 a0_0, .int .i64 a0_1, .slice (some ad155) l0_2.length c0_2, .slice A0_3 l0_3.length c0_3] 31 (0, 0)) (by (with_reducible repeat (first | refine bF ?_ _ | refine bI ?_ | refine bG ?_ _)); exact BK154.out) hb); have n2_ := Aside0.mk (bM (by repeat (first | (with_reducible first | exact HB.out | apply bD | apply bA | apply bC | refine bH ?_ GE154.out) | exact HB.out)) hb); have n3_ := Aside0.mk (hbox); have n4_ := Aside0.mk ((by rw [hg]; exact (bK (by repeat (first | (with_reducible first | exact HB.out | apply bD | apply bA | apply bC | refine bH ?_ GE154.out) | exact HB.out))) : w.heap.size ≤ gb156)); have n5_ := Aside0.mk ((by rw [hg]; exact (bK (by repeat (first | (with_reducible first | exact HB.out | apply bD | apply bA | apply bC | refine bH ?_ GE154.out) | exact HB.out))) : w.heap.size ≤ gb156)); have n6_ := Aside0.mk ((by rw [hg]; exact Nat.ne_of_lt (bQ (g := gb154) (o := .cells #[.int .i64 a0_0, .int .i64 a0_1, .slice (some ad155) l0_2.length c0_2, .slice A0_3 l0_3.length c0_3] 31 (0, 0)) (by (with_reducible repeat (first | refine bF ?_ _ | refine bI ?_ | refine bG ?_ _)); exact BK154.out)) : gb154 ≠ gb156)); have n7_ := Aside0.mk ((by rw [hg]; exact Nat.ne_of_gt (bQ (g := gb154) (o := .cells #[.int .i64 a0_0, .int .i64 a0_1, .slice (some ad155) l0_2.length c0_2, .slice A0_3 l0_3.length c0_3] 31 (0, 0)) (by (with_reducible repeat (first | refine bF ?_ _ | refine bI ?_ | refine bG ?_ _)); exact BK154.out)) : gb156 ≠ gb154)); clear HO_3; clear BK154; clear HB; have HO_3 := n0_; have BK154 := n1_; have HB := n2_; have BK156 := n3_; have GW156 := n4_; have GE156 := n5_; have NB154_156 := n6_; have NB156_154 := n7_; clear n0_ n1_ n2_ n3_ n4_ n5_ n6_ n7_; clear hb hbox hg; have hnb9 := NB156_154.out; have hnc9 := NB154_156.out; have hcz10_0 : w8.cell? ⟨gb156, 0, none⟩ = some (.int .i64 0) := (bJ BK156.out 0).trans rfl; have hcz10_1 : w8.cell? ⟨gb156, 1, none⟩ = some (.int .i64 0) := (bJ BK156.out 1).trans rfl; have hfz10_0 := bE BK156.out 0; have hfz10_1 := bE BK156.out 1) | ((with_reducible refine bR (b := .append) (xs := #[.tmp 15, .tmp 18]) rfl ?_); at_builtin; refine Kd.R_append (Kd.int .i64) (w0 := w) w.heap.size rfl (.tmp 15) (.tmp 18) 40 3 (.int .i64 0) 8 rfl Try.underlying40 info3 rfl (by decide) (by omega) u3 x3_1 ((rd_T38 l0_2 x11_1).f1) [.int .i64 ((rd_T38 l0_2 x11_1).f1)] (fun _ => True) (fun _ => False) rfl (by first | (go_simp; done) | (go_simp; rfl)) ?aP (fun _ hk => hk.elim) ?aF ?aO ?aB ?aS ?aL ?_; (case aP => exact rfl); (case aB => exact (by repeat (first | (with_reducible first | exact HB.out | apply bD | apply bA | apply bC | refine bH ?_ GE154.out | refine bH ?_ GE156.out) | exact HB.out))); (case aF => exact (fun _ _ => trivial)); (case aO => exact (by (with_reducible repeat (first | apply Kd.R_alloc | apply Kd.R_drewN | apply Kd.R_drew)); exact Kd.R_mono (Kd.R_far (p := ⟨gb156, 1, none⟩) (Kd.R_far (p := ⟨gb156, 0, none⟩) (Kd.R_types HO_3.out BK156.out (by decide)) (fun _ hk => hk.2) (.int .i64 ((rd_T38 l0_2 x11_1).f0))) (fun _ hk => hk.2) (.int .i64 ((rd_T38 l0_2 x11_1).f1))) (fun _ hk => trivial))); (case aS => exact (bK (by repeat (first | (with_reducible first | exact HB.out | apply bD | apply bA | apply bC | refine bH ?_ GE154.out | refine bH ?_ GE156.out) | exact HB.out)))); (case aL => have := LMc7.out; omega); intro v158 w11 ho hb hg hat; rw [← Ny157.out] at ho; have n0_ := Aside0.mk (bO (g := gb154) (o := .cells #[.int .i64 a0_0, .int .i64 a0_1, .slice (some ad155) l0_2.length c0_2, .slice A0_3 l0_3.length c0_3] 31 (0, 0)) (by (with_reducible repeat (first | refine bF ?_ _ | refine bI ?_ | refine bG ?_ _)); refine bL ?_ NB154_156.out _; (with_reducible repeat (first | refine bF ?_ _ | refine bI ?_ | refine bG ?_ _)); refine bL ?_ NB154_156.out _; (with_reducible repeat (first | refine bF ?_ _ | refine bI ?_ | refine bG ?_ _)); exact BK154.out) hg (Kd.R_ne HO_3.out BK154.out (by decide))); have n1_ := Aside0.mk (bO (g := gb156) (o := .cells #[.int .i64 ((rd_T38 l0_2 x11_1).f0), .int .i64 ((rd_T38 l0_2 x11_1).f1)] 38 (0, 0)) (by (with_reducible repeat (first | refine bF ?_ _ | refine bI ?_ | refine bG ?_ _)); refine bS (cs := #[.int .i64 ((rd_T38 l0_2 x11_1).f0), .int .i64 0]) ?_ 1 _ rfl; (with_reducible repeat (first | refine bF ?_ _ | refine bI ?_ | refine bG ?_ _)); refine bS (cs := #[.int .i64 0, .int .i64 0]) ?_ 0 _ rfl; (with_reducible repeat (first | refine bF ?_ _ | refine bI ?_ | refine bG ?_ _)); exact BK156.out) hg (Kd.R_ne HO_3.out BK156.out (by decide))); have n2_ := Aside0.mk (hb); have n3_ := Aside0.mk (ho); clear BK154; clear BK156; clear HB; clear HO_3; have BK154 := n0_; have BK156 := n1_; have HB := n2_; have HO159 := n3_; clear n0_ n1_ n2_ n3_; clear ho hb hg hat))
    go_roundg k1
    case measure => have := HK1.out; omega
    case rel => exact ⟨(y157), (wrap64 (x11_1 + 1)), (by first | rfl | (simp; done) | (simp [*]; done)), H', ⟨by have := HK1.out; omega⟩, ⟨by (with_reducible repeat (first | apply Kd.R_alloc | apply Kd.R_drewN | apply Kd.R_drew)); exact HO159.out⟩, ⟨by (with_reducible repeat (first | refine bF ?_ _ | refine bI ?_ | refine bG ?_ _)); exact BK154.out⟩, ⟨by repeat (first | (with_reducible first | exact HB.out | apply bD | apply bA | apply bC | refine bH ?_ GE154.out | refine bH ?_ GE156.out) | exact HB.out)⟩⟩
   rw [if_neg c4] at H
   have c4b0 : decide (x11_1 < (l0_2.length : Int)) = false := decide_eq_false c4
   clear c4
   have H' := Aside0.mk H
   clear H
   have hcz12_0 : wr.cell? ⟨gb154, 0, none⟩ = some (.int .i64 a0_0) := (bJ BK154.out 0).trans rfl
   have hcz12_1 : wr.cell? ⟨gb154, 1, none⟩ = some (.int .i64 a0_1) := (bJ BK154.out 1).trans rfl
   have hcz12_2 : wr.cell? ⟨gb154, 2, none⟩ = some (.slice A0_2 l0_2.length c0_2) := (bJ BK154.out 2).trans rfl
   have hcz12_3 : wr.cell? ⟨gb154, 3, none⟩ = some (.slice A0_3 l0_3.length c0_3) := (bJ BK154.out 3).trans rfl
   have hfz12_0 := bE BK154.out 0
   have hfz12_1 := bE BK154.out 1
   have hfz12_2 := bE BK154.out 2
   have hfz12_3 := bE BK154.out 3
   go_wp2
   go_loopg [3, 24] k1 (fun kq v3 v24 w' => ∃ (x3_2 : List Int) (x24_2 : Int), v24 = .int .i64 x24_2 ∧ Aside0 (backstitchref3_Values.l1 kq x3_2 l0_3 (l0_3.length : Int) x24_2 = some r) ∧ Aside0 (kq ≤ k1) ∧ Aside0 (Kd.R (Kd.int .i64) 3 w' w.heap.size (fun _ => True) v3 x3_2) ∧ Aside0 (w'.heap[gb154]? = some (.cells #[.int .i64 a0_0, .int .i64 a0_1, (.slice A0_2 l0_2.length c0_2), (.slice A0_3 l0_3.length c0_3)] 31 (0, 0))) ∧ Aside0 (Below w.heap.size w w'))
   case atStart => exact ⟨(x3_1), (0), (by first | rfl | (simp; done) | (simp [*]; done)), H', ⟨Nat.le_refl _⟩, ⟨by (with_reducible repeat (first | apply Kd.R_alloc | apply Kd.R_drewN | apply Kd.R_drew)); exact HO_3.out⟩, ⟨by (with_reducible repeat (first | refine bF ?_ _ | refine bI ?_ | refine bG ?_ _)); exact BK154.out⟩, ⟨by repeat (first | (with_reducible first | exact HB.out | apply bD | apply bA | apply bC | refine bH ?_ GE154.out) | exact HB.out)⟩⟩
   case round =>
    clear H'
    try clear c1
    try clear p1
    try clear q1
    try clear hx1
    try clear p2
    try clear c4
    try clear c4b0
    try clear c5
    try clear c5b0
    try clear c6
    try clear c6b0
    try clear p6
    try clear c7
    try clear c9
    try clear c11
    try clear hcz10_0
    try clear hcz10_1
    try clear hcz12_0
    try clear hcz12_1
    try clear hcz12_2
    try clear hcz12_3
    try clear hcz3_0
    try clear hcz3_1
    try clear hcz3_2
    try clear hcz3_3
    try clear hfz10_0
    try clear hfz10_1
    try clear hfz12_0
    try clear hfz12_1
    try clear hfz12_2
    try clear hfz12_3
    try clear hfz3_0
    try clear hfz3_1
    try clear hfz3_2
    try clear hfz3_3
    try clear hx155_0
    try clear hx155_1
    try clear p155
    try clear p2
    try clear q155
    obtain ⟨x3_2, x24_2, rfl, HA, HK2, HO_3, BK154, HB⟩ := hrel
    cases gk with
    | zero => exact absurd HA.out (by simp [backstitchref3_Values.l1])
    | succ k2 =>
     have H := HA.out
     clear HA
     simp only [backstitchref3_Values.l1] at H
     by_cases c13 : x24_2 < (l0_3.length : Int)
     rotate_left
     ·rw [if_neg c13] at H
      have c13b0 : decide (x24_2 < (l0_3.length : Int)) = false := decide_eq_false c13
      clear c13
      obtain rfl := Option.some.inj H
      go_wp2
      go_ret
      exact ⟨_, by first | rfl | (simp <;> rfl) | (simp [*] <;> rfl), by (with_reducible repeat (first | apply Kd.R_alloc | apply Kd.R_drewN | apply Kd.R_drew)); exact HO_3.out, by repeat (first | (with_reducible first | exact HB.out | apply bD | apply bA | apply bC | refine bH ?_ GE154.out) | exact HB.out)⟩
     rw [if_pos c13] at H
     have c13b0 : decide (x24_2 < (l0_3.length : Int)) = true := decide_eq_true c13
     clear c13
     by_cases c14 : 0 ≤ x24_2
     rotate_left
     ·rw [if_neg c14] at H
      exact absurd H (by simp)
     rw [if_pos c14] at H
     have c14b0 : decide (0 ≤ x24_2) = true := decide_eq_true c14
     clear c14
     by_cases c15 : x24_2 < (l0_3.length : Int)
     rotate_left
     ·rw [if_neg c15] at H
      exact absurd H (by simp)
     rw [if_pos c15] at H
     have c15b0 : decide (x24_2 < (l0_3.length : Int)) = true := decide_eq_true c15
     clear c15
     by_cases c16 : x3_2.length < 17592186044416
     rotate_left
     ·rw [if_neg c16] at H
      exact absurd H (by simp)
     rw [if_pos c16] at H
     have LMc16 := Aside0.mk c16
     clear c16
     obtain ⟨y162, hy162⟩ : ∃ y_ : List Int, y_ = (x3_2 ++ [(rd_T63 l0_3 x24_2).f0]) := ⟨_, rfl⟩
     replace H : (if y162.length + ((rd_T63 l0_3 x24_2).f3).length < 17592186044416 then (backstitchref3_Values.l1 k2 (y162 ++ ((rd_T63 l0_3 x24_2).f3)) l0_3 (l0_3.length : Int) (wrap64 (x24_2 + 1))) else (none)) = some r := by first | (rw [hy162]; with_reducible exact H) | (have H2_ := (Option.bind_some _ _).symm.trans H; rw [hy162]; with_reducible exact H2_) | (have H2_ := (Option.bind_some _ _).symm.trans H; with_reducible exact H2_) | with_reducible exact H | (rw [hy162]; exact H) | exact H
     have Ny162 := Aside0.mk hy162
     clear hy162
     by_cases c17 : y162.length + ((rd_T63 l0_3 x24_2).f3).length < 17592186044416
     rotate_left
     ·rw [if_neg c17] at H
      exact absurd H (by simp)
     rw [if_pos c17] at H
     have LMc17 := Aside0.mk c17
     clear c17
     obtain ⟨y165, hy165⟩ : ∃ y_ : List Int, y_ = (y162 ++ ((rd_T63 l0_3 x24_2).f3)) := ⟨_, rfl⟩
     replace H : (backstitchref3_Values.l1 k2 y165 l0_3 (l0_3.length : Int) (wrap64 (x24_2 + 1))) = some r := by first | (rw [hy165]; with_reducible exact H) | (have H2_ := (Option.bind_some _ _).symm.trans H; rw [hy165]; with_reducible exact H2_) | (have H2_ := (Option.bind_some _ _).symm.trans H; with_reducible exact H2_) | with_reducible exact H | (rw [hy165]; exact H) | exact H
     have Ny165 := Aside0.mk hy165
     clear hy165
     have H' := Aside0.mk H
     clear H
     have p160 : 0 ≤ (x24_2 : Int) := of_decide_eq_true (by first | (with_reducible assumption) | assumption)
     have q160 : x24_2 < (l0_3.length : Int) := of_decide_eq_true (by first | (with_reducible assumption) | assumption)
     obtain ⟨ad160, A160_3, c160_3, e160, hx160_0, hx160_1, hx160_2, hx160_3, hl160_3, hi160_3⟩ := at_T63 HR0_3.out x24_2 p160 q160
     cases e160
     try replace hx160_0 := (HB.out.cell (World.block_lt_of_cell? w _ hx160_0)).trans hx160_0
     try replace hx160_1 := (HB.out.cell (World.block_lt_of_cell? w _ hx160_1)).trans hx160_1
     try replace hx160_2 := (HB.out.cell (World.block_lt_of_cell? w _ hx160_2)).trans hx160_2
     try replace hx160_3 := (HB.out.cell (World.block_lt_of_cell? w _ hx160_3)).trans hx160_3
     have HR160_3 := Aside0.mk hi160_3
     have HC160_3 := Aside0.mk hl160_3
     clear hi160_3 hl160_3
     replace p160 := eq_true p160
     replace q160 := eq_true q160
     go_wp2_with (first | ((with_reducible refine bP (N := 7) rfl ?_); refine bN ?hg (N := 7) ?hd (cs := #[.int .i64 0, .int .i64 0, .int .i64 0, .slice none 0 0]) (t := 63) ?hr ?_; (case hd => rfl); (case hg => rfl); (case hr => first | (go_simp; done) | (go_simp; rfl)); intro gb161 hg w18 hbox hb; have n0_ := Aside0.mk (Kd.R_below (by (with_reducible repeat (first | apply Kd.R_alloc | apply Kd.R_drewN | apply Kd.R_drew)); exact HO_3.out) hb); have n1_ := Aside0.mk (bT (g := gb154) (o := .cells #[.int .i64 a0_0, .int .i64 a0_1, .slice A0_2 l0_2.length c0_2, .slice (some ad160) l0_3.length c0_3] 31 (0, 0)) (by (with_reducible repeat (first | refine bF ?_ _ | refine bI ?_ | refine bG ?_ _)); exact BK154.out) hb); have n2_ := Aside0.mk (bM (by repeat (first | (with_reducible first | exact HB.out | apply bD | apply bA | apply bC | refine bH ?_ GE154.out) | exact HB.out)) hb); have n3_ := Aside0.mk (hbox); have n4_ := Aside0.mk ((by rw [hg]; exact (bK (by repeat (first | (with_reducible first | exact HB.out | apply bD | apply bA | apply bC | refine bH ?_ GE154.out) | exact HB.out))) : w.heap.size ≤ gb161)); have n5_ := Aside0.mk ((by rw [hg]; exact (bK (by repeat (first | (with_reducible first | exact HB.out | apply bD | apply bA | apply bC | refine bH ?_ GE154.out) | exact HB.out))) : w.heap.size ≤ gb161)); have n6_ := Aside0.mk ((by rw [hg]; exact Nat.ne_of_lt (bQ (g := gb154) (o := .cells #[.int .i64 a0_0, .int .i64 a0_1, .slice A0_2 l0_2.length c0_2, .slice (some ad160) l0_3.length c0_3] 31 (0, 0)) (by (with_reducible repeat (first | refine bF ?_ _ | refine bI ?_ | refine bG ?_ _)); exact BK154.out)) : gb154 ≠ gb161)); have n7_ := Aside0.mk ((by rw [hg]; exact Nat.ne_of_gt (bQ (g := gb154) (o := .cells #[.int .i64 a0_0, .int .i64 a0_1, .slice A0_2 l0_2.length c0_2, .slice (some ad160) l0_3.length c0_3] 31 (0, 0)) (by (with_reducible repeat (first | refine bF ?_ _ | refine bI ?_ | refine bG ?_ _)); exact BK154.out)) : gb161 ≠ gb154)); clear HO_3; clear BK154; clear HB; have HO_3 := n0_; have BK154 := n1_; have HB := n2_; have BK161 := n3_; have GW161 := n4_; have GE161 := n5_; have NB154_161 := n6_; have NB161_154 := n7_; clear n0_ n1_ n2_ n3_ n4_ n5_ n6_ n7_; clear hb hbox hg; have hnb19 := NB161_154.out; have hnc19 := NB154_161.out; have hcz20_0 : w18.cell? ⟨gb161, 0, none⟩ = some (.int .i64 0) := (bJ BK161.out 0).trans rfl; have hcz20_1 : w18.cell? ⟨gb161, 1, none⟩ = some (.int .i64 0) := (bJ BK161.out 1).trans rfl; have hcz20_2 : w18.cell? ⟨gb161, 2, none⟩ = some (.int .i64 0) := (bJ BK161.out 2).trans rfl; have hcz20_3 : w18.cell? ⟨gb161, 3, none⟩ = some (.slice none 0 0) := (bJ BK161.out 3).trans rfl; have hfz20_0 := bE BK161.out 0; have hfz20_1 := bE BK161.out 1; have hfz20_2 := bE BK161.out 2; have hfz20_3 := bE BK161.out 3) | ((with_reducible refine bR (b := .append) (xs := #[.tmp 28, .tmp 31]) rfl ?_); at_builtin; refine Kd.R_append (Kd.int .i64) (w0 := w) w.heap.size rfl (.tmp 28) (.tmp 31) 40 3 (.int .i64 0) 8 rfl Try.underlying40 info3 rfl (by decide) (by omega) u3 x3_2 ((rd_T63 l0_3 x24_2).f0) [.int .i64 ((rd_T63 l0_3 x24_2).f0)] (fun _ => True) (fun _ => False) rfl (by first | (go_simp; done) | (go_simp; rfl)) ?aP (fun _ hk => hk.elim) ?aF ?aO ?aB ?aS ?aL ?_; (case aP => exact rfl); (case aB => exact (by repeat (first | (with_reducible first | exact HB.out | apply bD | apply bA | apply bC | refine bH ?_ GE154.out | refine bH ?_ GE161.out) | exact HB.out))); (case aF => exact (fun _ _ => trivial)); (case aO => exact (by (with_reducible repeat (first | apply Kd.R_alloc | apply Kd.R_drewN | apply Kd.R_drew)); exact Kd.R_mono (Kd.R_far (p := ⟨gb161, 3, none⟩) (Kd.R_far (p := ⟨gb161, 2, none⟩) (Kd.R_far (p := ⟨gb161, 1, none⟩) (Kd.R_far (p := ⟨gb161, 0, none⟩) (Kd.R_types HO_3.out BK161.out (by decide)) (fun _ hk => hk.2) (.int .i64 ((rd_T63 l0_3 x24_2).f0))) (fun _ hk => hk.2) (.int .i64 ((rd_T63 l0_3 x24_2).f1))) (fun _ hk => hk.2) (.int .i64 ((rd_T63 l0_3 x24_2).f2))) (fun _ hk => hk.2) (.slice A160_3 ((rd_T63 l0_3 x24_2).f3).length c160_3)) (fun _ hk => trivial))); (case aS => exact (bK (by repeat (first | (with_reducible first | exact HB.out | apply bD | apply bA | apply bC | refine bH ?_ GE154.out | refine bH ?_ GE161.out) | exact HB.out)))); (case aL => have := LMc16.out; omega); intro v163 w21 ho hb hg hat; rw [← Ny162.out] at ho; have n0_ := Aside0.mk (bO (g := gb154) (o := .cells #[.int .i64 a0_0, .int .i64 a0_1, .slice A0_2 l0_2.length c0_2, .slice (some ad160) l0_3.length c0_3] 31 (0, 0)) (by (with_reducible repeat (first | refine bF ?_ _ | refine bI ?_ | refine bG ?_ _)); refine bL ?_ NB154_161.out _; (with_reducible repeat (first | refine bF ?_ _ | refine bI ?_ | refine bG ?_ _)); refine bL ?_ NB154_161.out _; (with_reducible repeat (first | refine bF ?_ _ | refine bI ?_ | refine bG ?_ _)); refine bL ?_ NB154_161.out _; (with_reducible repeat (first | refine bF ?_ _ | refine bI ?_ | refine bG ?_ _)); refine bL ?_ NB154_161.out _; (with_reducible repeat (first | refine bF ?_ _ | refine bI ?_ | refine bG ?_ _)); exact BK154.out) hg (Kd.R_ne HO_3.out BK154.out (by decide))); have n1_ := Aside0.mk (bO (g := gb161) (o := .cells #[.int .i64 ((rd_T63 l0_3 x24_2).f0), .int .i64 ((rd_T63 l0_3 x24_2).f1), .int .i64 ((rd_T63 l0_3 x24_2).f2), .slice A160_3 ((rd_T63 l0_3 x24_2).f3).length c160_3] 63 (0, 0)) (by (with_reducible repeat (first | refine bF ?_ _ | refine bI ?_ | refine bG ?_ _)); refine bS (cs := #[.int .i64 ((rd_T63 l0_3 x24_2).f0), .int .i64 ((rd_T63 l0_3 x24_2).f1), .int .i64 ((rd_T63 l0_3 x24_2).f2), .slice none 0 0]) ?_ 3 _ rfl; (with_reducible repeat (first | refine bF ?_ _ | refine bI ?_ | refine bG ?_ _)); refine bS (cs := #[.int .i64 ((rd_T63 l0_3 x24_2).f0), .int .i64 ((rd_T63 l0_3 x24_2).f1), .int .i64 0, .slice none 0 0]) ?_ 2 _ rfl; (with_reducible repeat (first | refine bF ?_ _ | refine bI ?_ | refine bG ?_ _)); refine bS (cs := #[.int .i64 ((rd_T63 l0_3 x24_2).f0), .int .i64 0, .int .i64 0, .slice none 0 0]) ?_ 1 _ rfl; (with_reducible repeat (first | refine bF ?_ _ | refine bI ?_ | refine bG ?_ _)); refine bS (cs := #[.int .i64 0, .int .i64 0, .int .i64 0, .slice none 0 0]) ?_ 0 _ rfl; (with_reducible repeat (first | refine bF ?_ _ | refine bI ?_ | refine bG ?_ _)); exact BK161.out) hg (Kd.R_ne HO_3.out BK161.out (by decide))); have n2_ := Aside0.mk (hb); have n3_ := Aside0.mk (ho); clear BK154; clear BK161; clear HB; clear HO_3; have BK154 := n0_; have BK161 := n1_; have HB := n2_; have HO164 := n3_; clear n0_ n1_ n2_ n3_; clear ho hb hg hat; have hcz22_0 : w21.cell? ⟨gb161, 0, none⟩ = some (.int .i64 ((rd_T63 l0_3 x24_2).f0)) := (bJ BK161.out 0).trans rfl; have hcz22_1 : w21.cell? ⟨gb161, 1, none⟩ = some (.int .i64 ((rd_T63 l0_3 x24_2).f1)) := (bJ BK161.out 1).trans rfl; have hcz22_2 : w21.cell? ⟨gb161, 2, none⟩ = some (.int .i64 ((rd_T63 l0_3 x24_2).f2)) := (bJ BK161.out 2).trans rfl; have hcz22_3 : w21.cell? ⟨gb161, 3, none⟩ = some (.slice A160_3 ((rd_T63 l0_3 x24_2).f3).length c160_3) := (bJ BK161.out 3).trans rfl; have hfz22_0 := bE BK161.out 0; have hfz22_1 := bE BK161.out 1; have hfz22_2 := bE BK161.out 2; have hfz22_3 := bE BK161.out 3) | ((with_reducible refine bR (b := .append) (xs := #[.tmp 33, .tmp 35]) rfl ?_); at_builtin; refine Kd.R_append_rows (Kd.int .i64) (w0 := w) w.heap.size rfl (.tmp 33) (.tmp 35) 40 3 (.int .i64 0) 8 rfl Try.underlying40 info3 rfl (by decide) (by omega) v163 y162 ((rd_T63 l0_3 x24_2).f3) _ _ _ (fun _ => True) (fun _ => False) rfl rfl ?aO ?aR (fun _ _ h => h) (fun _ h => h.elim) ?aF ?aB ?aS ?aL ?_; (case aR => repeat (first | exact (Kd.C_below HR160_3.out HB.out) | (with_reducible refine Kd.C_alloc ?_ _) | (with_reducible refine Kd.C_drewN ?_ _) | (with_reducible refine Kd.C_drew ?_))); (case aB => exact (by repeat (first | (with_reducible first | exact HB.out | apply bD | apply bA | apply bC | refine bH ?_ GE154.out | refine bH ?_ GE161.out) | exact HB.out))); (case aF => exact (fun _ _ => trivial)); (case aO => exact (by (with_reducible repeat (first | apply Kd.R_alloc | apply Kd.R_drewN | apply Kd.R_drew)); exact HO164.out)); (case aS => exact (bK (by repeat (first | (with_reducible first | exact HB.out | apply bD | apply bA | apply bC | refine bH ?_ GE154.out | refine bH ?_ GE161.out) | exact HB.out)))); (case aL => have := LMc17.out; omega); intro v166 w23 ho hb hg hat; rw [← Ny165.out] at ho; have n0_ := Aside0.mk (bO (g := gb154) (o := .cells #[.int .i64 a0_0, .int .i64 a0_1, .slice A0_2 l0_2.length c0_2, .slice (some ad160) l0_3.length c0_3] 31 (0, 0)) (by (with_reducible repeat (first | refine bF ?_ _ | refine bI ?_ | refine bG ?_ _)); exact BK154.out) hg (Kd.R_ne HO164.out BK154.out (by decide))); have n1_ := Aside0.mk (bO (g := gb161) (o := .cells #[.int .i64 ((rd_T63 l0_3 x24_2).f0), .int .i64 ((rd_T63 l0_3 x24_2).f1), .int .i64 ((rd_T63 l0_3 x24_2).f2), .slice A160_3 ((rd_T63 l0_3 x24_2).f3).length c160_3] 63 (0, 0)) (by (with_reducible repeat (first | refine bF ?_ _ | refine bI ?_ | refine bG ?_ _)); exact BK161.out) hg (Kd.R_ne HO164.out BK161.out (by decide))); have n2_ := Aside0.mk (hb); have n3_ := Aside0.mk (ho); clear BK154; clear BK161; clear HB; clear HO164; have BK154 := n0_; have BK161 := n1_; have HB := n2_; have HO167 := n3_; clear n0_ n1_ n2_ n3_; clear ho hb hg hat))
     go_roundg k2
     case measure => have := HK1.out; have := HK2.out; omega
     case rel => exact ⟨(y165), (wrap64 (x24_2 + 1)), (by first | rfl | (simp; done) | (simp [*]; done)), H', ⟨by have := HK1.out; have := HK2.out; omega⟩, ⟨by (with_reducible repeat (first | apply Kd.R_alloc | apply Kd.R_drewN | apply Kd.R_drew)); exact HO167.out⟩, ⟨by (with_reducible repeat (first | refine bF ?_ _ | refine bI ?_ | refine bG ?_ _)); exact BK154.out⟩, ⟨by repeat (first | (with_reducible first | exact HB.out | apply bD | apply bA | apply bC | refine bH ?_ GE154.out | refine bH ?_ GE161.out) | exact HB.out)⟩⟩

/-! ### backstitchref3_exitLarge: function 117 -/
def backstitchref3_exitLarge.l0 : Nat → List (S63) → Int → Int → Int → Int → List (S38) → List (S63) → Option (Bool)
 | 0, _, _, _, _, _, _, _ => none
 | k + 1, x6, x7, x8, x169000, x169001, x169002, x169003 => if x8 < x7 then (if 0 ≤ x8 then (if x8 < (x6.length : Int) then (if (((rd_T63 x6 x8).f3).length : Int) > 100 then (some true) else (backstitchref3_exitLarge.l0 k x6 x7 (wrap64 (x8 + 1)) x169000 x169001 x169002 x169003)) else (none)) else (none)) else (if (x169002.length : Int) > 60 then (some true) else (some (decide ((x169003.length : Int) > 300))))
def backstitchref3_exitLarge.f (k : Nat) (a0_0 : Int) (a0_1 : Int) (l0_2 : List (S38)) (l0_3 : List (S63)) : Option (Bool) := backstitchref3_exitLarge.l0 k l0_3 (l0_3.length : Int) 0 a0_0 a0_1 l0_2 l0_3
theorem backstitchref3_exitLarge.mono_l : ∀ k, (∀ y0 y1 y2 y3 y4 y5 y6, LeO (backstitchref3_exitLarge.l0 k y0 y1 y2 y3 y4 y5 y6) (backstitchref3_exitLarge.l0 (k + 1) y0 y1 y2 y3 y4 y5 y6))
 | 0 => fun _ _ _ _ _ _ _ r h => by simp [backstitchref3_exitLarge.l0] at h
 | k + 1 => by
  have ih0 := backstitchref3_exitLarge.mono_l k
  ·intro y0 y1 y2 y3 y4 y5 y6
   unfold backstitchref3_exitLarge.l0
   repeat' first
   | (with_reducible exact ih0 _ _ _ _ _ _ _)
   | (with_reducible exact LeO.refl _)
   | (with_reducible exact LeO.none _)
   | (with_reducible refine LeO.ite ?_ ?_)
   | (with_reducible refine LeO.bind ?_ (fun _ => ?_))
   | exact ih0 _ _ _ _ _ _ _
   | exact LeO.none _
   | refine LeO.ite ?_ ?_
   | refine LeO.bind ?_ (fun _ => ?_)
theorem backstitchref3_exitLarge.mono : ∀ a0 a1 a2 a3 k, LeO (backstitchref3_exitLarge.f k a0 a1 a2 a3) (backstitchref3_exitLarge.f (k + 1) a0 a1 a2 a3) := by
 intro a0 a1 a2 a3 k
 have ih0 := backstitchref3_exitLarge.mono_l k
 unfold backstitchref3_exitLarge.f
 repeat' first
   | (with_reducible exact ih0 _ _ _ _ _ _ _)
   | (with_reducible exact LeO.refl _)
   | (with_reducible exact LeO.none _)
   | (with_reducible refine LeO.ite ?_ ?_)
   | (with_reducible refine LeO.bind ?_ (fun _ => ?_))
   | exact ih0 _ _ _ _ _ _ _
   | exact LeO.none _
   | refine LeO.ite ?_ ?_
   | refine LeO.bind ?_ (fun _ => ?_)
set_option maxHeartbeats 8000000 in
set_option maxRecDepth 100000 in
theorem backstitchref3_exitLarge.calls (k : Nat) (a0_0 : Int) (a0_1 : Int) (A0_2 : Option Addr) (c0_2 : Nat) (l0_2 : List (S38)) (A0_3 : Option Addr) (c0_3 : Nat) (l0_3 : List (S63)) (r : Bool) (w : World) (hr0_2 : Kd.C k38 w A0_2 l0_2.length l0_2) (hc0_2 : l0_2.length ≤ c0_2) (hr0_3 : Kd.C k63 w A0_3 l0_3.length l0_3) (hc0_3 : l0_3.length ≤ c0_3) (h : backstitchref3_exitLarge.f k a0_0 a0_1 l0_2 l0_3 = some r) :
  Calls Try.prog 117 #[.agg #[.int .i64 a0_0, .int .i64 a0_1, .slice A0_2 l0_2.length c0_2, .slice A0_3 l0_3.length c0_3]] w fun e w' => e = .returned (.bool r) ∧ Below w.heap.size w w' := by
 have hu31 := Try.underlying31
 have hu63 := Try.underlying63
 have HR0_2 := Aside0.mk hr0_2
 have HC0_2 := Aside0.mk hc0_2
 clear hr0_2 hc0_2
 have HR0_3 := Aside0.mk hr0_3
 have HC0_3 := Aside0.mk hc0_3
 clear hr0_3 hc0_3
 have HB := Aside0.mk (Below.refl w.heap.size w)
 have H : (backstitchref3_exitLarge.l0 k l0_3 (l0_3.length : Int) 0 a0_0 a0_1 l0_2 l0_3) = some r := h
 clear h
 have H' := Aside0.mk H
 clear H
 go_enter Try.func117, Try.ntmps117
 go_wp2_with (first | ((with_reducible refine bP (N := 1) rfl ?_); (try (refine bU (by rfl) ?_; dsimp only)); refine bN ?hg (N := 1) ?hd (cs := #[.int .i64 a0_0, .int .i64 a0_1, .slice A0_2 l0_2.length c0_2, .slice A0_3 l0_3.length c0_3]) (t := 31) ?hr ?_; (case hd => rfl); (case hg => rfl); (case hr => first | (go_simp; done) | (go_simp; rfl)); intro gb168 hg w2 hbox hb; have n0_ := Aside0.mk (bM (by repeat (first | (with_reducible first | exact HB.out | apply bD | apply bA | apply bC) | exact HB.out)) hb); have n1_ := Aside0.mk (hbox); have n2_ := Aside0.mk ((by rw [hg]; exact (bK (by repeat (first | (with_reducible first | exact HB.out | apply bD | apply bA | apply bC) | exact HB.out))) : w.heap.size ≤ gb168)); have n3_ := Aside0.mk ((by rw [hg]; exact (bK (by repeat (first | (with_reducible first | exact HB.out | apply bD | apply bA | apply bC) | exact HB.out))) : w.heap.size ≤ gb168)); clear HB; have HB := n0_; have BK168 := n1_; have GW168 := n2_; have GE168 := n3_; clear n0_ n1_ n2_ n3_; clear hb hbox hg; have hcz3_0 : w2.cell? ⟨gb168, 0, none⟩ = some (.int .i64 a0_0) := (bJ BK168.out 0).trans rfl; have hcz3_1 : w2.cell? ⟨gb168, 1, none⟩ = some (.int .i64 a0_1) := (bJ BK168.out 1).trans rfl; have hcz3_2 : w2.cell? ⟨gb168, 2, none⟩ = some (.slice A0_2 l0_2.length c0_2) := (bJ BK168.out 2).trans rfl; have hcz3_3 : w2.cell? ⟨gb168, 3, none⟩ = some (.slice A0_3 l0_3.length c0_3) := (bJ BK168.out 3).trans rfl; have hfz3_0 := bE BK168.out 0; have hfz3_1 := bE BK168.out 1; have hfz3_2 := bE BK168.out 2; have hfz3_3 := bE BK168.out 3))
 go_loopg [8] k (fun kq v8 w' => ∃ (x8_1 : Int), v8 = .int .i64 x8_1 ∧ Aside0 (backstitchref3_exitLarge.l0 kq l0_3 (l0_3.length : Int) x8_1 a0_0 a0_1 l0_2 l0_3 = some r) ∧ Aside0 (kq ≤ k) ∧ Aside0 (w'.heap[gb168]? = some (.cells #[.int .i64 a0_0, .int .i64 a0_1, (.slice A0_2 l0_2.length c0_2), (.slice A0_3 l0_3.length c0_3)] 31 (0, 0))) ∧ Aside0 (Below w.heap.size w w'))
 case atStart => exact ⟨(0), (by first | rfl | (simp; done) | (simp [*]; done)), H', ⟨Nat.le_refl _⟩, ⟨by (with_reducible repeat (first | refine bF ?_ _ | refine bI ?_ | refine bG ?_ _)); exact BK168.out⟩, ⟨by repeat (first | (with_reducible first | exact HB.out | apply bD | apply bA | apply bC | refine bH ?_ GE168.out) | exact HB.out)⟩⟩
 case round =>
  clear H'
  try clear c1
  try clear p2
  try clear hcz3_0
  try clear hcz3_1
  try clear hcz3_2
  try clear hcz3_3
  try clear hfz3_0
  try clear hfz3_1
  try clear hfz3_2
  try clear hfz3_3
  obtain ⟨x8_1, rfl, HA, HK1, BK168, HB⟩ := hrel
  cases gk with
  | zero => exact absurd HA.out (by simp [backstitchref3_exitLarge.l0])
  | succ k1 =>
   have H := HA.out
   clear HA
   simp only [backstitchref3_exitLarge.l0] at H
   by_cases c4 : x8_1 < (l0_3.length : Int)
   rotate_left
   ·rw [if_neg c4] at H
    have c4b0 : decide (x8_1 < (l0_3.length : Int)) = false := decide_eq_false c4
    clear c4
    by_cases c14 : (l0_2.length : Int) > 60
    rotate_left
    ·rw [if_neg c14] at H
     have c14b0 : decide (60 < (l0_2.length : Int)) = false := decide_eq_false c14
     have c14b1 : decide (60 < l0_2.length) = false := decide_eq_false (by omega)
     clear c14
     obtain rfl := Option.some.inj H
     have hcz16_0 : wr.cell? ⟨gb168, 0, none⟩ = some (.int .i64 a0_0) := (bJ BK168.out 0).trans rfl
     have hcz16_1 : wr.cell? ⟨gb168, 1, none⟩ = some (.int .i64 a0_1) := (bJ BK168.out 1).trans rfl
     have hcz16_2 : wr.cell? ⟨gb168, 2, none⟩ = some (.slice A0_2 l0_2.length c0_2) := (bJ BK168.out 2).trans rfl
     have hcz16_3 : wr.cell? ⟨gb168, 3, none⟩ = some (.slice A0_3 l0_3.length c0_3) := (bJ BK168.out 3).trans rfl
     have hfz16_0 := bE BK168.out 0
     have hfz16_1 := bE BK168.out 1
     have hfz16_2 := bE BK168.out 2
     have hfz16_3 := bE BK168.out 3
     go_wp2
     go_ret
     exact ⟨by first | rfl | (simp <;> rfl) | (simp [*] <;> rfl), by repeat (first | (with_reducible first | exact HB.out | apply bD | apply bA | apply bC | refine bH ?_ GE168.out) | exact HB.out)⟩
    rw [if_pos c14] at H
    have c14b0 : decide (60 < (l0_2.length : Int)) = true := decide_eq_true c14
    have c14b1 : decide (60 < l0_2.length) = true := decide_eq_true (by omega)
    clear c14
    obtain rfl := Option.some.inj H
    have hcz15_0 : wr.cell? ⟨gb168, 0, none⟩ = some (.int .i64 a0_0) := (bJ BK168.out 0).trans rfl
    have hcz15_1 : wr.cell? ⟨gb168, 1, none⟩ = some (.int .i64 a0_1) := (bJ BK168.out 1).trans rfl
    have hcz15_2 : wr.cell? ⟨gb168, 2, none⟩ = some (.slice A0_2 l0_2.length c0_2) := (bJ BK168.out 2).trans rfl
    have hcz15_3 : wr.cell? ⟨gb168, 3, none⟩ = some (.slice A0_3 l0_3.length c0_3) := (bJ BK168.out 3).trans rfl
    have hfz15_0 := bE BK168.out 0
    have hfz15_1 := bE BK168.out 1
    have hfz15_2 := bE BK168.out 2
    have hfz15_3 := bE BK168.out 3
    go_wp2
    go_ret
    exact ⟨by first | rfl | (simp <;> rfl) | (simp [*] <;> rfl), by repeat (first | (with_reducible first | exact HB.out | apply bD | apply bA | apply bC | refine bH ?_ GE168.out) | exact HB.out)⟩
   rw [if_pos c4] at H
   have c4b0 : decide (x8_1 < (l0_3.length : Int)) = true := decide_eq_true c4
   clear c4
   by_cases c5 : 0 ≤ x8_1
   rotate_left
   ·rw [if_neg c5] at H
    exact absurd H (by simp)
   rw [if_pos c5] at H
   have c5b0 : decide (0 ≤ x8_1) = true := decide_eq_true c5
   clear c5
   by_cases c6 : x8_1 < (l0_3.length : Int)
   rotate_left
   ·rw [if_neg c6] at H
    exact absurd H (by simp)
   rw [if_pos c6] at H
   have c6b0 : decide (x8_1 < (l0_3.length : Int)) = true := decide_eq_true c6
   clear c6
   by_cases c7 : (((rd_T63 l0_3 x8_1).f3).length : Int) > 100
   ·rw [if_pos c7] at H
    have c7b0 : decide (100 < (((rd_T63 l0_3 x8_1).f3).length : Int)) = true := decide_eq_true c7
    have c7b1 : decide (100 < ((rd_T63 l0_3 x8_1).f3).length) = true := decide_eq_true (by omega)
    clear c7
    obtain rfl := Option.some.inj H
    have p169 : 0 ≤ (x8_1 : Int) := of_decide_eq_true (by first | (with_reducible assumption) | assumption)
    have q169 : x8_1 < (l0_3.length : Int) := of_decide_eq_true (by first | (with_reducible assumption) | assumption)
    obtain ⟨ad169, A169_3, c169_3, e169, hx169_0, hx169_1, hx169_2, hx169_3, hl169_3, hi169_3⟩ := at_T63 HR0_3.out x8_1 p169 q169
    cases e169
    try replace hx169_0 := (HB.out.cell (World.block_lt_of_cell? w _ hx169_0)).trans hx169_0
    try replace hx169_1 := (HB.out.cell (World.block_lt_of_cell? w _ hx169_1)).trans hx169_1
    try replace hx169_2 := (HB.out.cell (World.block_lt_of_cell? w _ hx169_2)).trans hx169_2
    try replace hx169_3 := (HB.out.cell (World.block_lt_of_cell? w _ hx169_3)).trans hx169_3
    have HR169_3 := Aside0.mk hi169_3
    have HC169_3 := Aside0.mk hl169_3
    clear hi169_3 hl169_3
    replace p169 := eq_true p169
    replace q169 := eq_true q169
    go_wp2_with (first | ((with_reducible refine bP (N := 4) rfl ?_); (try (refine bU (by rfl) ?_; dsimp only)); refine bN ?hg (N := 4) ?hd (cs := #[.int .i64 0, .int .i64 0, .int .i64 0, .slice none 0 0]) (t := 63) ?hr ?_; (case hd => rfl); (case hg => rfl); (case hr => first | (go_simp; done) | (go_simp; rfl)); intro gb170 hg w8 hbox hb; have n0_ := Aside0.mk (bT (g := gb168) (o := .cells #[.int .i64 a0_0, .int .i64 a0_1, .slice A0_2 l0_2.length c0_2, .slice (some ad169) l0_3.length c0_3] 31 (0, 0)) (by (with_reducible repeat (first | refine bF ?_ _ | refine bI ?_ | refine bG ?_ _)); exact BK168.out) hb); have n1_ := Aside0.mk (bM (by repeat (first | (with_reducible first | exact HB.out | apply bD | apply bA | apply bC | refine bH ?_ GE168.out) | exact HB.out)) hb); have n2_ := Aside0.mk (hbox); have n3_ := Aside0.mk ((by rw [hg]; exact (bK (by repeat (first | (with_reducible first | exact HB.out | apply bD | apply bA | apply bC | refine bH ?_ GE168.out) | exact HB.out))) : w.heap.size ≤ gb170)); have n4_ := Aside0.mk ((by rw [hg]; exact (bK (by repeat (first | (with_reducible first | exact HB.out | apply bD | apply bA | apply bC | refine bH ?_ GE168.out) | exact HB.out))) : w.heap.size ≤ gb170)); have n5_ := Aside0.mk ((by rw [hg]; exact Nat.ne_of_lt (bQ (g := gb168) (o := .cells #[.int .i64 a0_0, .int .i64 a0_1, .slice A0_2 l0_2.length c0_2, .slice (some ad169) l0_3.length c0_3] 31 (0, 0)) (by (with_reducible repeat (first | refine bF ?_ _ | refine bI ?_ | refine bG ?_ _)); exact BK168.out)) : gb168 ≠ gb170)); have n6_ := Aside0.mk ((by rw [hg]; exact Nat.ne_of_gt (bQ (g := gb168) (o := .cells #[.int .i64 a0_0, .int .i64 a0_1, .slice A0_2 l0_2.length c0_2, .slice (some ad169) l0_3.length c0_3] 31 (0, 0)) (by (with_reducible repeat (first | refine bF ?_ _ | refine bI ?_ | refine bG ?_ _)); exact BK168.out)) : gb170 ≠ gb168)); clear BK168; clear HB; have BK168 := n0_; have HB := n1_; have BK170 := n2_; have GW170 := n3_; have GE170 := n4_; have NB168_170 := n5_; have NB170_168 := n6_; clear n0_ n1_ n2_ n3_ n4_ n5_ n6_; clear hb hbox hg; have hnb9 := NB170_168.out; have hnc9 := NB168_170.out; have hcz10_0 : w8.cell? ⟨gb170, 0, none⟩ = some (.int .i64 0) := (bJ BK170.out 0).trans rfl; have hcz10_1 : w8.cell? ⟨gb170, 1, none⟩ = some (.int .i64 0) := (bJ BK170.out 1).trans rfl; have hcz10_2 : w8.cell? ⟨gb170, 2, none⟩ = some (.int .i64 0) := (bJ BK170.out 2).trans rfl; have hcz10_3 : w8.cell? ⟨gb170, 3, none⟩ = some (.slice none 0 0) := (bJ BK170.out 3).trans rfl; have hfz10_0 := bE BK170.out 0; have hfz10_1 := bE BK170.out 1; have hfz10_2 := bE BK170.out 2; have hfz10_3 := bE BK170.out 3))
    go_ret
    exact ⟨by first | rfl | (simp <;> rfl) | (simp [*] <;> rfl), by repeat (first | (with_reducible first | exact HB.out | apply bD | apply bA | apply bC | refine bH ?_ GE168.out | refine bH ?_ GE170.out) | exact HB.out)⟩
   rw [if_neg c7] at H
   have c7b0 : decide (100 < (((rd_T63 l0_3 x8_1).f3).length : Int)) = false := decide_eq_false c7
   have c7b1 : decide (100 < ((rd_T63 l0_3 x8_1).f3).length) = false := decide_eq_false (by omega)
   clear c7
   have H' := Aside0.mk H
   clear H
   have p169 : 0 ≤ (x8_1 : Int) := of_decide_eq_true (by first | (with_reducible assumption) | assumption)
   have q169 : x8_1 < (l0_3.length : Int) := of_decide_eq_true (by first | (with_reducible assumption) | assumption)
   obtain ⟨ad169, A169_3, c169_3, e169, hx169_0, hx169_1, hx169_2, hx169_3, hl169_3, hi169_3⟩ := at_T63 HR0_3.out x8_1 p169 q169
   cases e169
   try replace hx169_0 := (HB.out.cell (World.block_lt_of_cell? w _ hx169_0)).trans hx169_0
   try replace hx169_1 := (HB.out.cell (World.block_lt_of_cell? w _ hx169_1)).trans hx169_1
   try replace hx169_2 := (HB.out.cell (World.block_lt_of_cell? w _ hx169_2)).trans hx169_2
   try replace hx169_3 := (HB.out.cell (World.block_lt_of_cell? w _ hx169_3)).trans hx169_3
   have HR169_3 := Aside0.mk hi169_3
   have HC169_3 := Aside0.mk hl169_3
   clear hi169_3 hl169_3
   replace p169 := eq_true p169
   replace q169 := eq_true q169
   go_wp2_with (first | ((with_reducible refine bP (N := 4) rfl ?_); (try (refine bU (by rfl) ?_; dsimp only)); refine bN ?hg (N := 4) ?hd (cs := #[.int .i64 0, .int .i64 0, .int .i64 0, .slice none 0 0]) (t := 63) ?hr ?_; (case hd => rfl); (case hg => rfl); (case hr => first | (go_simp; done) | (go_simp; rfl)); intro gb170 hg w11 hbox hb; have n0_ := Aside0.mk (bT (g := gb168) (o := .cells #[.int .i64 a0_0, .int .i64 a0_1, .slice A0_2 l0_2.length c0_2, .slice (some ad169) l0_3.length c0_3] 31 (0, 0)) (by (with_reducible repeat (first | refine bF ?_ _ | refine bI ?_ | refine bG ?_ _)); exact BK168.out) hb); have n1_ := Aside0.mk (bM (by repeat (first | (with_reducible first | exact HB.out | apply bD | apply bA | apply bC | refine bH ?_ GE168.out) | exact HB.out)) hb); have n2_ := Aside0.mk (hbox); have n3_ := Aside0.mk ((by rw [hg]; exact (bK (by repeat (first | (with_reducible first | exact HB.out | apply bD | apply bA | apply bC | refine bH ?_ GE168.out) | exact HB.out))) : w.heap.size ≤ gb170)); have n4_ := Aside0.mk ((by rw [hg]; exact (bK (by repeat (first | (with_reducible first | exact HB.out | apply bD | apply bA | apply bC | refine bH ?_ GE168.out) | exact HB.out))) : w.heap.size ≤ gb170)); have n5_ := Aside0.mk ((by rw [hg]; exact Nat.ne_of_lt (bQ (g := gb168) (o := .cells #[.int .i64 a0_0, .int .i64 a0_1, .slice A0_2 l0_2.length c0_2, .slice (some ad169) l0_3.length c0_3] 31 (0, 0)) (by (with_reducible repeat (first | refine bF ?_ _ | refine bI ?_ | refine bG ?_ _)); exact BK168.out)) : gb168 ≠ gb170)); have n6_ := Aside0.mk ((by rw [hg]; exact Nat.ne_of_gt (bQ (g := gb168) (o := .cells #[.int .i64 a0_0, .int .i64 a0_1, .slice A0_2 l0_2.length c0_2, .slice (some ad169) l0_3.length c0_3] 31 (0, 0)) (by (with_reducible repeat (first | refine bF ?_ _ | refine bI ?_ | refine bG ?_ _)); exact BK168.out)) : gb170 ≠ gb168)); clear BK168; clear HB; have BK168 := n0_; have HB := n1_; have BK170 := n2_; have GW170 := n3_; have GE170 := n4_; have NB168_170 := n5_; have NB170_168 := n6_; clear n0_ n1_ n2_ n3_ n4_ n5_ n6_; clear hb hbox hg; have hnb12 := NB170_168.out; have hnc12 := NB168_170.out; have hcz13_0 : w11.cell? ⟨gb170, 0, none⟩ = some (.int .i64 0) := (bJ BK170.out 0).trans rfl; have hcz13_1 : w11.cell? ⟨gb170, 1, none⟩ = some (.int .i64 0) := (bJ BK170.out 1).trans rfl; have hcz13_2 : w11.cell? ⟨gb170, 2, none⟩ = some (.int .i64 0) := (bJ BK170.out 2).trans rfl; have hcz13_3 : w11.cell? ⟨gb170, 3, none⟩ = some (.slice none 0 0) := (bJ BK170.out 3).trans rfl; have hfz13_0 := bE BK170.out 0; have hfz13_1 := bE BK170.out 1; have hfz13_2 := bE BK170.out 2; have hfz13_3 := bE BK170.out 3))
   go_roundg k1
   case measure => have := HK1.out; omega
   case rel => exact ⟨(wrap64 (x8_1 + 1)), (by first | rfl | (simp; done) | (simp [*]; done)), H', ⟨by have := HK1.out; omega⟩, ⟨by (with_reducible repeat (first | refine bF ?_ _ | refine bI ?_ | refine bG ?_ _)); refine bL ?_ NB168_170.out _; (with_reducible repeat (first | refine bF ?_ _ | refine bI ?_ | refine bG ?_ _)); refine bL ?_ NB168_170.out _; (with_reducible repeat (first | refine bF ?_ _ | refine bI ?_ | refine bG ?_ _)); refine bL ?_ NB168_170.out _; (with_reducible repeat (first | refine bF ?_ _ | refine bI ?_ | refine bG ?_ _)); refine bL ?_ NB168_170.out _; (with_reducible repeat (first | refine bF ?_ _ | refine bI ?_ | refine bG ?_ _)); exact BK168.out⟩, ⟨by repeat (first | (with_reducible first | exact HB.out | apply bD | apply bA | apply bC | refine bH ?_ GE168.out | refine bH ?_ GE170.out) | exact HB.out)⟩⟩

end Go.Proofs.Ytlojkphocbbjdaa.PLiveTells
