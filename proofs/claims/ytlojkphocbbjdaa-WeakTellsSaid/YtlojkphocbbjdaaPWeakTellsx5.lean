-- Printed for this claim by a program of this session (inj.py), beside the kit's print. Not trusted: Lean checks it.
import Derived.Test.YtlojkphocbbjdaaPWeakTellsx0
import Derived.Test.YtlojkphocbbjdaaPWeakTellsx1
import Derived.Test.YtlojkphocbbjdaaPWeakTellsx3
import Derived.Test.YtlojkphocbbjdaaPWeakTellsx4
namespace Go.Proofs.Ytlojkphocbbjdaa.PWeakTells
open Go.RowKit Go.Proofs.YtlojkphocbbjdaaW.PrintWords Go.Proofs.YtlojkphocbbjdaaW.PrintLast Go.Proofs.YtlojkphocbbjdaaW.PrintMore
attribute [local go_sem] max2_int min2_int max_two min_two max_three min_three max_four min_four   -- for this text's walks alone
set_option linter.unusedVariables false
set_option linter.unusedSimpArgs false

attribute [local go_sem high] eqA100
/-! ### backstitchref3_PairsFault: function 47 -/
def backstitchref3_PairsFault.l0 : Nat → List (S100) → Int → Int → List (List Int) → List Int → Option (Int)
  | 0, _, _, _, _, _ => none
  | k + 1, x16, x17, x18, x172000, x172001 => if x18 < x17 then (if 0 ≤ x18 then (if x18 < (x16.length : Int) then (if ((rd_T100 x16 x18).f0) < 0 then (some 3) else (if ((rd_T100 x16 x18).f0) ≥ (x172000.length : Int) then (some 3) else (if ((rd_T100 x16 x18).f1) < 0 then (some 3) else (if ((rd_T100 x16 x18).f1) ≥ (x172000.length : Int) then (some 3) else (backstitchref3_PairsFault.l0 k x16 x17 (wrap64 (x18 + 1)) x172000 x172001))))) else (none)) else (none)) else (some 0)
def backstitchref3_PairsFault.f (k : Nat) (l0_0 : List (List Int)) (l0_1 : List Int) (l1 : List (S100)) : Option (Int) := (backstitchref3_GraphFault.f k l0_0 l0_1).bind fun t172 => (if t172 = 0 then (if (l1.length : Int) > 50 then (some 2) else (backstitchref3_PairsFault.l0 k l1 (l1.length : Int) 0 l0_0 l0_1)) else (some t172))
theorem backstitchref3_PairsFault.mono_l : ∀ k, (∀ y0 y1 y2 y3 y4, LeO (backstitchref3_PairsFault.l0 k y0 y1 y2 y3 y4) (backstitchref3_PairsFault.l0 (k + 1) y0 y1 y2 y3 y4))
  | 0 => fun _ _ _ _ _ r h => by simp [backstitchref3_PairsFault.l0] at h
  | k + 1 => by
    have ih0 := backstitchref3_PairsFault.mono_l k
    · intro y0 y1 y2 y3 y4
      unfold backstitchref3_PairsFault.l0
      repeat' first
      | (with_reducible exact ih0 _ _ _ _ _)
      | (with_reducible exact backstitchref3_GraphFault.mono _ _ _)
      | (with_reducible exact LeO.refl _)
      | (with_reducible exact LeO.none _)
      | (with_reducible refine LeO.ite ?_ ?_)
      | (with_reducible refine LeO.bind ?_ (fun _ => ?_))
      | exact ih0 _ _ _ _ _
      | exact backstitchref3_GraphFault.mono _ _ _
      | exact LeO.none _
      | refine LeO.ite ?_ ?_
      | refine LeO.bind ?_ (fun _ => ?_)
theorem backstitchref3_PairsFault.mono : ∀ a0 a1 a2 k, LeO (backstitchref3_PairsFault.f k a0 a1 a2) (backstitchref3_PairsFault.f (k + 1) a0 a1 a2) := by
  intro a0 a1 a2 k
  have ih0 := backstitchref3_PairsFault.mono_l k
  unfold backstitchref3_PairsFault.f
  repeat' first
      | (with_reducible exact ih0 _ _ _ _ _)
      | (with_reducible exact backstitchref3_GraphFault.mono _ _ _)
      | (with_reducible exact LeO.refl _)
      | (with_reducible exact LeO.none _)
      | (with_reducible refine LeO.ite ?_ ?_)
      | (with_reducible refine LeO.bind ?_ (fun _ => ?_))
      | exact ih0 _ _ _ _ _
      | exact backstitchref3_GraphFault.mono _ _ _
      | exact LeO.none _
      | refine LeO.ite ?_ ?_
      | refine LeO.bind ?_ (fun _ => ?_)
set_option maxHeartbeats 8000000 in
set_option maxRecDepth 100000 in
theorem backstitchref3_PairsFault.calls (k : Nat) (A0_0 : Option Addr) (c0_0 : Nat) (l0_0 : List (List Int)) (A0_1 : Option Addr) (c0_1 : Nat) (l0_1 : List Int) (A1 : Option Addr) (c1 : Nat) (l1 : List (S100)) (r : Int) (w : World) (hr0_0 : Kd.C (Kd.slice 3 (Kd.int .i64)) w A0_0 l0_0.length l0_0) (hc0_0 : l0_0.length ≤ c0_0) (hr0_1 : Kd.C (Kd.int .i64) w A0_1 l0_1.length l0_1) (hc0_1 : l0_1.length ≤ c0_1) (hr1 : Kd.C k100 w A1 l1.length l1) (hc1 : l1.length ≤ c1) (h : backstitchref3_PairsFault.f k l0_0 l0_1 l1 = some r) :
    Calls Try.prog 47 #[.agg #[.slice A0_0 l0_0.length c0_0, .slice A0_1 l0_1.length c0_1], .slice A1 l1.length c1] w fun e w' => e = .returned (.int .i64 r) ∧ Below w.heap.size w w' := by
  have hu87 := Try.underlying87
  have hu100 := Try.underlying100
  have HR0_0 := Aside0.mk hr0_0
  have HC0_0 := Aside0.mk hc0_0
  clear hr0_0 hc0_0
  have HR0_1 := Aside0.mk hr0_1
  have HC0_1 := Aside0.mk hc0_1
  clear hr0_1 hc0_1
  have HR1 := Aside0.mk hr1
  have HC1 := Aside0.mk hc1
  clear hr1 hc1
  have HB := Aside0.mk (Below.refl w.heap.size w)
  have H : ((backstitchref3_GraphFault.f k l0_0 l0_1).bind fun t172 => (if t172 = 0 then (if (l1.length : Int) > 50 then (some 2) else (backstitchref3_PairsFault.l0 k l1 (l1.length : Int) 0 l0_0 l0_1)) else (some t172))) = some r := h
  clear h
  replace H := Option.bind_eq_some_iff.mp H
  obtain ⟨t172, A30, H⟩ := H
  replace H : (if t172 = 0 then (if (l1.length : Int) > 50 then (some 2) else (backstitchref3_PairsFault.l0 k l1 (l1.length : Int) 0 l0_0 l0_1)) else (some t172)) = some r := H
  have A3 := Aside0.mk A30
  clear A30
  by_cases c4 : t172 = 0
  · rw [if_pos c4] at H
    have c4b0 : (t172 == 0) = true := beq_iff_eq.mpr c4
    have c4b1 : (t172 != 0) = false := bne_eq_false_iff_eq.mpr c4
    clear c4
    by_cases c5 : (l1.length : Int) > 50
    · rw [if_pos c5] at H
      have c5b0 : decide (50 < (l1.length : Int)) = true := decide_eq_true c5
      have c5b1 : decide (50 < l1.length) = true := decide_eq_true (by omega)
      clear c5
      obtain rfl := Option.some.inj H
      go_enter Try.func47, Try.ntmps47
      go_wp2_with (first | ((with_reducible refine gate_dst (N := 2) rfl ?_); (try (refine gate_guard (by rfl) ?_; dsimp only)); refine box_event ?hg (N := 2) ?hd (cs := #[.slice A0_0 l0_0.length c0_0, .slice A0_1 l0_1.length c0_1]) (t := 87) ?hr ?_; (case hd => rfl); (case hg => rfl); (case hr => first | (go_simp; done) | (go_simp; rfl)); intro gb171 hg w6 hbox hb; have n0_ := Aside0.mk (below_step (by repeat (first | (with_reducible first | exact HB.out | apply below_alloc | apply pw_below_drewN | apply below_drew1) | exact HB.out)) hb); have n1_ := Aside0.mk (hbox); have n2_ := Aside0.mk ((by rw [hg]; exact (below_size (by repeat (first | (with_reducible first | exact HB.out | apply below_alloc | apply pw_below_drewN | apply below_drew1) | exact HB.out))) : w.heap.size ≤ gb171)); have n3_ := Aside0.mk ((by rw [hg]; exact (below_size (by repeat (first | (with_reducible first | exact HB.out | apply below_alloc | apply pw_below_drewN | apply below_drew1) | exact HB.out))) : w.heap.size ≤ gb171)); clear HB; have HB := n0_; have BK171 := n1_; have GW171 := n2_; have GE171 := n3_; clear n0_ n1_ n2_ n3_; clear hb hbox hg; have hcz7_0 : w6.cell? ⟨gb171, 0, none⟩ = some (.slice A0_0 l0_0.length c0_0) := (blk_cell BK171.out 0).trans rfl; have hcz7_1 : w6.cell? ⟨gb171, 1, none⟩ = some (.slice A0_1 l0_1.length c0_1) := (blk_cell BK171.out 1).trans rfl; have hfz7_0 := blk_frozen BK171.out 0; have hfz7_1 := blk_frozen BK171.out 1) | ((with_reducible refine gate_callee (f := 43) rfl ?_); refine goesL_ (some 9) rfl rfl Try.func43 (by kernel_rfl) rfl #[.agg #[.slice A0_0 l0_0.length c0_0, .slice A0_1 l0_1.length c0_1]] rfl (by (try simp only [List.map_toArray, List.map_cons, List.map_nil]); first | done | rfl | (simp only [List.length_drop, List.length_take]; rfl)) ?_; (with_reducible refine (backstitchref3_GraphFault.calls k _ _ l0_0 _ _ l0_1 t172 _ ?side1 ?side2 ?side3 ?side4 A3.out).mono ?_); (case side1 => repeat (first | exact (Kd.C_below HR0_0.out HB.out) | (with_reducible refine Kd.C_alloc ?_ _) | (with_reducible refine Kd.C_drewN ?_ _) | (with_reducible refine Kd.C_drew ?_))); (case side2 => exact HC0_0.out); (case side3 => repeat (first | exact (Kd.C_below HR0_1.out HB.out) | (with_reducible refine Kd.C_alloc ?_ _) | (with_reducible refine Kd.C_drewN ?_ _) | (with_reducible refine Kd.C_drew ?_))); (case side4 => exact HC0_1.out); rintro e w8 ⟨rfl, hb⟩; refine ⟨_, rfl, ?_⟩; have n0_ := Aside0.mk (blk_below (g := gb171) (o := .cells #[.slice A0_0 l0_0.length c0_0, .slice A0_1 l0_1.length c0_1] 87 (0, 0)) (by (with_reducible repeat (first | refine blk_drewN ?_ _ | refine blk_drew ?_ | refine blk_alloc ?_ _)); exact BK171.out) hb); have n1_ := Aside0.mk (below_step (by repeat (first | (with_reducible first | exact HB.out | apply below_alloc | apply pw_below_drewN | apply below_drew1 | refine below_set ?_ GE171.out) | exact HB.out)) hb); clear BK171; clear HB; have BK171 := n0_; have HB := n1_; clear n0_ n1_; (try clear hb); (try clear hb2); (try clear hk); (try clear hi)))
      go_ret
      exact ⟨by first | rfl | (simp [errW_none, errW_some] <;> rfl) | (simp [*, errW_none, errW_some] <;> rfl), by repeat (first | (with_reducible first | exact HB.out | apply below_alloc | apply pw_below_drewN | apply below_drew1 | refine below_set ?_ GE171.out) | exact HB.out)⟩
    · rw [if_neg c5] at H
      have c5b0 : decide (50 < (l1.length : Int)) = false := decide_eq_false c5
      have c5b1 : decide (50 < l1.length) = false := decide_eq_false (by omega)
      clear c5
      have H' := Aside0.mk H
      clear H
      go_enter Try.func47, Try.ntmps47
      go_wp2_with (first | ((with_reducible refine gate_dst (N := 2) rfl ?_); (try (refine gate_guard (by rfl) ?_; dsimp only)); refine box_event ?hg (N := 2) ?hd (cs := #[.slice A0_0 l0_0.length c0_0, .slice A0_1 l0_1.length c0_1]) (t := 87) ?hr ?_; (case hd => rfl); (case hg => rfl); (case hr => first | (go_simp; done) | (go_simp; rfl)); intro gb171 hg w9 hbox hb; have n0_ := Aside0.mk (below_step (by repeat (first | (with_reducible first | exact HB.out | apply below_alloc | apply pw_below_drewN | apply below_drew1) | exact HB.out)) hb); have n1_ := Aside0.mk (hbox); have n2_ := Aside0.mk ((by rw [hg]; exact (below_size (by repeat (first | (with_reducible first | exact HB.out | apply below_alloc | apply pw_below_drewN | apply below_drew1) | exact HB.out))) : w.heap.size ≤ gb171)); have n3_ := Aside0.mk ((by rw [hg]; exact (below_size (by repeat (first | (with_reducible first | exact HB.out | apply below_alloc | apply pw_below_drewN | apply below_drew1) | exact HB.out))) : w.heap.size ≤ gb171)); clear HB; have HB := n0_; have BK171 := n1_; have GW171 := n2_; have GE171 := n3_; clear n0_ n1_ n2_ n3_; clear hb hbox hg; have hcz10_0 : w9.cell? ⟨gb171, 0, none⟩ = some (.slice A0_0 l0_0.length c0_0) := (blk_cell BK171.out 0).trans rfl; have hcz10_1 : w9.cell? ⟨gb171, 1, none⟩ = some (.slice A0_1 l0_1.length c0_1) := (blk_cell BK171.out 1).trans rfl; have hfz10_0 := blk_frozen BK171.out 0; have hfz10_1 := blk_frozen BK171.out 1) | ((with_reducible refine gate_callee (f := 43) rfl ?_); refine goesL_ (some 9) rfl rfl Try.func43 (by kernel_rfl) rfl #[.agg #[.slice A0_0 l0_0.length c0_0, .slice A0_1 l0_1.length c0_1]] rfl (by (try simp only [List.map_toArray, List.map_cons, List.map_nil]); first | done | rfl | (simp only [List.length_drop, List.length_take]; rfl)) ?_; (with_reducible refine (backstitchref3_GraphFault.calls k _ _ l0_0 _ _ l0_1 t172 _ ?side1 ?side2 ?side3 ?side4 A3.out).mono ?_); (case side1 => repeat (first | exact (Kd.C_below HR0_0.out HB.out) | (with_reducible refine Kd.C_alloc ?_ _) | (with_reducible refine Kd.C_drewN ?_ _) | (with_reducible refine Kd.C_drew ?_))); (case side2 => exact HC0_0.out); (case side3 => repeat (first | exact (Kd.C_below HR0_1.out HB.out) | (with_reducible refine Kd.C_alloc ?_ _) | (with_reducible refine Kd.C_drewN ?_ _) | (with_reducible refine Kd.C_drew ?_))); (case side4 => exact HC0_1.out); rintro e w11 ⟨rfl, hb⟩; refine ⟨_, rfl, ?_⟩; have n0_ := Aside0.mk (blk_below (g := gb171) (o := .cells #[.slice A0_0 l0_0.length c0_0, .slice A0_1 l0_1.length c0_1] 87 (0, 0)) (by (with_reducible repeat (first | refine blk_drewN ?_ _ | refine blk_drew ?_ | refine blk_alloc ?_ _)); exact BK171.out) hb); have n1_ := Aside0.mk (below_step (by repeat (first | (with_reducible first | exact HB.out | apply below_alloc | apply pw_below_drewN | apply below_drew1 | refine below_set ?_ GE171.out) | exact HB.out)) hb); clear BK171; clear HB; have BK171 := n0_; have HB := n1_; clear n0_ n1_; (try clear hb); (try clear hb2); (try clear hk); (try clear hi)))
      go_loopg [18] k (fun kq v18 w' => ∃ (x18_1 : Int), v18 = .int .i64 x18_1 ∧ Aside0 (backstitchref3_PairsFault.l0 kq l1 (l1.length : Int) x18_1 l0_0 l0_1 = some r) ∧ Aside0 (kq ≤ k) ∧ Aside0 (w'.heap[gb171]? = some (.cells #[(.slice A0_0 l0_0.length c0_0), (.slice A0_1 l0_1.length c0_1)] 87 (0, 0))) ∧ Aside0 (Below w.heap.size w w'))
      case atStart => exact ⟨(0), (by first | rfl | (simp; done) | (simp [*]; done)), H', ⟨Nat.le_refl _⟩, ⟨by (with_reducible repeat (first | refine blk_drewN ?_ _ | refine blk_drew ?_ | refine blk_alloc ?_ _)); exact BK171.out⟩, ⟨by repeat (first | (with_reducible first | exact HB.out | apply below_alloc | apply pw_below_drewN | apply below_drew1 | refine below_set ?_ GE171.out) | exact HB.out)⟩⟩
      case round =>
        clear H'
        try clear c1
        try clear p2
        try clear c4
        try clear c4b0
        try clear c4b1
        try clear c5
        try clear c5b0
        try clear c5b1
        try clear hcz10_0
        try clear hcz10_1
        try clear hcz7_0
        try clear hcz7_1
        try clear hfz10_0
        try clear hfz10_1
        try clear hfz7_0
        try clear hfz7_1
        obtain ⟨x18_1, rfl, HA, HK1, BK171, HB⟩ := hrel
        cases gk with
        | zero => exact absurd HA.out (by simp [backstitchref3_PairsFault.l0])
        | succ k1 =>
          have H := HA.out
          clear HA
          simp only [backstitchref3_PairsFault.l0] at H
          by_cases c12 : x18_1 < (l1.length : Int)
          · rw [if_pos c12] at H
            have c12b0 : decide (x18_1 < (l1.length : Int)) = true := decide_eq_true c12
            clear c12
            by_cases c13 : 0 ≤ x18_1
            · rw [if_pos c13] at H
              have c13b0 : decide (0 ≤ x18_1) = true := decide_eq_true c13
              clear c13
              by_cases c14 : x18_1 < (l1.length : Int)
              · rw [if_pos c14] at H
                have c14b0 : decide (x18_1 < (l1.length : Int)) = true := decide_eq_true c14
                clear c14
                by_cases c15 : ((rd_T100 l1 x18_1).f0) < 0
                · rw [if_pos c15] at H
                  have c15b0 : decide (((rd_T100 l1 x18_1).f0) < 0) = true := decide_eq_true c15
                  clear c15
                  obtain rfl := Option.some.inj H
                  have p173 : 0 ≤ (x18_1 : Int) := of_decide_eq_true (by first | (with_reducible assumption) | assumption)
                  have q173 : x18_1 < (l1.length : Int) := of_decide_eq_true (by first | (with_reducible assumption) | assumption)
                  obtain ⟨ad173, e173, hx173_0, hx173_1⟩ := at_T100 HR1.out x18_1 p173 q173
                  cases e173
                  try replace hx173_0 := (HB.out.cell (World.block_lt_of_cell? w _ hx173_0)).trans hx173_0
                  try replace hx173_1 := (HB.out.cell (World.block_lt_of_cell? w _ hx173_1)).trans hx173_1
                  replace p173 := eq_true p173
                  replace q173 := eq_true q173
                  go_wp2_with (first | ((with_reducible refine gate_dst (N := 7) rfl ?_); (try (refine gate_guard (by rfl) ?_; dsimp only)); refine box_event ?hg (N := 7) ?hd (cs := #[.int .i64 0, .int .i64 0]) (t := 100) ?hr ?_; (case hd => rfl); (case hg => rfl); (case hr => first | (go_simp; done) | (go_simp; rfl)); intro gb174 hg w16 hbox hb; have n0_ := Aside0.mk (blk_below (g := gb171) (o := .cells #[.slice A0_0 l0_0.length c0_0, .slice A0_1 l0_1.length c0_1] 87 (0, 0)) (by (with_reducible repeat (first | refine blk_drewN ?_ _ | refine blk_drew ?_ | refine blk_alloc ?_ _)); exact BK171.out) hb); have n1_ := Aside0.mk (below_step (by repeat (first | (with_reducible first | exact HB.out | apply below_alloc | apply pw_below_drewN | apply below_drew1 | refine below_set ?_ GE171.out) | exact HB.out)) hb); have n2_ := Aside0.mk (hbox); have n3_ := Aside0.mk ((by rw [hg]; exact (below_size (by repeat (first | (with_reducible first | exact HB.out | apply below_alloc | apply pw_below_drewN | apply below_drew1 | refine below_set ?_ GE171.out) | exact HB.out))) : w.heap.size ≤ gb174)); have n4_ := Aside0.mk ((by rw [hg]; exact (below_size (by repeat (first | (with_reducible first | exact HB.out | apply below_alloc | apply pw_below_drewN | apply below_drew1 | refine below_set ?_ GE171.out) | exact HB.out))) : w.heap.size ≤ gb174)); have n5_ := Aside0.mk ((by rw [hg]; exact Nat.ne_of_lt (blk_lt (g := gb171) (o := .cells #[.slice A0_0 l0_0.length c0_0, .slice A0_1 l0_1.length c0_1] 87 (0, 0)) (by (with_reducible repeat (first | refine blk_drewN ?_ _ | refine blk_drew ?_ | refine blk_alloc ?_ _)); exact BK171.out)) : gb171 ≠ gb174)); have n6_ := Aside0.mk ((by rw [hg]; exact Nat.ne_of_gt (blk_lt (g := gb171) (o := .cells #[.slice A0_0 l0_0.length c0_0, .slice A0_1 l0_1.length c0_1] 87 (0, 0)) (by (with_reducible repeat (first | refine blk_drewN ?_ _ | refine blk_drew ?_ | refine blk_alloc ?_ _)); exact BK171.out)) : gb174 ≠ gb171)); clear BK171; clear HB; have BK171 := n0_; have HB := n1_; have BK174 := n2_; have GW174 := n3_; have GE174 := n4_; have NB171_174 := n5_; have NB174_171 := n6_; clear n0_ n1_ n2_ n3_ n4_ n5_ n6_; clear hb hbox hg; have hnb17 := NB174_171.out; have hnc17 := NB171_174.out; have hcz18_0 : w16.cell? ⟨gb174, 0, none⟩ = some (.int .i64 0) := (blk_cell BK174.out 0).trans rfl; have hcz18_1 : w16.cell? ⟨gb174, 1, none⟩ = some (.int .i64 0) := (blk_cell BK174.out 1).trans rfl; have hfz18_0 := blk_frozen BK174.out 0; have hfz18_1 := blk_frozen BK174.out 1))
                  go_ret
                  exact ⟨by first | rfl | (simp [errW_none, errW_some] <;> rfl) | (simp [*, errW_none, errW_some] <;> rfl), by repeat (first | (with_reducible first | exact HB.out | apply below_alloc | apply pw_below_drewN | apply below_drew1 | refine below_set ?_ GE171.out | refine below_set ?_ GE174.out) | exact HB.out)⟩
                · rw [if_neg c15] at H
                  have c15b0 : decide (((rd_T100 l1 x18_1).f0) < 0) = false := decide_eq_false c15
                  clear c15
                  by_cases c19 : ((rd_T100 l1 x18_1).f0) ≥ (l0_0.length : Int)
                  · rw [if_pos c19] at H
                    have c19b0 : decide ((l0_0.length : Int) ≤ ((rd_T100 l1 x18_1).f0)) = true := decide_eq_true c19
                    clear c19
                    obtain rfl := Option.some.inj H
                    have p173 : 0 ≤ (x18_1 : Int) := of_decide_eq_true (by first | (with_reducible assumption) | assumption)
                    have q173 : x18_1 < (l1.length : Int) := of_decide_eq_true (by first | (with_reducible assumption) | assumption)
                    obtain ⟨ad173, e173, hx173_0, hx173_1⟩ := at_T100 HR1.out x18_1 p173 q173
                    cases e173
                    try replace hx173_0 := (HB.out.cell (World.block_lt_of_cell? w _ hx173_0)).trans hx173_0
                    try replace hx173_1 := (HB.out.cell (World.block_lt_of_cell? w _ hx173_1)).trans hx173_1
                    replace p173 := eq_true p173
                    replace q173 := eq_true q173
                    go_wp2_with (first | ((with_reducible refine gate_dst (N := 7) rfl ?_); (try (refine gate_guard (by rfl) ?_; dsimp only)); refine box_event ?hg (N := 7) ?hd (cs := #[.int .i64 0, .int .i64 0]) (t := 100) ?hr ?_; (case hd => rfl); (case hg => rfl); (case hr => first | (go_simp; done) | (go_simp; rfl)); intro gb174 hg w20 hbox hb; have n0_ := Aside0.mk (blk_below (g := gb171) (o := .cells #[.slice A0_0 l0_0.length c0_0, .slice A0_1 l0_1.length c0_1] 87 (0, 0)) (by (with_reducible repeat (first | refine blk_drewN ?_ _ | refine blk_drew ?_ | refine blk_alloc ?_ _)); exact BK171.out) hb); have n1_ := Aside0.mk (below_step (by repeat (first | (with_reducible first | exact HB.out | apply below_alloc | apply pw_below_drewN | apply below_drew1 | refine below_set ?_ GE171.out) | exact HB.out)) hb); have n2_ := Aside0.mk (hbox); have n3_ := Aside0.mk ((by rw [hg]; exact (below_size (by repeat (first | (with_reducible first | exact HB.out | apply below_alloc | apply pw_below_drewN | apply below_drew1 | refine below_set ?_ GE171.out) | exact HB.out))) : w.heap.size ≤ gb174)); have n4_ := Aside0.mk ((by rw [hg]; exact (below_size (by repeat (first | (with_reducible first | exact HB.out | apply below_alloc | apply pw_below_drewN | apply below_drew1 | refine below_set ?_ GE171.out) | exact HB.out))) : w.heap.size ≤ gb174)); have n5_ := Aside0.mk ((by rw [hg]; exact Nat.ne_of_lt (blk_lt (g := gb171) (o := .cells #[.slice A0_0 l0_0.length c0_0, .slice A0_1 l0_1.length c0_1] 87 (0, 0)) (by (with_reducible repeat (first | refine blk_drewN ?_ _ | refine blk_drew ?_ | refine blk_alloc ?_ _)); exact BK171.out)) : gb171 ≠ gb174)); have n6_ := Aside0.mk ((by rw [hg]; exact Nat.ne_of_gt (blk_lt (g := gb171) (o := .cells #[.slice A0_0 l0_0.length c0_0, .slice A0_1 l0_1.length c0_1] 87 (0, 0)) (by (with_reducible repeat (first | refine blk_drewN ?_ _ | refine blk_drew ?_ | refine blk_alloc ?_ _)); exact BK171.out)) : gb174 ≠ gb171)); clear BK171; clear HB; have BK171 := n0_; have HB := n1_; have BK174 := n2_; have GW174 := n3_; have GE174 := n4_; have NB171_174 := n5_; have NB174_171 := n6_; clear n0_ n1_ n2_ n3_ n4_ n5_ n6_; clear hb hbox hg; have hnb21 := NB174_171.out; have hnc21 := NB171_174.out; have hcz22_0 : w20.cell? ⟨gb174, 0, none⟩ = some (.int .i64 0) := (blk_cell BK174.out 0).trans rfl; have hcz22_1 : w20.cell? ⟨gb174, 1, none⟩ = some (.int .i64 0) := (blk_cell BK174.out 1).trans rfl; have hfz22_0 := blk_frozen BK174.out 0; have hfz22_1 := blk_frozen BK174.out 1; have hcz23_0 : w20.cell? ⟨gb171, 0, none⟩ = some (.slice A0_0 l0_0.length c0_0) := (blk_cell BK171.out 0).trans rfl; have hcz23_1 : w20.cell? ⟨gb171, 1, none⟩ = some (.slice A0_1 l0_1.length c0_1) := (blk_cell BK171.out 1).trans rfl; have hfz23_0 := blk_frozen BK171.out 0; have hfz23_1 := blk_frozen BK171.out 1))
                    go_ret
                    exact ⟨by first | rfl | (simp [errW_none, errW_some] <;> rfl) | (simp [*, errW_none, errW_some] <;> rfl), by repeat (first | (with_reducible first | exact HB.out | apply below_alloc | apply pw_below_drewN | apply below_drew1 | refine below_set ?_ GE171.out | refine below_set ?_ GE174.out) | exact HB.out)⟩
                  · rw [if_neg c19] at H
                    have c19b0 : decide ((l0_0.length : Int) ≤ ((rd_T100 l1 x18_1).f0)) = false := decide_eq_false c19
                    clear c19
                    by_cases c24 : ((rd_T100 l1 x18_1).f1) < 0
                    · rw [if_pos c24] at H
                      have c24b0 : decide (((rd_T100 l1 x18_1).f1) < 0) = true := decide_eq_true c24
                      clear c24
                      obtain rfl := Option.some.inj H
                      have p173 : 0 ≤ (x18_1 : Int) := of_decide_eq_true (by first | (with_reducible assumption) | assumption)
                      have q173 : x18_1 < (l1.length : Int) := of_decide_eq_true (by first | (with_reducible assumption) | assumption)
                      obtain ⟨ad173, e173, hx173_0, hx173_1⟩ := at_T100 HR1.out x18_1 p173 q173
                      cases e173
                      try replace hx173_0 := (HB.out.cell (World.block_lt_of_cell? w _ hx173_0)).trans hx173_0
                      try replace hx173_1 := (HB.out.cell (World.block_lt_of_cell? w _ hx173_1)).trans hx173_1
                      replace p173 := eq_true p173
                      replace q173 := eq_true q173
                      go_wp2_with (first | ((with_reducible refine gate_dst (N := 7) rfl ?_); (try (refine gate_guard (by rfl) ?_; dsimp only)); refine box_event ?hg (N := 7) ?hd (cs := #[.int .i64 0, .int .i64 0]) (t := 100) ?hr ?_; (case hd => rfl); (case hg => rfl); (case hr => first | (go_simp; done) | (go_simp; rfl)); intro gb174 hg w25 hbox hb; have n0_ := Aside0.mk (blk_below (g := gb171) (o := .cells #[.slice A0_0 l0_0.length c0_0, .slice A0_1 l0_1.length c0_1] 87 (0, 0)) (by (with_reducible repeat (first | refine blk_drewN ?_ _ | refine blk_drew ?_ | refine blk_alloc ?_ _)); exact BK171.out) hb); have n1_ := Aside0.mk (below_step (by repeat (first | (with_reducible first | exact HB.out | apply below_alloc | apply pw_below_drewN | apply below_drew1 | refine below_set ?_ GE171.out) | exact HB.out)) hb); have n2_ := Aside0.mk (hbox); have n3_ := Aside0.mk ((by rw [hg]; exact (below_size (by repeat (first | (with_reducible first | exact HB.out | apply below_alloc | apply pw_below_drewN | apply below_drew1 | refine below_set ?_ GE171.out) | exact HB.out))) : w.heap.size ≤ gb174)); have n4_ := Aside0.mk ((by rw [hg]; exact (below_size (by repeat (first | (with_reducible first | exact HB.out | apply below_alloc | apply pw_below_drewN | apply below_drew1 | refine below_set ?_ GE171.out) | exact HB.out))) : w.heap.size ≤ gb174)); have n5_ := Aside0.mk ((by rw [hg]; exact Nat.ne_of_lt (blk_lt (g := gb171) (o := .cells #[.slice A0_0 l0_0.length c0_0, .slice A0_1 l0_1.length c0_1] 87 (0, 0)) (by (with_reducible repeat (first | refine blk_drewN ?_ _ | refine blk_drew ?_ | refine blk_alloc ?_ _)); exact BK171.out)) : gb171 ≠ gb174)); have n6_ := Aside0.mk ((by rw [hg]; exact Nat.ne_of_gt (blk_lt (g := gb171) (o := .cells #[.slice A0_0 l0_0.length c0_0, .slice A0_1 l0_1.length c0_1] 87 (0, 0)) (by (with_reducible repeat (first | refine blk_drewN ?_ _ | refine blk_drew ?_ | refine blk_alloc ?_ _)); exact BK171.out)) : gb174 ≠ gb171)); clear BK171; clear HB; have BK171 := n0_; have HB := n1_; have BK174 := n2_; have GW174 := n3_; have GE174 := n4_; have NB171_174 := n5_; have NB174_171 := n6_; clear n0_ n1_ n2_ n3_ n4_ n5_ n6_; clear hb hbox hg; have hnb26 := NB174_171.out; have hnc26 := NB171_174.out; have hcz27_0 : w25.cell? ⟨gb174, 0, none⟩ = some (.int .i64 0) := (blk_cell BK174.out 0).trans rfl; have hcz27_1 : w25.cell? ⟨gb174, 1, none⟩ = some (.int .i64 0) := (blk_cell BK174.out 1).trans rfl; have hfz27_0 := blk_frozen BK174.out 0; have hfz27_1 := blk_frozen BK174.out 1; have hcz28_0 : w25.cell? ⟨gb171, 0, none⟩ = some (.slice A0_0 l0_0.length c0_0) := (blk_cell BK171.out 0).trans rfl; have hcz28_1 : w25.cell? ⟨gb171, 1, none⟩ = some (.slice A0_1 l0_1.length c0_1) := (blk_cell BK171.out 1).trans rfl; have hfz28_0 := blk_frozen BK171.out 0; have hfz28_1 := blk_frozen BK171.out 1))
                      go_ret
                      exact ⟨by first | rfl | (simp [errW_none, errW_some] <;> rfl) | (simp [*, errW_none, errW_some] <;> rfl), by repeat (first | (with_reducible first | exact HB.out | apply below_alloc | apply pw_below_drewN | apply below_drew1 | refine below_set ?_ GE171.out | refine below_set ?_ GE174.out) | exact HB.out)⟩
                    · rw [if_neg c24] at H
                      have c24b0 : decide (((rd_T100 l1 x18_1).f1) < 0) = false := decide_eq_false c24
                      clear c24
                      by_cases c29 : ((rd_T100 l1 x18_1).f1) ≥ (l0_0.length : Int)
                      · rw [if_pos c29] at H
                        have c29b0 : decide ((l0_0.length : Int) ≤ ((rd_T100 l1 x18_1).f1)) = true := decide_eq_true c29
                        clear c29
                        obtain rfl := Option.some.inj H
                        have p173 : 0 ≤ (x18_1 : Int) := of_decide_eq_true (by first | (with_reducible assumption) | assumption)
                        have q173 : x18_1 < (l1.length : Int) := of_decide_eq_true (by first | (with_reducible assumption) | assumption)
                        obtain ⟨ad173, e173, hx173_0, hx173_1⟩ := at_T100 HR1.out x18_1 p173 q173
                        cases e173
                        try replace hx173_0 := (HB.out.cell (World.block_lt_of_cell? w _ hx173_0)).trans hx173_0
                        try replace hx173_1 := (HB.out.cell (World.block_lt_of_cell? w _ hx173_1)).trans hx173_1
                        replace p173 := eq_true p173
                        replace q173 := eq_true q173
                        go_wp2_with (first | ((with_reducible refine gate_dst (N := 7) rfl ?_); (try (refine gate_guard (by rfl) ?_; dsimp only)); refine box_event ?hg (N := 7) ?hd (cs := #[.int .i64 0, .int .i64 0]) (t := 100) ?hr ?_; (case hd => rfl); (case hg => rfl); (case hr => first | (go_simp; done) | (go_simp; rfl)); intro gb174 hg w30 hbox hb; have n0_ := Aside0.mk (blk_below (g := gb171) (o := .cells #[.slice A0_0 l0_0.length c0_0, .slice A0_1 l0_1.length c0_1] 87 (0, 0)) (by (with_reducible repeat (first | refine blk_drewN ?_ _ | refine blk_drew ?_ | refine blk_alloc ?_ _)); exact BK171.out) hb); have n1_ := Aside0.mk (below_step (by repeat (first | (with_reducible first | exact HB.out | apply below_alloc | apply pw_below_drewN | apply below_drew1 | refine below_set ?_ GE171.out) | exact HB.out)) hb); have n2_ := Aside0.mk (hbox); have n3_ := Aside0.mk ((by rw [hg]; exact (below_size (by repeat (first | (with_reducible first | exact HB.out | apply below_alloc | apply pw_below_drewN | apply below_drew1 | refine below_set ?_ GE171.out) | exact HB.out))) : w.heap.size ≤ gb174)); have n4_ := Aside0.mk ((by rw [hg]; exact (below_size (by repeat (first | (with_reducible first | exact HB.out | apply below_alloc | apply pw_below_drewN | apply below_drew1 | refine below_set ?_ GE171.out) | exact HB.out))) : w.heap.size ≤ gb174)); have n5_ := Aside0.mk ((by rw [hg]; exact Nat.ne_of_lt (blk_lt (g := gb171) (o := .cells #[.slice A0_0 l0_0.length c0_0, .slice A0_1 l0_1.length c0_1] 87 (0, 0)) (by (with_reducible repeat (first | refine blk_drewN ?_ _ | refine blk_drew ?_ | refine blk_alloc ?_ _)); exact BK171.out)) : gb171 ≠ gb174)); have n6_ := Aside0.mk ((by rw [hg]; exact Nat.ne_of_gt (blk_lt (g := gb171) (o := .cells #[.slice A0_0 l0_0.length c0_0, .slice A0_1 l0_1.length c0_1] 87 (0, 0)) (by (with_reducible repeat (first | refine blk_drewN ?_ _ | refine blk_drew ?_ | refine blk_alloc ?_ _)); exact BK171.out)) : gb174 ≠ gb171)); clear BK171; clear HB; have BK171 := n0_; have HB := n1_; have BK174 := n2_; have GW174 := n3_; have GE174 := n4_; have NB171_174 := n5_; have NB174_171 := n6_; clear n0_ n1_ n2_ n3_ n4_ n5_ n6_; clear hb hbox hg; have hnb31 := NB174_171.out; have hnc31 := NB171_174.out; have hcz32_0 : w30.cell? ⟨gb174, 0, none⟩ = some (.int .i64 0) := (blk_cell BK174.out 0).trans rfl; have hcz32_1 : w30.cell? ⟨gb174, 1, none⟩ = some (.int .i64 0) := (blk_cell BK174.out 1).trans rfl; have hfz32_0 := blk_frozen BK174.out 0; have hfz32_1 := blk_frozen BK174.out 1; have hcz33_0 : w30.cell? ⟨gb171, 0, none⟩ = some (.slice A0_0 l0_0.length c0_0) := (blk_cell BK171.out 0).trans rfl; have hcz33_1 : w30.cell? ⟨gb171, 1, none⟩ = some (.slice A0_1 l0_1.length c0_1) := (blk_cell BK171.out 1).trans rfl; have hfz33_0 := blk_frozen BK171.out 0; have hfz33_1 := blk_frozen BK171.out 1))
                        go_ret
                        exact ⟨by first | rfl | (simp [errW_none, errW_some] <;> rfl) | (simp [*, errW_none, errW_some] <;> rfl), by repeat (first | (with_reducible first | exact HB.out | apply below_alloc | apply pw_below_drewN | apply below_drew1 | refine below_set ?_ GE171.out | refine below_set ?_ GE174.out) | exact HB.out)⟩
                      · rw [if_neg c29] at H
                        have c29b0 : decide ((l0_0.length : Int) ≤ ((rd_T100 l1 x18_1).f1)) = false := decide_eq_false c29
                        clear c29
                        have H' := Aside0.mk H
                        clear H
                        have p173 : 0 ≤ (x18_1 : Int) := of_decide_eq_true (by first | (with_reducible assumption) | assumption)
                        have q173 : x18_1 < (l1.length : Int) := of_decide_eq_true (by first | (with_reducible assumption) | assumption)
                        obtain ⟨ad173, e173, hx173_0, hx173_1⟩ := at_T100 HR1.out x18_1 p173 q173
                        cases e173
                        try replace hx173_0 := (HB.out.cell (World.block_lt_of_cell? w _ hx173_0)).trans hx173_0
                        try replace hx173_1 := (HB.out.cell (World.block_lt_of_cell? w _ hx173_1)).trans hx173_1
                        replace p173 := eq_true p173
                        replace q173 := eq_true q173
                        go_wp2_with (first | ((with_reducible refine gate_dst (N := 7) rfl ?_); (try (refine gate_guard (by rfl) ?_; dsimp only)); refine box_event ?hg (N := 7) ?hd (cs := #[.int .i64 0, .int .i64 0]) (t := 100) ?hr ?_; (case hd => rfl); (case hg => rfl); (case hr => first | (go_simp; done) | (go_simp; rfl)); intro gb174 hg w34 hbox hb; have n0_ := Aside0.mk (blk_below (g := gb171) (o := .cells #[.slice A0_0 l0_0.length c0_0, .slice A0_1 l0_1.length c0_1] 87 (0, 0)) (by (with_reducible repeat (first | refine blk_drewN ?_ _ | refine blk_drew ?_ | refine blk_alloc ?_ _)); exact BK171.out) hb); have n1_ := Aside0.mk (below_step (by repeat (first | (with_reducible first | exact HB.out | apply below_alloc | apply pw_below_drewN | apply below_drew1 | refine below_set ?_ GE171.out) | exact HB.out)) hb); have n2_ := Aside0.mk (hbox); have n3_ := Aside0.mk ((by rw [hg]; exact (below_size (by repeat (first | (with_reducible first | exact HB.out | apply below_alloc | apply pw_below_drewN | apply below_drew1 | refine below_set ?_ GE171.out) | exact HB.out))) : w.heap.size ≤ gb174)); have n4_ := Aside0.mk ((by rw [hg]; exact (below_size (by repeat (first | (with_reducible first | exact HB.out | apply below_alloc | apply pw_below_drewN | apply below_drew1 | refine below_set ?_ GE171.out) | exact HB.out))) : w.heap.size ≤ gb174)); have n5_ := Aside0.mk ((by rw [hg]; exact Nat.ne_of_lt (blk_lt (g := gb171) (o := .cells #[.slice A0_0 l0_0.length c0_0, .slice A0_1 l0_1.length c0_1] 87 (0, 0)) (by (with_reducible repeat (first | refine blk_drewN ?_ _ | refine blk_drew ?_ | refine blk_alloc ?_ _)); exact BK171.out)) : gb171 ≠ gb174)); have n6_ := Aside0.mk ((by rw [hg]; exact Nat.ne_of_gt (blk_lt (g := gb171) (o := .cells #[.slice A0_0 l0_0.length c0_0, .slice A0_1 l0_1.length c0_1] 87 (0, 0)) (by (with_reducible repeat (first | refine blk_drewN ?_ _ | refine blk_drew ?_ | refine blk_alloc ?_ _)); exact BK171.out)) : gb174 ≠ gb171)); clear BK171; clear HB; have BK171 := n0_; have HB := n1_; have BK174 := n2_; have GW174 := n3_; have GE174 := n4_; have NB171_174 := n5_; have NB174_171 := n6_; clear n0_ n1_ n2_ n3_ n4_ n5_ n6_; clear hb hbox hg; have hnb35 := NB174_171.out; have hnc35 := NB171_174.out; have hcz36_0 : w34.cell? ⟨gb174, 0, none⟩ = some (.int .i64 0) := (blk_cell BK174.out 0).trans rfl; have hcz36_1 : w34.cell? ⟨gb174, 1, none⟩ = some (.int .i64 0) := (blk_cell BK174.out 1).trans rfl; have hfz36_0 := blk_frozen BK174.out 0; have hfz36_1 := blk_frozen BK174.out 1; have hcz37_0 : w34.cell? ⟨gb171, 0, none⟩ = some (.slice A0_0 l0_0.length c0_0) := (blk_cell BK171.out 0).trans rfl; have hcz37_1 : w34.cell? ⟨gb171, 1, none⟩ = some (.slice A0_1 l0_1.length c0_1) := (blk_cell BK171.out 1).trans rfl; have hfz37_0 := blk_frozen BK171.out 0; have hfz37_1 := blk_frozen BK171.out 1))
                        go_roundg k1
                        case measure => have := HK1.out; omega
                        case rel => exact ⟨(wrap64 (x18_1 + 1)), (by first | rfl | (simp; done) | (simp [*]; done)), H', ⟨by have := HK1.out; omega⟩, ⟨by (with_reducible repeat (first | refine blk_drewN ?_ _ | refine blk_drew ?_ | refine blk_alloc ?_ _)); refine blk_far ?_ NB171_174.out _; (with_reducible repeat (first | refine blk_drewN ?_ _ | refine blk_drew ?_ | refine blk_alloc ?_ _)); refine blk_far ?_ NB171_174.out _; (with_reducible repeat (first | refine blk_drewN ?_ _ | refine blk_drew ?_ | refine blk_alloc ?_ _)); exact BK171.out⟩, ⟨by repeat (first | (with_reducible first | exact HB.out | apply below_alloc | apply pw_below_drewN | apply below_drew1 | refine below_set ?_ GE171.out | refine below_set ?_ GE174.out) | exact HB.out)⟩⟩
              · rw [if_neg c14] at H
                exact absurd H (by simp)
            · rw [if_neg c13] at H
              exact absurd H (by simp)
          · rw [if_neg c12] at H
            have c12b0 : decide (x18_1 < (l1.length : Int)) = false := decide_eq_false c12
            clear c12
            obtain rfl := Option.some.inj H
            go_wp2
            go_ret
            exact ⟨by first | rfl | (simp [errW_none, errW_some] <;> rfl) | (simp [*, errW_none, errW_some] <;> rfl), by repeat (first | (with_reducible first | exact HB.out | apply below_alloc | apply pw_below_drewN | apply below_drew1 | refine below_set ?_ GE171.out) | exact HB.out)⟩
  · rw [if_neg c4] at H
    have c4b0 : (t172 == 0) = false := beq_eq_false_iff_ne.mpr c4
    have c4b1 : (t172 != 0) = true := bne_iff_ne.mpr c4
    obtain rfl := Option.some.inj H
    go_enter Try.func47, Try.ntmps47
    go_wp2_with (first | ((with_reducible refine gate_dst (N := 2) rfl ?_); (try (refine gate_guard (by rfl) ?_; dsimp only)); refine box_event ?hg (N := 2) ?hd (cs := #[.slice A0_0 l0_0.length c0_0, .slice A0_1 l0_1.length c0_1]) (t := 87) ?hr ?_; (case hd => rfl); (case hg => rfl); (case hr => first | (go_simp; done) | (go_simp; rfl)); intro gb171 hg w38 hbox hb; have n0_ := Aside0.mk (below_step (by repeat (first | (with_reducible first | exact HB.out | apply below_alloc | apply pw_below_drewN | apply below_drew1) | exact HB.out)) hb); have n1_ := Aside0.mk (hbox); have n2_ := Aside0.mk ((by rw [hg]; exact (below_size (by repeat (first | (with_reducible first | exact HB.out | apply below_alloc | apply pw_below_drewN | apply below_drew1) | exact HB.out))) : w.heap.size ≤ gb171)); have n3_ := Aside0.mk ((by rw [hg]; exact (below_size (by repeat (first | (with_reducible first | exact HB.out | apply below_alloc | apply pw_below_drewN | apply below_drew1) | exact HB.out))) : w.heap.size ≤ gb171)); clear HB; have HB := n0_; have BK171 := n1_; have GW171 := n2_; have GE171 := n3_; clear n0_ n1_ n2_ n3_; clear hb hbox hg; have hcz39_0 : w38.cell? ⟨gb171, 0, none⟩ = some (.slice A0_0 l0_0.length c0_0) := (blk_cell BK171.out 0).trans rfl; have hcz39_1 : w38.cell? ⟨gb171, 1, none⟩ = some (.slice A0_1 l0_1.length c0_1) := (blk_cell BK171.out 1).trans rfl; have hfz39_0 := blk_frozen BK171.out 0; have hfz39_1 := blk_frozen BK171.out 1) | ((with_reducible refine gate_callee (f := 43) rfl ?_); refine goesL_ (some 9) rfl rfl Try.func43 (by kernel_rfl) rfl #[.agg #[.slice A0_0 l0_0.length c0_0, .slice A0_1 l0_1.length c0_1]] rfl (by (try simp only [List.map_toArray, List.map_cons, List.map_nil]); first | done | rfl | (simp only [List.length_drop, List.length_take]; rfl)) ?_; (with_reducible refine (backstitchref3_GraphFault.calls k _ _ l0_0 _ _ l0_1 t172 _ ?side1 ?side2 ?side3 ?side4 A3.out).mono ?_); (case side1 => repeat (first | exact (Kd.C_below HR0_0.out HB.out) | (with_reducible refine Kd.C_alloc ?_ _) | (with_reducible refine Kd.C_drewN ?_ _) | (with_reducible refine Kd.C_drew ?_))); (case side2 => exact HC0_0.out); (case side3 => repeat (first | exact (Kd.C_below HR0_1.out HB.out) | (with_reducible refine Kd.C_alloc ?_ _) | (with_reducible refine Kd.C_drewN ?_ _) | (with_reducible refine Kd.C_drew ?_))); (case side4 => exact HC0_1.out); rintro e w40 ⟨rfl, hb⟩; refine ⟨_, rfl, ?_⟩; have n0_ := Aside0.mk (blk_below (g := gb171) (o := .cells #[.slice A0_0 l0_0.length c0_0, .slice A0_1 l0_1.length c0_1] 87 (0, 0)) (by (with_reducible repeat (first | refine blk_drewN ?_ _ | refine blk_drew ?_ | refine blk_alloc ?_ _)); exact BK171.out) hb); have n1_ := Aside0.mk (below_step (by repeat (first | (with_reducible first | exact HB.out | apply below_alloc | apply pw_below_drewN | apply below_drew1 | refine below_set ?_ GE171.out) | exact HB.out)) hb); clear BK171; clear HB; have BK171 := n0_; have HB := n1_; clear n0_ n1_; (try clear hb); (try clear hb2); (try clear hk); (try clear hi)))
    go_ret
    exact ⟨by first | rfl | (simp [errW_none, errW_some] <;> rfl) | (simp [*, errW_none, errW_some] <;> rfl), by repeat (first | (with_reducible first | exact HB.out | apply below_alloc | apply pw_below_drewN | apply below_drew1 | refine below_set ?_ GE171.out) | exact HB.out)⟩

/-! ### backstitchref3_Rising: function 49 -/
def backstitchref3_Rising.l0 : Nat → List Int → List Bool → Int → Int → Option (List Int)
  | 0, _, _, _, _ => none
  | k + 1, x3, x6, x7, x8 => if x8 < x7 then (if 0 ≤ x8 then (if x8 < (x6.length : Int) then (if rdOf false x6 x8 = true then (if x3.length < 17592186044416 then (backstitchref3_Rising.l0 k (x3 ++ [x8]) x6 x7 (wrap64 (x8 + 1))) else (none)) else (backstitchref3_Rising.l0 k x3 x6 x7 (wrap64 (x8 + 1)))) else (none)) else (none)) else (some x3)
def backstitchref3_Rising.f (k : Nat) (l0 : List Bool) : Option (List Int) := backstitchref3_Rising.l0 k ([] : List Int) l0 (l0.length : Int) 0
theorem backstitchref3_Rising.mono_l : ∀ k, (∀ y0 y1 y2 y3, LeO (backstitchref3_Rising.l0 k y0 y1 y2 y3) (backstitchref3_Rising.l0 (k + 1) y0 y1 y2 y3))
  | 0 => fun _ _ _ _ r h => by simp [backstitchref3_Rising.l0] at h
  | k + 1 => by
    have ih0 := backstitchref3_Rising.mono_l k
    · intro y0 y1 y2 y3
      unfold backstitchref3_Rising.l0
      repeat' first
      | (with_reducible exact ih0 _ _ _ _)
      | (with_reducible exact LeO.refl _)
      | (with_reducible exact LeO.none _)
      | (with_reducible refine LeO.ite ?_ ?_)
      | (with_reducible refine LeO.bind ?_ (fun _ => ?_))
      | exact ih0 _ _ _ _
      | exact LeO.none _
      | refine LeO.ite ?_ ?_
      | refine LeO.bind ?_ (fun _ => ?_)
theorem backstitchref3_Rising.mono : ∀ a0 k, LeO (backstitchref3_Rising.f k a0) (backstitchref3_Rising.f (k + 1) a0) := by
  intro a0 k
  have ih0 := backstitchref3_Rising.mono_l k
  unfold backstitchref3_Rising.f
  repeat' first
      | (with_reducible exact ih0 _ _ _ _)
      | (with_reducible exact LeO.refl _)
      | (with_reducible exact LeO.none _)
      | (with_reducible refine LeO.ite ?_ ?_)
      | (with_reducible refine LeO.bind ?_ (fun _ => ?_))
      | exact ih0 _ _ _ _
      | exact LeO.none _
      | refine LeO.ite ?_ ?_
      | refine LeO.bind ?_ (fun _ => ?_)
set_option maxHeartbeats 8000000 in
set_option maxRecDepth 100000 in
theorem backstitchref3_Rising.calls (k : Nat) (A0 : Option Addr) (c0 : Nat) (l0 : List Bool) (r : List Int) (w : World) (hr0 : Kd.C Kd.bool w A0 l0.length l0) (hc0 : l0.length ≤ c0) (h : backstitchref3_Rising.f k l0 = some r) :
    Calls Try.prog 49 #[.slice A0 l0.length c0] w fun e w' => ∃ v0_ : Value, e = .returned (v0_) ∧ Kd.R (Kd.int .i64) 3 w' w.heap.size (fun _ => True) v0_ r ∧ Below w.heap.size w w' := by
  have HR0 := Aside0.mk hr0
  have HC0 := Aside0.mk hc0
  clear hr0 hc0
  have HB := Aside0.mk (Below.refl w.heap.size w)
  have H : (backstitchref3_Rising.l0 k ([] : List Int) l0 (l0.length : Int) 0) = some r := h
  clear h
  have H' := Aside0.mk H
  clear H
  go_enter Try.func49, Try.ntmps49
  go_wp2
  go_loopg [3, 8] k (fun kq v3 v8 w' => ∃ (x3_1 : List Int) (x8_1 : Int), v8 = .int .i64 x8_1 ∧ Aside0 (backstitchref3_Rising.l0 kq x3_1 l0 (l0.length : Int) x8_1 = some r) ∧ Aside0 (kq ≤ k) ∧ Aside0 (Kd.R (Kd.int .i64) 3 w' w.heap.size (fun _ => True) v3 x3_1) ∧ Aside0 (Below w.heap.size w w'))
  case atStart => exact ⟨(([] : List Int)), (0), (by first | rfl | (simp; done) | (simp [*]; done)), H', ⟨Nat.le_refl _⟩, ⟨by first | exact Kd.R_nil _ _ _ _ _ | exact Kd.N_nil _ _ _ _ _ | exact Kd.V_nil _ _ _ _ _ | exact Kd.Q_nil _ _ _ _ _ | exact Kd.S_nil _ _ _ _ _⟩, ⟨by repeat (first | (with_reducible first | exact HB.out | apply below_alloc | apply pw_below_drewN | apply below_drew1) | exact HB.out)⟩⟩
  case round =>
    clear H'
    obtain ⟨x3_1, x8_1, rfl, HA, HK1, HO_3, HB⟩ := hrel
    cases gk with
    | zero => exact absurd HA.out (by simp [backstitchref3_Rising.l0])
    | succ k1 =>
      have H := HA.out
      clear HA
      simp only [backstitchref3_Rising.l0] at H
      by_cases c2 : x8_1 < (l0.length : Int)
      · rw [if_pos c2] at H
        have c2b0 : decide (x8_1 < (l0.length : Int)) = true := decide_eq_true c2
        clear c2
        by_cases c3 : 0 ≤ x8_1
        · rw [if_pos c3] at H
          have c3b0 : decide (0 ≤ x8_1) = true := decide_eq_true c3
          clear c3
          by_cases c4 : x8_1 < (l0.length : Int)
          · rw [if_pos c4] at H
            have c4b0 : decide (x8_1 < (l0.length : Int)) = true := decide_eq_true c4
            clear c4
            obtain ⟨bq5, hbq5⟩ : ∃ b_ : Bool, b_ = (rdOf false l0 x8_1) := ⟨_, rfl⟩
            replace H : (if bq5 = true then (if x3_1.length < 17592186044416 then (backstitchref3_Rising.l0 k1 (x3_1 ++ [x8_1]) l0 (l0.length : Int) (wrap64 (x8_1 + 1))) else (none)) else (backstitchref3_Rising.l0 k1 x3_1 l0 (l0.length : Int) (wrap64 (x8_1 + 1)))) = some r := by rw [← hbq5] at H; exact H
            have Nbq5 := Aside0.mk hbq5
            clear hbq5
            by_cases c6 : bq5 = true
            · subst c6
              have H1 : (if x3_1.length < 17592186044416 then (backstitchref3_Rising.l0 k1 (x3_1 ++ [x8_1]) l0 (l0.length : Int) (wrap64 (x8_1 + 1))) else (none)) = some r := by rw [if_pos rfl] at H; exact H
              clear H
              have H := H1
              clear H1
              by_cases c7 : x3_1.length < 17592186044416
              · rw [if_pos c7] at H
                have LMc7 := Aside0.mk c7
                clear c7
                obtain ⟨y176, hy176⟩ : ∃ y_ : List Int, y_ = (x3_1 ++ [x8_1]) := ⟨_, rfl⟩
                replace H : (backstitchref3_Rising.l0 k1 y176 l0 (l0.length : Int) (wrap64 (x8_1 + 1))) = some r := by first | (rw [hy176]; with_reducible exact H) | (have H2_ := (Option.bind_some _ _).symm.trans H; rw [hy176]; with_reducible exact H2_) | (have H2_ := (Option.bind_some _ _).symm.trans H; with_reducible exact H2_) | with_reducible exact H | (rw [hy176]; exact H) | exact H
                have Ny176 := Aside0.mk hy176
                clear hy176
                have H' := Aside0.mk H
                clear H
                have p175 : 0 ≤ (x8_1 : Int) := of_decide_eq_true (by first | (with_reducible assumption) | assumption)
                have q175 : x8_1 < (l0.length : Int) := of_decide_eq_true (by first | (with_reducible assumption) | assumption)
                obtain ⟨ad175, e175, hx175_0⟩ := Kd.at_bool HR0.out x8_1 p175 q175
                (try rw [← Nbq5.out] at hx175_0)
                cases e175
                try replace hx175_0 := (HB.out.cell (World.block_lt_of_cell? w _ hx175_0)).trans hx175_0
                replace p175 := eq_true p175
                replace q175 := eq_true q175
                go_wp2_with (first | ((with_reducible refine gate_builtin (b := .append) (xs := #[.tmp 14, .tmp 16]) rfl ?_); at_builtin; refine Kd.R_append (Kd.int .i64) (w0 := w) w.heap.size rfl (.tmp 14) (.tmp 16) 40 3 (.int .i64 0) 8 rfl Try.underlying40 info3 rfl (by decide) (by omega) u3 x3_1 x8_1 [.int .i64 x8_1] (fun _ => True) (fun _ => False) rfl rfl ?aP (fun _ hk => hk.elim) ?aF ?aO ?aB ?aS ?aL ?_; (case aP => exact rfl); (case aB => exact (by repeat (first | (with_reducible first | exact HB.out | apply below_alloc | apply pw_below_drewN | apply below_drew1) | exact HB.out))); (case aF => exact (fun _ _ => trivial)); (case aO => exact (by (with_reducible repeat (first | apply Kd.R_alloc | apply Kd.R_drewN | apply Kd.R_drew)); exact HO_3.out)); (case aS => exact (below_size (by repeat (first | (with_reducible first | exact HB.out | apply below_alloc | apply pw_below_drewN | apply below_drew1) | exact HB.out)))); (case aL => have := LMc7.out; omega); intro v177 w8 ho hb hg hat; rw [← Ny176.out] at ho; have n0_ := Aside0.mk (hb); have n1_ := Aside0.mk (ho); clear HB; clear HO_3; have HB := n0_; have HO178 := n1_; clear n0_ n1_; clear ho hb hg hat))
                go_roundg k1
                case measure => have := HK1.out; omega
                case rel => exact ⟨(y176), (wrap64 (x8_1 + 1)), (by first | rfl | (simp; done) | (simp [*]; done)), H', ⟨by have := HK1.out; omega⟩, ⟨by (with_reducible repeat (first | apply Kd.R_alloc | apply Kd.R_drewN | apply Kd.R_drew)); exact HO178.out⟩, ⟨by repeat (first | (with_reducible first | exact HB.out | apply below_alloc | apply pw_below_drewN | apply below_drew1) | exact HB.out)⟩⟩
              · rw [if_neg c7] at H
                exact absurd H (by simp)
            · replace c6 := Bool.eq_false_iff.mpr c6
              subst c6
              have H1 : (backstitchref3_Rising.l0 k1 x3_1 l0 (l0.length : Int) (wrap64 (x8_1 + 1))) = some r := by rw [if_neg (show ¬ (false = true) by decide)] at H; exact H
              clear H
              have H := H1
              clear H1
              have H' := Aside0.mk H
              clear H
              have p175 : 0 ≤ (x8_1 : Int) := of_decide_eq_true (by first | (with_reducible assumption) | assumption)
              have q175 : x8_1 < (l0.length : Int) := of_decide_eq_true (by first | (with_reducible assumption) | assumption)
              obtain ⟨ad175, e175, hx175_0⟩ := Kd.at_bool HR0.out x8_1 p175 q175
              (try rw [← Nbq5.out] at hx175_0)
              cases e175
              try replace hx175_0 := (HB.out.cell (World.block_lt_of_cell? w _ hx175_0)).trans hx175_0
              replace p175 := eq_true p175
              replace q175 := eq_true q175
              go_wp2
              go_roundg k1
              case measure => have := HK1.out; omega
              case rel => exact ⟨(x3_1), (wrap64 (x8_1 + 1)), (by first | rfl | (simp; done) | (simp [*]; done)), H', ⟨by have := HK1.out; omega⟩, ⟨by (with_reducible repeat (first | apply Kd.R_alloc | apply Kd.R_drewN | apply Kd.R_drew)); exact HO_3.out⟩, ⟨by repeat (first | (with_reducible first | exact HB.out | apply below_alloc | apply pw_below_drewN | apply below_drew1) | exact HB.out)⟩⟩
          · rw [if_neg c4] at H
            exact absurd H (by simp)
        · rw [if_neg c3] at H
          exact absurd H (by simp)
      · rw [if_neg c2] at H
        have c2b0 : decide (x8_1 < (l0.length : Int)) = false := decide_eq_false c2
        clear c2
        obtain rfl := Option.some.inj H
        go_wp2
        go_ret
        exact ⟨_, by first | rfl | (simp [errW_none, errW_some] <;> rfl) | (simp [*, errW_none, errW_some] <;> rfl), by (with_reducible repeat (first | apply Kd.R_alloc | apply Kd.R_drewN | apply Kd.R_drew)); exact HO_3.out, by repeat (first | (with_reducible first | exact HB.out | apply below_alloc | apply pw_below_drewN | apply below_drew1) | exact HB.out)⟩

/-! ### backstitchref3_From: function 50 -/
/-- The reference's row of what was seen (g), in a variable (gv). -/
structure SeIs (w : World) (base g gv n : Nat) (s : List Bool) : Prop where
  hv : w.heap[gv]? = some (.cells #[.slice (some ⟨g, 0, none⟩) n n] 97 (0, 0))
  hb : base ≤ gv
  seen : Kd.R Kd.bool 4 w base (fun _ => True) (.slice (some ⟨g, 0, none⟩) n n) s
/-- The variable that tells whether there was more. -/
structure MoIs (w : World) (base gm : Nat) (m : Bool) : Prop where
  hm : w.heap[gm]? = some (.cells #[.bool m] 4 (0, 0))
  hb : base ≤ gm
theorem SeIs.len {w : World} {base g gv n : Nat} {s : List Bool} (h : SeIs w base g gv n s) : s.length = n := (Kd.R_reads' h.seen).1.symm
theorem SeIs.ne {w : World} {base g gv n : Nat} {s : List Bool} (h : SeIs w base g gv n s) : gv ≠ g := fun e => Kd.R_ne h.seen h.hv (by decide) (by rw [e]; rfl)
theorem SeIs.ne_m {w : World} {base g gv n gm : Nat} {s : List Bool} {m : Bool} (h : SeIs w base g gv n s) (hm : MoIs w base gm m) : gv ≠ gm := blk_ne h.hv hm.hm (by decide)
theorem SeIs.mark {w : World} {base g gv n : Nat} {s : List Bool} (h : SeIs w base g gv n s) (i : Int) : SeIs (w.setCell ⟨g, i.toNat, none⟩ (.bool true)) base g gv n (s.set i.toNat true) :=
  ⟨(Below.heap_setCell w _ _ gv h.ne).trans h.hv, h.hb, Kd.R_putn h.seen i true⟩
theorem MoIs.mark {w : World} {base g gm : Nat} {m : Bool} (h : MoIs w base gm m) (hne : gm ≠ g) (i : Nat) : MoIs (w.setCell ⟨g, i, none⟩ (.bool true)) base gm m :=
  ⟨(Below.heap_setCell w _ _ gm hne).trans h.hm, h.hb⟩
theorem MoIs.put {w : World} {base gm : Nat} {m : Bool} (h : MoIs w base gm m) (m' : Bool) : MoIs (w.setCell ⟨gm, 0, none⟩ (.bool m')) base gm m' := ⟨blk_put h.hm 0 _ rfl, h.hb⟩
theorem SeIs.put {w : World} {base g gv n gm : Nat} {s : List Bool} (h : SeIs w base g gv n s) (hne : gm ≠ g) (hne2 : gv ≠ gm) (v : Value) : SeIs (w.setCell ⟨gm, 0, none⟩ v) base g gv n s :=
  ⟨(Below.heap_setCell w _ _ gv hne2).trans h.hv, h.hb, Kd.R_mono (Kd.R_far (p := ⟨gm, 0, none⟩) (Kd.R_tight rfl h.seen) (fun k hk e => hne (by have e' : k = gm := e; have h2 : some k = some g := hk; injection h2 with h2; omega)) _) (fun _ _ => trivial)⟩
theorem SeIs.below {w w1 : World} {base g gv n : Nat} {s : List Bool} (h : SeIs w base g gv n s) (hb : Below w.heap.size w w1) : SeIs w1 base g gv n s :=
  ⟨blk_below h.hv hb, h.hb, Kd.R_mono (Kd.R_kept (S := fun _ => False) (Kd.R_tight rfl h.seen) (Kept.of_below hb _) (fun _ _ h => h)) (fun _ _ => trivial)⟩
theorem SeIs.kept {w w1 : World} {base g gv n : Nat} {s : List Bool} (h : SeIs w base g gv n s) (hb : Kept w w1 (fun _ => False)) : SeIs w1 base g gv n s :=
  ⟨blk_kept h.hv hb (fun h => h), h.hb, Kd.R_mono (Kd.R_kept (S := fun _ => False) (Kd.R_tight rfl h.seen) hb (fun _ _ h => h)) (fun _ _ => trivial)⟩
theorem MoIs.kept {w w1 : World} {base gm : Nat} {m : Bool} (h : MoIs w base gm m) (hb : Kept w w1 (fun _ => False)) : MoIs w1 base gm m := ⟨blk_kept h.hm hb (fun h => h), h.hb⟩
theorem MoIs.below {w w1 : World} {base gm : Nat} {m : Bool} (h : MoIs w base gm m) (hb : Below w.heap.size w w1) : MoIs w1 base gm m := ⟨blk_below h.hm hb, h.hb⟩
theorem SeIs.alloc {w : World} {base g gv n : Nat} {s : List Bool} (h : SeIs w base g gv n s) (o : Obj) : SeIs (w.alloc o) base g gv n s := h.below (below_alloc (Below.refl _ _) o)
def seeS (n : Int) (s : List Bool) (m : Bool) : Option (List Bool × Bool) := if 0 ≤ n ∧ n < s.length then some (s.set n.toNat true, m || !rdOf false s n) else none
set_option maxHeartbeats 4000000 in
set_option maxRecDepth 100000 in
theorem see_walk (w0 : World) (x : Int) (g gv gm n : Nat) (s : List Bool) (m : Bool) (z : List Bool × Bool) (w : World)
    (hS : SeIs w w0.heap.size g gv n s) (hM : MoIs w w0.heap.size gm m) (hne : gm ≠ g) (hB : Below w0.heap.size w0 w) (h : seeS x s m = some z) :
    Calls Try.prog 100 #[.int .i64 x, .pointer (some ⟨gm, 0, none⟩), .pointer (some ⟨gv, 0, none⟩)] w fun e w' => e = .returned (.tuple #[]) ∧ SeIs w' w0.heap.size g gv n z.1 ∧ MoIs w' w0.heap.size gm z.2 ∧ Below w0.heap.size w0 w' := by
  unfold seeS at h
  split at h
  case isFalse => cases h
  rename_i hr
  obtain rfl := Option.some.inj h
  clear h
  obtain ⟨hr0, hr1⟩ := hr
  obtain ⟨hs1, hs2⟩ := Kd.R_celln false hS.seen x hr0 (by have := hS.len; omega)
  have hln : (s.length : Int) = (n : Int) := by rw [hS.len]
  rw [hln] at hr1
  have hv0 : w.cell? ⟨gv, 0, none⟩ = some (.slice (some ⟨g, 0, none⟩) n n) := by simp [World.cell?, hS.hv]
  have hm0 : w.cell? ⟨gm, 0, none⟩ = some (.bool m) := by simp [World.cell?, hM.hm]
  have hf0 : w.frozen? ⟨gm, 0, none⟩ = false := by simp [World.frozen?, hM.hm]
  have HNE2 := Aside0.mk (hS.ne_m hM)
  have HNE := Aside0.mk hne
  have HB2 := Aside0.mk (below_set hB hM.hb (g := gm) (j := 0) (v := .bool (m || !rdOf false s x)))
  have HM2 := Aside0.mk (hM.put (m || !rdOf false s x))
  have HS2 := Aside0.mk (hS.put hne HNE2.out (.bool (m || !rdOf false s x)))
  have HM2' := Aside0.mk (hM.put true)
  clear hS hM hne hB hln
  generalize hb : rdOf false s x = bx at *
  obtain ⟨mv, hmv⟩ : ∃ mv, (m || !bx) = mv := ⟨_, rfl⟩
  rw [hmv] at HB2 HM2 HS2
  rw [hmv]
  rcases m with _ | _ <;> rcases bx with _ | _
  all_goals
    simp only [Bool.false_or, Bool.true_or, Bool.not_true, Bool.not_false] at hmv
    have HMV := Aside0.mk hmv.symm
    clear hb HM2' hmv
    go_enter Try.func100, Try.ntmps100
    go_wp2_with (((with_reducible refine gate_store (t := 4) (p := 1) rfl ?_); refine store_event (t := 4) (p := 1) (v := .tmp 11) (w1 := w.setCell ⟨gm, 0, none⟩ (.bool mv)) ?hg ?ho ?hn ?hr ?_; (case ho => rfl); (case hg => rfl); (case hn => rfl); (case hr => rw [HMV.out]; first | (go_simp; done) | (go_simp; rfl)); intro w2 hw; rw [← hw] at HB2 HM2 HS2; have hv1 : w2.cell? ⟨gv, 0, none⟩ = some (.slice (some ⟨g, 0, none⟩) n n) := (by simp [World.cell?, HS2.out.hv]); have hs5 := (Kd.R_celln false HS2.out.seen x hr0 hr1).1; have hs6 := (Kd.R_celln false HS2.out.seen x hr0 hr1).2; clear hw hs1 hs2 hv0 hm0 hf0))
    go_end0
    exact ⟨rfl, HS2.out.mark x, HM2.out.mark HNE.out _, below_set HB2.out (Kd.R_base HS2.out.seen g rfl)⟩
theorem SeIs.made {wb w7 : World} {base n gv : Nat} (hb0 : base ≤ wb.heap.size) (hn : n ≤ maxLen) (hg : gv = (wb.alloc (.cells (madeCells #[.bool false] n) 4)).heap.size) (hbox : w7.heap[gv]? = some (.cells #[.slice none 0 0] 97 (0, 0)))
    (hb : Below (wb.alloc (.cells (madeCells #[.bool false] n) 4)).heap.size (wb.alloc (.cells (madeCells #[.bool false] n) 4)) w7) :
    SeIs (w7.setCell ⟨gv, 0, none⟩ (.slice (some ⟨wb.heap.size, 0, none⟩) n n)) base wb.heap.size gv n (List.replicate n false) := by
  refine ⟨blk_put hbox 0 _ rfl, by rw [hg, World.size_alloc]; omega, ?_⟩
  exact Kd.R_mono (Kd.R_kept (S := fun _ => False) (Kd.R_tight rfl (R_madeBools wb base n hb0 hn)) (Kept.setCell (Kept.of_below hb (fun _ => False)) (p := ⟨gv, 0, none⟩) (.inr (Nat.le_of_eq hg.symm)) _) (fun _ _ h => h)) (fun _ _ => trivial)
def setS : List Int → List Bool → Option (List Bool)
  | [], s => some s
  | x :: l, s => if 0 ≤ x ∧ x < s.length then setS l (s.set x.toNat true) else none
def ownS : List Int → Int → List Bool → Bool → Option (List Bool × Bool)
  | [], _, s, m => some (s, m)
  | x :: l, i, s, m => if i < s.length then (if rdOf false s i = true then (seeS x s m).bind fun q => ownS l i q.1 q.2 else ownS l i s m) else none
def hasS : List (List Int) → Int → List Bool → Bool → Option (List Bool × Bool)
  | [], _, s, m => some (s, m)
  | o :: l, i, s, m => (ownS o i s m).bind fun q => hasS l (i + 1) q.1 q.2
def prS : List S100 → List Bool → Bool → Option (List Bool × Bool)
  | [], s, m => some (s, m)
  | p :: l, s, m => if 0 ≤ p.f0 ∧ p.f0 < s.length then (if rdOf false s p.f0 = true then (seeS p.f1 s m).bind fun q => prS l q.1 q.2 else prS l s m) else none
def fromR (has : List (List Int)) (ps : List S100) : Nat → List Bool → Option (List Bool)
  | 0, _ => none
  | k + 1, s => (hasS has 0 s false).bind fun q => (prS ps q.1 q.2).bind fun z => if z.2 = true then fromR has ps k z.1 else some z.1
theorem fromR.mono (has : List (List Int)) (ps : List S100) : ∀ k s, LeO (fromR has ps k s) (fromR has ps (k + 1) s)
  | 0, s => fun r h => by simp [fromR] at h
  | k + 1, s => by
    unfold fromR
    exact LeO.bind (LeO.refl _) (fun q => LeO.bind (LeO.refl _) (fun z => LeO.ite (fromR.mono has ps k z.1) (LeO.refl _)))
def backstitchref3_From.f (k : Nat) (l0_0 : List (List Int)) (l0_1 : List Int) (l1 : List Int) (l2 : List (S100)) : Option (List Bool) :=
  if l0_0.length ≤ 281474976710656 then (setS l1 (List.replicate l0_0.length false)).bind fun s => fromR l0_0 l2 k s else none
theorem backstitchref3_From.mono : ∀ a0 a1 a2 a3 k, LeO (backstitchref3_From.f k a0 a1 a2 a3) (backstitchref3_From.f (k + 1) a0 a1 a2 a3) := by
  intro a0 a1 a2 a3 k
  unfold backstitchref3_From.f
  exact LeO.ite (LeO.bind (LeO.refl _) (fun s => fromR.mono _ _ _ _)) (LeO.refl _)
set_option maxHeartbeats 40000000 in
set_option maxRecDepth 100000 in
theorem backstitchref3_From.calls (k : Nat) (A0_0 : Option Addr) (c0_0 : Nat) (l0_0 : List (List Int)) (A0_1 : Option Addr) (c0_1 : Nat) (l0_1 : List Int) (A1 : Option Addr) (c1 : Nat) (l1 : List Int) (A2 : Option Addr) (c2 : Nat) (l2 : List (S100)) (r : List Bool) (w : World)
    (hr0_0 : Kd.C (Kd.slice 3 (Kd.int .i64)) w A0_0 l0_0.length l0_0) (hc0_0 : l0_0.length ≤ c0_0) (hr0_1 : Kd.C (Kd.int .i64) w A0_1 l0_1.length l0_1) (hc0_1 : l0_1.length ≤ c0_1) (hr1 : Kd.C (Kd.int .i64) w A1 l1.length l1) (hc1 : l1.length ≤ c1) (hr2 : Kd.C k100 w A2 l2.length l2) (hc2 : l2.length ≤ c2) (h : backstitchref3_From.f k l0_0 l0_1 l1 l2 = some r) :
    Calls Try.prog 50 #[.agg #[.slice A0_0 l0_0.length c0_0, .slice A0_1 l0_1.length c0_1], .slice A1 l1.length c1, .slice A2 l2.length c2] w fun e w' => ∃ v0_ : Value, e = .returned v0_ ∧ Kd.R Kd.bool 4 w' w.heap.size (fun _ => True) v0_ r ∧ Below w.heap.size w w' := by
  have HR0 := Aside0.mk hr0_0
  have HR1 := Aside0.mk hr1
  have HR2 := Aside0.mk hr2
  clear hr0_0 hr0_1 hr1 hr2 hc0_0 hc0_1 hc1 hc2
  unfold backstitchref3_From.f at h
  split at h
  case isFalse => cases h
  rename_i hlen
  have HLEN := Aside0.mk hlen
  obtain ⟨s0, hs, hf⟩ := Option.bind_eq_some_iff.1 h
  have HSET := Aside0.mk hs
  have HFR := Aside0.mk hf
  clear h hs hf hlen
  have HN1 := Aside0.mk (Kd.F_max (Kd.C_F (Kd.heap_int .i64) HR1.out))
  have HN2 := Aside0.mk (show l2.length ≤ 9223372036854775807 from HR2.out.2.1)
  have hmk : ∀ W : World, (Instr.makeSlice 97 (.int .i64 (l0_0.length : Int)) (.int .i64 (l0_0.length : Int))).run Try.prog W = .ok (.slice (some ⟨W.heap.size, 0, none⟩) l0_0.length l0_0.length) (W.alloc (.cells (madeCells #[.bool false] l0_0.length) 4)) := fun W => by
    have hti := info4
    obtain ⟨i0, hi, hzz⟩ := Option.map_eq_some_iff.1 hti
    simp only [Prod.mk.injEq] at hzz
    obtain ⟨hz0, hz1, hz2⟩ := hzz
    have hL := HLEN.out
    have hr := run_make (P := Try.prog) W 97 4 i0 (.bool false) Try.underlying97 hi hz0 .i64 .i64 (l0_0.length : Int) (l0_0.length : Int) (by omega) (by omega) (by rw [hz2]; omega) (by omega)
    rw [hz1, show (Value.bool false).cells = #[.bool false] from rfl] at hr
    simpa using hr
  go_enter Try.func50, Try.ntmps50
  go_wp2_with (first | ((with_reducible refine gate_dst (N := 3) rfl ?_); (try (refine gate_guard (by rfl) ?_; dsimp only)); refine box_event ?hg (N := 3) ?hd (cs := #[.slice A0_0 l0_0.length c0_0, .slice A0_1 l0_1.length c0_1]) (t := 87) ?hr ?_; (case hd => rfl); (case hg => rfl); (case hr => first | (go_simp; done) | (go_simp; rfl)); intro gb hg wb hbox hb; have BK := Aside0.mk hbox; have HRb0 := Aside0.mk (Kd.C_below HR0.out hb); have HRb1 := Aside0.mk (Kd.C_below HR1.out hb); have HRb2 := Aside0.mk (Kd.C_below HR2.out hb); have HBw := Aside0.mk hb; have hq0 : wb.cell? ⟨gb, 0, none⟩ = some (.slice A0_0 l0_0.length c0_0) := (blk_cell BK.out 0).trans rfl; clear hg hbox hb) | ((with_reducible refine gate_dst (N := 7) rfl ?_); (try (refine gate_guard (by rfl) ?_; dsimp only)); refine box_event ?hg (N := 7) ?hd (cs := #[.slice none 0 0]) (t := 97) ?hr ?_; (case hd => rfl); (case hg => rfl); (case hr => first | (go_simp; done) | (go_simp; rfl)); intro gv hgv w7 hbox hb; have HS7 := Aside0.mk (SeIs.made (Nat.le_refl _) (by have := HLEN.out; simp only [maxLen]; omega) hgv hbox hb); have GV := Aside0.mk (show wb.heap.size ≤ gv by rw [hgv, World.size_alloc]; omega); have HB7 := Aside0.mk (below_step (below_alloc (Below.refl wb.heap.size wb) (.cells (madeCells #[.bool false] l0_0.length) 4)) hb); have hv0 : w7.cell? ⟨gv, 0, none⟩ = some (.slice none 0 0) := (blk_cell hbox 0).trans rfl; have hfv := blk_frozen hbox 0; clear hgv hbox hb hq0) | ((with_reducible refine gate_store (t := 97) (p := 7) rfl ?_); refine store_event (t := 97) (p := 7) (v := .tmp 21) (w1 := w7.setCell ⟨gv, 0, none⟩ (.slice (some ⟨wb.heap.size, 0, none⟩) l0_0.length l0_0.length)) ?hg ?ho ?hn ?hr ?_; (case ho => rfl); (case hg => rfl); (case hn => rfl); (case hr => first | (go_simp; done) | (go_simp; rfl)); intro w8 hw; have HB8 := Aside0.mk (below_set HB7.out GV.out (g := gv) (j := 0) (v := .slice (some ⟨wb.heap.size, 0, none⟩) l0_0.length l0_0.length)); rw [← hw] at HS7 HB8; clear hw hv0 hfv HB7))
  obtain ⟨g, hs7, hg⟩ : ∃ g, SeIs w8 wb.heap.size g gv l0_0.length (List.replicate l0_0.length false) ∧ wb.heap.size ≤ g := ⟨_, HS7.out, Nat.le_refl _⟩
  clear HS7
  have HS7 := Aside0.mk hs7
  have GG := Aside0.mk hg
  clear hs7 hg hmk
  go_loopw [24] (fun v24 wr => ∃ (i : Int) (s : List Bool), v24 = .int .i64 i ∧ Aside0 (0 ≤ i ∧ i ≤ l1.length) ∧ Aside0 (setS (l1.drop i.toNat) s = some s0) ∧ Aside0 (SeIs wr wb.heap.size g gv l0_0.length s) ∧ Aside0 (Below wb.heap.size wb wr)) (fun v24 _ => l1.length - (intOf v24).toNat)
  case atStart => exact ⟨0, _, rfl, ⟨by omega⟩, ⟨by simpa using HSET.out⟩, HS7, HB8⟩
  case round =>
    clear HS7 HB8 HSET
    obtain ⟨i, s, rfl, Hi, HX, HS, HB⟩ := hrel
    have hi0 : 0 ≤ i := Hi.out.1
    by_cases hlt : i < (l1.length : Int)
    · have ht : decide (i < (l1.length : Int)) = true := decide_eq_true hlt
      have HW := Aside0.mk (show wrap64 (i + 1) = i + 1 by have := HN1.out; unfold wrap64; omega)
      have hd : l1.drop i.toNat = rd l1 i :: l1.drop (i + 1).toNat := by
        rw [List.drop_eq_getElem_cons (by omega), show (i + 1).toNat = i.toNat + 1 by omega]
        congr 1
        rw [rd, List.getD_eq_getElem?_getD, List.getElem?_eq_getElem (by omega), Option.getD_some]
      have hx := HX.out
      rw [hd, setS] at hx
      clear hd
      obtain ⟨ad, e, h1⟩ := Kd.at_int HRb1.out i hi0 hlt
      cases e
      replace h1 := (HB.out.cell (World.block_lt_of_cell? wb _ h1)).trans h1
      generalize rd l1 i = x at *
      split at hx
      case isFalse => cases hx
      rename_i hr
      obtain ⟨hr0, hr1⟩ := hr
      have hsl : (s.length : Int) = (l0_0.length : Int) := by rw [HS.out.len]
      rw [hsl] at hr1
      have HX2 := Aside0.mk hx
      clear hx hsl HX
      obtain ⟨hs1, hs2⟩ := Kd.R_celln false HS.out.seen x hr0 hr1
      have hv0 : wr.cell? ⟨gv, 0, none⟩ = some (.slice (some ⟨g, 0, none⟩) l0_0.length l0_0.length) := (blk_cell HS.out.hv 0).trans rfl
      have HS2 := Aside0.mk (HS.out.mark x)
      have HB2 := Aside0.mk (below_set HB.out GG.out (g := g) (j := x.toNat) (v := .bool true))
      go_wp2
      go_roundw
      case rel => exact ⟨i + 1, s.set x.toNat true, by first | rw [HW.out] | rfl, ⟨by omega⟩, HX2, HS2, HB2⟩
      case measure => simp only [intOf]; (try rw [HW.out]); omega
    · have ht : decide (i < (l1.length : Int)) = false := decide_eq_false hlt
      have hx := HX.out
      rw [List.drop_eq_nil_of_le (by omega), setS] at hx
      obtain rfl := Option.some.inj hx
      clear hx HX
      go_wp2_with (first | ((with_reducible refine gate_dst (N := 10) rfl ?_); (try (refine gate_guard (by rfl) ?_; dsimp only)); refine box_event ?hg (N := 10) ?hd (cs := #[.bool false]) (t := 4) ?hr ?_; (case hd => rfl); (case hg => rfl); (case hr => first | (go_simp; done) | (go_simp; rfl)); intro gm hgm wm hbox hb; have GM := Aside0.mk (show wb.heap.size ≤ gm by rw [hgm]; exact HB.out.size); have GNE := Aside0.mk (show gm ≠ g by obtain ⟨c9, e9⟩ := Kd.R_typed HS.out.seen g rfl; have := blk_lt e9; omega); have HM := Aside0.mk (show MoIs wm wb.heap.size gm false from ⟨hbox, GM.out⟩); have HS3 := Aside0.mk (HS.out.below hb); have HB3 := Aside0.mk (below_step HB.out hb); have hm0 : wm.cell? ⟨gm, 0, none⟩ = some (.bool false) := (blk_cell hbox 0).trans rfl; have hf0 := blk_frozen hbox 0; clear hgm hbox hb) | ((with_reducible refine gate_store (t := 4) (p := 10) rfl ?_); refine store_event (t := 4) (p := 10) (v := .const (.bool true)) (w1 := wm.setCell ⟨gm, 0, none⟩ (.bool true)) ?hg ?ho ?hn ?hr ?_; (case ho => rfl); (case hg => rfl); (case hn => rfl); (case hr => first | (go_simp; done) | (go_simp; rfl)); intro w9 hw; have HS4 := Aside0.mk (HS3.out.put GNE.out (HS3.out.ne_m HM.out) (.bool true)); have HM4 := Aside0.mk (HM.out.put true); have HB4 := Aside0.mk (below_set HB3.out GM.out (g := gm) (j := 0) (v := .bool true)); rw [← hw] at HS4 HM4 HB4; clear hw hm0 hf0 HS3 HM HB3))
      go_loopg [10] k (fun kq v10 wr => ∃ (gm : Nat) (m : Bool) (s : List Bool), v10 = .pointer (some ⟨gm, 0, none⟩) ∧ Aside0 ((if m = true then fromR l0_0 l2 kq s else some s) = some r) ∧ Aside0 (kq ≤ k) ∧ Aside0 (SeIs wr wb.heap.size g gv l0_0.length s) ∧ Aside0 (MoIs wr wb.heap.size gm m) ∧ Aside0 (gm ≠ g) ∧ Aside0 (Below wb.heap.size wb wr))
      case atStart => exact ⟨gm, true, s, rfl, ⟨by rw [if_pos rfl]; exact HFR.out⟩, ⟨Nat.le_refl _⟩, HS4, HM4, GNE, HB4⟩
      case round =>
        clear HS4 HM4 GNE HB4 HS HB HFR GM
        obtain ⟨gm, m, s, rfl, HX, HKQ, HS, HM, GNE, HB⟩ := hrel
        have hm0 : wr.cell? ⟨gm, 0, none⟩ = some (.bool m) := (blk_cell HM.out.hm 0).trans rfl
        have hf0 := blk_frozen HM.out.hm 0
        have hv0 : wr.cell? ⟨gv, 0, none⟩ = some (.slice (some ⟨g, 0, none⟩) l0_0.length l0_0.length) := (blk_cell HS.out.hv 0).trans rfl
        rcases m with _ | _
        · have hx := HX.out
          rw [if_neg (by decide)] at hx
          obtain rfl := Option.some.inj hx
          clear hx HX
          go_wp2
          go_ret
          exact ⟨_, rfl, Kd.R_lower HS.out.seen HBw.out.size, HBw.out.trans (HB.out.mono HBw.out.size)⟩
        · have hx := HX.out
          rw [if_pos rfl] at hx
          cases gk with
          | zero => cases hx
          | succ k1 =>
            rw [fromR] at hx
            obtain ⟨q, hh, hx⟩ := Option.bind_eq_some_iff.1 hx
            obtain ⟨z, hp, hx⟩ := Option.bind_eq_some_iff.1 hx
            have HH := Aside0.mk hh
            have HP := Aside0.mk hp
            have HZ := Aside0.mk hx
            clear hh hp hx HX hv0
            have hqg : (wr.setCell ⟨gm, 0, none⟩ (.bool false)).cell? ⟨gb, 0, none⟩ = some (.slice A0_0 l0_0.length c0_0) := ((below_set HB.out HM.out.hb (g := gm) (j := 0) (v := .bool false)).cell (blk_lt BK.out)).trans ((blk_cell BK.out 0).trans rfl)
            go_wp2_with (((with_reducible refine gate_store (t := 4) (p := 10) rfl ?_); refine store_event (t := 4) (p := 10) (v := .const (.bool false)) (w1 := wr.setCell ⟨gm, 0, none⟩ (.bool false)) ?hg ?ho ?hn ?hr ?_; (case ho => rfl); (case hg => rfl); (case hn => rfl); (case hr => first | (go_simp; done) | (go_simp; rfl)); intro w9 hw; have HS5 := Aside0.mk (HS.out.put GNE.out (HS.out.ne_m HM.out) (.bool false)); have HM5 := Aside0.mk (HM.out.put false); have HB5 := Aside0.mk (below_set HB.out HM.out.hb (g := gm) (j := 0) (v := .bool false)); rw [← hw] at HS5 HM5 HB5 hqg; clear hw hm0 hf0 HS HM HB))
            go_loopw [37] (fun v37 wr => ∃ (i : Int) (s : List Bool) (m : Bool), v37 = .int .i64 i ∧ Aside0 (0 ≤ i ∧ i ≤ l0_0.length) ∧ Aside0 (hasS (l0_0.drop i.toNat) i s m = some q) ∧ Aside0 (SeIs wr wb.heap.size g gv l0_0.length s) ∧ Aside0 (MoIs wr wb.heap.size gm m) ∧ Aside0 (Below wb.heap.size wb wr)) (fun v37 _ => l0_0.length - (intOf v37).toNat)
            case atStart => exact ⟨0, s, false, rfl, ⟨by omega⟩, ⟨by simpa using HH.out⟩, HS5, HM5, HB5⟩
            case round =>
              clear HS5 HM5 HB5 HH hqg
              obtain ⟨i, s, m, rfl, Hi, HX, HS, HM, HB⟩ := hrel
              have hi0 : 0 ≤ i := Hi.out.1
              by_cases hlt : i < (l0_0.length : Int)
              · have ht : decide (i < (l0_0.length : Int)) = true := decide_eq_true hlt
                have HW := Aside0.mk (show wrap64 (i + 1) = i + 1 by have := HLEN.out; unfold wrap64; omega)
                have hd : l0_0.drop i.toNat = rd_L1 l0_0 i :: l0_0.drop (i + 1).toNat := by
                  rw [List.drop_eq_getElem_cons (by omega), show (i + 1).toNat = i.toNat + 1 by omega]
                  congr 1
                  rw [rd_L1, List.getD_eq_getElem?_getD, List.getElem?_eq_getElem (by omega), Option.getD_some]
                have hx := HX.out
                rw [hd, hasS] at hx
                clear hd
                obtain ⟨ad, Ao, co, e, h1, hlo, hro⟩ := at_L1 HRb0.out i hi0 hlt
                cases e
                replace h1 := (HB.out.cell (World.block_lt_of_cell? wb _ h1)).trans h1
                generalize rd_L1 l0_0 i = o at *
                obtain ⟨y, hy, hx⟩ := Option.bind_eq_some_iff.1 hx
                have HY := Aside0.mk hy
                have HX2 := Aside0.mk hx
                have HO := Aside0.mk hro
                have HNo := Aside0.mk (Kd.F_max (Kd.C_F (Kd.heap_int .i64) hro))
                have Hlt := Aside0.mk hlt
                clear hx hy hro HX hlo
                go_wp2
                go_loopw [44] (fun v44 wr => ∃ (j : Int) (s : List Bool) (m : Bool), v44 = .int .i64 j ∧ Aside0 (0 ≤ j ∧ j ≤ o.length) ∧ Aside0 (ownS (o.drop j.toNat) i s m = some y) ∧ Aside0 (SeIs wr wb.heap.size g gv l0_0.length s) ∧ Aside0 (MoIs wr wb.heap.size gm m) ∧ Aside0 (Below wb.heap.size wb wr)) (fun v44 _ => o.length - (intOf v44).toNat)
                case atStart => exact ⟨0, s, m, rfl, ⟨by omega⟩, ⟨by simpa using HY.out⟩, HS, HM, HB⟩
                case round =>
                  clear HS HM HB HY h1
                  obtain ⟨j, s, m, rfl, Hj, HX, HS, HM, HB⟩ := hrel
                  have hj0 : 0 ≤ j := Hj.out.1
                  by_cases hlj : j < (o.length : Int)
                  · have hj : decide (j < (o.length : Int)) = true := decide_eq_true hlj
                    have HWj := Aside0.mk (show wrap64 (j + 1) = j + 1 by have := HNo.out; unfold wrap64; omega)
                    have hd : o.drop j.toNat = rd o j :: o.drop (j + 1).toNat := by
                      rw [List.drop_eq_getElem_cons (by omega), show (j + 1).toNat = j.toNat + 1 by omega]
                      congr 1
                      rw [rd, List.getD_eq_getElem?_getD, List.getElem?_eq_getElem (by omega), Option.getD_some]
                    have hx := HX.out
                    rw [hd, ownS] at hx
                    clear hd
                    obtain ⟨ad2, e, h2⟩ := Kd.at_int HO.out j hj0 hlj
                    cases e
                    replace h2 := (HB.out.cell (World.block_lt_of_cell? wb _ h2)).trans h2
                    generalize rd o j = x at *
                    rw [if_pos (show i < (s.length : Int) by rw [HS.out.len]; exact Hlt.out)] at hx
                    obtain ⟨hs1, hs2⟩ := Kd.R_celln false HS.out.seen i hi0 Hlt.out
                    have hv0 : wr.cell? ⟨gv, 0, none⟩ = some (.slice (some ⟨g, 0, none⟩) l0_0.length l0_0.length) := (blk_cell HS.out.hv 0).trans rfl
                    have HX3 := Aside0.mk hx
                    clear hx HX hs2
                    rcases hb : rdOf false s i with _ | _
                    · rw [hb] at hs1
                      have hx := HX3.out
                      rw [hb, if_neg (by decide)] at hx
                      have HX4 := Aside0.mk hx
                      clear hx hb HX3
                      go_wp2
                      go_roundw
                      case rel => exact ⟨j + 1, s, m, by first | rw [HWj.out] | rfl, ⟨by omega⟩, HX4, HS, HM, HB⟩
                      case measure => simp only [intOf]; (try rw [HWj.out]); omega
                    · rw [hb] at hs1
                      have hx := HX3.out
                      rw [hb, if_pos rfl] at hx
                      obtain ⟨u, hu, hx⟩ := Option.bind_eq_some_iff.1 hx
                      have HU := Aside0.mk hu
                      have HX4 := Aside0.mk hx
                      clear hx hb HX3 hu
                      go_wp2_with (go_at_call 100; refine (see_walk wb x g gv gm l0_0.length s m u _ HS.out HM.out GNE.out HB.out HU.out).mono ?_; rintro e w7 ⟨rfl, hs7, hm7, hb7⟩; have HS7 := Aside0.mk hs7; have HM7 := Aside0.mk hm7; have HB7 := Aside0.mk hb7; clear hs7 hm7 hb7 HS HM HB hs1 hv0 h2)
                      go_roundw
                      case rel => exact ⟨j + 1, u.1, u.2, by first | rw [HWj.out] | rfl, ⟨by omega⟩, HX4, HS7, HM7, HB7⟩
                      case measure => simp only [intOf]; (try rw [HWj.out]); omega
                  · have hj : decide (j < (o.length : Int)) = false := decide_eq_false hlj
                    have hx := HX.out
                    rw [List.drop_eq_nil_of_le (by omega), ownS] at hx
                    obtain rfl := Option.some.inj hx
                    clear hx HX
                    go_wp2
                    go_roundw
                    case rel => exact ⟨i + 1, s, m, by first | rw [HW.out] | rfl, ⟨by omega⟩, HX2, HS, HM, HB⟩
                    case measure => simp only [intOf]; (try rw [HW.out]); omega
              · have ht : decide (i < (l0_0.length : Int)) = false := decide_eq_false hlt
                have hx := HX.out
                rw [List.drop_eq_nil_of_le (by omega), hasS] at hx
                obtain rfl := Option.some.inj hx
                clear hx HX
                go_wp2
                go_loopw [59] (fun v59 wr => ∃ (i : Int) (s : List Bool) (m : Bool), v59 = .int .i64 i ∧ Aside0 (0 ≤ i ∧ i ≤ l2.length) ∧ Aside0 (prS (l2.drop i.toNat) s m = some z) ∧ Aside0 (SeIs wr wb.heap.size g gv l0_0.length s) ∧ Aside0 (MoIs wr wb.heap.size gm m) ∧ Aside0 (Below wb.heap.size wb wr)) (fun v59 _ => l2.length - (intOf v59).toNat)
                case atStart => exact ⟨0, s, m, rfl, ⟨by omega⟩, ⟨by simpa using HP.out⟩, HS, HM, HB⟩
                case round =>
                  clear HS HM HB HP
                  obtain ⟨i, s, m, rfl, Hi, HX, HS, HM, HB⟩ := hrel
                  have hi0 : 0 ≤ i := Hi.out.1
                  by_cases hlt : i < (l2.length : Int)
                  · have ht : decide (i < (l2.length : Int)) = true := decide_eq_true hlt
                    have HW := Aside0.mk (show wrap64 (i + 1) = i + 1 by have := HN2.out; unfold wrap64; omega)
                    have hd : l2.drop i.toNat = rd_T100 l2 i :: l2.drop (i + 1).toNat := by
                      rw [List.drop_eq_getElem_cons (by omega), show (i + 1).toNat = i.toNat + 1 by omega]
                      congr 1
                      rw [rd_T100, List.getD_eq_getElem?_getD, List.getElem?_eq_getElem (by omega), Option.getD_some]
                    have hx := HX.out
                    rw [hd, prS] at hx
                    clear hd
                    obtain ⟨ad, e, h1, h2⟩ := at_T100 HRb2.out i hi0 hlt
                    cases e
                    replace h1 := (HB.out.cell (World.block_lt_of_cell? wb _ h1)).trans h1
                    replace h2 := (HB.out.cell (World.block_lt_of_cell? wb _ h2)).trans h2
                    generalize rd_T100 l2 i = p at *
                    split at hx
                    case isFalse => cases hx
                    rename_i hr
                    obtain ⟨hk0, hk1⟩ := hr
                    rw [HS.out.len] at hk1
                    have HX3 := Aside0.mk hx
                    clear hx HX
                    rcases hb : rdOf false s p.f0 with _ | _
                    · have HBB := Aside0.mk hb
                      have hx := HX3.out
                      rw [hb, if_neg (by decide)] at hx
                      have HX4 := Aside0.mk hx
                      clear hx hb HX3
                      go_wp2_with (first | ((with_reducible refine gate_dst (N := 17) rfl ?_); (try (refine gate_guard (by rfl) ?_; dsimp only)); refine box_event ?hg (N := 17) ?hd (cs := #[.int .i64 0, .int .i64 0]) (t := 100) ?hr ?_; (case hd => rfl); (case hg => rfl); (case hr => first | (go_simp; done) | (go_simp; rfl)); intro gp hgp wp hbox hb; have GP := Aside0.mk (show wb.heap.size ≤ gp by rw [hgp]; exact HB.out.size); have GP2 := Aside0.mk (Nat.le_of_eq hgp.symm); have HB2 := Aside0.mk (below_step HB.out hb); have HK2 := Aside0.mk (Kept.of_below hb (fun _ => False)); have BP := Aside0.mk hbox; have hp0 : wp.cell? ⟨gp, 0, none⟩ = some (.int .i64 0) := (blk_cell BP.out 0).trans rfl; have hp1 : wp.cell? ⟨gp, 1, none⟩ = some (.int .i64 0) := (blk_cell BP.out 1).trans rfl; have hf0 := blk_frozen BP.out 0; have hf1 := blk_frozen BP.out 1; clear hgp hbox hb) | ((with_reducible refine gate_store (t := 100) (p := 17) rfl ?_); refine store_event (t := 100) (p := 17) (v := .tmp 62) (w1 := (wp.setCell ⟨gp, 0, none⟩ (.int .i64 p.f0)).setCell ⟨gp, 1, none⟩ (.int .i64 p.f1)) ?hg ?ho ?hn ?hr ?_; (case ho => rfl); (case hg => rfl); (case hn => rfl); (case hr => first | (go_simp; done) | (go_simp; rfl)); intro w3 hw; have HB3 := Aside0.mk (below_set (below_set HB2.out GP.out (g := gp) (j := 0) (v := .int .i64 p.f0)) GP.out (g := gp) (j := 1) (v := .int .i64 p.f1)); have BP3 := Aside0.mk (blk_put (blk_put BP.out 0 (.int .i64 p.f0) rfl) 1 (.int .i64 p.f1) rfl); have HK3 := Aside0.mk (Kept.setCell (Kept.setCell HK2.out (p := ⟨gp, 0, none⟩) (.inr GP2.out) (.int .i64 p.f0)) (p := ⟨gp, 1, none⟩) (.inr GP2.out) (.int .i64 p.f1)); rw [← hw] at HB3 BP3 HK3; have HS3 := Aside0.mk (HS.out.kept HK3.out); have HM3 := Aside0.mk (HM.out.kept HK3.out); have hq0 : w3.cell? ⟨gp, 0, none⟩ = some (.int .i64 p.f0) := (blk_cell BP3.out 0).trans rfl; have hq1 : w3.cell? ⟨gp, 1, none⟩ = some (.int .i64 p.f1) := (blk_cell BP3.out 1).trans rfl; have hv0 : w3.cell? ⟨gv, 0, none⟩ = some (.slice (some ⟨g, 0, none⟩) l0_0.length l0_0.length) := (blk_cell HS3.out.hv 0).trans rfl; have hs1 := (Kd.R_celln false HS3.out.seen p.f0 hk0 hk1).1; rw [HBB.out] at hs1; clear hw hp0 hp1 hf0 hf1 HB2 HK2 BP h1 h2))
                      go_roundw
                      case rel => exact ⟨i + 1, s, m, by first | rw [HW.out] | rfl, ⟨by omega⟩, HX4, HS3, HM3, HB3⟩
                      case measure => simp only [intOf]; (try rw [HW.out]); omega
                    · have HBB := Aside0.mk hb
                      have hx := HX3.out
                      rw [hb, if_pos rfl] at hx
                      obtain ⟨u, hu, hx⟩ := Option.bind_eq_some_iff.1 hx
                      have HU := Aside0.mk hu
                      have HX4 := Aside0.mk hx
                      clear hx hb HX3 hu
                      go_wp2_with (first | ((with_reducible refine gate_dst (N := 17) rfl ?_); (try (refine gate_guard (by rfl) ?_; dsimp only)); refine box_event ?hg (N := 17) ?hd (cs := #[.int .i64 0, .int .i64 0]) (t := 100) ?hr ?_; (case hd => rfl); (case hg => rfl); (case hr => first | (go_simp; done) | (go_simp; rfl)); intro gp hgp wp hbox hb; have GP := Aside0.mk (show wb.heap.size ≤ gp by rw [hgp]; exact HB.out.size); have GP2 := Aside0.mk (Nat.le_of_eq hgp.symm); have HB2 := Aside0.mk (below_step HB.out hb); have HK2 := Aside0.mk (Kept.of_below hb (fun _ => False)); have BP := Aside0.mk hbox; have hp0 : wp.cell? ⟨gp, 0, none⟩ = some (.int .i64 0) := (blk_cell BP.out 0).trans rfl; have hp1 : wp.cell? ⟨gp, 1, none⟩ = some (.int .i64 0) := (blk_cell BP.out 1).trans rfl; have hf0 := blk_frozen BP.out 0; have hf1 := blk_frozen BP.out 1; clear hgp hbox hb) | ((with_reducible refine gate_store (t := 100) (p := 17) rfl ?_); refine store_event (t := 100) (p := 17) (v := .tmp 62) (w1 := (wp.setCell ⟨gp, 0, none⟩ (.int .i64 p.f0)).setCell ⟨gp, 1, none⟩ (.int .i64 p.f1)) ?hg ?ho ?hn ?hr ?_; (case ho => rfl); (case hg => rfl); (case hn => rfl); (case hr => first | (go_simp; done) | (go_simp; rfl)); intro w3 hw; have HB3 := Aside0.mk (below_set (below_set HB2.out GP.out (g := gp) (j := 0) (v := .int .i64 p.f0)) GP.out (g := gp) (j := 1) (v := .int .i64 p.f1)); have BP3 := Aside0.mk (blk_put (blk_put BP.out 0 (.int .i64 p.f0) rfl) 1 (.int .i64 p.f1) rfl); have HK3 := Aside0.mk (Kept.setCell (Kept.setCell HK2.out (p := ⟨gp, 0, none⟩) (.inr GP2.out) (.int .i64 p.f0)) (p := ⟨gp, 1, none⟩) (.inr GP2.out) (.int .i64 p.f1)); rw [← hw] at HB3 BP3 HK3; have HS3 := Aside0.mk (HS.out.kept HK3.out); have HM3 := Aside0.mk (HM.out.kept HK3.out); have hq0 : w3.cell? ⟨gp, 0, none⟩ = some (.int .i64 p.f0) := (blk_cell BP3.out 0).trans rfl; have hq1 : w3.cell? ⟨gp, 1, none⟩ = some (.int .i64 p.f1) := (blk_cell BP3.out 1).trans rfl; have hv0 : w3.cell? ⟨gv, 0, none⟩ = some (.slice (some ⟨g, 0, none⟩) l0_0.length l0_0.length) := (blk_cell HS3.out.hv 0).trans rfl; have hs1 := (Kd.R_celln false HS3.out.seen p.f0 hk0 hk1).1; rw [HBB.out] at hs1; clear hw hp0 hp1 hf0 hf1 HB2 HK2 BP h1 h2) | (go_at_call 100; refine (see_walk wb p.f1 g gv gm l0_0.length s m u _ HS3.out HM3.out GNE.out HB3.out HU.out).mono ?_; rintro e w7 ⟨rfl, hs7, hm7, hb7⟩; have HS7 := Aside0.mk hs7; have HM7 := Aside0.mk hm7; have HB7 := Aside0.mk hb7; clear hs7 hm7 hb7 HS3 HM3 HB3 hs1 hv0 hq0 hq1 BP3 HK3))
                      go_roundw
                      case rel => exact ⟨i + 1, u.1, u.2, by first | rw [HW.out] | rfl, ⟨by omega⟩, HX4, HS7, HM7, HB7⟩
                      case measure => simp only [intOf]; (try rw [HW.out]); omega
                  · have ht : decide (i < (l2.length : Int)) = false := decide_eq_false hlt
                    have hx := HX.out
                    rw [List.drop_eq_nil_of_le (by omega), prS] at hx
                    obtain rfl := Option.some.inj hx
                    have hm0 : wr.cell? ⟨gm, 0, none⟩ = some (.bool m) := (blk_cell HM.out.hm 0).trans rfl
                    clear hx HX
                    go_wp2_with (first | ((with_reducible refine gate_dst (N := 10) rfl ?_); (try (refine gate_guard (by rfl) ?_; dsimp only)); refine box_event ?hg (N := 10) ?hd (cs := #[.bool false]) (t := 4) ?hr ?_; (case hd => rfl); (case hg => rfl); (case hr => first | (go_simp; done) | (go_simp; rfl)); intro gn hgn wm hbox hb; have GN := Aside0.mk (show wb.heap.size ≤ gn by rw [hgn]; exact HB.out.size); have GNE2 := Aside0.mk (show gn ≠ g by obtain ⟨c9, e9⟩ := Kd.R_typed HS.out.seen g rfl; have := blk_lt e9; omega); have HM5 := Aside0.mk (show MoIs wm wb.heap.size gn false from ⟨hbox, GN.out⟩); have HS5 := Aside0.mk (HS.out.below hb); have HB5 := Aside0.mk (below_step HB.out hb); have hn0 : wm.cell? ⟨gn, 0, none⟩ = some (.bool false) := (blk_cell hbox 0).trans rfl; have hf0 := blk_frozen hbox 0; clear hgn hbox hb hm0) | ((with_reducible refine gate_store (t := 4) (p := 10) rfl ?_); refine store_event (t := 4) (p := 10) (v := .tmp 73) (w1 := wm.setCell ⟨gn, 0, none⟩ (.bool m)) ?hg ?ho ?hn ?hr ?_; (case ho => rfl); (case hg => rfl); (case hn => rfl); (case hr => first | (go_simp; done) | (go_simp; rfl)); intro w9 hw; have HS6 := Aside0.mk (HS5.out.put GNE2.out (HS5.out.ne_m HM5.out) (.bool m)); have HM6 := Aside0.mk (HM5.out.put m); have HB6 := Aside0.mk (below_set HB5.out GN.out (g := gn) (j := 0) (v := .bool m)); rw [← hw] at HS6 HM6 HB6; clear hw hn0 hf0 HS5 HM5 HB5))
                    go_roundg k1
                    case measure => omega
                    case rel => exact ⟨gn, m, s, rfl, HZ, ⟨by have := HKQ.out; omega⟩, HS6, HM6, GNE2, HB6⟩

/-! ### api_RPair: function 51 -/
def api_RPair.l0 : Nat → List (S100) → List (S100) → Int → Int → Option (Bool)
  | 0, _, _, _, _ => none
  | k + 1, x1, x12, x13, x14 => if x14 < x13 then (if 0 ≤ x14 then (if x14 < (x12.length : Int) then (if x14 < (x1.length : Int) then (if (!(((rd_T100 x12 x14).f0) == ((rd_T100 x1 x14).f0)) || (!(((rd_T100 x12 x14).f1) == ((rd_T100 x1 x14).f1)))) = true then (some false) else (api_RPair.l0 k x1 x12 x13 (wrap64 (x14 + 1)))) else (none)) else (none)) else (none)) else (some true)
def api_RPair.f (k : Nat) (l0 : List (S100)) (l1 : List (S100)) : Option (Bool) := if (l0.length : Int) = (l1.length : Int) then (api_RPair.l0 k l1 l0 (l0.length : Int) 0) else (some false)
theorem api_RPair.mono_l : ∀ k, (∀ y0 y1 y2 y3, LeO (api_RPair.l0 k y0 y1 y2 y3) (api_RPair.l0 (k + 1) y0 y1 y2 y3))
  | 0 => fun _ _ _ _ r h => by simp [api_RPair.l0] at h
  | k + 1 => by
    have ih0 := api_RPair.mono_l k
    · intro y0 y1 y2 y3
      unfold api_RPair.l0
      repeat' first
      | (with_reducible exact ih0 _ _ _ _)
      | (with_reducible exact LeO.refl _)
      | (with_reducible exact LeO.none _)
      | (with_reducible refine LeO.ite ?_ ?_)
      | (with_reducible refine LeO.bind ?_ (fun _ => ?_))
      | exact ih0 _ _ _ _
      | exact LeO.none _
      | refine LeO.ite ?_ ?_
      | refine LeO.bind ?_ (fun _ => ?_)
theorem api_RPair.mono : ∀ a0 a1 k, LeO (api_RPair.f k a0 a1) (api_RPair.f (k + 1) a0 a1) := by
  intro a0 a1 k
  have ih0 := api_RPair.mono_l k
  unfold api_RPair.f
  repeat' first
      | (with_reducible exact ih0 _ _ _ _)
      | (with_reducible exact LeO.refl _)
      | (with_reducible exact LeO.none _)
      | (with_reducible refine LeO.ite ?_ ?_)
      | (with_reducible refine LeO.bind ?_ (fun _ => ?_))
      | exact ih0 _ _ _ _
      | exact LeO.none _
      | refine LeO.ite ?_ ?_
      | refine LeO.bind ?_ (fun _ => ?_)
set_option maxHeartbeats 8000000 in
set_option maxRecDepth 100000 in
theorem api_RPair.calls (k : Nat) (A0 : Option Addr) (c0 : Nat) (l0 : List (S100)) (A1 : Option Addr) (c1 : Nat) (l1 : List (S100)) (r : Bool) (w : World) (hr0 : Kd.C k100 w A0 l0.length l0) (hc0 : l0.length ≤ c0) (hr1 : Kd.C k100 w A1 l1.length l1) (hc1 : l1.length ≤ c1) (h : api_RPair.f k l0 l1 = some r) :
    Calls Try.prog 51 #[.slice A0 l0.length c0, .slice A1 l1.length c1] w fun e w' => e = .returned (.bool r) ∧ Below w.heap.size w w' := by
  have hu100 := Try.underlying100
  have HR0 := Aside0.mk hr0
  have HC0 := Aside0.mk hc0
  clear hr0 hc0
  have HR1 := Aside0.mk hr1
  have HC1 := Aside0.mk hc1
  clear hr1 hc1
  have HB := Aside0.mk (Below.refl w.heap.size w)
  have H : (if (l0.length : Int) = (l1.length : Int) then (api_RPair.l0 k l1 l0 (l0.length : Int) 0) else (some false)) = some r := h
  clear h
  by_cases c3 : (l0.length : Int) = (l1.length : Int)
  · rw [if_pos c3] at H
    have c3b0 : ((l0.length : Int) == (l1.length : Int)) = true := beq_iff_eq.mpr c3
    have c3b1 : ((l0.length : Int) != (l1.length : Int)) = false := bne_eq_false_iff_eq.mpr c3
    have c3b2 : (l0.length == l1.length) = true := by first | simpa using c3 | (simp at c3 ⊢; omega)
    clear c3
    have H' := Aside0.mk H
    clear H
    go_enter Try.func51, Try.ntmps51
    go_wp2
    repeat (go_quiet (fail); try go_wp2)
    go_loopg [14] k (fun kq v14 w' => ∃ (x14_1 : Int), v14 = .int .i64 x14_1 ∧ Aside0 (api_RPair.l0 kq l1 l0 (l0.length : Int) x14_1 = some r) ∧ Aside0 (kq ≤ k) ∧ Aside0 (Below w.heap.size w w'))
    case atStart => exact ⟨(0), (by first | rfl | (simp; done) | (simp [*]; done)), H', ⟨Nat.le_refl _⟩, ⟨by repeat (first | (with_reducible first | exact HB.out | apply below_alloc | apply pw_below_drewN | apply below_drew1) | exact HB.out)⟩⟩
    case round =>
      clear H'
      try clear c1
      try clear p2
      try clear c3
      try clear c3b0
      try clear c3b1
      try clear c3b2
      obtain ⟨x14_1, rfl, HA, HK1, HB⟩ := hrel
      cases gk with
      | zero => exact absurd HA.out (by simp [api_RPair.l0])
      | succ k1 =>
        have H := HA.out
        clear HA
        simp only [api_RPair.l0] at H
        by_cases c4 : x14_1 < (l0.length : Int)
        · rw [if_pos c4] at H
          have c4b0 : decide (x14_1 < (l0.length : Int)) = true := decide_eq_true c4
          clear c4
          by_cases c5 : 0 ≤ x14_1
          · rw [if_pos c5] at H
            have c5b0 : decide (0 ≤ x14_1) = true := decide_eq_true c5
            clear c5
            by_cases c6 : x14_1 < (l0.length : Int)
            · rw [if_pos c6] at H
              have c6b0 : decide (x14_1 < (l0.length : Int)) = true := decide_eq_true c6
              clear c6
              by_cases c7 : x14_1 < (l1.length : Int)
              · rw [if_pos c7] at H
                have c7b0 : decide (x14_1 < (l1.length : Int)) = true := decide_eq_true c7
                clear c7
                by_cases c8 : (!(((rd_T100 l0 x14_1).f0) == ((rd_T100 l1 x14_1).f0)) || (!(((rd_T100 l0 x14_1).f1) == ((rd_T100 l1 x14_1).f1)))) = true
                · rw [if_pos c8] at H
                  have c8b0 : (!(((rd_T100 l0 x14_1).f0) == ((rd_T100 l1 x14_1).f0)) || (!(((rd_T100 l0 x14_1).f1) == ((rd_T100 l1 x14_1).f1)))) = true := c8
                  clear c8
                  obtain rfl := Option.some.inj H
                  have p179 : 0 ≤ (x14_1 : Int) := of_decide_eq_true (by first | (with_reducible assumption) | assumption)
                  have q179 : x14_1 < (l0.length : Int) := of_decide_eq_true (by first | (with_reducible assumption) | assumption)
                  obtain ⟨ad179, e179, hx179_0, hx179_1⟩ := at_T100 HR0.out x14_1 p179 q179
                  cases e179
                  try replace hx179_0 := (HB.out.cell (World.block_lt_of_cell? w _ hx179_0)).trans hx179_0
                  try replace hx179_1 := (HB.out.cell (World.block_lt_of_cell? w _ hx179_1)).trans hx179_1
                  replace p179 := eq_true p179
                  replace q179 := eq_true q179
                  go_wp2_with (first | ((with_reducible refine gate_dst (N := 6) rfl ?_); refine box_event ?hg (N := 6) ?hd (cs := #[.int .i64 0, .int .i64 0]) (t := 100) ?hr ?_; (case hd => rfl); (case hg => rfl); (case hr => first | (go_simp; done) | (go_simp; rfl)); intro gb180 hg w9 hbox hb; have n0_ := Aside0.mk (below_step (by repeat (first | (with_reducible first | exact HB.out | apply below_alloc | apply pw_below_drewN | apply below_drew1) | exact HB.out)) hb); have n1_ := Aside0.mk (hbox); have n2_ := Aside0.mk ((by rw [hg]; exact (below_size (by repeat (first | (with_reducible first | exact HB.out | apply below_alloc | apply pw_below_drewN | apply below_drew1) | exact HB.out))) : w.heap.size ≤ gb180)); have n3_ := Aside0.mk ((by rw [hg]; exact (below_size (by repeat (first | (with_reducible first | exact HB.out | apply below_alloc | apply pw_below_drewN | apply below_drew1) | exact HB.out))) : w.heap.size ≤ gb180)); clear HB; have HB := n0_; have BK180 := n1_; have GW180 := n2_; have GE180 := n3_; clear n0_ n1_ n2_ n3_; clear hb hbox hg; have hcz10_0 : w9.cell? ⟨gb180, 0, none⟩ = some (.int .i64 0) := (blk_cell BK180.out 0).trans rfl; have hcz10_1 : w9.cell? ⟨gb180, 1, none⟩ = some (.int .i64 0) := (blk_cell BK180.out 1).trans rfl; have hfz10_0 := blk_frozen BK180.out 0; have hfz10_1 := blk_frozen BK180.out 1; have p181 : 0 ≤ (x14_1 : Int) := of_decide_eq_true (by first | (with_reducible assumption) | assumption); have q181 : x14_1 < (l1.length : Int) := of_decide_eq_true (by first | (with_reducible assumption) | assumption); obtain ⟨ad181, e181, hx181_0, hx181_1⟩ := at_T100 HR1.out x14_1 p181 q181; cases e181; have hn181_0 : ad181.block ≠ gb180 := Nat.ne_of_lt (Nat.lt_of_lt_of_le (by have := World.block_lt_of_cell? _ _ hx181_0; first | rwa [add_block] at this | exact this) GW180.out); have hn181_1 : ad181.block ≠ gb180 := Nat.ne_of_lt (Nat.lt_of_lt_of_le (by have := World.block_lt_of_cell? _ _ hx181_0; first | rwa [add_block] at this | exact this) GW180.out); try replace hx181_0 := (HB.out.cell (World.block_lt_of_cell? w _ hx181_0)).trans hx181_0; try replace hx181_1 := (HB.out.cell (World.block_lt_of_cell? w _ hx181_1)).trans hx181_1; replace hx181_0 := (cell_far (p := ⟨gb180, 0, none⟩) (by first | (rw [add_block]; exact hn181_0) | (show (Addr.add _ _).block ≠ _; rw [add_block]; exact hn181_0) | exact hn181_0) (.int .i64 ((rd_T100 l0 x14_1).f0))).trans hx181_0; replace hx181_1 := (cell_far (p := ⟨gb180, 0, none⟩) (by first | (rw [add_block]; exact hn181_0) | (show (Addr.add _ _).block ≠ _; rw [add_block]; exact hn181_0) | exact hn181_0) (.int .i64 ((rd_T100 l0 x14_1).f0))).trans hx181_1; replace hx181_0 := (cell_far (p := ⟨gb180, 1, none⟩) (by first | (rw [add_block]; exact hn181_1) | (show (Addr.add _ _).block ≠ _; rw [add_block]; exact hn181_1) | exact hn181_1) (.int .i64 ((rd_T100 l0 x14_1).f1))).trans hx181_0; replace hx181_1 := (cell_far (p := ⟨gb180, 1, none⟩) (by first | (rw [add_block]; exact hn181_1) | (show (Addr.add _ _).block ≠ _; rw [add_block]; exact hn181_1) | exact hn181_1) (.int .i64 ((rd_T100 l0 x14_1).f1))).trans hx181_1; (try have hy181_0 := fun (n_ : Nat) => (show ((((w9.drewN n_).setCell ⟨gb180, 0, none⟩ (.int .i64 ((rd_T100 l0 x14_1).f0))).setCell ⟨gb180, 1, none⟩ (.int .i64 ((rd_T100 l0 x14_1).f1)))).cell? _ = some _ from hx181_0)); (try have hy181_1 := fun (n_ : Nat) => (show ((((w9.drewN n_).setCell ⟨gb180, 0, none⟩ (.int .i64 ((rd_T100 l0 x14_1).f0))).setCell ⟨gb180, 1, none⟩ (.int .i64 ((rd_T100 l0 x14_1).f1)))).cell? _ = some _ from hx181_1)); clear hn181_0; clear hn181_1; replace p181 := eq_true p181; replace q181 := eq_true q181))
                  repeat (go_quiet (first | ((with_reducible refine gate_dst (N := 6) rfl ?_); refine box_event ?hg (N := 6) ?hd (cs := #[.int .i64 0, .int .i64 0]) (t := 100) ?hr ?_; (case hd => rfl); (case hg => rfl); (case hr => first | (go_simp; done) | (go_simp; rfl)); intro gb180 hg w9 hbox hb; have n0_ := Aside0.mk (below_step (by repeat (first | (with_reducible first | exact HB.out | apply below_alloc | apply pw_below_drewN | apply below_drew1) | exact HB.out)) hb); have n1_ := Aside0.mk (hbox); have n2_ := Aside0.mk ((by rw [hg]; exact (below_size (by repeat (first | (with_reducible first | exact HB.out | apply below_alloc | apply pw_below_drewN | apply below_drew1) | exact HB.out))) : w.heap.size ≤ gb180)); have n3_ := Aside0.mk ((by rw [hg]; exact (below_size (by repeat (first | (with_reducible first | exact HB.out | apply below_alloc | apply pw_below_drewN | apply below_drew1) | exact HB.out))) : w.heap.size ≤ gb180)); clear HB; have HB := n0_; have BK180 := n1_; have GW180 := n2_; have GE180 := n3_; clear n0_ n1_ n2_ n3_; clear hb hbox hg; have hcz10_0 : w9.cell? ⟨gb180, 0, none⟩ = some (.int .i64 0) := (blk_cell BK180.out 0).trans rfl; have hcz10_1 : w9.cell? ⟨gb180, 1, none⟩ = some (.int .i64 0) := (blk_cell BK180.out 1).trans rfl; have hfz10_0 := blk_frozen BK180.out 0; have hfz10_1 := blk_frozen BK180.out 1; have p181 : 0 ≤ (x14_1 : Int) := of_decide_eq_true (by first | (with_reducible assumption) | assumption); have q181 : x14_1 < (l1.length : Int) := of_decide_eq_true (by first | (with_reducible assumption) | assumption); obtain ⟨ad181, e181, hx181_0, hx181_1⟩ := at_T100 HR1.out x14_1 p181 q181; cases e181; have hn181_0 : ad181.block ≠ gb180 := Nat.ne_of_lt (Nat.lt_of_lt_of_le (by have := World.block_lt_of_cell? _ _ hx181_0; first | rwa [add_block] at this | exact this) GW180.out); have hn181_1 : ad181.block ≠ gb180 := Nat.ne_of_lt (Nat.lt_of_lt_of_le (by have := World.block_lt_of_cell? _ _ hx181_0; first | rwa [add_block] at this | exact this) GW180.out); try replace hx181_0 := (HB.out.cell (World.block_lt_of_cell? w _ hx181_0)).trans hx181_0; try replace hx181_1 := (HB.out.cell (World.block_lt_of_cell? w _ hx181_1)).trans hx181_1; replace hx181_0 := (cell_far (p := ⟨gb180, 0, none⟩) (by first | (rw [add_block]; exact hn181_0) | (show (Addr.add _ _).block ≠ _; rw [add_block]; exact hn181_0) | exact hn181_0) (.int .i64 ((rd_T100 l0 x14_1).f0))).trans hx181_0; replace hx181_1 := (cell_far (p := ⟨gb180, 0, none⟩) (by first | (rw [add_block]; exact hn181_0) | (show (Addr.add _ _).block ≠ _; rw [add_block]; exact hn181_0) | exact hn181_0) (.int .i64 ((rd_T100 l0 x14_1).f0))).trans hx181_1; replace hx181_0 := (cell_far (p := ⟨gb180, 1, none⟩) (by first | (rw [add_block]; exact hn181_1) | (show (Addr.add _ _).block ≠ _; rw [add_block]; exact hn181_1) | exact hn181_1) (.int .i64 ((rd_T100 l0 x14_1).f1))).trans hx181_0; replace hx181_1 := (cell_far (p := ⟨gb180, 1, none⟩) (by first | (rw [add_block]; exact hn181_1) | (show (Addr.add _ _).block ≠ _; rw [add_block]; exact hn181_1) | exact hn181_1) (.int .i64 ((rd_T100 l0 x14_1).f1))).trans hx181_1; (try have hy181_0 := fun (n_ : Nat) => (show ((((w9.drewN n_).setCell ⟨gb180, 0, none⟩ (.int .i64 ((rd_T100 l0 x14_1).f0))).setCell ⟨gb180, 1, none⟩ (.int .i64 ((rd_T100 l0 x14_1).f1)))).cell? _ = some _ from hx181_0)); (try have hy181_1 := fun (n_ : Nat) => (show ((((w9.drewN n_).setCell ⟨gb180, 0, none⟩ (.int .i64 ((rd_T100 l0 x14_1).f0))).setCell ⟨gb180, 1, none⟩ (.int .i64 ((rd_T100 l0 x14_1).f1)))).cell? _ = some _ from hx181_1)); clear hn181_0; clear hn181_1; replace p181 := eq_true p181; replace q181 := eq_true q181)); try go_wp2_with (first | ((with_reducible refine gate_dst (N := 6) rfl ?_); refine box_event ?hg (N := 6) ?hd (cs := #[.int .i64 0, .int .i64 0]) (t := 100) ?hr ?_; (case hd => rfl); (case hg => rfl); (case hr => first | (go_simp; done) | (go_simp; rfl)); intro gb180 hg w9 hbox hb; have n0_ := Aside0.mk (below_step (by repeat (first | (with_reducible first | exact HB.out | apply below_alloc | apply pw_below_drewN | apply below_drew1) | exact HB.out)) hb); have n1_ := Aside0.mk (hbox); have n2_ := Aside0.mk ((by rw [hg]; exact (below_size (by repeat (first | (with_reducible first | exact HB.out | apply below_alloc | apply pw_below_drewN | apply below_drew1) | exact HB.out))) : w.heap.size ≤ gb180)); have n3_ := Aside0.mk ((by rw [hg]; exact (below_size (by repeat (first | (with_reducible first | exact HB.out | apply below_alloc | apply pw_below_drewN | apply below_drew1) | exact HB.out))) : w.heap.size ≤ gb180)); clear HB; have HB := n0_; have BK180 := n1_; have GW180 := n2_; have GE180 := n3_; clear n0_ n1_ n2_ n3_; clear hb hbox hg; have hcz10_0 : w9.cell? ⟨gb180, 0, none⟩ = some (.int .i64 0) := (blk_cell BK180.out 0).trans rfl; have hcz10_1 : w9.cell? ⟨gb180, 1, none⟩ = some (.int .i64 0) := (blk_cell BK180.out 1).trans rfl; have hfz10_0 := blk_frozen BK180.out 0; have hfz10_1 := blk_frozen BK180.out 1; have p181 : 0 ≤ (x14_1 : Int) := of_decide_eq_true (by first | (with_reducible assumption) | assumption); have q181 : x14_1 < (l1.length : Int) := of_decide_eq_true (by first | (with_reducible assumption) | assumption); obtain ⟨ad181, e181, hx181_0, hx181_1⟩ := at_T100 HR1.out x14_1 p181 q181; cases e181; have hn181_0 : ad181.block ≠ gb180 := Nat.ne_of_lt (Nat.lt_of_lt_of_le (by have := World.block_lt_of_cell? _ _ hx181_0; first | rwa [add_block] at this | exact this) GW180.out); have hn181_1 : ad181.block ≠ gb180 := Nat.ne_of_lt (Nat.lt_of_lt_of_le (by have := World.block_lt_of_cell? _ _ hx181_0; first | rwa [add_block] at this | exact this) GW180.out); try replace hx181_0 := (HB.out.cell (World.block_lt_of_cell? w _ hx181_0)).trans hx181_0; try replace hx181_1 := (HB.out.cell (World.block_lt_of_cell? w _ hx181_1)).trans hx181_1; replace hx181_0 := (cell_far (p := ⟨gb180, 0, none⟩) (by first | (rw [add_block]; exact hn181_0) | (show (Addr.add _ _).block ≠ _; rw [add_block]; exact hn181_0) | exact hn181_0) (.int .i64 ((rd_T100 l0 x14_1).f0))).trans hx181_0; replace hx181_1 := (cell_far (p := ⟨gb180, 0, none⟩) (by first | (rw [add_block]; exact hn181_0) | (show (Addr.add _ _).block ≠ _; rw [add_block]; exact hn181_0) | exact hn181_0) (.int .i64 ((rd_T100 l0 x14_1).f0))).trans hx181_1; replace hx181_0 := (cell_far (p := ⟨gb180, 1, none⟩) (by first | (rw [add_block]; exact hn181_1) | (show (Addr.add _ _).block ≠ _; rw [add_block]; exact hn181_1) | exact hn181_1) (.int .i64 ((rd_T100 l0 x14_1).f1))).trans hx181_0; replace hx181_1 := (cell_far (p := ⟨gb180, 1, none⟩) (by first | (rw [add_block]; exact hn181_1) | (show (Addr.add _ _).block ≠ _; rw [add_block]; exact hn181_1) | exact hn181_1) (.int .i64 ((rd_T100 l0 x14_1).f1))).trans hx181_1; (try have hy181_0 := fun (n_ : Nat) => (show ((((w9.drewN n_).setCell ⟨gb180, 0, none⟩ (.int .i64 ((rd_T100 l0 x14_1).f0))).setCell ⟨gb180, 1, none⟩ (.int .i64 ((rd_T100 l0 x14_1).f1)))).cell? _ = some _ from hx181_0)); (try have hy181_1 := fun (n_ : Nat) => (show ((((w9.drewN n_).setCell ⟨gb180, 0, none⟩ (.int .i64 ((rd_T100 l0 x14_1).f0))).setCell ⟨gb180, 1, none⟩ (.int .i64 ((rd_T100 l0 x14_1).f1)))).cell? _ = some _ from hx181_1)); clear hn181_0; clear hn181_1; replace p181 := eq_true p181; replace q181 := eq_true q181)))
                  go_ret
                  exact ⟨by first | rfl | (simp [errW_none, errW_some] <;> rfl) | (simp [*, errW_none, errW_some] <;> rfl), by repeat (first | (with_reducible first | exact HB.out | apply below_alloc | apply pw_below_drewN | apply below_drew1 | refine below_set ?_ GE180.out) | exact HB.out)⟩
                · rw [if_neg c8] at H
                  have c8b0 : (!(((rd_T100 l0 x14_1).f0) == ((rd_T100 l1 x14_1).f0)) || (!(((rd_T100 l0 x14_1).f1) == ((rd_T100 l1 x14_1).f1)))) = false := by simpa using c8
                  clear c8
                  have H' := Aside0.mk H
                  clear H
                  have p179 : 0 ≤ (x14_1 : Int) := of_decide_eq_true (by first | (with_reducible assumption) | assumption)
                  have q179 : x14_1 < (l0.length : Int) := of_decide_eq_true (by first | (with_reducible assumption) | assumption)
                  obtain ⟨ad179, e179, hx179_0, hx179_1⟩ := at_T100 HR0.out x14_1 p179 q179
                  cases e179
                  try replace hx179_0 := (HB.out.cell (World.block_lt_of_cell? w _ hx179_0)).trans hx179_0
                  try replace hx179_1 := (HB.out.cell (World.block_lt_of_cell? w _ hx179_1)).trans hx179_1
                  replace p179 := eq_true p179
                  replace q179 := eq_true q179
                  go_wp2_with (first | ((with_reducible refine gate_dst (N := 6) rfl ?_); refine box_event ?hg (N := 6) ?hd (cs := #[.int .i64 0, .int .i64 0]) (t := 100) ?hr ?_; (case hd => rfl); (case hg => rfl); (case hr => first | (go_simp; done) | (go_simp; rfl)); intro gb180 hg w11 hbox hb; have n0_ := Aside0.mk (below_step (by repeat (first | (with_reducible first | exact HB.out | apply below_alloc | apply pw_below_drewN | apply below_drew1) | exact HB.out)) hb); have n1_ := Aside0.mk (hbox); have n2_ := Aside0.mk ((by rw [hg]; exact (below_size (by repeat (first | (with_reducible first | exact HB.out | apply below_alloc | apply pw_below_drewN | apply below_drew1) | exact HB.out))) : w.heap.size ≤ gb180)); have n3_ := Aside0.mk ((by rw [hg]; exact (below_size (by repeat (first | (with_reducible first | exact HB.out | apply below_alloc | apply pw_below_drewN | apply below_drew1) | exact HB.out))) : w.heap.size ≤ gb180)); clear HB; have HB := n0_; have BK180 := n1_; have GW180 := n2_; have GE180 := n3_; clear n0_ n1_ n2_ n3_; clear hb hbox hg; have hcz12_0 : w11.cell? ⟨gb180, 0, none⟩ = some (.int .i64 0) := (blk_cell BK180.out 0).trans rfl; have hcz12_1 : w11.cell? ⟨gb180, 1, none⟩ = some (.int .i64 0) := (blk_cell BK180.out 1).trans rfl; have hfz12_0 := blk_frozen BK180.out 0; have hfz12_1 := blk_frozen BK180.out 1; have p181 : 0 ≤ (x14_1 : Int) := of_decide_eq_true (by first | (with_reducible assumption) | assumption); have q181 : x14_1 < (l1.length : Int) := of_decide_eq_true (by first | (with_reducible assumption) | assumption); obtain ⟨ad181, e181, hx181_0, hx181_1⟩ := at_T100 HR1.out x14_1 p181 q181; cases e181; have hn181_0 : ad181.block ≠ gb180 := Nat.ne_of_lt (Nat.lt_of_lt_of_le (by have := World.block_lt_of_cell? _ _ hx181_0; first | rwa [add_block] at this | exact this) GW180.out); have hn181_1 : ad181.block ≠ gb180 := Nat.ne_of_lt (Nat.lt_of_lt_of_le (by have := World.block_lt_of_cell? _ _ hx181_0; first | rwa [add_block] at this | exact this) GW180.out); try replace hx181_0 := (HB.out.cell (World.block_lt_of_cell? w _ hx181_0)).trans hx181_0; try replace hx181_1 := (HB.out.cell (World.block_lt_of_cell? w _ hx181_1)).trans hx181_1; replace hx181_0 := (cell_far (p := ⟨gb180, 0, none⟩) (by first | (rw [add_block]; exact hn181_0) | (show (Addr.add _ _).block ≠ _; rw [add_block]; exact hn181_0) | exact hn181_0) (.int .i64 ((rd_T100 l0 x14_1).f0))).trans hx181_0; replace hx181_1 := (cell_far (p := ⟨gb180, 0, none⟩) (by first | (rw [add_block]; exact hn181_0) | (show (Addr.add _ _).block ≠ _; rw [add_block]; exact hn181_0) | exact hn181_0) (.int .i64 ((rd_T100 l0 x14_1).f0))).trans hx181_1; replace hx181_0 := (cell_far (p := ⟨gb180, 1, none⟩) (by first | (rw [add_block]; exact hn181_1) | (show (Addr.add _ _).block ≠ _; rw [add_block]; exact hn181_1) | exact hn181_1) (.int .i64 ((rd_T100 l0 x14_1).f1))).trans hx181_0; replace hx181_1 := (cell_far (p := ⟨gb180, 1, none⟩) (by first | (rw [add_block]; exact hn181_1) | (show (Addr.add _ _).block ≠ _; rw [add_block]; exact hn181_1) | exact hn181_1) (.int .i64 ((rd_T100 l0 x14_1).f1))).trans hx181_1; (try have hy181_0 := fun (n_ : Nat) => (show ((((w11.drewN n_).setCell ⟨gb180, 0, none⟩ (.int .i64 ((rd_T100 l0 x14_1).f0))).setCell ⟨gb180, 1, none⟩ (.int .i64 ((rd_T100 l0 x14_1).f1)))).cell? _ = some _ from hx181_0)); (try have hy181_1 := fun (n_ : Nat) => (show ((((w11.drewN n_).setCell ⟨gb180, 0, none⟩ (.int .i64 ((rd_T100 l0 x14_1).f0))).setCell ⟨gb180, 1, none⟩ (.int .i64 ((rd_T100 l0 x14_1).f1)))).cell? _ = some _ from hx181_1)); clear hn181_0; clear hn181_1; replace p181 := eq_true p181; replace q181 := eq_true q181))
                  repeat (go_quiet (first | ((with_reducible refine gate_dst (N := 6) rfl ?_); refine box_event ?hg (N := 6) ?hd (cs := #[.int .i64 0, .int .i64 0]) (t := 100) ?hr ?_; (case hd => rfl); (case hg => rfl); (case hr => first | (go_simp; done) | (go_simp; rfl)); intro gb180 hg w11 hbox hb; have n0_ := Aside0.mk (below_step (by repeat (first | (with_reducible first | exact HB.out | apply below_alloc | apply pw_below_drewN | apply below_drew1) | exact HB.out)) hb); have n1_ := Aside0.mk (hbox); have n2_ := Aside0.mk ((by rw [hg]; exact (below_size (by repeat (first | (with_reducible first | exact HB.out | apply below_alloc | apply pw_below_drewN | apply below_drew1) | exact HB.out))) : w.heap.size ≤ gb180)); have n3_ := Aside0.mk ((by rw [hg]; exact (below_size (by repeat (first | (with_reducible first | exact HB.out | apply below_alloc | apply pw_below_drewN | apply below_drew1) | exact HB.out))) : w.heap.size ≤ gb180)); clear HB; have HB := n0_; have BK180 := n1_; have GW180 := n2_; have GE180 := n3_; clear n0_ n1_ n2_ n3_; clear hb hbox hg; have hcz12_0 : w11.cell? ⟨gb180, 0, none⟩ = some (.int .i64 0) := (blk_cell BK180.out 0).trans rfl; have hcz12_1 : w11.cell? ⟨gb180, 1, none⟩ = some (.int .i64 0) := (blk_cell BK180.out 1).trans rfl; have hfz12_0 := blk_frozen BK180.out 0; have hfz12_1 := blk_frozen BK180.out 1; have p181 : 0 ≤ (x14_1 : Int) := of_decide_eq_true (by first | (with_reducible assumption) | assumption); have q181 : x14_1 < (l1.length : Int) := of_decide_eq_true (by first | (with_reducible assumption) | assumption); obtain ⟨ad181, e181, hx181_0, hx181_1⟩ := at_T100 HR1.out x14_1 p181 q181; cases e181; have hn181_0 : ad181.block ≠ gb180 := Nat.ne_of_lt (Nat.lt_of_lt_of_le (by have := World.block_lt_of_cell? _ _ hx181_0; first | rwa [add_block] at this | exact this) GW180.out); have hn181_1 : ad181.block ≠ gb180 := Nat.ne_of_lt (Nat.lt_of_lt_of_le (by have := World.block_lt_of_cell? _ _ hx181_0; first | rwa [add_block] at this | exact this) GW180.out); try replace hx181_0 := (HB.out.cell (World.block_lt_of_cell? w _ hx181_0)).trans hx181_0; try replace hx181_1 := (HB.out.cell (World.block_lt_of_cell? w _ hx181_1)).trans hx181_1; replace hx181_0 := (cell_far (p := ⟨gb180, 0, none⟩) (by first | (rw [add_block]; exact hn181_0) | (show (Addr.add _ _).block ≠ _; rw [add_block]; exact hn181_0) | exact hn181_0) (.int .i64 ((rd_T100 l0 x14_1).f0))).trans hx181_0; replace hx181_1 := (cell_far (p := ⟨gb180, 0, none⟩) (by first | (rw [add_block]; exact hn181_0) | (show (Addr.add _ _).block ≠ _; rw [add_block]; exact hn181_0) | exact hn181_0) (.int .i64 ((rd_T100 l0 x14_1).f0))).trans hx181_1; replace hx181_0 := (cell_far (p := ⟨gb180, 1, none⟩) (by first | (rw [add_block]; exact hn181_1) | (show (Addr.add _ _).block ≠ _; rw [add_block]; exact hn181_1) | exact hn181_1) (.int .i64 ((rd_T100 l0 x14_1).f1))).trans hx181_0; replace hx181_1 := (cell_far (p := ⟨gb180, 1, none⟩) (by first | (rw [add_block]; exact hn181_1) | (show (Addr.add _ _).block ≠ _; rw [add_block]; exact hn181_1) | exact hn181_1) (.int .i64 ((rd_T100 l0 x14_1).f1))).trans hx181_1; (try have hy181_0 := fun (n_ : Nat) => (show ((((w11.drewN n_).setCell ⟨gb180, 0, none⟩ (.int .i64 ((rd_T100 l0 x14_1).f0))).setCell ⟨gb180, 1, none⟩ (.int .i64 ((rd_T100 l0 x14_1).f1)))).cell? _ = some _ from hx181_0)); (try have hy181_1 := fun (n_ : Nat) => (show ((((w11.drewN n_).setCell ⟨gb180, 0, none⟩ (.int .i64 ((rd_T100 l0 x14_1).f0))).setCell ⟨gb180, 1, none⟩ (.int .i64 ((rd_T100 l0 x14_1).f1)))).cell? _ = some _ from hx181_1)); clear hn181_0; clear hn181_1; replace p181 := eq_true p181; replace q181 := eq_true q181)); try go_wp2_with (first | ((with_reducible refine gate_dst (N := 6) rfl ?_); refine box_event ?hg (N := 6) ?hd (cs := #[.int .i64 0, .int .i64 0]) (t := 100) ?hr ?_; (case hd => rfl); (case hg => rfl); (case hr => first | (go_simp; done) | (go_simp; rfl)); intro gb180 hg w11 hbox hb; have n0_ := Aside0.mk (below_step (by repeat (first | (with_reducible first | exact HB.out | apply below_alloc | apply pw_below_drewN | apply below_drew1) | exact HB.out)) hb); have n1_ := Aside0.mk (hbox); have n2_ := Aside0.mk ((by rw [hg]; exact (below_size (by repeat (first | (with_reducible first | exact HB.out | apply below_alloc | apply pw_below_drewN | apply below_drew1) | exact HB.out))) : w.heap.size ≤ gb180)); have n3_ := Aside0.mk ((by rw [hg]; exact (below_size (by repeat (first | (with_reducible first | exact HB.out | apply below_alloc | apply pw_below_drewN | apply below_drew1) | exact HB.out))) : w.heap.size ≤ gb180)); clear HB; have HB := n0_; have BK180 := n1_; have GW180 := n2_; have GE180 := n3_; clear n0_ n1_ n2_ n3_; clear hb hbox hg; have hcz12_0 : w11.cell? ⟨gb180, 0, none⟩ = some (.int .i64 0) := (blk_cell BK180.out 0).trans rfl; have hcz12_1 : w11.cell? ⟨gb180, 1, none⟩ = some (.int .i64 0) := (blk_cell BK180.out 1).trans rfl; have hfz12_0 := blk_frozen BK180.out 0; have hfz12_1 := blk_frozen BK180.out 1; have p181 : 0 ≤ (x14_1 : Int) := of_decide_eq_true (by first | (with_reducible assumption) | assumption); have q181 : x14_1 < (l1.length : Int) := of_decide_eq_true (by first | (with_reducible assumption) | assumption); obtain ⟨ad181, e181, hx181_0, hx181_1⟩ := at_T100 HR1.out x14_1 p181 q181; cases e181; have hn181_0 : ad181.block ≠ gb180 := Nat.ne_of_lt (Nat.lt_of_lt_of_le (by have := World.block_lt_of_cell? _ _ hx181_0; first | rwa [add_block] at this | exact this) GW180.out); have hn181_1 : ad181.block ≠ gb180 := Nat.ne_of_lt (Nat.lt_of_lt_of_le (by have := World.block_lt_of_cell? _ _ hx181_0; first | rwa [add_block] at this | exact this) GW180.out); try replace hx181_0 := (HB.out.cell (World.block_lt_of_cell? w _ hx181_0)).trans hx181_0; try replace hx181_1 := (HB.out.cell (World.block_lt_of_cell? w _ hx181_1)).trans hx181_1; replace hx181_0 := (cell_far (p := ⟨gb180, 0, none⟩) (by first | (rw [add_block]; exact hn181_0) | (show (Addr.add _ _).block ≠ _; rw [add_block]; exact hn181_0) | exact hn181_0) (.int .i64 ((rd_T100 l0 x14_1).f0))).trans hx181_0; replace hx181_1 := (cell_far (p := ⟨gb180, 0, none⟩) (by first | (rw [add_block]; exact hn181_0) | (show (Addr.add _ _).block ≠ _; rw [add_block]; exact hn181_0) | exact hn181_0) (.int .i64 ((rd_T100 l0 x14_1).f0))).trans hx181_1; replace hx181_0 := (cell_far (p := ⟨gb180, 1, none⟩) (by first | (rw [add_block]; exact hn181_1) | (show (Addr.add _ _).block ≠ _; rw [add_block]; exact hn181_1) | exact hn181_1) (.int .i64 ((rd_T100 l0 x14_1).f1))).trans hx181_0; replace hx181_1 := (cell_far (p := ⟨gb180, 1, none⟩) (by first | (rw [add_block]; exact hn181_1) | (show (Addr.add _ _).block ≠ _; rw [add_block]; exact hn181_1) | exact hn181_1) (.int .i64 ((rd_T100 l0 x14_1).f1))).trans hx181_1; (try have hy181_0 := fun (n_ : Nat) => (show ((((w11.drewN n_).setCell ⟨gb180, 0, none⟩ (.int .i64 ((rd_T100 l0 x14_1).f0))).setCell ⟨gb180, 1, none⟩ (.int .i64 ((rd_T100 l0 x14_1).f1)))).cell? _ = some _ from hx181_0)); (try have hy181_1 := fun (n_ : Nat) => (show ((((w11.drewN n_).setCell ⟨gb180, 0, none⟩ (.int .i64 ((rd_T100 l0 x14_1).f0))).setCell ⟨gb180, 1, none⟩ (.int .i64 ((rd_T100 l0 x14_1).f1)))).cell? _ = some _ from hx181_1)); clear hn181_0; clear hn181_1; replace p181 := eq_true p181; replace q181 := eq_true q181)))
                  go_roundg k1
                  case measure => have := HK1.out; omega
                  case rel => exact ⟨(wrap64 (x14_1 + 1)), (by first | rfl | (simp; done) | (simp [*]; done)), H', ⟨by have := HK1.out; omega⟩, ⟨by repeat (first | (with_reducible first | exact HB.out | apply below_alloc | apply pw_below_drewN | apply below_drew1 | refine below_set ?_ GE180.out) | exact HB.out)⟩⟩
              · rw [if_neg c7] at H
                exact absurd H (by simp)
            · rw [if_neg c6] at H
              exact absurd H (by simp)
          · rw [if_neg c5] at H
            exact absurd H (by simp)
        · rw [if_neg c4] at H
          have c4b0 : decide (x14_1 < (l0.length : Int)) = false := decide_eq_false c4
          clear c4
          obtain rfl := Option.some.inj H
          go_wp2
          repeat (go_quiet (fail); try go_wp2)
          go_ret
          exact ⟨by first | rfl | (simp [errW_none, errW_some] <;> rfl) | (simp [*, errW_none, errW_some] <;> rfl), by repeat (first | (with_reducible first | exact HB.out | apply below_alloc | apply pw_below_drewN | apply below_drew1) | exact HB.out)⟩
  · rw [if_neg c3] at H
    have c3b0 : ((l0.length : Int) == (l1.length : Int)) = false := beq_eq_false_iff_ne.mpr c3
    have c3b1 : ((l0.length : Int) != (l1.length : Int)) = true := bne_iff_ne.mpr c3
    have c3b2 : (l0.length == l1.length) = false := by first | simpa using c3 | (simp at c3 ⊢; omega)
    obtain rfl := Option.some.inj H
    go_enter Try.func51, Try.ntmps51
    go_wp2
    repeat (go_quiet (fail); try go_wp2)
    go_ret
    exact ⟨by first | rfl | (simp [errW_none, errW_some] <;> rfl) | (simp [*, errW_none, errW_some] <;> rfl), by repeat (first | (with_reducible first | exact HB.out | apply below_alloc | apply pw_below_drewN | apply below_drew1) | exact HB.out)⟩

end Go.Proofs.Ytlojkphocbbjdaa.PWeakTells
