-- Printed for this claim by a program of this session (inj.py), beside the kit's print. Not trusted: Lean checks it.
import Derived.Test.YtlojkphocbbjdaaPWordsAllx0
import Derived.Test.YtlojkphocbbjdaaPWordsAllx3
namespace Go.Proofs.Ytlojkphocbbjdaa.PWordsAll
open Go.RowKit Go.Proofs.YtlojkphocbbjdaaW.PrintWords Go.Proofs.YtlojkphocbbjdaaW.PrintLast Go.Proofs.YtlojkphocbbjdaaW.PrintMore
attribute [local go_sem] max2_int min2_int max_two min_two max_three min_three max_four min_four   -- for this text's walks alone
set_option linter.unusedVariables false
set_option linter.unusedSimpArgs false

/-! ### backstitchref3_CellVals: function 93 -/
def backstitchref3_CellVals.l0 : Nat → List (S23) → List (S27) → Int → Int → Option ((List (S23)))
  | 0, _, _, _, _ => none
  | k + 1, x3, x10, x11, x12 => if x12 < x11 then (if 0 ≤ x12 then (if x12 < (x10.length : Int) then (if x3.length < 8796093022208 then ((some (x3 ++ [(⟨(rd_T27 x10 x12).f4.f0, (rd_T27 x10 x12).f4.f1⟩ : S23)] : List (S23))).bind fun y133 => (if y133.length + ((rd_T27 x10 x12).f5).length < 8796093022208 then (backstitchref3_CellVals.l0 k (y133 ++ ((rd_T27 x10 x12).f5)) x10 x11 (wrap64 (x12 + 1))) else (none))) else (none)) else (none)) else (none)) else (some x3)
def backstitchref3_CellVals.f (k : Nat) (a0_0 : Int) (a0_1 : Int) (l0_2 : List (S23)) (l0_3 : List (S27)) : Option ((List (S23))) := (api_Val.f l0_2).bind fun t128 => (backstitchref3_CellVals.l0 k t128 l0_3 (l0_3.length : Int) 0)
theorem backstitchref3_CellVals.mono_l : ∀ k, (∀ y0 y1 y2 y3, LeO (backstitchref3_CellVals.l0 k y0 y1 y2 y3) (backstitchref3_CellVals.l0 (k + 1) y0 y1 y2 y3))
  | 0 => fun _ _ _ _ r h => by simp [backstitchref3_CellVals.l0] at h
  | k + 1 => by
    have ih0 := backstitchref3_CellVals.mono_l k
    · intro y0 y1 y2 y3
      unfold backstitchref3_CellVals.l0
      repeat' first
      | (with_reducible exact ih0 _ _ _ _)
      | (with_reducible exact LeO.refl _)
      | (with_reducible exact LeO.none _)
      | (with_reducible refine LeO.ite ?_ ?_)
      | (with_reducible refine LeO.bind ?_ (fun _ => ?_))
      | exact ih0 _ _ _ _
      | exact LeO.none _
      | refine LeO.ite ?_ ?_
      | refine LeO.bind ?_ (fun _ => ?_)
theorem backstitchref3_CellVals.mono : ∀ a0 a1 a2 a3 k, LeO (backstitchref3_CellVals.f k a0 a1 a2 a3) (backstitchref3_CellVals.f (k + 1) a0 a1 a2 a3) := by
  intro a0 a1 a2 a3 k
  have ih0 := backstitchref3_CellVals.mono_l k
  unfold backstitchref3_CellVals.f
  repeat' first
      | (with_reducible exact ih0 _ _ _ _)
      | (with_reducible exact LeO.refl _)
      | (with_reducible exact LeO.none _)
      | (with_reducible refine LeO.ite ?_ ?_)
      | (with_reducible refine LeO.bind ?_ (fun _ => ?_))
      | exact ih0 _ _ _ _
      | exact LeO.none _
      | refine LeO.ite ?_ ?_
      | refine LeO.bind ?_ (fun _ => ?_)
def backstitchref3_CellVals.T5 : Bool × List (List Nat × List Nat) := (true, [([], []), ([], []), ([1], [1]), ([2], [2]), ([0, 3], [0, 3]), ([], []), ([5], [5]), ([4, 6, 4], [4, 6]), ([7, 7, 0, 1, 2, 3, 4, 5, 6, 7], [0, 7])])
def backstitchref3_CellVals.B5 : List Nat := [0, 0, 2, 6, 15, 0, 32, 127, 255]
theorem backstitchref3_CellVals.tab5 : rtab .any (opsOf Try.f93 5) = backstitchref3_CellVals.T5 := by kernel_rfl
theorem backstitchref3_CellVals.bits5 : waitsOk backstitchref3_CellVals.T5.2 backstitchref3_CellVals.B5 = true := by kernel_rfl
set_option maxHeartbeats 8000000 in
set_option maxRecDepth 100000 in
theorem backstitchref3_CellVals.calls (k : Nat) (a0_0 : Int) (a0_1 : Int) (A0_2 : Option Addr) (c0_2 : Nat) (l0_2 : List (S23)) (A0_3 : Option Addr) (c0_3 : Nat) (l0_3 : List (S27)) (r : List (S23)) (w : World) (hr0_2 : Kd.C k23 w A0_2 l0_2.length l0_2) (hc0_2 : l0_2.length ≤ c0_2) (hr0_3 : Kd.C k27 w A0_3 l0_3.length l0_3) (hc0_3 : l0_3.length ≤ c0_3) (h : backstitchref3_CellVals.f k a0_0 a0_1 l0_2 l0_3 = some r) :
    Calls Try.prog 93 #[.agg #[.int .i64 a0_0, .int .i64 a0_1, .slice A0_2 l0_2.length c0_2, .slice A0_3 l0_3.length c0_3]] w fun e w' => ∃ v0_ : Value, e = .returned (v0_) ∧ Kd.R k23 23 w' w.heap.size (fun _ => True) v0_ r ∧ Below w.heap.size w w' := by
  have hu61 := Try.underlying61
  have hu27 := Try.underlying27
  have hu23 := Try.underlying23
  have HR0_2 := Aside0.mk hr0_2
  have HC0_2 := Aside0.mk hc0_2
  clear hr0_2 hc0_2
  have HR0_3 := Aside0.mk hr0_3
  have HC0_3 := Aside0.mk hc0_3
  clear hr0_3 hc0_3
  have HB := Aside0.mk (Below.refl w.heap.size w)
  have H : ((api_Val.f l0_2).bind fun t128 => (backstitchref3_CellVals.l0 k t128 l0_3 (l0_3.length : Int) 0)) = some r := h
  clear h
  replace H := Option.bind_eq_some_iff.mp H
  obtain ⟨t128, A20, H⟩ := H
  replace H : (backstitchref3_CellVals.l0 k t128 l0_3 (l0_3.length : Int) 0) = some r := H
  have A2 := Aside0.mk A20
  clear A20
  have H' := Aside0.mk H
  clear H
  go_enter Try.func93, Try.ntmps93
  go_wp2_with (first | ((with_reducible refine gate_dst (N := 1) rfl ?_); refine box_event ?hg (N := 1) ?hd (cs := #[.int .i64 a0_0, .int .i64 a0_1, .slice A0_2 l0_2.length c0_2, .slice A0_3 l0_3.length c0_3]) (t := 61) ?hr ?_; (case hd => rfl); (case hg => rfl); (case hr => first | (go_simp; done) | (go_simp; rfl)); intro gb127 hg w3 hbox hb; have n0_ := Aside0.mk (below_step (by repeat (first | (with_reducible first | exact HB.out | apply below_alloc | apply pw_below_drewN | apply below_drew1) | exact HB.out)) hb); have n1_ := Aside0.mk (hbox); have n2_ := Aside0.mk ((by rw [hg]; exact (below_size (by repeat (first | (with_reducible first | exact HB.out | apply below_alloc | apply pw_below_drewN | apply below_drew1) | exact HB.out))) : w.heap.size ≤ gb127)); have n3_ := Aside0.mk ((by rw [hg]; exact (below_size (by repeat (first | (with_reducible first | exact HB.out | apply below_alloc | apply pw_below_drewN | apply below_drew1) | exact HB.out))) : w.heap.size ≤ gb127)); clear HB; have HB := n0_; have BK127 := n1_; have GW127 := n2_; have GE127 := n3_; clear n0_ n1_ n2_ n3_; clear hb hbox hg; have hcz4_0 : w3.cell? ⟨gb127, 0, none⟩ = some (.int .i64 a0_0) := (blk_cell BK127.out 0).trans rfl; have hcz4_1 : w3.cell? ⟨gb127, 1, none⟩ = some (.int .i64 a0_1) := (blk_cell BK127.out 1).trans rfl; have hcz4_2 : w3.cell? ⟨gb127, 2, none⟩ = some (.slice A0_2 l0_2.length c0_2) := (blk_cell BK127.out 2).trans rfl; have hcz4_3 : w3.cell? ⟨gb127, 3, none⟩ = some (.slice A0_3 l0_3.length c0_3) := (blk_cell BK127.out 3).trans rfl; have hfz4_0 := blk_frozen BK127.out 0; have hfz4_1 := blk_frozen BK127.out 1; have hfz4_2 := blk_frozen BK127.out 2; have hfz4_3 := blk_frozen BK127.out 3) | ((with_reducible refine gate_callee (f := 17) rfl ?_); refine goesL_ (some 8) rfl rfl Try.func17 (by kernel_rfl) rfl #[.slice A0_2 l0_2.length c0_2] rfl (by (try simp only [List.map_toArray, List.map_cons, List.map_nil]); first | done | rfl | (simp only [List.length_drop, List.length_take]; rfl)) ?_; (with_reducible refine (api_Val.calls _ _ l0_2 t128 _ ?side1 ?side2 A2.out).mono ?_); (case side1 => repeat (first | exact (Kd.C_below HR0_2.out HB.out) | (with_reducible refine Kd.C_alloc ?_ _) | (with_reducible refine Kd.C_drewN ?_ _) | (with_reducible refine Kd.C_drew ?_))); (case side2 => exact HC0_2.out); rintro e w5 ⟨v129, rfl, ho0, hb⟩; refine ⟨_, rfl, ?_⟩; have n0_ := Aside0.mk (Kd.R_lower ho0 (below_size (by repeat (first | (with_reducible first | exact HB.out | apply below_alloc | apply pw_below_drewN | apply below_drew1 | refine below_set ?_ GE127.out) | exact HB.out)))); have n1_ := Aside0.mk (blk_below (g := gb127) (o := .cells #[.int .i64 a0_0, .int .i64 a0_1, .slice A0_2 l0_2.length c0_2, .slice A0_3 l0_3.length c0_3] 61 (0, 0)) (by (with_reducible repeat (first | refine blk_drewN ?_ _ | refine blk_drew ?_ | refine blk_alloc ?_ _)); exact BK127.out) hb); have n2_ := Aside0.mk (below_step (by repeat (first | (with_reducible first | exact HB.out | apply below_alloc | apply pw_below_drewN | apply below_drew1 | refine below_set ?_ GE127.out) | exact HB.out)) hb); clear BK127; clear HB; have HO130 := n0_; have BK127 := n1_; have HB := n2_; clear n0_ n1_ n2_; (try clear hb); (try clear hb2); (try clear hk); (try clear hi); (try clear ho0); have hcz6_0 : w5.cell? ⟨gb127, 0, none⟩ = some (.int .i64 a0_0) := (blk_cell BK127.out 0).trans rfl; have hcz6_1 : w5.cell? ⟨gb127, 1, none⟩ = some (.int .i64 a0_1) := (blk_cell BK127.out 1).trans rfl; have hcz6_2 : w5.cell? ⟨gb127, 2, none⟩ = some (.slice A0_2 l0_2.length c0_2) := (blk_cell BK127.out 2).trans rfl; have hcz6_3 : w5.cell? ⟨gb127, 3, none⟩ = some (.slice A0_3 l0_3.length c0_3) := (blk_cell BK127.out 3).trans rfl; have hfz6_0 := blk_frozen BK127.out 0; have hfz6_1 := blk_frozen BK127.out 1; have hfz6_2 := blk_frozen BK127.out 2; have hfz6_3 := blk_frozen BK127.out 3))
  go_loopg [3, 12] k (fun kq v3 v12 w' => ∃ (x3_1 : List (S23)) (x12_1 : Int), v12 = .int .i64 x12_1 ∧ Aside0 (backstitchref3_CellVals.l0 kq x3_1 l0_3 (l0_3.length : Int) x12_1 = some r) ∧ Aside0 (kq ≤ k) ∧ Aside0 (Kd.R k23 23 w' w.heap.size (fun _ => True) v3 x3_1) ∧ Aside0 (w'.heap[gb127]? = some (.cells #[.int .i64 a0_0, .int .i64 a0_1, (.slice A0_2 l0_2.length c0_2), (.slice A0_3 l0_3.length c0_3)] 61 (0, 0))) ∧ Aside0 (Below w.heap.size w w'))
  case atStart => exact ⟨(t128), (0), (by first | rfl | (simp; done) | (simp [*]; done)), H', ⟨Nat.le_refl _⟩, ⟨by (with_reducible repeat (first | apply Kd.R_alloc | apply Kd.R_drewN | apply Kd.R_drew)); exact HO130.out⟩, ⟨by (with_reducible repeat (first | refine blk_drewN ?_ _ | refine blk_drew ?_ | refine blk_alloc ?_ _)); exact BK127.out⟩, ⟨by repeat (first | (with_reducible first | exact HB.out | apply below_alloc | apply pw_below_drewN | apply below_drew1 | refine below_set ?_ GE127.out) | exact HB.out)⟩⟩
  case round =>
    clear H'
    try clear c1
    try clear p2
    try clear hcz4_0
    try clear hcz4_1
    try clear hcz4_2
    try clear hcz4_3
    try clear hcz6_0
    try clear hcz6_1
    try clear hcz6_2
    try clear hcz6_3
    try clear hfz4_0
    try clear hfz4_1
    try clear hfz4_2
    try clear hfz4_3
    try clear hfz6_0
    try clear hfz6_1
    try clear hfz6_2
    try clear hfz6_3
    obtain ⟨x3_1, x12_1, rfl, HA, HK1, HO_3, BK127, HB⟩ := hrel
    cases gk with
    | zero => exact absurd HA.out (by simp [backstitchref3_CellVals.l0])
    | succ k1 =>
      have H := HA.out
      clear HA
      simp only [backstitchref3_CellVals.l0] at H
      by_cases c7 : x12_1 < (l0_3.length : Int)
      · rw [if_pos c7] at H
        have c7b0 : decide (x12_1 < (l0_3.length : Int)) = true := decide_eq_true c7
        clear c7
        by_cases c8 : 0 ≤ x12_1
        · rw [if_pos c8] at H
          have c8b0 : decide (0 ≤ x12_1) = true := decide_eq_true c8
          clear c8
          by_cases c9 : x12_1 < (l0_3.length : Int)
          · rw [if_pos c9] at H
            have c9b0 : decide (x12_1 < (l0_3.length : Int)) = true := decide_eq_true c9
            clear c9
            by_cases c10 : x3_1.length < 8796093022208
            · rw [if_pos c10] at H
              have LMc10 := Aside0.mk c10
              clear c10
              obtain ⟨y133, hy133⟩ : ∃ y_ : List (S23), y_ = (x3_1 ++ [(⟨(rd_T27 l0_3 x12_1).f4.f0, (rd_T27 l0_3 x12_1).f4.f1⟩ : S23)]) := ⟨_, rfl⟩
              replace H : (if y133.length + ((rd_T27 l0_3 x12_1).f5).length < 8796093022208 then (backstitchref3_CellVals.l0 k1 (y133 ++ ((rd_T27 l0_3 x12_1).f5)) l0_3 (l0_3.length : Int) (wrap64 (x12_1 + 1))) else (none)) = some r := by first | (rw [hy133]; with_reducible exact H) | (have H2_ := (Option.bind_some _ _).symm.trans H; rw [hy133]; with_reducible exact H2_) | (have H2_ := (Option.bind_some _ _).symm.trans H; with_reducible exact H2_) | with_reducible exact H | (rw [hy133]; exact H) | exact H
              have Ny133 := Aside0.mk hy133
              clear hy133
              by_cases c11 : y133.length + ((rd_T27 l0_3 x12_1).f5).length < 8796093022208
              · rw [if_pos c11] at H
                have LMc11 := Aside0.mk c11
                clear c11
                obtain ⟨y136, hy136⟩ : ∃ y_ : List (S23), y_ = (y133 ++ ((rd_T27 l0_3 x12_1).f5)) := ⟨_, rfl⟩
                replace H : (backstitchref3_CellVals.l0 k1 y136 l0_3 (l0_3.length : Int) (wrap64 (x12_1 + 1))) = some r := by first | (rw [hy136]; with_reducible exact H) | (have H2_ := (Option.bind_some _ _).symm.trans H; rw [hy136]; with_reducible exact H2_) | (have H2_ := (Option.bind_some _ _).symm.trans H; with_reducible exact H2_) | with_reducible exact H | (rw [hy136]; exact H) | exact H
                have Ny136 := Aside0.mk hy136
                clear hy136
                have H' := Aside0.mk H
                clear H
                have p131 : 0 ≤ (x12_1 : Int) := of_decide_eq_true (by first | (with_reducible assumption) | assumption)
                have q131 : x12_1 < (l0_3.length : Int) := of_decide_eq_true (by first | (with_reducible assumption) | assumption)
                obtain ⟨ad131, A131_6, c131_6, A131_7, c131_7, e131, hx131_0, hx131_1, hx131_2, hx131_3, hx131_4, hx131_5, hx131_6, hx131_7, hl131_6, hi131_6, hl131_7, hi131_7⟩ := at_T27 HR0_3.out x12_1 p131 q131
                cases e131
                try replace hx131_0 := (HB.out.cell (World.block_lt_of_cell? w _ hx131_0)).trans hx131_0
                try replace hx131_1 := (HB.out.cell (World.block_lt_of_cell? w _ hx131_1)).trans hx131_1
                try replace hx131_2 := (HB.out.cell (World.block_lt_of_cell? w _ hx131_2)).trans hx131_2
                try replace hx131_3 := (HB.out.cell (World.block_lt_of_cell? w _ hx131_3)).trans hx131_3
                try replace hx131_4 := (HB.out.cell (World.block_lt_of_cell? w _ hx131_4)).trans hx131_4
                try replace hx131_5 := (HB.out.cell (World.block_lt_of_cell? w _ hx131_5)).trans hx131_5
                try replace hx131_6 := (HB.out.cell (World.block_lt_of_cell? w _ hx131_6)).trans hx131_6
                try replace hx131_7 := (HB.out.cell (World.block_lt_of_cell? w _ hx131_7)).trans hx131_7
                have HR131_6 := Aside0.mk hi131_6
                have HC131_6 := Aside0.mk hl131_6
                clear hi131_6 hl131_6
                have HR131_7 := Aside0.mk hi131_7
                have HC131_7 := Aside0.mk hl131_7
                clear hi131_7 hl131_7
                replace p131 := eq_true p131
                replace q131 := eq_true q131
                try go_wp2_with (first | ((with_reducible refine gate_dst (N := 5) rfl ?_); refine box_event ?hg (N := 5) ?hd (cs := #[.int .i64 0, .int .i64 0, .int .i64 0, .int .i64 0, .int .i64 0, .int .i64 0, .slice none 0 0, .slice none 0 0]) (t := 27) ?hr ?_; (case hd => rfl); (case hg => rfl); (case hr => first | (go_simp; done) | (go_simp; rfl)); intro gb132 hg w12 hbox hb; have n0_ := Aside0.mk (Kd.R_below (by (with_reducible repeat (first | apply Kd.R_alloc | apply Kd.R_drewN | apply Kd.R_drew)); exact HO_3.out) hb); have n1_ := Aside0.mk (blk_below (g := gb127) (o := .cells #[.int .i64 a0_0, .int .i64 a0_1, .slice A0_2 l0_2.length c0_2, .slice (some ad131) l0_3.length c0_3] 61 (0, 0)) (by (with_reducible repeat (first | refine blk_drewN ?_ _ | refine blk_drew ?_ | refine blk_alloc ?_ _)); exact BK127.out) hb); have n2_ := Aside0.mk (below_step (by repeat (first | (with_reducible first | exact HB.out | apply below_alloc | apply pw_below_drewN | apply below_drew1 | refine below_set ?_ GE127.out) | exact HB.out)) hb); have n3_ := Aside0.mk (hbox); have n4_ := Aside0.mk ((by rw [hg]; exact (below_size (by repeat (first | (with_reducible first | exact HB.out | apply below_alloc | apply pw_below_drewN | apply below_drew1 | refine below_set ?_ GE127.out) | exact HB.out))) : w.heap.size ≤ gb132)); have n5_ := Aside0.mk ((by rw [hg]; exact (below_size (by repeat (first | (with_reducible first | exact HB.out | apply below_alloc | apply pw_below_drewN | apply below_drew1 | refine below_set ?_ GE127.out) | exact HB.out))) : w.heap.size ≤ gb132)); have n6_ := Aside0.mk ((by rw [hg]; exact Nat.ne_of_lt (blk_lt (g := gb127) (o := .cells #[.int .i64 a0_0, .int .i64 a0_1, .slice A0_2 l0_2.length c0_2, .slice (some ad131) l0_3.length c0_3] 61 (0, 0)) (by (with_reducible repeat (first | refine blk_drewN ?_ _ | refine blk_drew ?_ | refine blk_alloc ?_ _)); exact BK127.out)) : gb127 ≠ gb132)); have n7_ := Aside0.mk ((by rw [hg]; exact Nat.ne_of_gt (blk_lt (g := gb127) (o := .cells #[.int .i64 a0_0, .int .i64 a0_1, .slice A0_2 l0_2.length c0_2, .slice (some ad131) l0_3.length c0_3] 61 (0, 0)) (by (with_reducible repeat (first | refine blk_drewN ?_ _ | refine blk_drew ?_ | refine blk_alloc ?_ _)); exact BK127.out)) : gb132 ≠ gb127)); clear HO_3; clear BK127; clear HB; have HO_3 := n0_; have BK127 := n1_; have HB := n2_; have BK132 := n3_; have GW132 := n4_; have GE132 := n5_; have NB127_132 := n6_; have NB132_127 := n7_; clear n0_ n1_ n2_ n3_ n4_ n5_ n6_ n7_; clear hb hbox hg; have hnb13 := NB132_127.out; have hnc13 := NB127_132.out; have hcz14_0 : w12.cell? ⟨gb132, 0, none⟩ = some (.int .i64 0) := (blk_cell BK132.out 0).trans rfl; have hcz14_1 : w12.cell? ⟨gb132, 1, none⟩ = some (.int .i64 0) := (blk_cell BK132.out 1).trans rfl; have hcz14_2 : w12.cell? ⟨gb132, 2, none⟩ = some (.int .i64 0) := (blk_cell BK132.out 2).trans rfl; have hcz14_3 : w12.cell? ⟨gb132, 3, none⟩ = some (.int .i64 0) := (blk_cell BK132.out 3).trans rfl; have hcz14_4 : w12.cell? ⟨gb132, 4, none⟩ = some (.int .i64 0) := (blk_cell BK132.out 4).trans rfl; have hcz14_5 : w12.cell? ⟨gb132, 5, none⟩ = some (.int .i64 0) := (blk_cell BK132.out 5).trans rfl; have hcz14_6 : w12.cell? ⟨gb132, 6, none⟩ = some (.slice none 0 0) := (blk_cell BK132.out 6).trans rfl; have hcz14_7 : w12.cell? ⟨gb132, 7, none⟩ = some (.slice none 0 0) := (blk_cell BK132.out 7).trans rfl; have hfz14_0 := blk_frozen BK132.out 0; have hfz14_1 := blk_frozen BK132.out 1; have hfz14_2 := blk_frozen BK132.out 2; have hfz14_3 := blk_frozen BK132.out 3; have hfz14_4 := blk_frozen BK132.out 4; have hfz14_5 := blk_frozen BK132.out 5; have hfz14_6 := blk_frozen BK132.out 6; have hfz14_7 := blk_frozen BK132.out 7))
                have n0_ : Aside0 (Kd.R k23 23 ((((((((w12.setCell ⟨gb132, 0, none⟩ (.int .i64 ((rd_T27 l0_3 x12_1).f0))).setCell ⟨gb132, 1, none⟩ (.int .i64 ((rd_T27 l0_3 x12_1).f1))).setCell ⟨gb132, 2, none⟩ (.int .i64 ((rd_T27 l0_3 x12_1).f2))).setCell ⟨gb132, 3, none⟩ (.int .i64 ((rd_T27 l0_3 x12_1).f3))).setCell ⟨gb132, 4, none⟩ (.int .i64 ((rd_T27 l0_3 x12_1).f4.f0))).setCell ⟨gb132, 5, none⟩ (.int .i64 ((rd_T27 l0_3 x12_1).f4.f1))).setCell ⟨gb132, 6, none⟩ (.slice A131_6 ((rd_T27 l0_3 x12_1).f5).length c131_6)).setCell ⟨gb132, 7, none⟩ (.slice A131_7 ((rd_T27 l0_3 x12_1).f6).length c131_7)) w.heap.size (fun _ => True) u3 x3_1) := ⟨by (with_reducible repeat (first | apply Kd.R_alloc | apply Kd.R_drewN | apply Kd.R_drew)); exact Kd.R_mono (Kd.R_far (p := ⟨gb132, 7, none⟩) (Kd.R_far (p := ⟨gb132, 6, none⟩) (Kd.R_far (p := ⟨gb132, 5, none⟩) (Kd.R_far (p := ⟨gb132, 4, none⟩) (Kd.R_far (p := ⟨gb132, 3, none⟩) (Kd.R_far (p := ⟨gb132, 2, none⟩) (Kd.R_far (p := ⟨gb132, 1, none⟩) (Kd.R_far (p := ⟨gb132, 0, none⟩) (Kd.R_types HO_3.out BK132.out (by decide)) (fun _ hk => hk.2) (.int .i64 ((rd_T27 l0_3 x12_1).f0))) (fun _ hk => hk.2) (.int .i64 ((rd_T27 l0_3 x12_1).f1))) (fun _ hk => hk.2) (.int .i64 ((rd_T27 l0_3 x12_1).f2))) (fun _ hk => hk.2) (.int .i64 ((rd_T27 l0_3 x12_1).f3))) (fun _ hk => hk.2) (.int .i64 ((rd_T27 l0_3 x12_1).f4.f0))) (fun _ hk => hk.2) (.int .i64 ((rd_T27 l0_3 x12_1).f4.f1))) (fun _ hk => hk.2) (.slice A131_6 ((rd_T27 l0_3 x12_1).f5).length c131_6)) (fun _ hk => hk.2) (.slice A131_7 ((rd_T27 l0_3 x12_1).f6).length c131_7)) (fun _ hk => trivial)⟩
                have n1_ : Aside0 (((((((((w12.setCell ⟨gb132, 0, none⟩ (.int .i64 ((rd_T27 l0_3 x12_1).f0))).setCell ⟨gb132, 1, none⟩ (.int .i64 ((rd_T27 l0_3 x12_1).f1))).setCell ⟨gb132, 2, none⟩ (.int .i64 ((rd_T27 l0_3 x12_1).f2))).setCell ⟨gb132, 3, none⟩ (.int .i64 ((rd_T27 l0_3 x12_1).f3))).setCell ⟨gb132, 4, none⟩ (.int .i64 ((rd_T27 l0_3 x12_1).f4.f0))).setCell ⟨gb132, 5, none⟩ (.int .i64 ((rd_T27 l0_3 x12_1).f4.f1))).setCell ⟨gb132, 6, none⟩ (.slice A131_6 ((rd_T27 l0_3 x12_1).f5).length c131_6)).setCell ⟨gb132, 7, none⟩ (.slice A131_7 ((rd_T27 l0_3 x12_1).f6).length c131_7)).heap[gb127]? = some (.cells #[.int .i64 a0_0, .int .i64 a0_1, .slice A0_2 l0_2.length c0_2, .slice (some ad131) l0_3.length c0_3] 61 (0, 0))) := ⟨by (with_reducible repeat (first | refine blk_drewN ?_ _ | refine blk_drew ?_ | refine blk_alloc ?_ _)); refine blk_far ?_ NB127_132.out _; (with_reducible repeat (first | refine blk_drewN ?_ _ | refine blk_drew ?_ | refine blk_alloc ?_ _)); refine blk_far ?_ NB127_132.out _; (with_reducible repeat (first | refine blk_drewN ?_ _ | refine blk_drew ?_ | refine blk_alloc ?_ _)); refine blk_far ?_ NB127_132.out _; (with_reducible repeat (first | refine blk_drewN ?_ _ | refine blk_drew ?_ | refine blk_alloc ?_ _)); refine blk_far ?_ NB127_132.out _; (with_reducible repeat (first | refine blk_drewN ?_ _ | refine blk_drew ?_ | refine blk_alloc ?_ _)); refine blk_far ?_ NB127_132.out _; (with_reducible repeat (first | refine blk_drewN ?_ _ | refine blk_drew ?_ | refine blk_alloc ?_ _)); refine blk_far ?_ NB127_132.out _; (with_reducible repeat (first | refine blk_drewN ?_ _ | refine blk_drew ?_ | refine blk_alloc ?_ _)); refine blk_far ?_ NB127_132.out _; (with_reducible repeat (first | refine blk_drewN ?_ _ | refine blk_drew ?_ | refine blk_alloc ?_ _)); refine blk_far ?_ NB127_132.out _; (with_reducible repeat (first | refine blk_drewN ?_ _ | refine blk_drew ?_ | refine blk_alloc ?_ _)); exact BK127.out⟩
                have n2_ : Aside0 (((((((((w12.setCell ⟨gb132, 0, none⟩ (.int .i64 ((rd_T27 l0_3 x12_1).f0))).setCell ⟨gb132, 1, none⟩ (.int .i64 ((rd_T27 l0_3 x12_1).f1))).setCell ⟨gb132, 2, none⟩ (.int .i64 ((rd_T27 l0_3 x12_1).f2))).setCell ⟨gb132, 3, none⟩ (.int .i64 ((rd_T27 l0_3 x12_1).f3))).setCell ⟨gb132, 4, none⟩ (.int .i64 ((rd_T27 l0_3 x12_1).f4.f0))).setCell ⟨gb132, 5, none⟩ (.int .i64 ((rd_T27 l0_3 x12_1).f4.f1))).setCell ⟨gb132, 6, none⟩ (.slice A131_6 ((rd_T27 l0_3 x12_1).f5).length c131_6)).setCell ⟨gb132, 7, none⟩ (.slice A131_7 ((rd_T27 l0_3 x12_1).f6).length c131_7)).heap[gb132]? = some (.cells #[.int .i64 ((rd_T27 l0_3 x12_1).f0), .int .i64 ((rd_T27 l0_3 x12_1).f1), .int .i64 ((rd_T27 l0_3 x12_1).f2), .int .i64 ((rd_T27 l0_3 x12_1).f3), .int .i64 ((rd_T27 l0_3 x12_1).f4.f0), .int .i64 ((rd_T27 l0_3 x12_1).f4.f1), .slice A131_6 ((rd_T27 l0_3 x12_1).f5).length c131_6, .slice A131_7 ((rd_T27 l0_3 x12_1).f6).length c131_7] 27 (0, 0))) := ⟨by (with_reducible repeat (first | refine blk_drewN ?_ _ | refine blk_drew ?_ | refine blk_alloc ?_ _)); refine blk_put (cs := #[.int .i64 ((rd_T27 l0_3 x12_1).f0), .int .i64 ((rd_T27 l0_3 x12_1).f1), .int .i64 ((rd_T27 l0_3 x12_1).f2), .int .i64 ((rd_T27 l0_3 x12_1).f3), .int .i64 ((rd_T27 l0_3 x12_1).f4.f0), .int .i64 ((rd_T27 l0_3 x12_1).f4.f1), .slice A131_6 ((rd_T27 l0_3 x12_1).f5).length c131_6, .slice none 0 0]) ?_ 7 _ rfl; (with_reducible repeat (first | refine blk_drewN ?_ _ | refine blk_drew ?_ | refine blk_alloc ?_ _)); refine blk_put (cs := #[.int .i64 ((rd_T27 l0_3 x12_1).f0), .int .i64 ((rd_T27 l0_3 x12_1).f1), .int .i64 ((rd_T27 l0_3 x12_1).f2), .int .i64 ((rd_T27 l0_3 x12_1).f3), .int .i64 ((rd_T27 l0_3 x12_1).f4.f0), .int .i64 ((rd_T27 l0_3 x12_1).f4.f1), .slice none 0 0, .slice none 0 0]) ?_ 6 _ rfl; (with_reducible repeat (first | refine blk_drewN ?_ _ | refine blk_drew ?_ | refine blk_alloc ?_ _)); refine blk_put (cs := #[.int .i64 ((rd_T27 l0_3 x12_1).f0), .int .i64 ((rd_T27 l0_3 x12_1).f1), .int .i64 ((rd_T27 l0_3 x12_1).f2), .int .i64 ((rd_T27 l0_3 x12_1).f3), .int .i64 ((rd_T27 l0_3 x12_1).f4.f0), .int .i64 0, .slice none 0 0, .slice none 0 0]) ?_ 5 _ rfl; (with_reducible repeat (first | refine blk_drewN ?_ _ | refine blk_drew ?_ | refine blk_alloc ?_ _)); refine blk_put (cs := #[.int .i64 ((rd_T27 l0_3 x12_1).f0), .int .i64 ((rd_T27 l0_3 x12_1).f1), .int .i64 ((rd_T27 l0_3 x12_1).f2), .int .i64 ((rd_T27 l0_3 x12_1).f3), .int .i64 0, .int .i64 0, .slice none 0 0, .slice none 0 0]) ?_ 4 _ rfl; (with_reducible repeat (first | refine blk_drewN ?_ _ | refine blk_drew ?_ | refine blk_alloc ?_ _)); refine blk_put (cs := #[.int .i64 ((rd_T27 l0_3 x12_1).f0), .int .i64 ((rd_T27 l0_3 x12_1).f1), .int .i64 ((rd_T27 l0_3 x12_1).f2), .int .i64 0, .int .i64 0, .int .i64 0, .slice none 0 0, .slice none 0 0]) ?_ 3 _ rfl; (with_reducible repeat (first | refine blk_drewN ?_ _ | refine blk_drew ?_ | refine blk_alloc ?_ _)); refine blk_put (cs := #[.int .i64 ((rd_T27 l0_3 x12_1).f0), .int .i64 ((rd_T27 l0_3 x12_1).f1), .int .i64 0, .int .i64 0, .int .i64 0, .int .i64 0, .slice none 0 0, .slice none 0 0]) ?_ 2 _ rfl; (with_reducible repeat (first | refine blk_drewN ?_ _ | refine blk_drew ?_ | refine blk_alloc ?_ _)); refine blk_put (cs := #[.int .i64 ((rd_T27 l0_3 x12_1).f0), .int .i64 0, .int .i64 0, .int .i64 0, .int .i64 0, .int .i64 0, .slice none 0 0, .slice none 0 0]) ?_ 1 _ rfl; (with_reducible repeat (first | refine blk_drewN ?_ _ | refine blk_drew ?_ | refine blk_alloc ?_ _)); refine blk_put (cs := #[.int .i64 0, .int .i64 0, .int .i64 0, .int .i64 0, .int .i64 0, .int .i64 0, .slice none 0 0, .slice none 0 0]) ?_ 0 _ rfl; (with_reducible repeat (first | refine blk_drewN ?_ _ | refine blk_drew ?_ | refine blk_alloc ?_ _)); exact BK132.out⟩
                have n3_ : Aside0 (Below w.heap.size w ((((((((w12.setCell ⟨gb132, 0, none⟩ (.int .i64 ((rd_T27 l0_3 x12_1).f0))).setCell ⟨gb132, 1, none⟩ (.int .i64 ((rd_T27 l0_3 x12_1).f1))).setCell ⟨gb132, 2, none⟩ (.int .i64 ((rd_T27 l0_3 x12_1).f2))).setCell ⟨gb132, 3, none⟩ (.int .i64 ((rd_T27 l0_3 x12_1).f3))).setCell ⟨gb132, 4, none⟩ (.int .i64 ((rd_T27 l0_3 x12_1).f4.f0))).setCell ⟨gb132, 5, none⟩ (.int .i64 ((rd_T27 l0_3 x12_1).f4.f1))).setCell ⟨gb132, 6, none⟩ (.slice A131_6 ((rd_T27 l0_3 x12_1).f5).length c131_6)).setCell ⟨gb132, 7, none⟩ (.slice A131_7 ((rd_T27 l0_3 x12_1).f6).length c131_7))) := ⟨by repeat (first | (with_reducible first | exact HB.out | apply below_alloc | apply pw_below_drewN | apply below_drew1 | refine below_set ?_ GE127.out | refine below_set ?_ GE132.out) | exact HB.out)⟩
                (try clear HO_3)
                (try clear BK127)
                (try clear BK132)
                (try clear HB)
                generalize ((((((((w12.setCell ⟨gb132, 0, none⟩ (.int .i64 ((rd_T27 l0_3 x12_1).f0))).setCell ⟨gb132, 1, none⟩ (.int .i64 ((rd_T27 l0_3 x12_1).f1))).setCell ⟨gb132, 2, none⟩ (.int .i64 ((rd_T27 l0_3 x12_1).f2))).setCell ⟨gb132, 3, none⟩ (.int .i64 ((rd_T27 l0_3 x12_1).f3))).setCell ⟨gb132, 4, none⟩ (.int .i64 ((rd_T27 l0_3 x12_1).f4.f0))).setCell ⟨gb132, 5, none⟩ (.int .i64 ((rd_T27 l0_3 x12_1).f4.f1))).setCell ⟨gb132, 6, none⟩ (.slice A131_6 ((rd_T27 l0_3 x12_1).f5).length c131_6)).setCell ⟨gb132, 7, none⟩ (.slice A131_7 ((rd_T27 l0_3 x12_1).f6).length c131_7)) = w15 at n0_ n1_ n2_ n3_ ⊢
                have HO_3 := n0_
                have BK127 := n1_
                have BK132 := n2_
                have HB := n3_
                clear n0_ n1_ n2_ n3_
                have n0_ := Aside0.mk (Kd.R_drew HO_3.out)
                have n1_ := Aside0.mk (blk_drew BK127.out)
                have n2_ := Aside0.mk (blk_drew BK132.out)
                have n3_ := Aside0.mk (below_drew1 HB.out)
                clear HO_3
                clear BK127
                clear BK132
                clear HB
                have HO_3 := n0_
                have BK127 := n1_
                have BK132 := n2_
                have HB := n3_
                clear n0_ n1_ n2_ n3_
                refine start_ (n := 9) (S := fun w' => w'.cell? ⟨gb132, 0, none⟩ = some (.int .i64 ((rd_T27 l0_3 x12_1).f0)) ∧ w'.cell? ⟨gb132, 1, none⟩ = some (.int .i64 ((rd_T27 l0_3 x12_1).f1)) ∧ w'.cell? ⟨gb132, 2, none⟩ = some (.int .i64 ((rd_T27 l0_3 x12_1).f2)) ∧ w'.cell? ⟨gb132, 3, none⟩ = some (.int .i64 ((rd_T27 l0_3 x12_1).f3)) ∧ w'.cell? ⟨gb132, 4, none⟩ = some (.int .i64 ((rd_T27 l0_3 x12_1).f4.f0)) ∧ w'.cell? ⟨gb132, 5, none⟩ = some (.int .i64 ((rd_T27 l0_3 x12_1).f4.f1)) ∧ w'.cell? ⟨gb132, 6, none⟩ = some (.slice A131_6 ((rd_T27 l0_3 x12_1).f5).length c131_6) ∧ w'.cell? ⟨gb132, 7, none⟩ = some (.slice A131_7 ((rd_T27 l0_3 x12_1).f6).length c131_7)) (ds := []) #[false, false, false, false, false, false, false, false, false] (by kernel_rfl) rfl rfl ⟨(blk_cell BK132.out 0).trans rfl, (blk_cell BK132.out 1).trans rfl, (blk_cell BK132.out 2).trans rfl, (blk_cell BK132.out 3).trans rfl, (blk_cell BK132.out 4).trans rfl, (blk_cell BK132.out 5).trans rfl, (blk_cell BK132.out 6).trans rfl, (blk_cell BK132.out 7).trans rfl⟩ (fun hHeld => ?_); refine with_tabW backstitchref3_CellVals.tab5 backstitchref3_CellVals.bits5 (fun HT_ HW_ => ?_)
                generalize w15.drew = w16 at HO_3 BK127 BK132 HB hHeld ⊢
                refine pure_ (i := 0) (N := some 16) (v := ?_) (a' := ?_) #[true, false, false, false, false, false, false, false, false] rfl rfl (any_of HT_.out (by kernel_rfl)) (fun _ _ _ h => h) (Or.inl ⟨by rfl, ?_⟩) ?_ ?_
                rotate_left
                · intro w'
                  go_simp
                  with_reducible rfl
                rotate_left
                · simp only [Act.put, List.setIfInBounds_toArray, List.set_cons_zero, List.set_cons_succ, i64_w, i32_w]
                  rfl
                refine pure_ (i := 1) (N := some 17) (v := ?_) (a' := ?_) #[true, true, false, false, false, false, false, false, false] rfl rfl (any_of HT_.out (by kernel_rfl)) (fun _ _ _ h => h) (Or.inl ⟨by rfl, ?_⟩) ?_ ?_
                rotate_left
                · intro w'
                  go_simp
                  with_reducible rfl
                rotate_left
                · simp only [Act.put, List.setIfInBounds_toArray, List.set_cons_zero, List.set_cons_succ, i64_w, i32_w]
                  rfl
                refine pure_ (i := 5) (N := some 21) (v := ?_) (a' := ?_) #[true, true, false, false, false, true, false, false, false] rfl rfl (any_of HT_.out (by kernel_rfl)) (fun _ _ _ h => h) (Or.inl ⟨by rfl, ?_⟩) ?_ ?_
                rotate_left
                · intro w'
                  go_simp
                  with_reducible rfl
                rotate_left
                · simp only [Act.put, List.setIfInBounds_toArray, List.set_cons_zero, List.set_cons_succ, i64_w, i32_w]
                  rfl
                refine take_ (i := 2) (N := some 18) (v := ?_) (a' := ?_) #[true, true, true, false, false, true, false, false, false] rfl rfl (take_ofW HT_.out HW_.out (by kernel_rfl)) (fun _ _ _ h => h) (Or.inl ⟨by rfl, ?_⟩) hHeld ?_ ?_
                rotate_left
                · rintro w' ⟨s0, s1, s2, s3, s4, s5, s6, s7⟩
                  go_simp
                  with_reducible rfl
                rotate_left
                · simp only [Act.put, List.setIfInBounds_toArray, List.set_cons_zero, List.set_cons_succ, i64_w, i32_w]
                  rfl
                refine take_ (i := 6) (N := some 22) (v := ?_) (a' := ?_) #[true, true, true, false, false, true, true, false, false] rfl rfl (take_ofW HT_.out HW_.out (by kernel_rfl)) (fun _ _ _ h => h) (Or.inl ⟨by rfl, ?_⟩) hHeld ?_ ?_
                rotate_left
                · rintro w' ⟨s0, s1, s2, s3, s4, s5, s6, s7⟩
                  go_simp
                  with_reducible rfl
                rotate_left
                · simp only [Act.put, List.setIfInBounds_toArray, List.set_cons_zero, List.set_cons_succ, i64_w, i32_w]
                  rfl
                refine one_ (i := 3) (N := some 19) #[true, true, true, true, false, true, true, false, false] rfl rfl (one_of HT_.out (by kernel_rfl)) (by decide) (fun K hK => ?_)
                refine value_ (w1 := ?_) (v := ?_) (by rfl) rfl ?_ ?_
                rotate_left 2
                · go_simp
                  constructor
                  · rfl
                  · rfl
                refine hK.out _ _ ⟨(blk_cell (blk_alloc BK132.out _) 0).trans rfl, (blk_cell (blk_alloc BK132.out _) 1).trans rfl, (blk_cell (blk_alloc BK132.out _) 2).trans rfl, (blk_cell (blk_alloc BK132.out _) 3).trans rfl, (blk_cell (blk_alloc BK132.out _) 4).trans rfl, (blk_cell (blk_alloc BK132.out _) 5).trans rfl, (blk_cell (blk_alloc BK132.out _) 6).trans rfl, (blk_cell (blk_alloc BK132.out _) 7).trans rfl⟩ (fun hHeld => ?_)
                clear hK K
                refine norm_ (a' := ?_) ?_ ?_
                rotate_left
                · show Act.put _ (some 19) _ = _
                  simp only [Act.put, List.setIfInBounds_toArray, List.set_cons_zero, List.set_cons_succ, i64_w, i32_w]
                  rfl
                refine one_ (i := 4) (N := some 20) #[true, true, true, true, true, true, true, false, false] rfl rfl (one_of HT_.out (by kernel_rfl)) (by decide) (fun K hK => ?_)
                refine Kd.R_append_step k23 (w0 := w) w.heap.size (by rfl) (.tmp 16) (.tmp 19) 24 23 (.agg #[(.int .i64 0), (.int .i64 0)]) 16 rfl Try.underlying24 info23 rfl (by decide) (by omega) u3 x3_1 (⟨(rd_T27 l0_3 x12_1).f4.f0, (rd_T27 l0_3 x12_1).f4.f1⟩ : S23) [.int .i64 ((rd_T27 l0_3 x12_1).f4.f0), .int .i64 ((rd_T27 l0_3 x12_1).f4.f1)] (fun _ => True) (fun _ => False) rfl rfl ?aP (fun _ hk => hk.elim) ?aF ?aO ?aB ?aS ?aL ?_
                (case aP => exact k23_mkM _ _ _ (⟨(rd_T27 l0_3 x12_1).f4.f0, (rd_T27 l0_3 x12_1).f4.f1⟩ : S23))
                (case aB => exact (by repeat (first | (with_reducible first | exact HB.out | apply below_alloc | apply pw_below_drewN | apply below_drew1 | refine below_set ?_ GE127.out | refine below_set ?_ GE132.out) | exact HB.out)))
                (case aF => exact (fun _ _ => trivial))
                (case aO => exact (by (with_reducible repeat (first | apply Kd.R_alloc | apply Kd.R_drewN | apply Kd.R_drew)); exact HO_3.out))
                (case aS => exact (below_size (by repeat (first | (with_reducible first | exact HB.out | apply below_alloc | apply pw_below_drewN | apply below_drew1 | refine below_set ?_ GE127.out | refine below_set ?_ GE132.out) | exact HB.out))))
                (case aL => have := LMc10.out; omega)
                intro v134 w17 ho hb hg hat
                rw [← Ny133.out] at ho
                have n0_ := Aside0.mk (blk_grown (g := gb127) (o := .cells #[.int .i64 a0_0, .int .i64 a0_1, .slice A0_2 l0_2.length c0_2, .slice (some ad131) l0_3.length c0_3] 61 (0, 0)) (by (with_reducible repeat (first | refine blk_drewN ?_ _ | refine blk_drew ?_ | refine blk_alloc ?_ _)); exact BK127.out) hg (Kd.R_ne HO_3.out BK127.out (by decide)))
                have n1_ := Aside0.mk (blk_grown (g := gb132) (o := .cells #[.int .i64 ((rd_T27 l0_3 x12_1).f0), .int .i64 ((rd_T27 l0_3 x12_1).f1), .int .i64 ((rd_T27 l0_3 x12_1).f2), .int .i64 ((rd_T27 l0_3 x12_1).f3), .int .i64 ((rd_T27 l0_3 x12_1).f4.f0), .int .i64 ((rd_T27 l0_3 x12_1).f4.f1), .slice A131_6 ((rd_T27 l0_3 x12_1).f5).length c131_6, .slice A131_7 ((rd_T27 l0_3 x12_1).f6).length c131_7] 27 (0, 0)) (by (with_reducible repeat (first | refine blk_drewN ?_ _ | refine blk_drew ?_ | refine blk_alloc ?_ _)); exact BK132.out) hg (Kd.R_ne HO_3.out BK132.out (by decide)))
                have n2_ := Aside0.mk (hb)
                have n3_ := Aside0.mk (ho)
                clear BK127
                clear BK132
                clear HB
                clear HO_3
                have BK127 := n0_
                have BK132 := n1_
                have HB := n2_
                have HO135 := n3_
                clear n0_ n1_ n2_ n3_
                clear ho hb hg hat
                refine hK.out _ _ ⟨(blk_cell BK132.out 0).trans rfl, (blk_cell BK132.out 1).trans rfl, (blk_cell BK132.out 2).trans rfl, (blk_cell BK132.out 3).trans rfl, (blk_cell BK132.out 4).trans rfl, (blk_cell BK132.out 5).trans rfl, (blk_cell BK132.out 6).trans rfl, (blk_cell BK132.out 7).trans rfl⟩ (fun hHeld => ?_)
                clear hK K
                refine norm_ (a' := ?_) ?_ ?_
                rotate_left
                · show Act.put _ (some 20) _ = _
                  simp only [Act.put, List.setIfInBounds_toArray, List.set_cons_zero, List.set_cons_succ, i64_w, i32_w]
                  rfl
                refine one_ (i := 7) (N := some 23) #[true, true, true, true, true, true, true, true, false] rfl rfl (one_of HT_.out (by kernel_rfl)) (by decide) (fun K hK => ?_)
                refine Kd.R_append_rows_step k23 (w0 := w) w.heap.size (by rfl) (.tmp 20) (.tmp 22) 24 23 (.agg #[(.int .i64 0), (.int .i64 0)]) 16 rfl Try.underlying24 info23 rfl (by decide) (by omega) v134 y133 ((rd_T27 l0_3 x12_1).f5) _ _ _ (fun _ => True) (fun _ => False) rfl rfl ?aO ?aR (fun _ _ h => h) (fun _ h => h.elim) ?aF ?aB ?aS ?aL ?_
                (case aR => repeat (first | exact (Kd.C_below HR131_6.out HB.out) | (with_reducible refine Kd.C_alloc ?_ _) | (with_reducible refine Kd.C_drewN ?_ _) | (with_reducible refine Kd.C_drew ?_)))
                (case aB => exact (by repeat (first | (with_reducible first | exact HB.out | apply below_alloc | apply pw_below_drewN | apply below_drew1 | refine below_set ?_ GE127.out | refine below_set ?_ GE132.out) | exact HB.out)))
                (case aF => exact (fun _ _ => trivial))
                (case aO => exact (by (with_reducible repeat (first | apply Kd.R_alloc | apply Kd.R_drewN | apply Kd.R_drew)); exact HO135.out))
                (case aS => exact (below_size (by repeat (first | (with_reducible first | exact HB.out | apply below_alloc | apply pw_below_drewN | apply below_drew1 | refine below_set ?_ GE127.out | refine below_set ?_ GE132.out) | exact HB.out))))
                (case aL => have := LMc11.out; omega)
                intro v137 w18 ho hb hg hat
                rw [← Ny136.out] at ho
                have n0_ := Aside0.mk (blk_grown (g := gb127) (o := .cells #[.int .i64 a0_0, .int .i64 a0_1, .slice A0_2 l0_2.length c0_2, .slice (some ad131) l0_3.length c0_3] 61 (0, 0)) (by (with_reducible repeat (first | refine blk_drewN ?_ _ | refine blk_drew ?_ | refine blk_alloc ?_ _)); exact BK127.out) hg (Kd.R_ne HO135.out BK127.out (by decide)))
                have n1_ := Aside0.mk (blk_grown (g := gb132) (o := .cells #[.int .i64 ((rd_T27 l0_3 x12_1).f0), .int .i64 ((rd_T27 l0_3 x12_1).f1), .int .i64 ((rd_T27 l0_3 x12_1).f2), .int .i64 ((rd_T27 l0_3 x12_1).f3), .int .i64 ((rd_T27 l0_3 x12_1).f4.f0), .int .i64 ((rd_T27 l0_3 x12_1).f4.f1), .slice A131_6 ((rd_T27 l0_3 x12_1).f5).length c131_6, .slice A131_7 ((rd_T27 l0_3 x12_1).f6).length c131_7] 27 (0, 0)) (by (with_reducible repeat (first | refine blk_drewN ?_ _ | refine blk_drew ?_ | refine blk_alloc ?_ _)); exact BK132.out) hg (Kd.R_ne HO135.out BK132.out (by decide)))
                have n2_ := Aside0.mk (hb)
                have n3_ := Aside0.mk (ho)
                clear BK127
                clear BK132
                clear HB
                clear HO135
                have BK127 := n0_
                have BK132 := n1_
                have HB := n2_
                have HO138 := n3_
                clear n0_ n1_ n2_ n3_
                clear ho hb hg hat
                refine hK.out _ _ ⟨(blk_cell BK132.out 0).trans rfl, (blk_cell BK132.out 1).trans rfl, (blk_cell BK132.out 2).trans rfl, (blk_cell BK132.out 3).trans rfl, (blk_cell BK132.out 4).trans rfl, (blk_cell BK132.out 5).trans rfl, (blk_cell BK132.out 6).trans rfl, (blk_cell BK132.out 7).trans rfl⟩ (fun hHeld => ?_)
                clear hK K
                refine norm_ (a' := ?_) ?_ ?_
                rotate_left
                · show Act.put _ (some 23) _ = _
                  simp only [Act.put, List.setIfInBounds_toArray, List.set_cons_zero, List.set_cons_succ, i64_w, i32_w]
                  rfl
                refine pure_ (i := 8) (N := some 3) (v := ?_) (a' := ?_) #[true, true, true, true, true, true, true, true, true] rfl rfl (any_of HT_.out (by kernel_rfl)) (fun _ _ _ h => h) (Or.inl ⟨by rfl, ?_⟩) ?_ ?_
                rotate_left
                · intro w'
                  go_simp
                  with_reducible rfl
                rotate_left
                · simp only [Act.put, List.setIfInBounds_toArray, List.set_cons_zero, List.set_cons_succ, i64_w, i32_w]
                  rfl
                refine done_ (done_of HT_.out (by kernel_rfl)) ?_
                try go_wp2
                go_roundg k1
                case measure => have := HK1.out; omega
                case rel => exact ⟨(y136), (wrap64 (x12_1 + 1)), (by first | rfl | (simp; done) | (simp [*]; done)), H', ⟨by have := HK1.out; omega⟩, ⟨by (with_reducible repeat (first | apply Kd.R_alloc | apply Kd.R_drewN | apply Kd.R_drew)); exact HO138.out⟩, ⟨by (with_reducible repeat (first | refine blk_drewN ?_ _ | refine blk_drew ?_ | refine blk_alloc ?_ _)); exact BK127.out⟩, ⟨by repeat (first | (with_reducible first | exact HB.out | apply below_alloc | apply pw_below_drewN | apply below_drew1 | refine below_set ?_ GE127.out | refine below_set ?_ GE132.out) | exact HB.out)⟩⟩
              · rw [if_neg c11] at H
                exact absurd H (by simp)
            · rw [if_neg c10] at H
              exact absurd H (by simp)
          · rw [if_neg c9] at H
            exact absurd H (by simp)
        · rw [if_neg c8] at H
          exact absurd H (by simp)
      · rw [if_neg c7] at H
        have c7b0 : decide (x12_1 < (l0_3.length : Int)) = false := decide_eq_false c7
        clear c7
        obtain rfl := Option.some.inj H
        go_wp2
        go_ret
        exact ⟨_, by first | rfl | (simp [errW_none, errW_some] <;> rfl) | (simp [*, errW_none, errW_some] <;> rfl), by (with_reducible repeat (first | apply Kd.R_alloc | apply Kd.R_drewN | apply Kd.R_drew)); exact HO_3.out, by repeat (first | (with_reducible first | exact HB.out | apply below_alloc | apply pw_below_drewN | apply below_drew1 | refine below_set ?_ GE127.out) | exact HB.out)⟩

end Go.Proofs.Ytlojkphocbbjdaa.PWordsAll
