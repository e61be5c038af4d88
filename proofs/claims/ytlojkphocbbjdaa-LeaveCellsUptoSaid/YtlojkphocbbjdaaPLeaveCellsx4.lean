-- Printed for this claim by a program of this session (inj.py), beside the kit's print. Not trusted: Lean checks it.
import Derived.Test.YtlojkphocbbjdaaPLeaveCellsx0
import Derived.Test.YtlojkphocbbjdaaPLeaveCellsx2
import Derived.Test.YtlojkphocbbjdaaPLeaveCellsx3
namespace Go.Proofs.Ytlojkphocbbjdaa.PLeaveCells
open Go.RowKit Go.Proofs.YtlojkphocbbjdaaW.PrintWords Go.Proofs.YtlojkphocbbjdaaW.PrintLast Go.Proofs.YtlojkphocbbjdaaW.PrintMore
attribute [local go_sem] max2_int min2_int max_two min_two max_three min_three max_four min_four   -- for this text's walks alone
set_option linter.unusedVariables false
set_option linter.unusedSimpArgs false

/-! ### leave_Cells: function 27 -/
mutual
def leave_Cells.l0 : Nat → List (S23) → List (S61) → List (S63) → Int → Int → Option ((List (S61)) × Int)
  | 0, _, _, _, _, _ => none
  | k + 1, x2, x8, x19, x20, x21 => if x21 < x20 then (if 0 ≤ x21 then (if x21 < (x19.length : Int) then ((leave_told.f k (([(rd_T63 x19 x21).f0] : List Int)) x2).bind fun bt163 => ((leave_told.f k ((rd_T63 x19 x21).f3) x2).bind fun bt167 => (if bt163.2 = true then (leave_Cells.j1 k x2 x8 bt163.1 bt167.1 x19 x20 x21 (!bt167.2) ((rd_T63 x19 x21).f0) ((rd_T63 x19 x21).f1) ((rd_T63 x19 x21).f2) ((rd_T63 x19 x21).f3)) else (leave_Cells.j1 k x2 x8 bt163.1 bt167.1 x19 x20 x21 true ((rd_T63 x19 x21).f0) ((rd_T63 x19 x21).f1) ((rd_T63 x19 x21).f2) ((rd_T63 x19 x21).f3))))) else (none)) else (none)) else (some (x8, 0))
def leave_Cells.j1 : Nat → List (S23) → List (S61) → List (S23) → List (S23) → List (S63) → Int → Int → Bool → Int → Int → Int → List Int → Option ((List (S61)) × Int)
  | 0, _, _, _, _, _, _, _, _, _, _, _, _ => none
  | k + 1, x2, x8, x11, x13, x19, x20, x21, x45, x160000, x160001, x160002, x160003 => if x45 = true then (some (([] : List (S61)), 3)) else (if 0 < (x11.length : Int) then (if ((rd_T23 x11 0).f0) = 5 then (if ((rd_T23 x11 0).f1) < 0 then (some (([] : List (S61)), 8)) else (if ((rd_T23 x11 0).f1) ≥ (x8.length : Int) then (some (([] : List (S61)), 8)) else (if 0 ≤ ((rd_T23 x11 0).f1) then (if ((rd_T23 x11 0).f1) < (x8.length : Int) then (if ((rd_T61 x8 ((rd_T23 x11 0).f1)).f0) = 0 then (leave_Cells.l0 k x2 (x8.set (((rd_T23 x11 0).f1) : Int).toNat (⟨x160001, x160002, x13, ([] : List (S27))⟩ : S61)) x19 x20 (wrap64 (x21 + 1))) else (some (([] : List (S61)), 8))) else (none)) else (none)))) else (some (([] : List (S61)), 8))) else (none))
end
def leave_Cells.f (k : Nat) (l0 : List (S61)) (a1_0 : Int) (a1_1 : Int) (l1_2 : List (S38)) (l1_3 : List (S63)) (l2 : List (S23)) : Option ((List (S61)) × Int) := (leave_own.f l0).bind fun t155 => (leave_Cells.l0 k l2 t155 l1_3 (l1_3.length : Int) 0)
theorem leave_Cells.mono_l : ∀ k, (∀ y0 y1 y2 y3 y4, LeO (leave_Cells.l0 k y0 y1 y2 y3 y4) (leave_Cells.l0 (k + 1) y0 y1 y2 y3 y4)) ∧ (∀ y0 y1 y2 y3 y4 y5 y6 y7 y8 y9 y10 y11, LeO (leave_Cells.j1 k y0 y1 y2 y3 y4 y5 y6 y7 y8 y9 y10 y11) (leave_Cells.j1 (k + 1) y0 y1 y2 y3 y4 y5 y6 y7 y8 y9 y10 y11))
  | 0 => ⟨fun _ _ _ _ _ r h => by simp [leave_Cells.l0] at h, fun _ _ _ _ _ _ _ _ _ _ _ _ r h => by simp [leave_Cells.j1] at h⟩
  | k + 1 => by
    obtain ⟨ih0, ih1⟩ := leave_Cells.mono_l k
    refine ⟨?_, ?_⟩
    · intro y0 y1 y2 y3 y4
      unfold leave_Cells.l0
      repeat' first
      | (with_reducible exact ih0 _ _ _ _ _)
      | (with_reducible exact ih1 _ _ _ _ _ _ _ _ _ _ _ _)
      | (with_reducible exact leave_told.mono _ _ _)
      | (with_reducible exact LeO.refl _)
      | (with_reducible exact LeO.none _)
      | (with_reducible refine LeO.ite ?_ ?_)
      | (with_reducible refine LeO.bind ?_ (fun _ => ?_))
      | exact ih0 _ _ _ _ _
      | exact ih1 _ _ _ _ _ _ _ _ _ _ _ _
      | exact leave_told.mono _ _ _
      | exact LeO.none _
      | refine LeO.ite ?_ ?_
      | refine LeO.bind ?_ (fun _ => ?_)
    · intro y0 y1 y2 y3 y4 y5 y6 y7 y8 y9 y10 y11
      unfold leave_Cells.j1
      repeat' first
      | (with_reducible exact ih0 _ _ _ _ _)
      | (with_reducible exact ih1 _ _ _ _ _ _ _ _ _ _ _ _)
      | (with_reducible exact leave_told.mono _ _ _)
      | (with_reducible exact LeO.refl _)
      | (with_reducible exact LeO.none _)
      | (with_reducible refine LeO.ite ?_ ?_)
      | (with_reducible refine LeO.bind ?_ (fun _ => ?_))
      | exact ih0 _ _ _ _ _
      | exact ih1 _ _ _ _ _ _ _ _ _ _ _ _
      | exact leave_told.mono _ _ _
      | exact LeO.none _
      | refine LeO.ite ?_ ?_
      | refine LeO.bind ?_ (fun _ => ?_)
theorem leave_Cells.mono : ∀ a0 a1 a2 a3 a4 a5 k, LeO (leave_Cells.f k a0 a1 a2 a3 a4 a5) (leave_Cells.f (k + 1) a0 a1 a2 a3 a4 a5) := by
  intro a0 a1 a2 a3 a4 a5 k
  obtain ⟨ih0, ih1⟩ := leave_Cells.mono_l k
  unfold leave_Cells.f
  repeat' first
      | (with_reducible exact ih0 _ _ _ _ _)
      | (with_reducible exact ih1 _ _ _ _ _ _ _ _ _ _ _ _)
      | (with_reducible exact leave_told.mono _ _ _)
      | (with_reducible exact LeO.refl _)
      | (with_reducible exact LeO.none _)
      | (with_reducible refine LeO.ite ?_ ?_)
      | (with_reducible refine LeO.bind ?_ (fun _ => ?_))
      | exact ih0 _ _ _ _ _
      | exact ih1 _ _ _ _ _ _ _ _ _ _ _ _
      | exact leave_told.mono _ _ _
      | exact LeO.none _
      | refine LeO.ite ?_ ?_
      | refine LeO.bind ?_ (fun _ => ?_)
set_option maxHeartbeats 8000000 in
set_option maxRecDepth 100000 in
theorem leave_Cells.calls (k : Nat) (A0 : Option Addr) (c0 : Nat) (l0 : List (S61)) (a1_0 : Int) (a1_1 : Int) (A1_2 : Option Addr) (c1_2 : Nat) (l1_2 : List (S38)) (A1_3 : Option Addr) (c1_3 : Nat) (l1_3 : List (S63)) (A2 : Option Addr) (c2 : Nat) (l2 : List (S23)) (r1 : List (S61)) (r2 : Int) (w : World) (hr0 : Kd.C k61 w A0 l0.length l0) (hc0 : l0.length ≤ c0) (hr1_2 : Kd.C k38 w A1_2 l1_2.length l1_2) (hc1_2 : l1_2.length ≤ c1_2) (hr1_3 : Kd.C k63 w A1_3 l1_3.length l1_3) (hc1_3 : l1_3.length ≤ c1_3) (hr2 : Kd.C k23 w A2 l2.length l2) (hc2 : l2.length ≤ c2) (h : leave_Cells.f k l0 a1_0 a1_1 l1_2 l1_3 l2 = some (r1, r2)) :
    Calls Try.prog 27 #[.slice A0 l0.length c0, .agg #[.int .i64 a1_0, .int .i64 a1_1, .slice A1_2 l1_2.length c1_2, .slice A1_3 l1_3.length c1_3], .slice A2 l2.length c2] w fun e w' => ∃ v0_ : Value, e = .returned (.tuple #[v0_, .int .i64 r2]) ∧ Kd.R k61 61 w' w.heap.size (fun _ => True) v0_ r1 ∧ Below w.heap.size w w' := by
  have hu31 := Try.underlying31
  have hu63 := Try.underlying63
  have hu23 := Try.underlying23
  have hu61 := Try.underlying61
  have HR0 := Aside0.mk hr0
  have HC0 := Aside0.mk hc0
  clear hr0 hc0
  have HR1_2 := Aside0.mk hr1_2
  have HC1_2 := Aside0.mk hc1_2
  clear hr1_2 hc1_2
  have HR1_3 := Aside0.mk hr1_3
  have HC1_3 := Aside0.mk hc1_3
  clear hr1_3 hc1_3
  have HR2 := Aside0.mk hr2
  have HC2 := Aside0.mk hc2
  clear hr2 hc2
  have HB := Aside0.mk (Below.refl w.heap.size w)
  have H : ((leave_own.f l0).bind fun t155 => (leave_Cells.l0 k l2 t155 l1_3 (l1_3.length : Int) 0)) = some (r1, r2) := h
  clear h
  replace H := Option.bind_eq_some_iff.mp H
  obtain ⟨t155, A40, H⟩ := H
  replace H : (leave_Cells.l0 k l2 t155 l1_3 (l1_3.length : Int) 0) = some (r1, r2) := H
  have A4 := Aside0.mk A40
  clear A40
  have H' := Aside0.mk H
  clear H
  go_enter Try.func27, Try.ntmps27
  go_wp2_with (first | ((with_reducible refine gate_dst (N := 4) rfl ?_); (try (refine gate_guard (by rfl) ?_; dsimp only)); refine box_event ?hg (N := 4) ?hd (cs := #[.int .i64 a1_0, .int .i64 a1_1, .slice A1_2 l1_2.length c1_2, .slice A1_3 l1_3.length c1_3]) (t := 31) ?hr ?_; (case hd => rfl); (case hg => rfl); (case hr => first | (go_simp; done) | (go_simp; rfl)); intro gb154 hg w5 hbox hb; have n0_ := Aside0.mk (below_step (by repeat (first | (with_reducible first | exact HB.out | apply below_alloc | apply pw_below_drewN | apply below_drew1) | exact HB.out)) hb); have n1_ := Aside0.mk (hbox); have n2_ := Aside0.mk ((by rw [hg]; exact (below_size (by repeat (first | (with_reducible first | exact HB.out | apply below_alloc | apply pw_below_drewN | apply below_drew1) | exact HB.out))) : w.heap.size ≤ gb154)); have n3_ := Aside0.mk ((by rw [hg]; exact (below_size (by repeat (first | (with_reducible first | exact HB.out | apply below_alloc | apply pw_below_drewN | apply below_drew1) | exact HB.out))) : w.heap.size ≤ gb154)); clear HB; have HB := n0_; have BK154 := n1_; have GW154 := n2_; have GE154 := n3_; clear n0_ n1_ n2_ n3_; clear hb hbox hg) | ((with_reducible refine gate_callee (f := 82) rfl ?_); refine goesL_ (some 17) rfl rfl Try.func82 (by kernel_rfl) rfl #[.slice A0 l0.length c0] rfl (by (try simp only [List.map_toArray, List.map_cons, List.map_nil]); first | done | rfl | (simp only [List.length_drop, List.length_take]; rfl)) ?_; (with_reducible refine (leave_own.calls _ _ l0 t155 _ ?side1 ?side2 A4.out).mono ?_); (case side1 => repeat (first | exact (Kd.C_below HR0.out HB.out) | (with_reducible refine Kd.C_alloc ?_ _) | (with_reducible refine Kd.C_drewN ?_ _) | (with_reducible refine Kd.C_drew ?_))); (case side2 => exact HC0.out); rintro e w6 ⟨v156, rfl, ho0, hb⟩; refine ⟨_, rfl, ?_⟩; have n0_ := Aside0.mk (Kd.R_lower ho0 (below_size (by repeat (first | (with_reducible first | exact HB.out | apply below_alloc | apply pw_below_drewN | apply below_drew1 | refine below_set ?_ GE154.out) | exact HB.out)))); have n1_ := Aside0.mk (blk_below (g := gb154) (o := .cells #[.int .i64 a1_0, .int .i64 a1_1, .slice A1_2 l1_2.length c1_2, .slice A1_3 l1_3.length c1_3] 31 (0, 0)) (by (with_reducible repeat (first | refine blk_drewN ?_ _ | refine blk_drew ?_ | refine blk_alloc ?_ _)); exact BK154.out) hb); have n2_ := Aside0.mk (below_step (by repeat (first | (with_reducible first | exact HB.out | apply below_alloc | apply pw_below_drewN | apply below_drew1 | refine below_set ?_ GE154.out) | exact HB.out)) hb); clear BK154; clear HB; have HO157 := n0_; have BK154 := n1_; have HB := n2_; clear n0_ n1_ n2_; (try clear hb); (try clear hb2); (try clear hk); (try clear hi); (try clear ho0); have hcz7_0 : w6.cell? ⟨gb154, 0, none⟩ = some (.int .i64 a1_0) := (blk_cell BK154.out 0).trans rfl; have hcz7_1 : w6.cell? ⟨gb154, 1, none⟩ = some (.int .i64 a1_1) := (blk_cell BK154.out 1).trans rfl; have hcz7_2 : w6.cell? ⟨gb154, 2, none⟩ = some (.slice A1_2 l1_2.length c1_2) := (blk_cell BK154.out 2).trans rfl; have hcz7_3 : w6.cell? ⟨gb154, 3, none⟩ = some (.slice A1_3 l1_3.length c1_3) := (blk_cell BK154.out 3).trans rfl; have hfz7_0 := blk_frozen BK154.out 0; have hfz7_1 := blk_frozen BK154.out 1; have hfz7_2 := blk_frozen BK154.out 2; have hfz7_3 := blk_frozen BK154.out 3))
  go_loopg [21] k (fun kq v21 w' => ∃ (x8_1 : List (S61)) (x21_1 : Int), v21 = .int .i64 x21_1 ∧ Aside0 (leave_Cells.l0 kq l2 x8_1 l1_3 (l1_3.length : Int) x21_1 = some (r1, r2)) ∧ Aside0 (kq ≤ k) ∧ Aside0 (Kd.R k61 61 w' w.heap.size (fun _ => True) v156 x8_1) ∧ Aside0 (w'.heap[gb154]? = some (.cells #[.int .i64 a1_0, .int .i64 a1_1, (.slice A1_2 l1_2.length c1_2), (.slice A1_3 l1_3.length c1_3)] 31 (0, 0))) ∧ Aside0 (Below w.heap.size w w'))
  case atStart => exact ⟨(t155), (0), (by first | rfl | (simp; done) | (simp [*]; done)), H', ⟨Nat.le_refl _⟩, ⟨by (with_reducible repeat (first | apply Kd.R_alloc | apply Kd.R_drewN | apply Kd.R_drew)); exact HO157.out⟩, ⟨by (with_reducible repeat (first | refine blk_drewN ?_ _ | refine blk_drew ?_ | refine blk_alloc ?_ _)); exact BK154.out⟩, ⟨by repeat (first | (with_reducible first | exact HB.out | apply below_alloc | apply pw_below_drewN | apply below_drew1 | refine below_set ?_ GE154.out) | exact HB.out)⟩⟩
  case round =>
    clear H'
    try clear c1
    try clear c2
    try clear p2
    try clear hcz7_0
    try clear hcz7_1
    try clear hcz7_2
    try clear hcz7_3
    try clear hfz7_0
    try clear hfz7_1
    try clear hfz7_2
    try clear hfz7_3
    obtain ⟨x8_1, x21_1, rfl, HA, HK1, HO_8, BK154, HB⟩ := hrel
    cases gk with
    | zero => exact absurd HA.out (by simp [leave_Cells.l0])
    | succ k1 =>
      have H := HA.out
      clear HA
      simp only [leave_Cells.l0] at H
      by_cases c8 : x21_1 < (l1_3.length : Int)
      · rw [if_pos c8] at H
        have c8b0 : decide (x21_1 < (l1_3.length : Int)) = true := decide_eq_true c8
        clear c8
        by_cases c9 : 0 ≤ x21_1
        · rw [if_pos c9] at H
          have c9b0 : decide (0 ≤ x21_1) = true := decide_eq_true c9
          clear c9
          by_cases c10 : x21_1 < (l1_3.length : Int)
          · rw [if_pos c10] at H
            have c10b0 : decide (x21_1 < (l1_3.length : Int)) = true := decide_eq_true c10
            clear c10
            obtain ⟨y160, hy160⟩ : ∃ y_ : List Int, y_ = (([(rd_T63 l1_3 x21_1).f0] : List Int)) := ⟨_, rfl⟩
            replace H : ((leave_told.f k1 y160 l2).bind fun bt163 => ((leave_told.f k1 ((rd_T63 l1_3 x21_1).f3) l2).bind fun bt167 => (if bt163.2 = true then (leave_Cells.j1 k1 l2 x8_1 bt163.1 bt167.1 l1_3 (l1_3.length : Int) x21_1 (!bt167.2) ((rd_T63 l1_3 x21_1).f0) ((rd_T63 l1_3 x21_1).f1) ((rd_T63 l1_3 x21_1).f2) ((rd_T63 l1_3 x21_1).f3)) else (leave_Cells.j1 k1 l2 x8_1 bt163.1 bt167.1 l1_3 (l1_3.length : Int) x21_1 true ((rd_T63 l1_3 x21_1).f0) ((rd_T63 l1_3 x21_1).f1) ((rd_T63 l1_3 x21_1).f2) ((rd_T63 l1_3 x21_1).f3))))) = some (r1, r2) := by first | (rw [hy160]; with_reducible exact H) | (have H2_ := (Option.bind_some _ _).symm.trans H; rw [hy160]; with_reducible exact H2_) | (have H2_ := (Option.bind_some _ _).symm.trans H; with_reducible exact H2_) | with_reducible exact H | (rw [hy160]; exact H) | exact H
            have Ny160 := Aside0.mk hy160
            clear hy160
            replace H := Option.bind_eq_some_iff.mp H
            obtain ⟨⟨t163, t164⟩, A110, H⟩ := H
            replace H : ((leave_told.f k1 ((rd_T63 l1_3 x21_1).f3) l2).bind fun bt167 => (if t164 = true then (leave_Cells.j1 k1 l2 x8_1 t163 bt167.1 l1_3 (l1_3.length : Int) x21_1 (!bt167.2) ((rd_T63 l1_3 x21_1).f0) ((rd_T63 l1_3 x21_1).f1) ((rd_T63 l1_3 x21_1).f2) ((rd_T63 l1_3 x21_1).f3)) else (leave_Cells.j1 k1 l2 x8_1 t163 bt167.1 l1_3 (l1_3.length : Int) x21_1 true ((rd_T63 l1_3 x21_1).f0) ((rd_T63 l1_3 x21_1).f1) ((rd_T63 l1_3 x21_1).f2) ((rd_T63 l1_3 x21_1).f3)))) = some (r1, r2) := H
            have A11 := Aside0.mk A110
            clear A110
            replace H := Option.bind_eq_some_iff.mp H
            obtain ⟨⟨t167, t168⟩, A120, H⟩ := H
            replace H : (if t164 = true then (leave_Cells.j1 k1 l2 x8_1 t163 t167 l1_3 (l1_3.length : Int) x21_1 (!t168) ((rd_T63 l1_3 x21_1).f0) ((rd_T63 l1_3 x21_1).f1) ((rd_T63 l1_3 x21_1).f2) ((rd_T63 l1_3 x21_1).f3)) else (leave_Cells.j1 k1 l2 x8_1 t163 t167 l1_3 (l1_3.length : Int) x21_1 true ((rd_T63 l1_3 x21_1).f0) ((rd_T63 l1_3 x21_1).f1) ((rd_T63 l1_3 x21_1).f2) ((rd_T63 l1_3 x21_1).f3))) = some (r1, r2) := H
            have A12 := Aside0.mk A120
            clear A120
            have HC13 := Aside0.mk H
            clear H
            have p158 : 0 ≤ (x21_1 : Int) := of_decide_eq_true (by first | (with_reducible assumption) | assumption)
            have q158 : x21_1 < (l1_3.length : Int) := of_decide_eq_true (by first | (with_reducible assumption) | assumption)
            obtain ⟨ad158, A158_3, c158_3, e158, hx158_0, hx158_1, hx158_2, hx158_3, hl158_3, hi158_3⟩ := at_T63 HR1_3.out x21_1 p158 q158
            cases e158
            try replace hx158_0 := (HB.out.cell (World.block_lt_of_cell? w _ hx158_0)).trans hx158_0
            try replace hx158_1 := (HB.out.cell (World.block_lt_of_cell? w _ hx158_1)).trans hx158_1
            try replace hx158_2 := (HB.out.cell (World.block_lt_of_cell? w _ hx158_2)).trans hx158_2
            try replace hx158_3 := (HB.out.cell (World.block_lt_of_cell? w _ hx158_3)).trans hx158_3
            have HR158_3 := Aside0.mk hi158_3
            have HC158_3 := Aside0.mk hl158_3
            clear hi158_3 hl158_3
            replace p158 := eq_true p158
            replace q158 := eq_true q158
            go_upto_region 7 with (first | ((with_reducible refine gate_dst (N := 10) rfl ?_); (try (refine gate_guard (by rfl) ?_; dsimp only)); refine box_event ?hg (N := 10) ?hd (cs := #[.int .i64 0, .int .i64 0, .int .i64 0, .slice none 0 0]) (t := 63) ?hr ?_; (case hd => rfl); (case hg => rfl); (case hr => first | (go_simp; done) | (go_simp; rfl)); intro gb159 hg w14 hbox hb; have n0_ := Aside0.mk (Kd.R_below (by (with_reducible repeat (first | apply Kd.R_alloc | apply Kd.R_drewN | apply Kd.R_drew)); exact HO_8.out) hb); have n1_ := Aside0.mk (blk_below (g := gb154) (o := .cells #[.int .i64 a1_0, .int .i64 a1_1, .slice A1_2 l1_2.length c1_2, .slice (some ad158) l1_3.length c1_3] 31 (0, 0)) (by (with_reducible repeat (first | refine blk_drewN ?_ _ | refine blk_drew ?_ | refine blk_alloc ?_ _)); exact BK154.out) hb); have n2_ := Aside0.mk (below_step (by repeat (first | (with_reducible first | exact HB.out | apply below_alloc | apply pw_below_drewN | apply below_drew1 | refine below_set ?_ GE154.out) | exact HB.out)) hb); have n3_ := Aside0.mk (hbox); have n4_ := Aside0.mk ((by rw [hg]; exact (below_size (by repeat (first | (with_reducible first | exact HB.out | apply below_alloc | apply pw_below_drewN | apply below_drew1 | refine below_set ?_ GE154.out) | exact HB.out))) : w.heap.size ≤ gb159)); have n5_ := Aside0.mk ((by rw [hg]; exact (below_size (by repeat (first | (with_reducible first | exact HB.out | apply below_alloc | apply pw_below_drewN | apply below_drew1 | refine below_set ?_ GE154.out) | exact HB.out))) : w.heap.size ≤ gb159)); have n6_ := Aside0.mk ((by rw [hg]; exact Nat.ne_of_lt (blk_lt (g := gb154) (o := .cells #[.int .i64 a1_0, .int .i64 a1_1, .slice A1_2 l1_2.length c1_2, .slice (some ad158) l1_3.length c1_3] 31 (0, 0)) (by (with_reducible repeat (first | refine blk_drewN ?_ _ | refine blk_drew ?_ | refine blk_alloc ?_ _)); exact BK154.out)) : gb154 ≠ gb159)); have n7_ := Aside0.mk ((by rw [hg]; exact Nat.ne_of_gt (blk_lt (g := gb154) (o := .cells #[.int .i64 a1_0, .int .i64 a1_1, .slice A1_2 l1_2.length c1_2, .slice (some ad158) l1_3.length c1_3] 31 (0, 0)) (by (with_reducible repeat (first | refine blk_drewN ?_ _ | refine blk_drew ?_ | refine blk_alloc ?_ _)); exact BK154.out)) : gb159 ≠ gb154)); clear HO_8; clear BK154; clear HB; have HO_8 := n0_; have BK154 := n1_; have HB := n2_; have BK159 := n3_; have GW159 := n4_; have GE159 := n5_; have NB154_159 := n6_; have NB159_154 := n7_; clear n0_ n1_ n2_ n3_ n4_ n5_ n6_ n7_; clear hb hbox hg; have hnb15 := NB159_154.out; have hnc15 := NB154_159.out; have hcz16_0 : w14.cell? ⟨gb159, 0, none⟩ = some (.int .i64 0) := (blk_cell BK159.out 0).trans rfl; have hcz16_1 : w14.cell? ⟨gb159, 1, none⟩ = some (.int .i64 0) := (blk_cell BK159.out 1).trans rfl; have hcz16_2 : w14.cell? ⟨gb159, 2, none⟩ = some (.int .i64 0) := (blk_cell BK159.out 2).trans rfl; have hcz16_3 : w14.cell? ⟨gb159, 3, none⟩ = some (.slice none 0 0) := (blk_cell BK159.out 3).trans rfl; have hfz16_0 := blk_frozen BK159.out 0; have hfz16_1 := blk_frozen BK159.out 1; have hfz16_2 := blk_frozen BK159.out 2; have hfz16_3 := blk_frozen BK159.out 3) | ((with_reducible refine gate_dst (N := 28) rfl ?_); (try (refine gate_guard (by rfl) ?_; dsimp only)); refine Kd.R_lit (Kd.int .i64) _ 3 ?hg (N := 28) ?hd (xs := ([(rd_T63 l1_3 x21_1).f0] : List Int)) (inner := [.int .i64 ((rd_T63 l1_3 x21_1).f0)]) (ok := fun _ => True) (okp := fun _ => True) ?hr ?hp (fun _ hk => hk) trivial (Below.refl _ _) (Nat.le_refl _) (by simp) ?_; (case hd => rfl); (case hg => rfl); (case hr => first | (go_simp; done) | (go_simp; rfl)); (case hp => exact (Reps.one (show Kd.M (Kd.int .i64) _ _ _ ((rd_T63 l1_3 x21_1).f0) [.int .i64 ((rd_T63 l1_3 x21_1).f0)] from rfl) (Reps.none _ _))); intro v161 w17 ho18 hb hg_ hnew_; clear hg_ hnew_; (first | rw [← Ny160.out] at ho18 | (simp only [Int.reduceToNat] at ho18; rw [← Ny160.out] at ho18)); have n0_ := Aside0.mk (Kd.R_below (by (with_reducible repeat (first | apply Kd.R_alloc | apply Kd.R_drewN | apply Kd.R_drew)); exact (Kd.R_mono (Kd.R_far (p := ⟨gb159, 3, none⟩) (Kd.R_far (p := ⟨gb159, 2, none⟩) (Kd.R_far (p := ⟨gb159, 1, none⟩) (Kd.R_far (p := ⟨gb159, 0, none⟩) (Kd.R_types HO_8.out BK159.out (by decide)) (fun _ hk => hk.2) (.int .i64 ((rd_T63 l1_3 x21_1).f0))) (fun _ hk => hk.2) (.int .i64 ((rd_T63 l1_3 x21_1).f1))) (fun _ hk => hk.2) (.int .i64 ((rd_T63 l1_3 x21_1).f2))) (fun _ hk => hk.2) (.slice A158_3 ((rd_T63 l1_3 x21_1).f3).length c158_3)) (fun _ h_ => h_.1))) hb); have n1_ := Aside0.mk (Kd.R_lower ho18 (below_size (by repeat (first | (with_reducible first | exact HB.out | apply below_alloc | apply pw_below_drewN | apply below_drew1 | refine below_set ?_ GE154.out | refine below_set ?_ GE159.out) | exact HB.out)))); have n2_ := Aside0.mk (blk_below (g := gb154) (o := .cells #[.int .i64 a1_0, .int .i64 a1_1, .slice A1_2 l1_2.length c1_2, .slice (some ad158) l1_3.length c1_3] 31 (0, 0)) (by (with_reducible repeat (first | refine blk_drewN ?_ _ | refine blk_drew ?_ | refine blk_alloc ?_ _)); refine blk_far ?_ NB154_159.out _; (with_reducible repeat (first | refine blk_drewN ?_ _ | refine blk_drew ?_ | refine blk_alloc ?_ _)); refine blk_far ?_ NB154_159.out _; (with_reducible repeat (first | refine blk_drewN ?_ _ | refine blk_drew ?_ | refine blk_alloc ?_ _)); refine blk_far ?_ NB154_159.out _; (with_reducible repeat (first | refine blk_drewN ?_ _ | refine blk_drew ?_ | refine blk_alloc ?_ _)); refine blk_far ?_ NB154_159.out _; (with_reducible repeat (first | refine blk_drewN ?_ _ | refine blk_drew ?_ | refine blk_alloc ?_ _)); exact BK154.out) hb); have n3_ := Aside0.mk (blk_below (g := gb159) (o := .cells #[.int .i64 ((rd_T63 l1_3 x21_1).f0), .int .i64 ((rd_T63 l1_3 x21_1).f1), .int .i64 ((rd_T63 l1_3 x21_1).f2), .slice A158_3 ((rd_T63 l1_3 x21_1).f3).length c158_3] 63 (0, 0)) (by (with_reducible repeat (first | refine blk_drewN ?_ _ | refine blk_drew ?_ | refine blk_alloc ?_ _)); refine blk_put (cs := #[.int .i64 ((rd_T63 l1_3 x21_1).f0), .int .i64 ((rd_T63 l1_3 x21_1).f1), .int .i64 ((rd_T63 l1_3 x21_1).f2), .slice none 0 0]) ?_ 3 _ rfl; (with_reducible repeat (first | refine blk_drewN ?_ _ | refine blk_drew ?_ | refine blk_alloc ?_ _)); refine blk_put (cs := #[.int .i64 ((rd_T63 l1_3 x21_1).f0), .int .i64 ((rd_T63 l1_3 x21_1).f1), .int .i64 0, .slice none 0 0]) ?_ 2 _ rfl; (with_reducible repeat (first | refine blk_drewN ?_ _ | refine blk_drew ?_ | refine blk_alloc ?_ _)); refine blk_put (cs := #[.int .i64 ((rd_T63 l1_3 x21_1).f0), .int .i64 0, .int .i64 0, .slice none 0 0]) ?_ 1 _ rfl; (with_reducible repeat (first | refine blk_drewN ?_ _ | refine blk_drew ?_ | refine blk_alloc ?_ _)); refine blk_put (cs := #[.int .i64 0, .int .i64 0, .int .i64 0, .slice none 0 0]) ?_ 0 _ rfl; (with_reducible repeat (first | refine blk_drewN ?_ _ | refine blk_drew ?_ | refine blk_alloc ?_ _)); exact BK159.out) hb); have n4_ := Aside0.mk (below_step (by repeat (first | (with_reducible first | exact HB.out | apply below_alloc | apply pw_below_drewN | apply below_drew1 | refine below_set ?_ GE154.out | refine below_set ?_ GE159.out) | exact HB.out)) hb); clear HO_8; clear BK154; clear BK159; clear HB; have HO_8 := n0_; have HO162 := n1_; have BK154 := n2_; have BK159 := n3_; have HB := n4_; clear n0_ n1_ n2_ n3_ n4_; clear hb ho18; obtain ⟨Ao19, co19, eo19⟩ := Kd.R_slice HO162.out; subst eo19) | ((with_reducible refine gate_callee (f := 75) rfl ?_); refine goesL_ (some 30) rfl rfl Try.func75 (by kernel_rfl) rfl #[.slice Ao19 y160.length co19, .slice A2 l2.length c2] rfl (by (try simp only [List.map_toArray, List.map_cons, List.map_nil]); first | done | rfl | (simp only [List.length_drop, List.length_take]; rfl)) ?_; (with_reducible refine (leave_told.calls k1 _ _ y160 _ _ l2 t163 t164 _ ?side1 ?side2 ?side3 ?side4 A11.out).mono ?_); (case side1 => repeat (first | exact (Kd.R_reads' HO162.out).2.2 | (with_reducible refine Kd.C_alloc ?_ _) | (with_reducible refine Kd.C_drewN ?_ _) | (with_reducible refine Kd.C_drew ?_))); (case side2 => exact (Kd.R_reads' HO162.out).2.1); (case side3 => repeat (first | exact (Kd.C_below HR2.out HB.out) | (with_reducible refine Kd.C_alloc ?_ _) | (with_reducible refine Kd.C_drewN ?_ _) | (with_reducible refine Kd.C_drew ?_))); (case side4 => exact HC2.out); rintro e w20 ⟨v165, rfl, ho0, hb⟩; refine ⟨_, rfl, ?_⟩; have n0_ := Aside0.mk (Kd.R_elder' (by (with_reducible repeat (first | apply Kd.R_alloc | apply Kd.R_drewN | apply Kd.R_drew)); exact HO_8.out) (Kd.R_base ho0) hb); have n1_ := Aside0.mk (Kd.R_below (by (with_reducible repeat (first | apply Kd.R_alloc | apply Kd.R_drewN | apply Kd.R_drew)); exact HO162.out) hb); have n2_ := Aside0.mk (Kd.R_lower ho0 (below_size (by repeat (first | (with_reducible first | exact HB.out | apply below_alloc | apply pw_below_drewN | apply below_drew1 | refine below_set ?_ GE154.out | refine below_set ?_ GE159.out) | exact HB.out)))); have n3_ := Aside0.mk (blk_below (g := gb154) (o := .cells #[.int .i64 a1_0, .int .i64 a1_1, .slice A1_2 l1_2.length c1_2, .slice (some ad158) l1_3.length c1_3] 31 (0, 0)) (by (with_reducible repeat (first | refine blk_drewN ?_ _ | refine blk_drew ?_ | refine blk_alloc ?_ _)); exact BK154.out) hb); have n4_ := Aside0.mk (blk_below (g := gb159) (o := .cells #[.int .i64 ((rd_T63 l1_3 x21_1).f0), .int .i64 ((rd_T63 l1_3 x21_1).f1), .int .i64 ((rd_T63 l1_3 x21_1).f2), .slice A158_3 ((rd_T63 l1_3 x21_1).f3).length c158_3] 63 (0, 0)) (by (with_reducible repeat (first | refine blk_drewN ?_ _ | refine blk_drew ?_ | refine blk_alloc ?_ _)); exact BK159.out) hb); have n5_ := Aside0.mk (below_step (by repeat (first | (with_reducible first | exact HB.out | apply below_alloc | apply pw_below_drewN | apply below_drew1 | refine below_set ?_ GE154.out | refine below_set ?_ GE159.out) | exact HB.out)) hb); clear HO_8; clear HO162; clear BK154; clear BK159; clear HB; have HO_8 := n0_; have HO162 := n1_; have HO166 := n2_; have BK154 := n3_; have BK159 := n4_; have HB := n5_; clear n0_ n1_ n2_ n3_ n4_ n5_; (try clear hb); (try clear hb2); (try clear hk); (try clear hi); (try clear ho0); have hcz21_0 : w20.cell? ⟨gb159, 0, none⟩ = some (.int .i64 ((rd_T63 l1_3 x21_1).f0)) := (blk_cell BK159.out 0).trans rfl; have hcz21_1 : w20.cell? ⟨gb159, 1, none⟩ = some (.int .i64 ((rd_T63 l1_3 x21_1).f1)) := (blk_cell BK159.out 1).trans rfl; have hcz21_2 : w20.cell? ⟨gb159, 2, none⟩ = some (.int .i64 ((rd_T63 l1_3 x21_1).f2)) := (blk_cell BK159.out 2).trans rfl; have hcz21_3 : w20.cell? ⟨gb159, 3, none⟩ = some (.slice A158_3 ((rd_T63 l1_3 x21_1).f3).length c158_3) := (blk_cell BK159.out 3).trans rfl; have hfz21_0 := blk_frozen BK159.out 0; have hfz21_1 := blk_frozen BK159.out 1; have hfz21_2 := blk_frozen BK159.out 2; have hfz21_3 := blk_frozen BK159.out 3) | ((with_reducible refine gate_callee (f := 75) rfl ?_); refine goesL_ (some 37) rfl rfl Try.func75 (by kernel_rfl) rfl #[.slice A158_3 ((rd_T63 l1_3 x21_1).f3).length c158_3, .slice A2 l2.length c2] rfl (by (try simp only [List.map_toArray, List.map_cons, List.map_nil]); first | done | rfl | (simp only [List.length_drop, List.length_take]; rfl)) ?_; (with_reducible refine (leave_told.calls k1 _ _ ((rd_T63 l1_3 x21_1).f3) _ _ l2 t167 t168 _ ?side1 ?side2 ?side3 ?side4 A12.out).mono ?_); (case side1 => repeat (first | exact (Kd.C_below HR158_3.out HB.out) | (with_reducible refine Kd.C_alloc ?_ _) | (with_reducible refine Kd.C_drewN ?_ _) | (with_reducible refine Kd.C_drew ?_))); (case side2 => exact HC158_3.out); (case side3 => repeat (first | exact (Kd.C_below HR2.out HB.out) | (with_reducible refine Kd.C_alloc ?_ _) | (with_reducible refine Kd.C_drewN ?_ _) | (with_reducible refine Kd.C_drew ?_))); (case side4 => exact HC2.out); rintro e w22 ⟨v169, rfl, ho0, hb⟩; refine ⟨_, rfl, ?_⟩; have n0_ := Aside0.mk (Kd.R_elder' (by (with_reducible repeat (first | apply Kd.R_alloc | apply Kd.R_drewN | apply Kd.R_drew)); exact HO_8.out) (Kd.R_base ho0) hb); have n1_ := Aside0.mk (Kd.R_below (by (with_reducible repeat (first | apply Kd.R_alloc | apply Kd.R_drewN | apply Kd.R_drew)); exact HO162.out) hb); have n2_ := Aside0.mk (Kd.R_elder' (by (with_reducible repeat (first | apply Kd.R_alloc | apply Kd.R_drewN | apply Kd.R_drew)); exact HO166.out) (Kd.R_base ho0) hb); have n3_ := Aside0.mk (Kd.R_lower (Kd.R_new' ho0 (Kd.R_lt (by (with_reducible repeat (first | apply Kd.R_alloc | apply Kd.R_drewN | apply Kd.R_drew)); exact HO166.out))) (below_size (by repeat (first | (with_reducible first | exact HB.out | apply below_alloc | apply pw_below_drewN | apply below_drew1 | refine below_set ?_ GE154.out | refine below_set ?_ GE159.out) | exact HB.out)))); have n4_ := Aside0.mk (blk_below (g := gb154) (o := .cells #[.int .i64 a1_0, .int .i64 a1_1, .slice A1_2 l1_2.length c1_2, .slice (some ad158) l1_3.length c1_3] 31 (0, 0)) (by (with_reducible repeat (first | refine blk_drewN ?_ _ | refine blk_drew ?_ | refine blk_alloc ?_ _)); exact BK154.out) hb); have n5_ := Aside0.mk (blk_below (g := gb159) (o := .cells #[.int .i64 ((rd_T63 l1_3 x21_1).f0), .int .i64 ((rd_T63 l1_3 x21_1).f1), .int .i64 ((rd_T63 l1_3 x21_1).f2), .slice A158_3 ((rd_T63 l1_3 x21_1).f3).length c158_3] 63 (0, 0)) (by (with_reducible repeat (first | refine blk_drewN ?_ _ | refine blk_drew ?_ | refine blk_alloc ?_ _)); exact BK159.out) hb); have n6_ := Aside0.mk (below_step (by repeat (first | (with_reducible first | exact HB.out | apply below_alloc | apply pw_below_drewN | apply below_drew1 | refine below_set ?_ GE154.out | refine below_set ?_ GE159.out) | exact HB.out)) hb); clear HO_8; clear HO162; clear HO166; clear BK154; clear BK159; clear HB; have HO_8 := n0_; have HO162 := n1_; have HO166 := n2_; have HO170 := n3_; have BK154 := n4_; have BK159 := n5_; have HB := n6_; clear n0_ n1_ n2_ n3_ n4_ n5_ n6_; (try clear hb); (try clear hb2); (try clear hk); (try clear hi); (try clear ho0)))
            (try simp only [Act.put, List.setIfInBounds_toArray, List.set_cons_zero, List.set_cons_succ])
            go_cut [45] (fun v45 wc => ∃ (kq : Nat) (x45_12 : Bool), v45 = .bool x45_12 ∧ Aside0 (leave_Cells.j1 kq l2 x8_1 t163 t167 l1_3 (l1_3.length : Int) x21_1 x45_12 ((rd_T63 l1_3 x21_1).f0) ((rd_T63 l1_3 x21_1).f1) ((rd_T63 l1_3 x21_1).f2) ((rd_T63 l1_3 x21_1).f3) = some (r1, r2)) ∧ Aside0 (kq ≤ k1) ∧ Aside0 (Kd.R k61 61 wc w.heap.size (fun k_ => some k_ ≠ (v165 : Value).ownBlock ∧ some k_ ≠ (v169 : Value).ownBlock) v156 x8_1) ∧ Aside0 (Kd.R k23 23 wc w.heap.size (fun k_ => some k_ ≠ (v169 : Value).ownBlock) v165 t163) ∧ Aside0 (Kd.R k23 23 wc w.heap.size (fun k_ => some k_ ≠ (v165 : Value).ownBlock) v169 t167) ∧ Aside0 (wc.heap[gb154]? = some (.cells #[.int .i64 a1_0, .int .i64 a1_1, (.slice A1_2 l1_2.length c1_2), (.slice (some ad158) l1_3.length c1_3)] 31 (0, 0))) ∧ Aside0 (wc.heap[gb159]? = some (.cells #[.int .i64 ((rd_T63 l1_3 x21_1).f0), .int .i64 ((rd_T63 l1_3 x21_1).f1), .int .i64 ((rd_T63 l1_3 x21_1).f2), (.slice A158_3 ((rd_T63 l1_3 x21_1).f3).length c158_3)] 63 (0, 0))) ∧ Aside0 (Below w.heap.size w wc))
            case first =>
              have H := HC13.out
              clear HC13
              by_cases c23 : t164 = true
              · subst c23
                have H1 : (leave_Cells.j1 k1 l2 x8_1 t163 t167 l1_3 (l1_3.length : Int) x21_1 (!t168) ((rd_T63 l1_3 x21_1).f0) ((rd_T63 l1_3 x21_1).f1) ((rd_T63 l1_3 x21_1).f2) ((rd_T63 l1_3 x21_1).f3)) = some (r1, r2) := by rw [if_pos rfl] at H; exact H
                clear H
                have H := H1
                clear H1
                have H' := Aside0.mk H
                clear H
                go_wp2
                go_meet
                case rel => exact ⟨_, (!t168), (by first | rfl | (simp; done) | (simp [*]; done)), H', ⟨by have := HK1.out; first | omega | exact Nat.le_refl _⟩, ⟨by (with_reducible repeat (first | apply Kd.R_alloc | apply Kd.R_drewN | apply Kd.R_drew)); exact Kd.R_mono HO_8.out (fun _ hk => ⟨hk.1.2, hk.2⟩)⟩, ⟨by (with_reducible repeat (first | apply Kd.R_alloc | apply Kd.R_drewN | apply Kd.R_drew)); exact Kd.R_mono HO166.out (fun _ hk => hk.2)⟩, ⟨by (with_reducible repeat (first | apply Kd.R_alloc | apply Kd.R_drewN | apply Kd.R_drew)); exact Kd.R_mono HO170.out (fun _ hk => hk.2)⟩, ⟨by (with_reducible repeat (first | refine blk_drewN ?_ _ | refine blk_drew ?_ | refine blk_alloc ?_ _)); exact BK154.out⟩, ⟨by (with_reducible repeat (first | refine blk_drewN ?_ _ | refine blk_drew ?_ | refine blk_alloc ?_ _)); exact BK159.out⟩, ⟨by repeat (first | (with_reducible first | exact HB.out | apply below_alloc | apply pw_below_drewN | apply below_drew1 | refine below_set ?_ GE154.out | refine below_set ?_ GE159.out) | exact HB.out)⟩⟩
              · replace c23 := Bool.eq_false_iff.mpr c23
                subst c23
                have H1 : (leave_Cells.j1 k1 l2 x8_1 t163 t167 l1_3 (l1_3.length : Int) x21_1 true ((rd_T63 l1_3 x21_1).f0) ((rd_T63 l1_3 x21_1).f1) ((rd_T63 l1_3 x21_1).f2) ((rd_T63 l1_3 x21_1).f3)) = some (r1, r2) := by rw [if_neg (show ¬ (false = true) by decide)] at H; exact H
                clear H
                have H := H1
                clear H1
                have H' := Aside0.mk H
                clear H
                go_wp2
                go_meet
                case rel => exact ⟨_, (true), (by first | rfl | (simp; done) | (simp [*]; done)), H', ⟨by have := HK1.out; first | omega | exact Nat.le_refl _⟩, ⟨by (with_reducible repeat (first | apply Kd.R_alloc | apply Kd.R_drewN | apply Kd.R_drew)); exact Kd.R_mono HO_8.out (fun _ hk => ⟨hk.1.2, hk.2⟩)⟩, ⟨by (with_reducible repeat (first | apply Kd.R_alloc | apply Kd.R_drewN | apply Kd.R_drew)); exact Kd.R_mono HO166.out (fun _ hk => hk.2)⟩, ⟨by (with_reducible repeat (first | apply Kd.R_alloc | apply Kd.R_drewN | apply Kd.R_drew)); exact Kd.R_mono HO170.out (fun _ hk => hk.2)⟩, ⟨by (with_reducible repeat (first | refine blk_drewN ?_ _ | refine blk_drew ?_ | refine blk_alloc ?_ _)); exact BK154.out⟩, ⟨by (with_reducible repeat (first | refine blk_drewN ?_ _ | refine blk_drew ?_ | refine blk_alloc ?_ _)); exact BK159.out⟩, ⟨by repeat (first | (with_reducible first | exact HB.out | apply below_alloc | apply pw_below_drewN | apply below_drew1 | refine below_set ?_ GE154.out | refine below_set ?_ GE159.out) | exact HB.out)⟩⟩
            case rest =>
              clear HC13
              try clear c1
              try clear p1
              try clear q1
              try clear hx1
              try clear c2
              try clear p2
              try clear c7
              try clear c8
              try clear c8b0
              try clear c9
              try clear c9b0
              try clear c10
              try clear c10b0
              try clear c15
              try clear p15
              try clear q15
              try clear hx15
              try clear c23
              try clear hcz16_0
              try clear hcz16_1
              try clear hcz16_2
              try clear hcz16_3
              try clear hcz21_0
              try clear hcz21_1
              try clear hcz21_2
              try clear hcz21_3
              try clear hcz7_0
              try clear hcz7_1
              try clear hcz7_2
              try clear hcz7_3
              try clear hfz16_0
              try clear hfz16_1
              try clear hfz16_2
              try clear hfz16_3
              try clear hfz21_0
              try clear hfz21_1
              try clear hfz21_2
              try clear hfz21_3
              try clear hfz7_0
              try clear hfz7_1
              try clear hfz7_2
              try clear hfz7_3
              try clear hx158_0
              try clear hx158_1
              try clear hx158_2
              try clear hx158_3
              try clear p158
              try clear p2
              try clear q158
              obtain ⟨kq, x45_12, rfl, HA, HJ12, HO_8, HO_11, HO_13, BK154, BK159, HB⟩ := hcut
              cases kq with
              | zero => exact absurd HA.out (by simp [leave_Cells.j1])
              | succ kj12 =>
                have H := HA.out
                clear HA
                simp only [leave_Cells.j1] at H
                by_cases c24 : x45_12 = true
                · subst c24
                  have H1 : (some (([] : List (S61)), 3)) = some (r1, r2) := by rw [if_pos rfl] at H; exact H
                  clear H
                  have H := H1
                  clear H1
                  simp only [Option.some.injEq, Prod.mk.injEq] at H
                  obtain ⟨rfl, rfl⟩ := H
                  go_wp2
                  go_ret2
                  exact ⟨_, by first | rfl | (simp [errW_none, errW_some] <;> rfl) | (simp [*, errW_none, errW_some] <;> rfl), by first | exact Kd.R_nil _ _ _ _ _ | exact Kd.N_nil _ _ _ _ _ | exact Kd.V_nil _ _ _ _ _ | exact Kd.Q_nil _ _ _ _ _ | exact Kd.S_nil _ _ _ _ _, by repeat (first | (with_reducible first | exact HB.out | apply below_alloc | apply pw_below_drewN | apply below_drew1 | refine below_set ?_ GE154.out | refine below_set ?_ GE159.out) | exact HB.out)⟩
                · replace c24 := Bool.eq_false_iff.mpr c24
                  subst c24
                  have H1 : (if 0 < (t163.length : Int) then (if ((rd_T23 t163 0).f0) = 5 then (if ((rd_T23 t163 0).f1) < 0 then (some (([] : List (S61)), 8)) else (if ((rd_T23 t163 0).f1) ≥ (x8_1.length : Int) then (some (([] : List (S61)), 8)) else (if 0 ≤ ((rd_T23 t163 0).f1) then (if ((rd_T23 t163 0).f1) < (x8_1.length : Int) then (if ((rd_T61 x8_1 ((rd_T23 t163 0).f1)).f0) = 0 then (leave_Cells.l0 kj12 l2 (x8_1.set (((rd_T23 t163 0).f1) : Int).toNat (⟨((rd_T63 l1_3 x21_1).f1), ((rd_T63 l1_3 x21_1).f2), t167, ([] : List (S27))⟩ : S61)) l1_3 (l1_3.length : Int) (wrap64 (x21_1 + 1))) else (some (([] : List (S61)), 8))) else (none)) else (none)))) else (some (([] : List (S61)), 8))) else (none)) = some (r1, r2) := by rw [if_neg (show ¬ (false = true) by decide)] at H; exact H
                  clear H
                  have H := H1
                  clear H1
                  by_cases c25 : 0 < (t163.length : Int)
                  · rw [if_pos c25] at H
                    have c25b0 : decide (0 < (t163.length : Int)) = true := decide_eq_true c25
                    have c25b1 : decide (0 < t163.length) = true := decide_eq_true (by omega)
                    clear c25
                    by_cases c26 : ((rd_T23 t163 0).f0) = 5
                    · rw [if_pos c26] at H
                      have c26b0 : (((rd_T23 t163 0).f0) == 5) = true := beq_iff_eq.mpr c26
                      have c26b1 : (((rd_T23 t163 0).f0) != 5) = false := bne_eq_false_iff_eq.mpr c26
                      clear c26
                      by_cases c27 : ((rd_T23 t163 0).f1) < 0
                      · rw [if_pos c27] at H
                        have c27b0 : decide (((rd_T23 t163 0).f1) < 0) = true := decide_eq_true c27
                        clear c27
                        simp only [Option.some.injEq, Prod.mk.injEq] at H
                        obtain ⟨rfl, rfl⟩ := H
                        obtain ⟨Ao28, co28, eo28⟩ := Kd.R_slice HO_11.out
                        subst eo28
                        have p171 : 0 ≤ (0 : Int) := (by omega)
                        have q171 : 0 < (t163.length : Int) := of_decide_eq_true (by first | (with_reducible assumption) | assumption)
                        obtain ⟨ad171, e171, hx171_0, hx171_1⟩ := at_T23 (Kd.R_reads' HO_11.out).2.2 0 p171 q171
                        cases e171
                        have qi171 : (0 < t163.length) = True := eq_true (by omega)
                        (try rw [show ((0 : Int)).toNat = 0 from rfl] at hx171_0)
                        (try rw [show 0 * 2 = 0 from rfl] at hx171_0)
                        (try rw [Addr.add_zero'] at hx171_0)
                        (try rw [show ((0 : Int)).toNat = 0 from rfl] at hx171_1)
                        (try rw [show 0 * 2 = 0 from rfl] at hx171_1)
                        (try rw [Addr.add_zero'] at hx171_1)
                        replace p171 := eq_true p171
                        replace q171 := eq_true q171
                        go_wp2_with (first | ((with_reducible refine gate_dst (N := 15) rfl ?_); (try (refine gate_guard (by rfl) ?_; dsimp only)); refine box_event ?hg (N := 15) ?hd (cs := #[.int .i64 0, .int .i64 0]) (t := 23) ?hr ?_; (case hd => rfl); (case hg => rfl); (case hr => first | (go_simp; done) | (go_simp; rfl)); intro gb172 hg w29 hbox hb; have n0_ := Aside0.mk (Kd.R_below (Kd.R_elderB (by (with_reducible repeat (first | apply Kd.R_alloc | apply Kd.R_drewN | apply Kd.R_drew)); exact HO_8.out) gb172 (Nat.le_of_eq hg.symm)) hb); have n1_ := Aside0.mk (Kd.R_below (Kd.R_elderB (by (with_reducible repeat (first | apply Kd.R_alloc | apply Kd.R_drewN | apply Kd.R_drew)); exact HO_11.out) gb172 (Nat.le_of_eq hg.symm)) hb); have n2_ := Aside0.mk (Kd.R_below (Kd.R_elderB (by (with_reducible repeat (first | apply Kd.R_alloc | apply Kd.R_drewN | apply Kd.R_drew)); exact HO_13.out) gb172 (Nat.le_of_eq hg.symm)) hb); have n3_ := Aside0.mk (blk_below (g := gb154) (o := .cells #[.int .i64 a1_0, .int .i64 a1_1, .slice A1_2 l1_2.length c1_2, .slice (some ad158) l1_3.length c1_3] 31 (0, 0)) (by (with_reducible repeat (first | refine blk_drewN ?_ _ | refine blk_drew ?_ | refine blk_alloc ?_ _)); exact BK154.out) hb); have n4_ := Aside0.mk (blk_below (g := gb159) (o := .cells #[.int .i64 ((rd_T63 l1_3 x21_1).f0), .int .i64 ((rd_T63 l1_3 x21_1).f1), .int .i64 ((rd_T63 l1_3 x21_1).f2), .slice A158_3 ((rd_T63 l1_3 x21_1).f3).length c158_3] 63 (0, 0)) (by (with_reducible repeat (first | refine blk_drewN ?_ _ | refine blk_drew ?_ | refine blk_alloc ?_ _)); exact BK159.out) hb); have n5_ := Aside0.mk (below_step (by repeat (first | (with_reducible first | exact HB.out | apply below_alloc | apply pw_below_drewN | apply below_drew1 | refine below_set ?_ GE154.out | refine below_set ?_ GE159.out) | exact HB.out)) hb); have n6_ := Aside0.mk (hbox); have n7_ := Aside0.mk ((by rw [hg]; exact (below_size (by repeat (first | (with_reducible first | exact HB.out | apply below_alloc | apply pw_below_drewN | apply below_drew1 | refine below_set ?_ GE154.out | refine below_set ?_ GE159.out) | exact HB.out))) : w.heap.size ≤ gb172)); have n8_ := Aside0.mk ((by rw [hg]; exact (below_size (by repeat (first | (with_reducible first | exact HB.out | apply below_alloc | apply pw_below_drewN | apply below_drew1 | refine below_set ?_ GE154.out | refine below_set ?_ GE159.out) | exact HB.out))) : w.heap.size ≤ gb172)); have n9_ := Aside0.mk ((by rw [hg]; exact Nat.ne_of_lt (blk_lt (g := gb154) (o := .cells #[.int .i64 a1_0, .int .i64 a1_1, .slice A1_2 l1_2.length c1_2, .slice (some ad158) l1_3.length c1_3] 31 (0, 0)) (by (with_reducible repeat (first | refine blk_drewN ?_ _ | refine blk_drew ?_ | refine blk_alloc ?_ _)); exact BK154.out)) : gb154 ≠ gb172)); have n10_ := Aside0.mk ((by rw [hg]; exact Nat.ne_of_gt (blk_lt (g := gb154) (o := .cells #[.int .i64 a1_0, .int .i64 a1_1, .slice A1_2 l1_2.length c1_2, .slice (some ad158) l1_3.length c1_3] 31 (0, 0)) (by (with_reducible repeat (first | refine blk_drewN ?_ _ | refine blk_drew ?_ | refine blk_alloc ?_ _)); exact BK154.out)) : gb172 ≠ gb154)); have n11_ := Aside0.mk ((by rw [hg]; exact Nat.ne_of_lt (blk_lt (g := gb159) (o := .cells #[.int .i64 ((rd_T63 l1_3 x21_1).f0), .int .i64 ((rd_T63 l1_3 x21_1).f1), .int .i64 ((rd_T63 l1_3 x21_1).f2), .slice A158_3 ((rd_T63 l1_3 x21_1).f3).length c158_3] 63 (0, 0)) (by (with_reducible repeat (first | refine blk_drewN ?_ _ | refine blk_drew ?_ | refine blk_alloc ?_ _)); exact BK159.out)) : gb159 ≠ gb172)); have n12_ := Aside0.mk ((by rw [hg]; exact Nat.ne_of_gt (blk_lt (g := gb159) (o := .cells #[.int .i64 ((rd_T63 l1_3 x21_1).f0), .int .i64 ((rd_T63 l1_3 x21_1).f1), .int .i64 ((rd_T63 l1_3 x21_1).f2), .slice A158_3 ((rd_T63 l1_3 x21_1).f3).length c158_3] 63 (0, 0)) (by (with_reducible repeat (first | refine blk_drewN ?_ _ | refine blk_drew ?_ | refine blk_alloc ?_ _)); exact BK159.out)) : gb172 ≠ gb159)); clear HO_8; clear HO_11; clear HO_13; clear BK154; clear BK159; clear HB; have HO_8 := n0_; have HO_11 := n1_; have HO_13 := n2_; have BK154 := n3_; have BK159 := n4_; have HB := n5_; have BK172 := n6_; have GW172 := n7_; have GE172 := n8_; have NB154_172 := n9_; have NB172_154 := n10_; have NB159_172 := n11_; have NB172_159 := n12_; clear n0_ n1_ n2_ n3_ n4_ n5_ n6_ n7_ n8_ n9_ n10_ n11_ n12_; clear hb hbox hg; have hnb30 := NB172_154.out; have hnc30 := NB154_172.out; have hnb31 := NB172_159.out; have hnc31 := NB159_172.out; have hcz32_0 : w29.cell? ⟨gb172, 0, none⟩ = some (.int .i64 0) := (blk_cell BK172.out 0).trans rfl; have hcz32_1 : w29.cell? ⟨gb172, 1, none⟩ = some (.int .i64 0) := (blk_cell BK172.out 1).trans rfl; have hfz32_0 := blk_frozen BK172.out 0; have hfz32_1 := blk_frozen BK172.out 1))
                        go_ret2
                        exact ⟨_, by first | rfl | (simp [errW_none, errW_some] <;> rfl) | (simp [*, errW_none, errW_some] <;> rfl), by first | exact Kd.R_nil _ _ _ _ _ | exact Kd.N_nil _ _ _ _ _ | exact Kd.V_nil _ _ _ _ _ | exact Kd.Q_nil _ _ _ _ _ | exact Kd.S_nil _ _ _ _ _, by repeat (first | (with_reducible first | exact HB.out | apply below_alloc | apply pw_below_drewN | apply below_drew1 | refine below_set ?_ GE154.out | refine below_set ?_ GE159.out | refine below_set ?_ GE172.out) | exact HB.out)⟩
                      · rw [if_neg c27] at H
                        have c27b0 : decide (((rd_T23 t163 0).f1) < 0) = false := decide_eq_false c27
                        clear c27
                        by_cases c33 : ((rd_T23 t163 0).f1) ≥ (x8_1.length : Int)
                        · rw [if_pos c33] at H
                          have c33b0 : decide ((x8_1.length : Int) ≤ ((rd_T23 t163 0).f1)) = true := decide_eq_true c33
                          clear c33
                          simp only [Option.some.injEq, Prod.mk.injEq] at H
                          obtain ⟨rfl, rfl⟩ := H
                          obtain ⟨Ao34, co34, eo34⟩ := Kd.R_slice HO_11.out
                          subst eo34
                          have p171 : 0 ≤ (0 : Int) := (by omega)
                          have q171 : 0 < (t163.length : Int) := of_decide_eq_true (by first | (with_reducible assumption) | assumption)
                          obtain ⟨ad171, e171, hx171_0, hx171_1⟩ := at_T23 (Kd.R_reads' HO_11.out).2.2 0 p171 q171
                          cases e171
                          have qi171 : (0 < t163.length) = True := eq_true (by omega)
                          (try rw [show ((0 : Int)).toNat = 0 from rfl] at hx171_0)
                          (try rw [show 0 * 2 = 0 from rfl] at hx171_0)
                          (try rw [Addr.add_zero'] at hx171_0)
                          (try rw [show ((0 : Int)).toNat = 0 from rfl] at hx171_1)
                          (try rw [show 0 * 2 = 0 from rfl] at hx171_1)
                          (try rw [Addr.add_zero'] at hx171_1)
                          replace p171 := eq_true p171
                          replace q171 := eq_true q171
                          go_wp2_with (first | ((with_reducible refine gate_dst (N := 15) rfl ?_); (try (refine gate_guard (by rfl) ?_; dsimp only)); refine box_event ?hg (N := 15) ?hd (cs := #[.int .i64 0, .int .i64 0]) (t := 23) ?hr ?_; (case hd => rfl); (case hg => rfl); (case hr => first | (go_simp; done) | (go_simp; rfl)); intro gb172 hg w35 hbox hb; have n0_ := Aside0.mk (Kd.R_below (Kd.R_elderB (by (with_reducible repeat (first | apply Kd.R_alloc | apply Kd.R_drewN | apply Kd.R_drew)); exact HO_8.out) gb172 (Nat.le_of_eq hg.symm)) hb); have n1_ := Aside0.mk (Kd.R_below (Kd.R_elderB (by (with_reducible repeat (first | apply Kd.R_alloc | apply Kd.R_drewN | apply Kd.R_drew)); exact HO_11.out) gb172 (Nat.le_of_eq hg.symm)) hb); have n2_ := Aside0.mk (Kd.R_below (Kd.R_elderB (by (with_reducible repeat (first | apply Kd.R_alloc | apply Kd.R_drewN | apply Kd.R_drew)); exact HO_13.out) gb172 (Nat.le_of_eq hg.symm)) hb); have n3_ := Aside0.mk (blk_below (g := gb154) (o := .cells #[.int .i64 a1_0, .int .i64 a1_1, .slice A1_2 l1_2.length c1_2, .slice (some ad158) l1_3.length c1_3] 31 (0, 0)) (by (with_reducible repeat (first | refine blk_drewN ?_ _ | refine blk_drew ?_ | refine blk_alloc ?_ _)); exact BK154.out) hb); have n4_ := Aside0.mk (blk_below (g := gb159) (o := .cells #[.int .i64 ((rd_T63 l1_3 x21_1).f0), .int .i64 ((rd_T63 l1_3 x21_1).f1), .int .i64 ((rd_T63 l1_3 x21_1).f2), .slice A158_3 ((rd_T63 l1_3 x21_1).f3).length c158_3] 63 (0, 0)) (by (with_reducible repeat (first | refine blk_drewN ?_ _ | refine blk_drew ?_ | refine blk_alloc ?_ _)); exact BK159.out) hb); have n5_ := Aside0.mk (below_step (by repeat (first | (with_reducible first | exact HB.out | apply below_alloc | apply pw_below_drewN | apply below_drew1 | refine below_set ?_ GE154.out | refine below_set ?_ GE159.out) | exact HB.out)) hb); have n6_ := Aside0.mk (hbox); have n7_ := Aside0.mk ((by rw [hg]; exact (below_size (by repeat (first | (with_reducible first | exact HB.out | apply below_alloc | apply pw_below_drewN | apply below_drew1 | refine below_set ?_ GE154.out | refine below_set ?_ GE159.out) | exact HB.out))) : w.heap.size ≤ gb172)); have n8_ := Aside0.mk ((by rw [hg]; exact (below_size (by repeat (first | (with_reducible first | exact HB.out | apply below_alloc | apply pw_below_drewN | apply below_drew1 | refine below_set ?_ GE154.out | refine below_set ?_ GE159.out) | exact HB.out))) : w.heap.size ≤ gb172)); have n9_ := Aside0.mk ((by rw [hg]; exact Nat.ne_of_lt (blk_lt (g := gb154) (o := .cells #[.int .i64 a1_0, .int .i64 a1_1, .slice A1_2 l1_2.length c1_2, .slice (some ad158) l1_3.length c1_3] 31 (0, 0)) (by (with_reducible repeat (first | refine blk_drewN ?_ _ | refine blk_drew ?_ | refine blk_alloc ?_ _)); exact BK154.out)) : gb154 ≠ gb172)); have n10_ := Aside0.mk ((by rw [hg]; exact Nat.ne_of_gt (blk_lt (g := gb154) (o := .cells #[.int .i64 a1_0, .int .i64 a1_1, .slice A1_2 l1_2.length c1_2, .slice (some ad158) l1_3.length c1_3] 31 (0, 0)) (by (with_reducible repeat (first | refine blk_drewN ?_ _ | refine blk_drew ?_ | refine blk_alloc ?_ _)); exact BK154.out)) : gb172 ≠ gb154)); have n11_ := Aside0.mk ((by rw [hg]; exact Nat.ne_of_lt (blk_lt (g := gb159) (o := .cells #[.int .i64 ((rd_T63 l1_3 x21_1).f0), .int .i64 ((rd_T63 l1_3 x21_1).f1), .int .i64 ((rd_T63 l1_3 x21_1).f2), .slice A158_3 ((rd_T63 l1_3 x21_1).f3).length c158_3] 63 (0, 0)) (by (with_reducible repeat (first | refine blk_drewN ?_ _ | refine blk_drew ?_ | refine blk_alloc ?_ _)); exact BK159.out)) : gb159 ≠ gb172)); have n12_ := Aside0.mk ((by rw [hg]; exact Nat.ne_of_gt (blk_lt (g := gb159) (o := .cells #[.int .i64 ((rd_T63 l1_3 x21_1).f0), .int .i64 ((rd_T63 l1_3 x21_1).f1), .int .i64 ((rd_T63 l1_3 x21_1).f2), .slice A158_3 ((rd_T63 l1_3 x21_1).f3).length c158_3] 63 (0, 0)) (by (with_reducible repeat (first | refine blk_drewN ?_ _ | refine blk_drew ?_ | refine blk_alloc ?_ _)); exact BK159.out)) : gb172 ≠ gb159)); clear HO_8; clear HO_11; clear HO_13; clear BK154; clear BK159; clear HB; have HO_8 := n0_; have HO_11 := n1_; have HO_13 := n2_; have BK154 := n3_; have BK159 := n4_; have HB := n5_; have BK172 := n6_; have GW172 := n7_; have GE172 := n8_; have NB154_172 := n9_; have NB172_154 := n10_; have NB159_172 := n11_; have NB172_159 := n12_; clear n0_ n1_ n2_ n3_ n4_ n5_ n6_ n7_ n8_ n9_ n10_ n11_ n12_; clear hb hbox hg; have hnb36 := NB172_154.out; have hnc36 := NB154_172.out; have hnb37 := NB172_159.out; have hnc37 := NB159_172.out; have hcz38_0 : w35.cell? ⟨gb172, 0, none⟩ = some (.int .i64 0) := (blk_cell BK172.out 0).trans rfl; have hcz38_1 : w35.cell? ⟨gb172, 1, none⟩ = some (.int .i64 0) := (blk_cell BK172.out 1).trans rfl; have hfz38_0 := blk_frozen BK172.out 0; have hfz38_1 := blk_frozen BK172.out 1; obtain ⟨Ao39, co39, eo39⟩ := Kd.R_slice HO_8.out; subst eo39))
                          go_ret2
                          exact ⟨_, by first | rfl | (simp [errW_none, errW_some] <;> rfl) | (simp [*, errW_none, errW_some] <;> rfl), by first | exact Kd.R_nil _ _ _ _ _ | exact Kd.N_nil _ _ _ _ _ | exact Kd.V_nil _ _ _ _ _ | exact Kd.Q_nil _ _ _ _ _ | exact Kd.S_nil _ _ _ _ _, by repeat (first | (with_reducible first | exact HB.out | apply below_alloc | apply pw_below_drewN | apply below_drew1 | refine below_set ?_ GE154.out | refine below_set ?_ GE159.out | refine below_set ?_ GE172.out) | exact HB.out)⟩
                        · rw [if_neg c33] at H
                          have c33b0 : decide ((x8_1.length : Int) ≤ ((rd_T23 t163 0).f1)) = false := decide_eq_false c33
                          clear c33
                          by_cases c40 : 0 ≤ ((rd_T23 t163 0).f1)
                          · rw [if_pos c40] at H
                            have c40b0 : decide (0 ≤ ((rd_T23 t163 0).f1)) = true := decide_eq_true c40
                            clear c40
                            by_cases c41 : ((rd_T23 t163 0).f1) < (x8_1.length : Int)
                            · rw [if_pos c41] at H
                              have c41b0 : decide (((rd_T23 t163 0).f1) < (x8_1.length : Int)) = true := decide_eq_true c41
                              clear c41
                              by_cases c42 : ((rd_T61 x8_1 ((rd_T23 t163 0).f1)).f0) = 0
                              · rw [if_pos c42] at H
                                have c42b0 : (((rd_T61 x8_1 ((rd_T23 t163 0).f1)).f0) == 0) = true := beq_iff_eq.mpr c42
                                have c42b1 : (((rd_T61 x8_1 ((rd_T23 t163 0).f1)).f0) != 0) = false := bne_eq_false_iff_eq.mpr c42
                                clear c42
                                obtain ⟨y174, hy174⟩ : ∃ y_ : List (S61), y_ = (x8_1.set (((rd_T23 t163 0).f1) : Int).toNat (⟨((rd_T63 l1_3 x21_1).f1), ((rd_T63 l1_3 x21_1).f2), t167, ([] : List (S27))⟩ : S61)) := ⟨_, rfl⟩
                                replace H : (leave_Cells.l0 kj12 l2 y174 l1_3 (l1_3.length : Int) (wrap64 (x21_1 + 1))) = some (r1, r2) := by first | (rw [hy174]; with_reducible exact H) | (have H2_ := (Option.bind_some _ _).symm.trans H; rw [hy174]; with_reducible exact H2_) | (have H2_ := (Option.bind_some _ _).symm.trans H; with_reducible exact H2_) | with_reducible exact H | (rw [hy174]; exact H) | exact H
                                have Ny174 := Aside0.mk hy174
                                clear hy174
                                have H' := Aside0.mk H
                                clear H
                                obtain ⟨Ao44, co44, eo44⟩ := Kd.R_slice HO_11.out
                                subst eo44
                                have p171 : 0 ≤ (0 : Int) := (by omega)
                                have q171 : 0 < (t163.length : Int) := of_decide_eq_true (by first | (with_reducible assumption) | assumption)
                                obtain ⟨ad171, e171, hx171_0, hx171_1⟩ := at_T23 (Kd.R_reads' HO_11.out).2.2 0 p171 q171
                                cases e171
                                have qi171 : (0 < t163.length) = True := eq_true (by omega)
                                (try rw [show ((0 : Int)).toNat = 0 from rfl] at hx171_0)
                                (try rw [show 0 * 2 = 0 from rfl] at hx171_0)
                                (try rw [Addr.add_zero'] at hx171_0)
                                (try rw [show ((0 : Int)).toNat = 0 from rfl] at hx171_1)
                                (try rw [show 0 * 2 = 0 from rfl] at hx171_1)
                                (try rw [Addr.add_zero'] at hx171_1)
                                replace p171 := eq_true p171
                                replace q171 := eq_true q171
                                go_wp2_with (first | ((with_reducible refine gate_dst (N := 15) rfl ?_); (try (refine gate_guard (by rfl) ?_; dsimp only)); refine box_event ?hg (N := 15) ?hd (cs := #[.int .i64 0, .int .i64 0]) (t := 23) ?hr ?_; (case hd => rfl); (case hg => rfl); (case hr => first | (go_simp; done) | (go_simp; rfl)); intro gb172 hg w45 hbox hb; have n0_ := Aside0.mk (Kd.R_below (Kd.R_elderB (by (with_reducible repeat (first | apply Kd.R_alloc | apply Kd.R_drewN | apply Kd.R_drew)); exact HO_8.out) gb172 (Nat.le_of_eq hg.symm)) hb); have n1_ := Aside0.mk (Kd.R_below (Kd.R_elderB (by (with_reducible repeat (first | apply Kd.R_alloc | apply Kd.R_drewN | apply Kd.R_drew)); exact HO_11.out) gb172 (Nat.le_of_eq hg.symm)) hb); have n2_ := Aside0.mk (Kd.R_below (Kd.R_elderB (by (with_reducible repeat (first | apply Kd.R_alloc | apply Kd.R_drewN | apply Kd.R_drew)); exact HO_13.out) gb172 (Nat.le_of_eq hg.symm)) hb); have n3_ := Aside0.mk (blk_below (g := gb154) (o := .cells #[.int .i64 a1_0, .int .i64 a1_1, .slice A1_2 l1_2.length c1_2, .slice (some ad158) l1_3.length c1_3] 31 (0, 0)) (by (with_reducible repeat (first | refine blk_drewN ?_ _ | refine blk_drew ?_ | refine blk_alloc ?_ _)); exact BK154.out) hb); have n4_ := Aside0.mk (blk_below (g := gb159) (o := .cells #[.int .i64 ((rd_T63 l1_3 x21_1).f0), .int .i64 ((rd_T63 l1_3 x21_1).f1), .int .i64 ((rd_T63 l1_3 x21_1).f2), .slice A158_3 ((rd_T63 l1_3 x21_1).f3).length c158_3] 63 (0, 0)) (by (with_reducible repeat (first | refine blk_drewN ?_ _ | refine blk_drew ?_ | refine blk_alloc ?_ _)); exact BK159.out) hb); have n5_ := Aside0.mk (below_step (by repeat (first | (with_reducible first | exact HB.out | apply below_alloc | apply pw_below_drewN | apply below_drew1 | refine below_set ?_ GE154.out | refine below_set ?_ GE159.out) | exact HB.out)) hb); have n6_ := Aside0.mk (hbox); have n7_ := Aside0.mk ((by rw [hg]; exact (below_size (by repeat (first | (with_reducible first | exact HB.out | apply below_alloc | apply pw_below_drewN | apply below_drew1 | refine below_set ?_ GE154.out | refine below_set ?_ GE159.out) | exact HB.out))) : w.heap.size ≤ gb172)); have n8_ := Aside0.mk ((by rw [hg]; exact (below_size (by repeat (first | (with_reducible first | exact HB.out | apply below_alloc | apply pw_below_drewN | apply below_drew1 | refine below_set ?_ GE154.out | refine below_set ?_ GE159.out) | exact HB.out))) : w.heap.size ≤ gb172)); have n9_ := Aside0.mk ((by rw [hg]; exact Nat.ne_of_lt (blk_lt (g := gb154) (o := .cells #[.int .i64 a1_0, .int .i64 a1_1, .slice A1_2 l1_2.length c1_2, .slice (some ad158) l1_3.length c1_3] 31 (0, 0)) (by (with_reducible repeat (first | refine blk_drewN ?_ _ | refine blk_drew ?_ | refine blk_alloc ?_ _)); exact BK154.out)) : gb154 ≠ gb172)); have n10_ := Aside0.mk ((by rw [hg]; exact Nat.ne_of_gt (blk_lt (g := gb154) (o := .cells #[.int .i64 a1_0, .int .i64 a1_1, .slice A1_2 l1_2.length c1_2, .slice (some ad158) l1_3.length c1_3] 31 (0, 0)) (by (with_reducible repeat (first | refine blk_drewN ?_ _ | refine blk_drew ?_ | refine blk_alloc ?_ _)); exact BK154.out)) : gb172 ≠ gb154)); have n11_ := Aside0.mk ((by rw [hg]; exact Nat.ne_of_lt (blk_lt (g := gb159) (o := .cells #[.int .i64 ((rd_T63 l1_3 x21_1).f0), .int .i64 ((rd_T63 l1_3 x21_1).f1), .int .i64 ((rd_T63 l1_3 x21_1).f2), .slice A158_3 ((rd_T63 l1_3 x21_1).f3).length c158_3] 63 (0, 0)) (by (with_reducible repeat (first | refine blk_drewN ?_ _ | refine blk_drew ?_ | refine blk_alloc ?_ _)); exact BK159.out)) : gb159 ≠ gb172)); have n12_ := Aside0.mk ((by rw [hg]; exact Nat.ne_of_gt (blk_lt (g := gb159) (o := .cells #[.int .i64 ((rd_T63 l1_3 x21_1).f0), .int .i64 ((rd_T63 l1_3 x21_1).f1), .int .i64 ((rd_T63 l1_3 x21_1).f2), .slice A158_3 ((rd_T63 l1_3 x21_1).f3).length c158_3] 63 (0, 0)) (by (with_reducible repeat (first | refine blk_drewN ?_ _ | refine blk_drew ?_ | refine blk_alloc ?_ _)); exact BK159.out)) : gb172 ≠ gb159)); clear HO_8; clear HO_11; clear HO_13; clear BK154; clear BK159; clear HB; have HO_8 := n0_; have HO_11 := n1_; have HO_13 := n2_; have BK154 := n3_; have BK159 := n4_; have HB := n5_; have BK172 := n6_; have GW172 := n7_; have GE172 := n8_; have NB154_172 := n9_; have NB172_154 := n10_; have NB159_172 := n11_; have NB172_159 := n12_; clear n0_ n1_ n2_ n3_ n4_ n5_ n6_ n7_ n8_ n9_ n10_ n11_ n12_; clear hb hbox hg; have hnb46 := NB172_154.out; have hnc46 := NB154_172.out; have hnb47 := NB172_159.out; have hnc47 := NB159_172.out; have hcz48_0 : w45.cell? ⟨gb172, 0, none⟩ = some (.int .i64 0) := (blk_cell BK172.out 0).trans rfl; have hcz48_1 : w45.cell? ⟨gb172, 1, none⟩ = some (.int .i64 0) := (blk_cell BK172.out 1).trans rfl; have hfz48_0 := blk_frozen BK172.out 0; have hfz48_1 := blk_frozen BK172.out 1) | ((with_reducible refine gate_store (t := 23) (p := 15) rfl ?_); refine store_event (t := 23) (p := 15) (v := ?vo_w49) (w1 := ((w45.setCell ⟨gb172, 0, none⟩ (.int .i64 ((rd_T23 t163 0).f0))).setCell ⟨gb172, 1, none⟩ (.int .i64 ((rd_T23 t163 0).f1)))) ?hg ?ho ?hn ?hr ?_; (case ho => rfl); (case hg => rfl); (case hn => rfl); (case hr => first | (go_simp; done) | (go_simp; rfl)); intro w49 hw; have n0_ : Aside0 (Kd.R k61 61 w49 w.heap.size (fun k_ => some k_ ≠ (.slice (some ad171) t163.length co44 : Value).ownBlock ∧ some k_ ≠ (v169 : Value).ownBlock ∧ k_ ≠ gb172) v156 x8_1) := ⟨(by rw [hw]; exact (by (with_reducible repeat (first | apply Kd.R_alloc | apply Kd.R_drewN | apply Kd.R_drew)); exact Kd.R_mono (Kd.R_far (p := ⟨gb172, 1, none⟩) (Kd.R_far (p := ⟨gb172, 0, none⟩) (Kd.R_mono HO_8.out (fun k_ hk => (⟨hk, hk.2⟩ : _ ∧ k_ ≠ gb172))) (fun _ hk => hk.2) (.int .i64 ((rd_T23 t163 0).f0))) (fun _ hk => hk.2) (.int .i64 ((rd_T23 t163 0).f1))) (fun _ hk => ⟨hk.1.1.1, ⟨hk.1.1.2, hk.1.2⟩⟩)))⟩; have n1_ : Aside0 (Kd.R k23 23 w49 w.heap.size (fun k_ => some k_ ≠ (v169 : Value).ownBlock ∧ k_ ≠ gb172) (.slice (some ad171) t163.length co44) t163) := ⟨(by rw [hw]; exact (by (with_reducible repeat (first | apply Kd.R_alloc | apply Kd.R_drewN | apply Kd.R_drew)); exact Kd.R_mono (Kd.R_far (p := ⟨gb172, 1, none⟩) (Kd.R_far (p := ⟨gb172, 0, none⟩) (Kd.R_mono HO_11.out (fun k_ hk => (⟨hk, hk.2⟩ : _ ∧ k_ ≠ gb172))) (fun _ hk => hk.2) (.int .i64 ((rd_T23 t163 0).f0))) (fun _ hk => hk.2) (.int .i64 ((rd_T23 t163 0).f1))) (fun _ hk => ⟨hk.1.1, hk.1.2⟩)))⟩; have n2_ : Aside0 (Kd.R k23 23 w49 w.heap.size (fun k_ => some k_ ≠ (.slice (some ad171) t163.length co44 : Value).ownBlock ∧ k_ ≠ gb172) v169 t167) := ⟨(by rw [hw]; exact (by (with_reducible repeat (first | apply Kd.R_alloc | apply Kd.R_drewN | apply Kd.R_drew)); exact Kd.R_mono (Kd.R_far (p := ⟨gb172, 1, none⟩) (Kd.R_far (p := ⟨gb172, 0, none⟩) (Kd.R_mono HO_13.out (fun k_ hk => (⟨hk, hk.2⟩ : _ ∧ k_ ≠ gb172))) (fun _ hk => hk.2) (.int .i64 ((rd_T23 t163 0).f0))) (fun _ hk => hk.2) (.int .i64 ((rd_T23 t163 0).f1))) (fun _ hk => ⟨hk.1.1, hk.1.2⟩)))⟩; have n3_ : Aside0 (w49.heap[gb154]? = some (.cells #[.int .i64 a1_0, .int .i64 a1_1, .slice A1_2 l1_2.length c1_2, .slice (some ad158) l1_3.length c1_3] 31 (0, 0))) := ⟨(by rw [hw]; exact (by (with_reducible repeat (first | refine blk_drewN ?_ _ | refine blk_drew ?_ | refine blk_alloc ?_ _)); refine blk_far ?_ NB154_172.out _; (with_reducible repeat (first | refine blk_drewN ?_ _ | refine blk_drew ?_ | refine blk_alloc ?_ _)); refine blk_far ?_ NB154_172.out _; (with_reducible repeat (first | refine blk_drewN ?_ _ | refine blk_drew ?_ | refine blk_alloc ?_ _)); exact BK154.out))⟩; have n4_ : Aside0 (w49.heap[gb159]? = some (.cells #[.int .i64 ((rd_T63 l1_3 x21_1).f0), .int .i64 ((rd_T63 l1_3 x21_1).f1), .int .i64 ((rd_T63 l1_3 x21_1).f2), .slice A158_3 ((rd_T63 l1_3 x21_1).f3).length c158_3] 63 (0, 0))) := ⟨(by rw [hw]; exact (by (with_reducible repeat (first | refine blk_drewN ?_ _ | refine blk_drew ?_ | refine blk_alloc ?_ _)); refine blk_far ?_ NB159_172.out _; (with_reducible repeat (first | refine blk_drewN ?_ _ | refine blk_drew ?_ | refine blk_alloc ?_ _)); refine blk_far ?_ NB159_172.out _; (with_reducible repeat (first | refine blk_drewN ?_ _ | refine blk_drew ?_ | refine blk_alloc ?_ _)); exact BK159.out))⟩; have n5_ : Aside0 (w49.heap[gb172]? = some (.cells #[.int .i64 ((rd_T23 t163 0).f0), .int .i64 ((rd_T23 t163 0).f1)] 23 (0, 0))) := ⟨(by rw [hw]; exact (by (with_reducible repeat (first | refine blk_drewN ?_ _ | refine blk_drew ?_ | refine blk_alloc ?_ _)); refine blk_put (cs := #[.int .i64 ((rd_T23 t163 0).f0), .int .i64 0]) ?_ 1 _ rfl; (with_reducible repeat (first | refine blk_drewN ?_ _ | refine blk_drew ?_ | refine blk_alloc ?_ _)); refine blk_put (cs := #[.int .i64 0, .int .i64 0]) ?_ 0 _ rfl; (with_reducible repeat (first | refine blk_drewN ?_ _ | refine blk_drew ?_ | refine blk_alloc ?_ _)); exact BK172.out))⟩; have n6_ : Aside0 (Below w.heap.size w w49) := ⟨(by rw [hw]; exact (by repeat (first | (with_reducible first | exact HB.out | apply below_alloc | apply pw_below_drewN | apply below_drew1 | refine below_set ?_ GE154.out | refine below_set ?_ GE159.out | refine below_set ?_ GE172.out) | exact HB.out)))⟩; clear hw; clear HO_8; clear HO_11; clear HO_13; clear BK154; clear BK159; clear BK172; clear HB; have HO_8 := n0_; have HO_11 := n1_; have HO_13 := n2_; have BK154 := n3_; have BK159 := n4_; have BK172 := n5_; have HB := n6_; clear n0_ n1_ n2_ n3_ n4_ n5_ n6_; have hcz50_0 : w49.cell? ⟨gb172, 0, none⟩ = some (.int .i64 ((rd_T23 t163 0).f0)) := (blk_cell BK172.out 0).trans rfl; have hcz50_1 : w49.cell? ⟨gb172, 1, none⟩ = some (.int .i64 ((rd_T23 t163 0).f1)) := (blk_cell BK172.out 1).trans rfl; have hfz50_0 := blk_frozen BK172.out 0; have hfz50_1 := blk_frozen BK172.out 1; obtain ⟨Ao51, co51, eo51⟩ := Kd.R_slice HO_8.out; subst eo51; have p173 : 0 ≤ (((rd_T23 t163 0).f1) : Int) := of_decide_eq_true (by first | (with_reducible assumption) | assumption); have q173 : ((rd_T23 t163 0).f1) < (x8_1.length : Int) := of_decide_eq_true (by first | (with_reducible assumption) | assumption); obtain ⟨ad173, A173_2, c173_2, A173_3, c173_3, e173, hx173_0, hx173_1, hx173_2, hx173_3, hl173_2, hi173_2, hl173_3, hi173_3⟩ := at_T61 (Kd.R_reads' HO_8.out).2.2 ((rd_T23 t163 0).f1) p173 q173; cases e173; obtain ⟨ce173, hce173, hMe173, hcc173⟩ := Kd.R_get HO_8.out z61 ((rd_T23 t163 0).f1) p173 (by first | exact q173 | exact of_decide_eq_true (by first | (with_reducible assumption) | assumption) | (have e_ := (Kd.R_reads' HO_8.out).1; omega)); obtain ⟨ve173_2, ve173_3, rfl, ge173_2, ge173_3⟩ := k61_openM hMe173; have hv173_2 := hcc173 2 _ rfl; rw [add_field _ _ 2 (by omega)] at hv173_2; replace hv173_2 := Option.some.inj (hv173_2.symm.trans hx173_2); rw [hv173_2] at ge173_2; have HL173_2 := Aside0.mk (show Kd.R k23 23 _ _ _ _ ((rd_T61 x8_1 ((rd_T23 t163 0).f1)).f2) from ge173_2); clear hv173_2 ge173_2; have hv173_3 := hcc173 3 _ rfl; rw [add_field _ _ 3 (by omega)] at hv173_3; replace hv173_3 := Option.some.inj (hv173_3.symm.trans hx173_3); rw [hv173_3] at ge173_3; have HL173_3 := Aside0.mk (show Kd.R k27 27 _ _ _ _ ((rd_T61 x8_1 ((rd_T23 t163 0).f1)).f3) from ge173_3); clear hv173_3 ge173_3; clear hcc173 hce173; have HR173_2 := Aside0.mk hi173_2; have HC173_2 := Aside0.mk hl173_2; clear hi173_2 hl173_2; have HR173_3 := Aside0.mk hi173_3; have HC173_3 := Aside0.mk hl173_3; clear hi173_3 hl173_3; replace p173 := eq_true p173; replace q173 := eq_true q173; have hnb52 := NB159_154.out; have hnc52 := NB154_159.out; have hcz53_0 : w49.cell? ⟨gb159, 0, none⟩ = some (.int .i64 ((rd_T63 l1_3 x21_1).f0)) := (blk_cell BK159.out 0).trans rfl; have hcz53_1 : w49.cell? ⟨gb159, 1, none⟩ = some (.int .i64 ((rd_T63 l1_3 x21_1).f1)) := (blk_cell BK159.out 1).trans rfl; have hcz53_2 : w49.cell? ⟨gb159, 2, none⟩ = some (.int .i64 ((rd_T63 l1_3 x21_1).f2)) := (blk_cell BK159.out 2).trans rfl; have hcz53_3 : w49.cell? ⟨gb159, 3, none⟩ = some (.slice A158_3 ((rd_T63 l1_3 x21_1).f3).length c158_3) := (blk_cell BK159.out 3).trans rfl; have hfz53_0 := blk_frozen BK159.out 0; have hfz53_1 := blk_frozen BK159.out 1; have hfz53_2 := blk_frozen BK159.out 2; have hfz53_3 := blk_frozen BK159.out 3; obtain ⟨Ao54, co54, eo54⟩ := Kd.R_slice HO_13.out; subst eo54; have p43 : 0 ≤ (((rd_T23 t163 0).f1) : Int) := of_decide_eq_true (by first | (with_reducible assumption) | assumption); have q43 : (((rd_T23 t163 0).f1) : Int) < ((x8_1.length : Int) : Int) := of_decide_eq_true (by first | (with_reducible assumption) | assumption); obtain ⟨go43, co43, eo43, gb43, gl43, cl43, HG43⟩ := Kd.R_form HO_8.out (by omega); (first | cases eo43 | (injection eo43 with ea_ en_ ec_; (first | subst ea_ | (injection ea_ with ea_; subst ea_)); subst ec_; clear en_)); have GB43 := Aside0.mk gb43; have GG43 := Aside0.mk HG43; clear gb43 gl43 HG43; (first | simp only [add_plain] at hx173_0 | skip); (first | simp only [add_plain] at hx173_1 | skip); (first | simp only [add_plain] at hx173_2 | skip); (first | simp only [add_plain] at hx173_3 | skip); obtain ⟨ce43, hcl43, hM43, hcc43, hfr43⟩ := Kd.R_elem HO_8.out z61 (((rd_T23 t163 0).f1) : Int) p43 q43; obtain ⟨ve43_2, ve43_3, rfl, ge43_2, ge43_3⟩ := k61_openM hM43; have hx43_0 : w49.cell? ⟨go43, (((rd_T23 t163 0).f1) : Int).toNat * 4, none⟩ = some (.int .i64 ((rd_T61 x8_1 ((rd_T23 t163 0).f1)).f0)) := hcc43 0 _ rfl; have hx43_1 : w49.cell? ⟨go43, (((rd_T23 t163 0).f1) : Int).toNat * 4 + 1, none⟩ = some (.int .i64 ((rd_T61 x8_1 ((rd_T23 t163 0).f1)).f1)) := hcc43 1 _ rfl; have hx43_2 : w49.cell? ⟨go43, (((rd_T23 t163 0).f1) : Int).toNat * 4 + 2, none⟩ = some (ve43_2) := hcc43 2 _ rfl; have hx43_3 : w49.cell? ⟨go43, (((rd_T23 t163 0).f1) : Int).toNat * 4 + 3, none⟩ = some (ve43_3) := hcc43 3 _ rfl; have hf43_0 : w49.frozen? ⟨go43, (((rd_T23 t163 0).f1) : Int).toNat * 4, none⟩ = false := hfr43 0; have hf43_1 : w49.frozen? ⟨go43, (((rd_T23 t163 0).f1) : Int).toNat * 4 + 1, none⟩ = false := hfr43 1; have hf43_2 : w49.frozen? ⟨go43, (((rd_T23 t163 0).f1) : Int).toNat * 4 + 2, none⟩ = false := hfr43 2; have hf43_3 : w49.frozen? ⟨go43, (((rd_T23 t163 0).f1) : Int).toNat * 4 + 3, none⟩ = false := hfr43 3; clear hcl43 hcc43 hfr43 hM43; replace p43 := eq_true p43; replace q43 := eq_true q43; have HX55 := Aside0.mk (show Kd.R k61 61 w49 w.heap.size (fun k_ => some k_ ≠ (.slice (some ad171) t163.length co44 : Value).ownBlock ∧ k_ ≠ gb172) (.slice (some ⟨go43, 0, none⟩) x8_1.length co51) x8_1 from (by (with_reducible repeat (first | apply Kd.R_alloc | apply Kd.R_drewN | apply Kd.R_drew)); exact Kd.R_mono HO_8.out (fun _ hk => ⟨hk.1, hk.2.2⟩))); obtain ⟨ce55, hcl55, hM55, hcc55, hfr55⟩ := Kd.R_elem HX55.out z61 (((rd_T23 t163 0).f1) : Int) (of_decide_eq_true (by first | (with_reducible assumption) | assumption)) (by have h_ : (((rd_T23 t163 0).f1) : Int) < ((x8_1.length : Int) : Int) := of_decide_eq_true (by first | (with_reducible assumption) | assumption); first | exact h_ | (have e_ := (Kd.R_reads' HO_8.out).1; omega) | simpa using h_); obtain ⟨ve55_2, ve55_3, rfl, ge55_2, ge55_3⟩ := k61_openM hM55; have HP55 := Kd.R_seg HX55.out (((rd_T23 t163 0).f1) : Int) (of_decide_eq_true (by first | (with_reducible assumption) | assumption)) (by have h_ : (((rd_T23 t163 0).f1) : Int) < ((x8_1.length : Int) : Int) := of_decide_eq_true (by first | (with_reducible assumption) | assumption); first | exact h_ | (have e_ := (Kd.R_reads' HO_8.out).1; omega) | simpa using h_) (seg := [.int .i64 ((rd_T63 l1_3 x21_1).f1), .int .i64 ((rd_T63 l1_3 x21_1).f2), .slice Ao54 t167.length co54, .slice none 0 0]) (j := 0) hcl55 hcc55 (show 4 ≤ 4 from by decide) (x' := (⟨((rd_T63 l1_3 x21_1).f1), ((rd_T63 l1_3 x21_1).f2), t167, ([] : List (S27))⟩ : S61)) (k61_mkM _ _ _ (⟨((rd_T63 l1_3 x21_1).f1), ((rd_T63 l1_3 x21_1).f2), t167, ([] : List (S27))⟩ : S61) (Kd.R_mono (Kd.R_apart' (HO_13.out) (Kd.R_typed HO_8.out) (by decide)) (fun k_ hk => ⟨⟨hk.1.1, hk.1.2⟩, fun e_ => (hk.2) (by rw [e_]; rfl)⟩)) (Kd.R_nil _ _ _ _ _)) (fun _ hk => hk); have hx55_0 := hcc55 0 _ rfl; (try simp only [show (k61).sz = 4 from rfl, Nat.mul_one, Nat.add_zero] at hx55_0); have hf55_0 := hfr55 0; (try simp only [show (k61).sz = 4 from rfl, Nat.mul_one, Nat.add_zero] at hf55_0); have hx55_1 := hcc55 1 _ rfl; (try simp only [show (k61).sz = 4 from rfl, Nat.mul_one, Nat.add_zero] at hx55_1); have hf55_1 := hfr55 1; (try simp only [show (k61).sz = 4 from rfl, Nat.mul_one, Nat.add_zero] at hf55_1); have hx55_2 := hcc55 2 _ rfl; (try simp only [show (k61).sz = 4 from rfl, Nat.mul_one, Nat.add_zero] at hx55_2); have hf55_2 := hfr55 2; (try simp only [show (k61).sz = 4 from rfl, Nat.mul_one, Nat.add_zero] at hf55_2); have hx55_3 := hcc55 3 _ rfl; (try simp only [show (k61).sz = 4 from rfl, Nat.mul_one, Nat.add_zero] at hx55_3); have hf55_3 := hfr55 3; (try simp only [show (k61).sz = 4 from rfl, Nat.mul_one, Nat.add_zero] at hf55_3); clear hcl55 hcc55 hfr55 hM55) | ((with_reducible refine gate_store (t := 61) (p := 82) rfl ?_); refine store_event (t := 61) (p := 82) (v := ?vo_w56) (w1 := ((((w49.setCell ⟨go43, (((rd_T23 t163 0).f1) : Int).toNat * 4, none⟩ (.int .i64 ((rd_T63 l1_3 x21_1).f1))).setCell ⟨go43, (((rd_T23 t163 0).f1) : Int).toNat * 4 + 1, none⟩ (.int .i64 ((rd_T63 l1_3 x21_1).f2))).setCell ⟨go43, (((rd_T23 t163 0).f1) : Int).toNat * 4 + 2, none⟩ (.slice Ao54 t167.length co54)).setCell ⟨go43, (((rd_T23 t163 0).f1) : Int).toNat * 4 + 3, none⟩ (.slice none 0 0))) ?hg ?ho ?hn ?hr ?_; (case ho => rfl); (case hg => rfl); (case hn => rfl); (case hr => first | (go_simp; done) | (go_simp; rfl)); intro w56 hw; have hg : w49.grownBy w56 (some go43) := (by rw [hw]; exact HP55.2); have hp_ : Kd.R k61 61 w56 w.heap.size (fun k_ => some k_ ≠ (.slice (some ad171) t163.length co44 : Value).ownBlock ∧ k_ ≠ gb172) (.slice (some ⟨go43, 0, none⟩) x8_1.length co51) y174 := (by rw [hw, Ny174.out]; exact HP55.1); clear HP55; have n0_ := Aside0.mk (hp_); have n1_ := Aside0.mk (Kd.R_over' (v := (.slice (some ⟨go43, 0, none⟩) x8_1.length co51)) (by (with_reducible repeat (first | apply Kd.R_alloc | apply Kd.R_drewN | apply Kd.R_drew)); exact HO_11.out) (Kd.R_typed HO_8.out) (by decide) hg); have n2_ := Aside0.mk (blk_grown (g := gb154) (o := .cells #[.int .i64 a1_0, .int .i64 a1_1, .slice A1_2 l1_2.length c1_2, .slice (some ad158) l1_3.length c1_3] 31 (0, 0)) (by (with_reducible repeat (first | refine blk_drewN ?_ _ | refine blk_drew ?_ | refine blk_alloc ?_ _)); exact BK154.out) hg (Kd.R_ne HO_8.out BK154.out (by decide))); have n3_ := Aside0.mk (blk_grown (g := gb159) (o := .cells #[.int .i64 ((rd_T63 l1_3 x21_1).f0), .int .i64 ((rd_T63 l1_3 x21_1).f1), .int .i64 ((rd_T63 l1_3 x21_1).f2), .slice A158_3 ((rd_T63 l1_3 x21_1).f3).length c158_3] 63 (0, 0)) (by (with_reducible repeat (first | refine blk_drewN ?_ _ | refine blk_drew ?_ | refine blk_alloc ?_ _)); exact BK159.out) hg (Kd.R_ne HO_8.out BK159.out (by decide))); have n4_ := Aside0.mk (blk_grown (g := gb172) (o := .cells #[.int .i64 ((rd_T23 t163 0).f0), .int .i64 ((rd_T23 t163 0).f1)] 23 (0, 0)) (by (with_reducible repeat (first | refine blk_drewN ?_ _ | refine blk_drew ?_ | refine blk_alloc ?_ _)); exact BK172.out) hg (Kd.R_ne HO_8.out BK172.out (by decide))); have n5_ := Aside0.mk (Kd.R_after (v := (.slice (some ⟨go43, 0, none⟩) x8_1.length co51)) (v1 := (.slice (some ⟨go43, 0, none⟩) x8_1.length co51)) (ok := (fun k_ => some k_ ≠ (.slice (some ad171) t163.length co44 : Value).ownBlock ∧ some k_ ≠ (.slice Ao54 t167.length co54 : Value).ownBlock ∧ k_ ≠ gb172)) (by (with_reducible repeat (first | apply Kd.R_alloc | apply Kd.R_drewN | apply Kd.R_drew)); exact HL173_2.out) hg (.inl rfl)); have n6_ := Aside0.mk (Kd.R_after (v := (.slice (some ⟨go43, 0, none⟩) x8_1.length co51)) (v1 := (.slice (some ⟨go43, 0, none⟩) x8_1.length co51)) (ok := (fun k_ => some k_ ≠ (.slice (some ad171) t163.length co44 : Value).ownBlock ∧ some k_ ≠ (.slice Ao54 t167.length co54 : Value).ownBlock ∧ k_ ≠ gb172)) (by (with_reducible repeat (first | apply Kd.R_alloc | apply Kd.R_drewN | apply Kd.R_drew)); exact HL173_3.out) hg (.inl rfl)); have n7_ := Aside0.mk ((by rw [hw]; exact below_set (below_set (below_set (below_set (HB.out) GB43.out) GB43.out) GB43.out) GB43.out : Below w.heap.size w w56)); clear HO_8; clear HO_11; clear BK154; clear BK159; clear BK172; clear HL173_2; clear HL173_3; clear HB; clear HO_13; have HO_8 := n0_; have HO_11 := n1_; have BK154 := n2_; have BK159 := n3_; have BK172 := n4_; have HL173_2 := n5_; have HL173_3 := n6_; have HB := n7_; clear n0_ n1_ n2_ n3_ n4_ n5_ n6_ n7_; clear hg hw hp_))
                                go_roundg kj12
                                case measure => have := HK1.out; have := HJ12.out; omega
                                case rel => exact ⟨(y174), (wrap64 (x21_1 + 1)), (by first | rfl | (simp; done) | (simp [*]; done)), H', ⟨by have := HK1.out; have := HJ12.out; omega⟩, ⟨by (with_reducible repeat (first | apply Kd.R_alloc | apply Kd.R_drewN | apply Kd.R_drew)); exact Kd.R_mono HO_8.out (fun _ hk => trivial)⟩, ⟨by (with_reducible repeat (first | refine blk_drewN ?_ _ | refine blk_drew ?_ | refine blk_alloc ?_ _)); exact BK154.out⟩, ⟨by repeat (first | (with_reducible first | exact HB.out | apply below_alloc | apply pw_below_drewN | apply below_drew1 | refine below_set ?_ GE154.out | refine below_set ?_ GE159.out | refine below_set ?_ GE172.out) | exact HB.out)⟩⟩
                              · rw [if_neg c42] at H
                                have c42b0 : (((rd_T61 x8_1 ((rd_T23 t163 0).f1)).f0) == 0) = false := beq_eq_false_iff_ne.mpr c42
                                have c42b1 : (((rd_T61 x8_1 ((rd_T23 t163 0).f1)).f0) != 0) = true := bne_iff_ne.mpr c42
                                simp only [Option.some.injEq, Prod.mk.injEq] at H
                                obtain ⟨rfl, rfl⟩ := H
                                obtain ⟨Ao57, co57, eo57⟩ := Kd.R_slice HO_11.out
                                subst eo57
                                have p171 : 0 ≤ (0 : Int) := (by omega)
                                have q171 : 0 < (t163.length : Int) := of_decide_eq_true (by first | (with_reducible assumption) | assumption)
                                obtain ⟨ad171, e171, hx171_0, hx171_1⟩ := at_T23 (Kd.R_reads' HO_11.out).2.2 0 p171 q171
                                cases e171
                                have qi171 : (0 < t163.length) = True := eq_true (by omega)
                                (try rw [show ((0 : Int)).toNat = 0 from rfl] at hx171_0)
                                (try rw [show 0 * 2 = 0 from rfl] at hx171_0)
                                (try rw [Addr.add_zero'] at hx171_0)
                                (try rw [show ((0 : Int)).toNat = 0 from rfl] at hx171_1)
                                (try rw [show 0 * 2 = 0 from rfl] at hx171_1)
                                (try rw [Addr.add_zero'] at hx171_1)
                                replace p171 := eq_true p171
                                replace q171 := eq_true q171
                                go_wp2_with (first | ((with_reducible refine gate_dst (N := 15) rfl ?_); (try (refine gate_guard (by rfl) ?_; dsimp only)); refine box_event ?hg (N := 15) ?hd (cs := #[.int .i64 0, .int .i64 0]) (t := 23) ?hr ?_; (case hd => rfl); (case hg => rfl); (case hr => first | (go_simp; done) | (go_simp; rfl)); intro gb172 hg w58 hbox hb; have n0_ := Aside0.mk (Kd.R_below (Kd.R_elderB (by (with_reducible repeat (first | apply Kd.R_alloc | apply Kd.R_drewN | apply Kd.R_drew)); exact HO_8.out) gb172 (Nat.le_of_eq hg.symm)) hb); have n1_ := Aside0.mk (Kd.R_below (Kd.R_elderB (by (with_reducible repeat (first | apply Kd.R_alloc | apply Kd.R_drewN | apply Kd.R_drew)); exact HO_11.out) gb172 (Nat.le_of_eq hg.symm)) hb); have n2_ := Aside0.mk (Kd.R_below (Kd.R_elderB (by (with_reducible repeat (first | apply Kd.R_alloc | apply Kd.R_drewN | apply Kd.R_drew)); exact HO_13.out) gb172 (Nat.le_of_eq hg.symm)) hb); have n3_ := Aside0.mk (blk_below (g := gb154) (o := .cells #[.int .i64 a1_0, .int .i64 a1_1, .slice A1_2 l1_2.length c1_2, .slice (some ad158) l1_3.length c1_3] 31 (0, 0)) (by (with_reducible repeat (first | refine blk_drewN ?_ _ | refine blk_drew ?_ | refine blk_alloc ?_ _)); exact BK154.out) hb); have n4_ := Aside0.mk (blk_below (g := gb159) (o := .cells #[.int .i64 ((rd_T63 l1_3 x21_1).f0), .int .i64 ((rd_T63 l1_3 x21_1).f1), .int .i64 ((rd_T63 l1_3 x21_1).f2), .slice A158_3 ((rd_T63 l1_3 x21_1).f3).length c158_3] 63 (0, 0)) (by (with_reducible repeat (first | refine blk_drewN ?_ _ | refine blk_drew ?_ | refine blk_alloc ?_ _)); exact BK159.out) hb); have n5_ := Aside0.mk (below_step (by repeat (first | (with_reducible first | exact HB.out | apply below_alloc | apply pw_below_drewN | apply below_drew1 | refine below_set ?_ GE154.out | refine below_set ?_ GE159.out) | exact HB.out)) hb); have n6_ := Aside0.mk (hbox); have n7_ := Aside0.mk ((by rw [hg]; exact (below_size (by repeat (first | (with_reducible first | exact HB.out | apply below_alloc | apply pw_below_drewN | apply below_drew1 | refine below_set ?_ GE154.out | refine below_set ?_ GE159.out) | exact HB.out))) : w.heap.size ≤ gb172)); have n8_ := Aside0.mk ((by rw [hg]; exact (below_size (by repeat (first | (with_reducible first | exact HB.out | apply below_alloc | apply pw_below_drewN | apply below_drew1 | refine below_set ?_ GE154.out | refine below_set ?_ GE159.out) | exact HB.out))) : w.heap.size ≤ gb172)); have n9_ := Aside0.mk ((by rw [hg]; exact Nat.ne_of_lt (blk_lt (g := gb154) (o := .cells #[.int .i64 a1_0, .int .i64 a1_1, .slice A1_2 l1_2.length c1_2, .slice (some ad158) l1_3.length c1_3] 31 (0, 0)) (by (with_reducible repeat (first | refine blk_drewN ?_ _ | refine blk_drew ?_ | refine blk_alloc ?_ _)); exact BK154.out)) : gb154 ≠ gb172)); have n10_ := Aside0.mk ((by rw [hg]; exact Nat.ne_of_gt (blk_lt (g := gb154) (o := .cells #[.int .i64 a1_0, .int .i64 a1_1, .slice A1_2 l1_2.length c1_2, .slice (some ad158) l1_3.length c1_3] 31 (0, 0)) (by (with_reducible repeat (first | refine blk_drewN ?_ _ | refine blk_drew ?_ | refine blk_alloc ?_ _)); exact BK154.out)) : gb172 ≠ gb154)); have n11_ := Aside0.mk ((by rw [hg]; exact Nat.ne_of_lt (blk_lt (g := gb159) (o := .cells #[.int .i64 ((rd_T63 l1_3 x21_1).f0), .int .i64 ((rd_T63 l1_3 x21_1).f1), .int .i64 ((rd_T63 l1_3 x21_1).f2), .slice A158_3 ((rd_T63 l1_3 x21_1).f3).length c158_3] 63 (0, 0)) (by (with_reducible repeat (first | refine blk_drewN ?_ _ | refine blk_drew ?_ | refine blk_alloc ?_ _)); exact BK159.out)) : gb159 ≠ gb172)); have n12_ := Aside0.mk ((by rw [hg]; exact Nat.ne_of_gt (blk_lt (g := gb159) (o := .cells #[.int .i64 ((rd_T63 l1_3 x21_1).f0), .int .i64 ((rd_T63 l1_3 x21_1).f1), .int .i64 ((rd_T63 l1_3 x21_1).f2), .slice A158_3 ((rd_T63 l1_3 x21_1).f3).length c158_3] 63 (0, 0)) (by (with_reducible repeat (first | refine blk_drewN ?_ _ | refine blk_drew ?_ | refine blk_alloc ?_ _)); exact BK159.out)) : gb172 ≠ gb159)); clear HO_8; clear HO_11; clear HO_13; clear BK154; clear BK159; clear HB; have HO_8 := n0_; have HO_11 := n1_; have HO_13 := n2_; have BK154 := n3_; have BK159 := n4_; have HB := n5_; have BK172 := n6_; have GW172 := n7_; have GE172 := n8_; have NB154_172 := n9_; have NB172_154 := n10_; have NB159_172 := n11_; have NB172_159 := n12_; clear n0_ n1_ n2_ n3_ n4_ n5_ n6_ n7_ n8_ n9_ n10_ n11_ n12_; clear hb hbox hg; have hnb59 := NB172_154.out; have hnc59 := NB154_172.out; have hnb60 := NB172_159.out; have hnc60 := NB159_172.out; have hcz61_0 : w58.cell? ⟨gb172, 0, none⟩ = some (.int .i64 0) := (blk_cell BK172.out 0).trans rfl; have hcz61_1 : w58.cell? ⟨gb172, 1, none⟩ = some (.int .i64 0) := (blk_cell BK172.out 1).trans rfl; have hfz61_0 := blk_frozen BK172.out 0; have hfz61_1 := blk_frozen BK172.out 1) | ((with_reducible refine gate_store (t := 23) (p := 15) rfl ?_); refine store_event (t := 23) (p := 15) (v := ?vo_w62) (w1 := ((w58.setCell ⟨gb172, 0, none⟩ (.int .i64 ((rd_T23 t163 0).f0))).setCell ⟨gb172, 1, none⟩ (.int .i64 ((rd_T23 t163 0).f1)))) ?hg ?ho ?hn ?hr ?_; (case ho => rfl); (case hg => rfl); (case hn => rfl); (case hr => first | (go_simp; done) | (go_simp; rfl)); intro w62 hw; have n0_ : Aside0 (Kd.R k61 61 w62 w.heap.size (fun k_ => some k_ ≠ (.slice (some ad171) t163.length co57 : Value).ownBlock ∧ some k_ ≠ (v169 : Value).ownBlock ∧ k_ ≠ gb172) v156 x8_1) := ⟨(by rw [hw]; exact (by (with_reducible repeat (first | apply Kd.R_alloc | apply Kd.R_drewN | apply Kd.R_drew)); exact Kd.R_mono (Kd.R_far (p := ⟨gb172, 1, none⟩) (Kd.R_far (p := ⟨gb172, 0, none⟩) (Kd.R_mono HO_8.out (fun k_ hk => (⟨hk, hk.2⟩ : _ ∧ k_ ≠ gb172))) (fun _ hk => hk.2) (.int .i64 ((rd_T23 t163 0).f0))) (fun _ hk => hk.2) (.int .i64 ((rd_T23 t163 0).f1))) (fun _ hk => ⟨hk.1.1.1, ⟨hk.1.1.2, hk.1.2⟩⟩)))⟩; have n1_ : Aside0 (Kd.R k23 23 w62 w.heap.size (fun k_ => some k_ ≠ (v169 : Value).ownBlock ∧ k_ ≠ gb172) (.slice (some ad171) t163.length co57) t163) := ⟨(by rw [hw]; exact (by (with_reducible repeat (first | apply Kd.R_alloc | apply Kd.R_drewN | apply Kd.R_drew)); exact Kd.R_mono (Kd.R_far (p := ⟨gb172, 1, none⟩) (Kd.R_far (p := ⟨gb172, 0, none⟩) (Kd.R_mono HO_11.out (fun k_ hk => (⟨hk, hk.2⟩ : _ ∧ k_ ≠ gb172))) (fun _ hk => hk.2) (.int .i64 ((rd_T23 t163 0).f0))) (fun _ hk => hk.2) (.int .i64 ((rd_T23 t163 0).f1))) (fun _ hk => ⟨hk.1.1, hk.1.2⟩)))⟩; have n2_ : Aside0 (Kd.R k23 23 w62 w.heap.size (fun k_ => some k_ ≠ (.slice (some ad171) t163.length co57 : Value).ownBlock ∧ k_ ≠ gb172) v169 t167) := ⟨(by rw [hw]; exact (by (with_reducible repeat (first | apply Kd.R_alloc | apply Kd.R_drewN | apply Kd.R_drew)); exact Kd.R_mono (Kd.R_far (p := ⟨gb172, 1, none⟩) (Kd.R_far (p := ⟨gb172, 0, none⟩) (Kd.R_mono HO_13.out (fun k_ hk => (⟨hk, hk.2⟩ : _ ∧ k_ ≠ gb172))) (fun _ hk => hk.2) (.int .i64 ((rd_T23 t163 0).f0))) (fun _ hk => hk.2) (.int .i64 ((rd_T23 t163 0).f1))) (fun _ hk => ⟨hk.1.1, hk.1.2⟩)))⟩; have n3_ : Aside0 (w62.heap[gb154]? = some (.cells #[.int .i64 a1_0, .int .i64 a1_1, .slice A1_2 l1_2.length c1_2, .slice (some ad158) l1_3.length c1_3] 31 (0, 0))) := ⟨(by rw [hw]; exact (by (with_reducible repeat (first | refine blk_drewN ?_ _ | refine blk_drew ?_ | refine blk_alloc ?_ _)); refine blk_far ?_ NB154_172.out _; (with_reducible repeat (first | refine blk_drewN ?_ _ | refine blk_drew ?_ | refine blk_alloc ?_ _)); refine blk_far ?_ NB154_172.out _; (with_reducible repeat (first | refine blk_drewN ?_ _ | refine blk_drew ?_ | refine blk_alloc ?_ _)); exact BK154.out))⟩; have n4_ : Aside0 (w62.heap[gb159]? = some (.cells #[.int .i64 ((rd_T63 l1_3 x21_1).f0), .int .i64 ((rd_T63 l1_3 x21_1).f1), .int .i64 ((rd_T63 l1_3 x21_1).f2), .slice A158_3 ((rd_T63 l1_3 x21_1).f3).length c158_3] 63 (0, 0))) := ⟨(by rw [hw]; exact (by (with_reducible repeat (first | refine blk_drewN ?_ _ | refine blk_drew ?_ | refine blk_alloc ?_ _)); refine blk_far ?_ NB159_172.out _; (with_reducible repeat (first | refine blk_drewN ?_ _ | refine blk_drew ?_ | refine blk_alloc ?_ _)); refine blk_far ?_ NB159_172.out _; (with_reducible repeat (first | refine blk_drewN ?_ _ | refine blk_drew ?_ | refine blk_alloc ?_ _)); exact BK159.out))⟩; have n5_ : Aside0 (w62.heap[gb172]? = some (.cells #[.int .i64 ((rd_T23 t163 0).f0), .int .i64 ((rd_T23 t163 0).f1)] 23 (0, 0))) := ⟨(by rw [hw]; exact (by (with_reducible repeat (first | refine blk_drewN ?_ _ | refine blk_drew ?_ | refine blk_alloc ?_ _)); refine blk_put (cs := #[.int .i64 ((rd_T23 t163 0).f0), .int .i64 0]) ?_ 1 _ rfl; (with_reducible repeat (first | refine blk_drewN ?_ _ | refine blk_drew ?_ | refine blk_alloc ?_ _)); refine blk_put (cs := #[.int .i64 0, .int .i64 0]) ?_ 0 _ rfl; (with_reducible repeat (first | refine blk_drewN ?_ _ | refine blk_drew ?_ | refine blk_alloc ?_ _)); exact BK172.out))⟩; have n6_ : Aside0 (Below w.heap.size w w62) := ⟨(by rw [hw]; exact (by repeat (first | (with_reducible first | exact HB.out | apply below_alloc | apply pw_below_drewN | apply below_drew1 | refine below_set ?_ GE154.out | refine below_set ?_ GE159.out | refine below_set ?_ GE172.out) | exact HB.out)))⟩; clear hw; clear HO_8; clear HO_11; clear HO_13; clear BK154; clear BK159; clear BK172; clear HB; have HO_8 := n0_; have HO_11 := n1_; have HO_13 := n2_; have BK154 := n3_; have BK159 := n4_; have BK172 := n5_; have HB := n6_; clear n0_ n1_ n2_ n3_ n4_ n5_ n6_; have hcz63_0 : w62.cell? ⟨gb172, 0, none⟩ = some (.int .i64 ((rd_T23 t163 0).f0)) := (blk_cell BK172.out 0).trans rfl; have hcz63_1 : w62.cell? ⟨gb172, 1, none⟩ = some (.int .i64 ((rd_T23 t163 0).f1)) := (blk_cell BK172.out 1).trans rfl; have hfz63_0 := blk_frozen BK172.out 0; have hfz63_1 := blk_frozen BK172.out 1; obtain ⟨Ao64, co64, eo64⟩ := Kd.R_slice HO_8.out; subst eo64; have p173 : 0 ≤ (((rd_T23 t163 0).f1) : Int) := of_decide_eq_true (by first | (with_reducible assumption) | assumption); have q173 : ((rd_T23 t163 0).f1) < (x8_1.length : Int) := of_decide_eq_true (by first | (with_reducible assumption) | assumption); obtain ⟨ad173, A173_2, c173_2, A173_3, c173_3, e173, hx173_0, hx173_1, hx173_2, hx173_3, hl173_2, hi173_2, hl173_3, hi173_3⟩ := at_T61 (Kd.R_reads' HO_8.out).2.2 ((rd_T23 t163 0).f1) p173 q173; cases e173; obtain ⟨ce173, hce173, hMe173, hcc173⟩ := Kd.R_get HO_8.out z61 ((rd_T23 t163 0).f1) p173 (by first | exact q173 | exact of_decide_eq_true (by first | (with_reducible assumption) | assumption) | (have e_ := (Kd.R_reads' HO_8.out).1; omega)); obtain ⟨ve173_2, ve173_3, rfl, ge173_2, ge173_3⟩ := k61_openM hMe173; have hv173_2 := hcc173 2 _ rfl; rw [add_field _ _ 2 (by omega)] at hv173_2; replace hv173_2 := Option.some.inj (hv173_2.symm.trans hx173_2); rw [hv173_2] at ge173_2; have HL173_2 := Aside0.mk (show Kd.R k23 23 _ _ _ _ ((rd_T61 x8_1 ((rd_T23 t163 0).f1)).f2) from ge173_2); clear hv173_2 ge173_2; have hv173_3 := hcc173 3 _ rfl; rw [add_field _ _ 3 (by omega)] at hv173_3; replace hv173_3 := Option.some.inj (hv173_3.symm.trans hx173_3); rw [hv173_3] at ge173_3; have HL173_3 := Aside0.mk (show Kd.R k27 27 _ _ _ _ ((rd_T61 x8_1 ((rd_T23 t163 0).f1)).f3) from ge173_3); clear hv173_3 ge173_3; clear hcc173 hce173; have HR173_2 := Aside0.mk hi173_2; have HC173_2 := Aside0.mk hl173_2; clear hi173_2 hl173_2; have HR173_3 := Aside0.mk hi173_3; have HC173_3 := Aside0.mk hl173_3; clear hi173_3 hl173_3; replace p173 := eq_true p173; replace q173 := eq_true q173))
                                go_ret2
                                exact ⟨_, by first | rfl | (simp [errW_none, errW_some] <;> rfl) | (simp [*, errW_none, errW_some] <;> rfl), by first | exact Kd.R_nil _ _ _ _ _ | exact Kd.N_nil _ _ _ _ _ | exact Kd.V_nil _ _ _ _ _ | exact Kd.Q_nil _ _ _ _ _ | exact Kd.S_nil _ _ _ _ _, by repeat (first | (with_reducible first | exact HB.out | apply below_alloc | apply pw_below_drewN | apply below_drew1 | refine below_set ?_ GE154.out | refine below_set ?_ GE159.out | refine below_set ?_ GE172.out) | exact HB.out)⟩
                            · rw [if_neg c41] at H
                              exact absurd H (by simp)
                          · rw [if_neg c40] at H
                            exact absurd H (by simp)
                    · rw [if_neg c26] at H
                      have c26b0 : (((rd_T23 t163 0).f0) == 5) = false := beq_eq_false_iff_ne.mpr c26
                      have c26b1 : (((rd_T23 t163 0).f0) != 5) = true := bne_iff_ne.mpr c26
                      simp only [Option.some.injEq, Prod.mk.injEq] at H
                      obtain ⟨rfl, rfl⟩ := H
                      obtain ⟨Ao65, co65, eo65⟩ := Kd.R_slice HO_11.out
                      subst eo65
                      have p171 : 0 ≤ (0 : Int) := (by omega)
                      have q171 : 0 < (t163.length : Int) := of_decide_eq_true (by first | (with_reducible assumption) | assumption)
                      obtain ⟨ad171, e171, hx171_0, hx171_1⟩ := at_T23 (Kd.R_reads' HO_11.out).2.2 0 p171 q171
                      cases e171
                      have qi171 : (0 < t163.length) = True := eq_true (by omega)
                      (try rw [show ((0 : Int)).toNat = 0 from rfl] at hx171_0)
                      (try rw [show 0 * 2 = 0 from rfl] at hx171_0)
                      (try rw [Addr.add_zero'] at hx171_0)
                      (try rw [show ((0 : Int)).toNat = 0 from rfl] at hx171_1)
                      (try rw [show 0 * 2 = 0 from rfl] at hx171_1)
                      (try rw [Addr.add_zero'] at hx171_1)
                      replace p171 := eq_true p171
                      replace q171 := eq_true q171
                      go_wp2_with (first | ((with_reducible refine gate_dst (N := 15) rfl ?_); (try (refine gate_guard (by rfl) ?_; dsimp only)); refine box_event ?hg (N := 15) ?hd (cs := #[.int .i64 0, .int .i64 0]) (t := 23) ?hr ?_; (case hd => rfl); (case hg => rfl); (case hr => first | (go_simp; done) | (go_simp; rfl)); intro gb172 hg w66 hbox hb; have n0_ := Aside0.mk (Kd.R_below (Kd.R_elderB (by (with_reducible repeat (first | apply Kd.R_alloc | apply Kd.R_drewN | apply Kd.R_drew)); exact HO_8.out) gb172 (Nat.le_of_eq hg.symm)) hb); have n1_ := Aside0.mk (Kd.R_below (Kd.R_elderB (by (with_reducible repeat (first | apply Kd.R_alloc | apply Kd.R_drewN | apply Kd.R_drew)); exact HO_11.out) gb172 (Nat.le_of_eq hg.symm)) hb); have n2_ := Aside0.mk (Kd.R_below (Kd.R_elderB (by (with_reducible repeat (first | apply Kd.R_alloc | apply Kd.R_drewN | apply Kd.R_drew)); exact HO_13.out) gb172 (Nat.le_of_eq hg.symm)) hb); have n3_ := Aside0.mk (blk_below (g := gb154) (o := .cells #[.int .i64 a1_0, .int .i64 a1_1, .slice A1_2 l1_2.length c1_2, .slice (some ad158) l1_3.length c1_3] 31 (0, 0)) (by (with_reducible repeat (first | refine blk_drewN ?_ _ | refine blk_drew ?_ | refine blk_alloc ?_ _)); exact BK154.out) hb); have n4_ := Aside0.mk (blk_below (g := gb159) (o := .cells #[.int .i64 ((rd_T63 l1_3 x21_1).f0), .int .i64 ((rd_T63 l1_3 x21_1).f1), .int .i64 ((rd_T63 l1_3 x21_1).f2), .slice A158_3 ((rd_T63 l1_3 x21_1).f3).length c158_3] 63 (0, 0)) (by (with_reducible repeat (first | refine blk_drewN ?_ _ | refine blk_drew ?_ | refine blk_alloc ?_ _)); exact BK159.out) hb); have n5_ := Aside0.mk (below_step (by repeat (first | (with_reducible first | exact HB.out | apply below_alloc | apply pw_below_drewN | apply below_drew1 | refine below_set ?_ GE154.out | refine below_set ?_ GE159.out) | exact HB.out)) hb); have n6_ := Aside0.mk (hbox); have n7_ := Aside0.mk ((by rw [hg]; exact (below_size (by repeat (first | (with_reducible first | exact HB.out | apply below_alloc | apply pw_below_drewN | apply below_drew1 | refine below_set ?_ GE154.out | refine below_set ?_ GE159.out) | exact HB.out))) : w.heap.size ≤ gb172)); have n8_ := Aside0.mk ((by rw [hg]; exact (below_size (by repeat (first | (with_reducible first | exact HB.out | apply below_alloc | apply pw_below_drewN | apply below_drew1 | refine below_set ?_ GE154.out | refine below_set ?_ GE159.out) | exact HB.out))) : w.heap.size ≤ gb172)); have n9_ := Aside0.mk ((by rw [hg]; exact Nat.ne_of_lt (blk_lt (g := gb154) (o := .cells #[.int .i64 a1_0, .int .i64 a1_1, .slice A1_2 l1_2.length c1_2, .slice (some ad158) l1_3.length c1_3] 31 (0, 0)) (by (with_reducible repeat (first | refine blk_drewN ?_ _ | refine blk_drew ?_ | refine blk_alloc ?_ _)); exact BK154.out)) : gb154 ≠ gb172)); have n10_ := Aside0.mk ((by rw [hg]; exact Nat.ne_of_gt (blk_lt (g := gb154) (o := .cells #[.int .i64 a1_0, .int .i64 a1_1, .slice A1_2 l1_2.length c1_2, .slice (some ad158) l1_3.length c1_3] 31 (0, 0)) (by (with_reducible repeat (first | refine blk_drewN ?_ _ | refine blk_drew ?_ | refine blk_alloc ?_ _)); exact BK154.out)) : gb172 ≠ gb154)); have n11_ := Aside0.mk ((by rw [hg]; exact Nat.ne_of_lt (blk_lt (g := gb159) (o := .cells #[.int .i64 ((rd_T63 l1_3 x21_1).f0), .int .i64 ((rd_T63 l1_3 x21_1).f1), .int .i64 ((rd_T63 l1_3 x21_1).f2), .slice A158_3 ((rd_T63 l1_3 x21_1).f3).length c158_3] 63 (0, 0)) (by (with_reducible repeat (first | refine blk_drewN ?_ _ | refine blk_drew ?_ | refine blk_alloc ?_ _)); exact BK159.out)) : gb159 ≠ gb172)); have n12_ := Aside0.mk ((by rw [hg]; exact Nat.ne_of_gt (blk_lt (g := gb159) (o := .cells #[.int .i64 ((rd_T63 l1_3 x21_1).f0), .int .i64 ((rd_T63 l1_3 x21_1).f1), .int .i64 ((rd_T63 l1_3 x21_1).f2), .slice A158_3 ((rd_T63 l1_3 x21_1).f3).length c158_3] 63 (0, 0)) (by (with_reducible repeat (first | refine blk_drewN ?_ _ | refine blk_drew ?_ | refine blk_alloc ?_ _)); exact BK159.out)) : gb172 ≠ gb159)); clear HO_8; clear HO_11; clear HO_13; clear BK154; clear BK159; clear HB; have HO_8 := n0_; have HO_11 := n1_; have HO_13 := n2_; have BK154 := n3_; have BK159 := n4_; have HB := n5_; have BK172 := n6_; have GW172 := n7_; have GE172 := n8_; have NB154_172 := n9_; have NB172_154 := n10_; have NB159_172 := n11_; have NB172_159 := n12_; clear n0_ n1_ n2_ n3_ n4_ n5_ n6_ n7_ n8_ n9_ n10_ n11_ n12_; clear hb hbox hg; have hnb67 := NB172_154.out; have hnc67 := NB154_172.out; have hnb68 := NB172_159.out; have hnc68 := NB159_172.out; have hcz69_0 : w66.cell? ⟨gb172, 0, none⟩ = some (.int .i64 0) := (blk_cell BK172.out 0).trans rfl; have hcz69_1 : w66.cell? ⟨gb172, 1, none⟩ = some (.int .i64 0) := (blk_cell BK172.out 1).trans rfl; have hfz69_0 := blk_frozen BK172.out 0; have hfz69_1 := blk_frozen BK172.out 1))
                      go_ret2
                      exact ⟨_, by first | rfl | (simp [errW_none, errW_some] <;> rfl) | (simp [*, errW_none, errW_some] <;> rfl), by first | exact Kd.R_nil _ _ _ _ _ | exact Kd.N_nil _ _ _ _ _ | exact Kd.V_nil _ _ _ _ _ | exact Kd.Q_nil _ _ _ _ _ | exact Kd.S_nil _ _ _ _ _, by repeat (first | (with_reducible first | exact HB.out | apply below_alloc | apply pw_below_drewN | apply below_drew1 | refine below_set ?_ GE154.out | refine below_set ?_ GE159.out | refine below_set ?_ GE172.out) | exact HB.out)⟩
                  · rw [if_neg c25] at H
                    exact absurd H (by simp)
          · rw [if_neg c10] at H
            exact absurd H (by simp)
        · rw [if_neg c9] at H
          exact absurd H (by simp)
      · rw [if_neg c8] at H
        have c8b0 : decide (x21_1 < (l1_3.length : Int)) = false := decide_eq_false c8
        clear c8
        simp only [Option.some.injEq, Prod.mk.injEq] at H
        obtain ⟨rfl, rfl⟩ := H
        go_wp2
        go_ret2
        exact ⟨_, by first | rfl | (simp [errW_none, errW_some] <;> rfl) | (simp [*, errW_none, errW_some] <;> rfl), by (with_reducible repeat (first | apply Kd.R_alloc | apply Kd.R_drewN | apply Kd.R_drew)); exact HO_8.out, by repeat (first | (with_reducible first | exact HB.out | apply below_alloc | apply pw_below_drewN | apply below_drew1 | refine below_set ?_ GE154.out) | exact HB.out)⟩

/-! ### api_Cell_28: function 28 -/
def api_Cell_28.f (l0 : List (S61)) : Option (List (S61)) := if l0.length < 2199023255552 then some l0 else none
theorem api_Cell_28.calls (P0_ : Nat → Prop) (A0 : Option Addr) (c0 : Nat) (l0 : List (S61)) (r : List (S61)) (w : World) (hs0 : Kd.V k61 61 w w.heap.size (fun k_ => P0_ k_) (.slice A0 l0.length c0) l0) (h : api_Cell_28.f l0 = some r) :
    Calls Try.prog 28 #[.slice A0 l0.length c0] w fun e w' => ∃ v0_ : Value, e = .returned v0_ ∧ Kd.N k61 61 w' w.heap.size (fun k_ => (P0_ k_ ∨ w.heap.size ≤ k_)) v0_ r ∧ Below w.heap.size w w' := by
  have HF := Aside0.mk (Kd.F_bound (Kd.V_at hs0).2.2)
  clear hs0
  have HL : Aside0 (l0.length < 2199023255552) := ⟨by unfold api_Cell_28.f at h; split at h; assumption; cases h⟩
  have HE : Aside0 (l0 = r) := ⟨by unfold api_Cell_28.f at h; split at h; simpa using h; cases h⟩
  clear h
  go_enter Try.func28, Try.ntmps28
  go_wp2_with (at_builtin; refine Kd.N_append_rows k61 (w0 := w) w.heap.size rfl (.const (.slice none 0 0)) (.tmp 3) 55 61 (.agg #[(.int .i64 0), (.int .i64 0), (.slice none 0 0), (.slice none 0 0)]) 64 rfl Try.underlying55 info61 rfl (by decide) (by omega) (.slice none 0 0) [] l0 A0 l0.length c0 (fun k_ => (P0_ k_ ∨ w.heap.size ≤ k_)) (fun k => P0_ k ∧ k < w.heap.size) rfl rfl (Kd.N_nil _ _ _ _ _) HF.out ?aO (fun k hk => .inr hk) (Below.refl _ _) (Nat.le_refl _) ?aL ?_; (case aO => exact (fun k hk => ⟨.inl hk.1, by simp [Value.ownBlock]⟩)); (case aL => have := HL.out; simp; omega); intro v1 w1 ho hb hg hat; rw [List.nil_append] at ho; have HO := Aside0.mk ho; have HB := Aside0.mk hb; clear ho hb hg hat)
  go_ret
  exact ⟨_, rfl, by rw [← HE.out]; exact HO.out, HB.out⟩

/-! ### backstitchlaw3_LeaveCells: function 5 -/
section
open Go.Proofs.YtlojkphocbbjdaaW.Sep
theorem lcCopy_raw (A0 : Option Addr) (c0 : Nat) (xs : List (List Value)) (w : World) (hr0 : Kd.C (Kd.raw 4) w A0 xs.length xs) (hn : xs.length < 2199023255552) :
    Calls Try.prog 28 #[.slice A0 xs.length c0] w fun e w' => ∃ v0_ : Value, e = .returned v0_ ∧ Kd.R (Kd.raw 4) 61 w' w.heap.size (fun _ => True) v0_ xs ∧ Below w.heap.size w w' := by
  have HR0 := Aside0.mk hr0
  have HL := Aside0.mk hn
  clear hr0 hn
  go_enter Try.func28, Try.ntmps28
  go_wp2_with (at_builtin; refine Kd.R_append_rows (Kd.raw 4) (Rr := (Kd.raw 4).K w) (w0 := w) w.heap.size rfl (.const (.slice none 0 0)) (.tmp 3) 55 61 (.agg #[.int .i64 0, .int .i64 0, .slice none 0 0, .slice none 0 0]) 64 rfl Try.underlying55 info61 rfl (by decide) (by omega) (.slice none 0 0) [] xs A0 xs.length c0 (fun _ => True) (fun _ => True) rfl rfl (Kd.R_nil _ _ _ _ _) ?aR ?aM ?aO (fun _ _ => trivial) (Below.refl _ _) (Nat.le_refl _) ?aL ?_; (case aR => exact HR0.out); (case aM => exact fun x cs h => h); (case aO => exact (fun k _ => ⟨trivial, by simp [Value.ownBlock]⟩)); (case aL => have := HL.out; simp; omega); intro v1 w1 ho hb hg hat; rw [List.nil_append] at ho; have HO := Aside0.mk ho; have HB := Aside0.mk hb; clear ho hb hg hat)
  go_ret
  exact ⟨_, rfl, HO.out, HB.out⟩
/-- What is wanted: a row of the call's own; its elements' rows lie elsewhere, and stay. -/
def Wn (base : Nat) (wr : World) (A : Option Addr) (n cap : Nat) (want : List S61) : Prop :=
  ∃ ys : List (List Value), ys.length = want.length ∧ Kd.R (Kd.raw 4) 61 wr base (fun _ => True) (.slice A n cap) ys ∧ ∀ (j : Nat) (x : S61) (c : List Value), want[j]? = some x → ys[j]? = some c → Kd.FK k61 wr (fun k => some k ≠ (Value.slice A n cap).ownBlock) x c
theorem Wn.below {base : Nat} {wr w' : World} {A : Option Addr} {n cap : Nat} {want : List S61} (h : Wn base wr A n cap want) (hb : Below wr.heap.size wr w') : Wn base w' A n cap want := by
  obtain ⟨ys, h1, h2, h3⟩ := h
  exact ⟨ys, h1, Kd.R_below h2 hb, fun j x c hx hc => Kd.FK_below (h3 j x c hx hc) hb⟩
theorem Wn.len {base : Nat} {wr : World} {A : Option Addr} {n cap : Nat} {want : List S61} (h : Wn base wr A n cap want) : n = want.length := by
  obtain ⟨ys, h1, h2, _⟩ := h
  rw [← h1]
  exact (Kd.R_reads' h2).1
theorem Wn.form {base : Nat} {wr : World} {A : Option Addr} {n cap : Nat} {want : List S61} (h : Wn base wr A n cap want) (hp : 0 < want.length) : ∃ g, A = some ⟨g, 0, none⟩ ∧ base ≤ g ∧ g < wr.heap.size := by
  obtain ⟨ys, h1, h2, _⟩ := h
  obtain ⟨g, cp, hv, hgb, hgl, _⟩ := Kd.R_form h2 (by omega)
  injection hv with a b c
  exact ⟨g, a, hgb, hgl⟩
/-- An element that is read. -/
theorem Wn.get {base : Nat} {wr : World} {g n cap : Nat} {want : List S61} (h : Wn base wr (some ⟨g, 0, none⟩) n cap want) (i : Int) (h0 : 0 ≤ i) (h1 : i < want.length) :
    ∃ A2 c2 A3 c3, wr.cell? ⟨g, i.toNat * 4, none⟩ = some (.int .i64 (rd_T61 want i).f0) ∧ wr.cell? ⟨g, i.toNat * 4 + 1, none⟩ = some (.int .i64 (rd_T61 want i).f1) ∧ wr.cell? ⟨g, i.toNat * 4 + 2, none⟩ = some (.slice A2 (rd_T61 want i).f2.length c2) ∧ wr.cell? ⟨g, i.toNat * 4 + 3, none⟩ = some (.slice A3 (rd_T61 want i).f3.length c3) ∧ (rd_T61 want i).f2.length ≤ c2 ∧ Kd.C k23 wr A2 (rd_T61 want i).f2.length (rd_T61 want i).f2 ∧ ∀ j, wr.frozen? ⟨g, i.toNat * 4 + j, none⟩ = false := by
  have hn := h.len
  obtain ⟨ys, hl, hR, hF⟩ := h
  obtain ⟨c, hc, hcl, hcc, hfr⟩ := YtlojkphocbbjdaaW.Bas.raw_elem hR i h0 (by omega)
  have hy : ys[i.toNat]? = some c := by rw [hc, List.getD_eq_getElem?_getD, List.getElem?_eq_getElem (by omega), Option.getD_some]
  have hx : want[i.toNat]? = some (rd_T61 want i) := by rw [rd_T61, List.getD_eq_getElem?_getD, List.getElem?_eq_getElem (by omega), Option.getD_some]
  obtain ⟨A2, c2, A3, c3, he, l2, g2, l3, g3⟩ := k61_open (Kd.FK_now (hF _ _ _ hx hy))
  subst he
  exact ⟨A2, c2, A3, c3, hcc 0 _ rfl, hcc 1 _ rfl, hcc 2 _ rfl, hcc 3 _ rfl, l2, g2, hfr⟩
/-- An element that is stored. -/
theorem Wn.set {base : Nat} {wr : World} {g n cap : Nat} {want : List S61} (h : Wn base wr (some ⟨g, 0, none⟩) n cap want) (i : Int) (h0 : 0 ≤ i) (h1 : i < want.length) (a b : Int) (A2 : Option Addr) (c2 : Nat) (has : List S23) (hc : has.length ≤ c2) (hF : Kd.F k23 wr (fun k => k ≠ g) A2 has.length has) :
    Wn base ((((wr.setCell ⟨g, i.toNat * 4, none⟩ (.int .i64 a)).setCell ⟨g, i.toNat * 4 + 1, none⟩ (.int .i64 b)).setCell ⟨g, i.toNat * 4 + 2, none⟩ (.slice A2 has.length c2)).setCell ⟨g, i.toNat * 4 + 3, none⟩ (.slice none 0 0)) (some ⟨g, 0, none⟩) n cap (want.set i.toNat ⟨a, b, has, []⟩) := by
  have hn := h.len
  obtain ⟨ys, hl, hR, hE⟩ := h
  obtain ⟨c, hcq, hcl, hcc, hfr⟩ := YtlojkphocbbjdaaW.Bas.raw_elem hR i h0 (by omega)
  have hseg := Kd.R_seg hR i h0 (by omega) (c := c) (seg := [.int .i64 a, .int .i64 b, .slice A2 has.length c2, .slice none 0 0]) (j := 0) hcl hcc (show 0 + 4 ≤ 4 from by decide) (x' := [.int .i64 a, .int .i64 b, .slice A2 has.length c2, .slice none 0 0]) (okp := fun _ => False) (show (Kd.raw 4).M wr base (fun _ => False) _ _ from ⟨by rw [List.take_zero, List.nil_append, List.drop_eq_nil_of_le (by rw [hcl]; exact Nat.le_refl _), List.append_nil], by rw [List.take_zero, List.nil_append, List.drop_eq_nil_of_le (by rw [hcl]; exact Nat.le_refl _), List.append_nil]; rfl, by rw [List.take_zero, List.nil_append, List.drop_eq_nil_of_le (by rw [hcl]; exact Nat.le_refl _), List.append_nil]; simp [Value.oneCell']⟩) (fun _ hk => hk.elim)
  have hk4 : ∀ k, k ≠ g → ((((wr.setCell ⟨g, i.toNat * 4, none⟩ (.int .i64 a)).setCell ⟨g, i.toNat * 4 + 1, none⟩ (.int .i64 b)).setCell ⟨g, i.toNat * 4 + 2, none⟩ (.slice A2 has.length c2)).setCell ⟨g, i.toNat * 4 + 3, none⟩ (.slice none 0 0)).heap[k]? = wr.heap[k]? := fun k hk => (((Below.heap_setCell _ _ _ k hk).trans (Below.heap_setCell _ _ _ k hk)).trans (Below.heap_setCell _ _ _ k hk)).trans (Below.heap_setCell _ _ _ k hk)
  refine ⟨ys.set i.toNat [.int .i64 a, .int .i64 b, .slice A2 has.length c2, .slice none 0 0], by rw [List.length_set, List.length_set]; exact hl, hseg.1, fun j x cc hx hc2 => ?_⟩
  by_cases hji : j = i.toNat
  · subst hji
    rw [List.getElem?_set_self (by omega)] at hx hc2
    obtain rfl := Option.some.inj hx
    obtain rfl := Option.some.inj hc2
    have hF2 : Kd.F k23 ((((wr.setCell ⟨g, i.toNat * 4, none⟩ (.int .i64 a)).setCell ⟨g, i.toNat * 4 + 1, none⟩ (.int .i64 b)).setCell ⟨g, i.toNat * 4 + 2, none⟩ (.slice A2 has.length c2)).setCell ⟨g, i.toNat * 4 + 3, none⟩ (.slice none 0 0)) (fun k => some k ≠ (Value.slice (some ⟨g, 0, none⟩) n cap).ownBlock) A2 has.length has :=
      Kd.F_mono (Kd.F_step hF (fun k hk _ => hk4 k hk)) (fun k hk (e : some k = some g) => hk (by injection e))
    exact k61_mkF _ _ ⟨a, b, has, []⟩ hc hF2 (Nat.le_refl _) (Kd.F_nil _ _ _)
  · rw [List.getElem?_set_ne (fun e => hji e.symm)] at hx hc2
    exact Kd.FK_step (hE j x cc hx hc2) (fun k hk _ => hk4 k (fun e => hk (by rw [e]; rfl)))
/-! the rules -/
def lcVi (n : Int) (l : List Int) : Bool := l.all (fun k => decide (0 ≤ k) && decide (k < n))
theorem lcVi_l0 (n : Int) (l : List Int) (hl : l.length < 4611686018427387904) : ∀ (d i : Nat), i + d = l.length → backstitchlaw3_valuesIn.l0 (d + 1) n l l.length i = some (lcVi n (l.drop i))
  | 0, i, hi => by rw [backstitchlaw3_valuesIn.l0, if_neg (by omega), List.drop_eq_nil_of_le (by omega)]; rfl
  | d + 1, i, hi => by
    have hlt : i < l.length := by omega
    have ex : rd l (i : Int) = l[i] := by rw [rd, Int.toNat_natCast, List.getD_eq_getElem?_getD, List.getElem?_eq_getElem hlt, Option.getD_some]
    rw [backstitchlaw3_valuesIn.l0, if_pos (by omega), if_pos (by omega), if_pos (by omega), ex, List.drop_eq_getElem_cons hlt, show wrap64 ((i : Int) + 1) = ((i + 1 : Nat) : Int) by unfold wrap64; omega, lcVi_l0 n l hl d (i + 1) (by omega)]
    unfold lcVi
    rw [List.all_cons]
    by_cases h1 : l[i] < 0
    · rw [if_pos h1, decide_eq_false (by omega : ¬ 0 ≤ l[i]), Bool.false_and, Bool.false_and]
    · rw [if_neg h1, decide_eq_true (by omega : 0 ≤ l[i]), Bool.true_and]
      by_cases h2 : l[i] ≥ n
      · rw [if_pos h2, decide_eq_false (by omega : ¬ l[i] < n), Bool.false_and]
      · rw [if_neg h2, decide_eq_true (by omega : l[i] < n), Bool.true_and]
theorem lcVi_f (n : Int) (l : List Int) (hl : l.length < 4611686018427387904) : backstitchlaw3_valuesIn.f (l.length + 1) l n = some (lcVi n l) := by
  have := lcVi_l0 n l hl l.length 0 (by omega)
  rwa [List.drop_zero] at this
theorem lcEq_l0 (l : List S23) (hl : l.length ≤ 9223372036854775807) : ∀ (d i : Nat), i + d = l.length → api_Val_19.l0 (d + 1) l l l.length i = some true
  | 0, i, hi => by rw [api_Val_19.l0, if_neg (by omega)]
  | d + 1, i, hi => by
    rw [api_Val_19.l0, if_pos (by omega), if_pos (by omega), if_pos (by omega), if_pos (by omega), if_neg (by simp), show wrap64 ((i : Int) + 1) = ((i + 1 : Nat) : Int) by unfold wrap64; omega, lcEq_l0 l hl d (i + 1) (by omega)]
theorem lcEq_f (l : List S23) (hl : l.length ≤ 9223372036854775807) : api_Val_19.f (l.length + 1) l l = some true := by
  rw [api_Val_19.f, if_pos rfl]
  exact lcEq_l0 l hl l.length 0 (by omega)
def lcSame (a b : S61) : Prop := a.f0 = b.f0 ∧ a.f1 = b.f1 ∧ a.f2 = b.f2 ∧ a.f3.length = b.f3.length
def lcBad (want : List S61) (v : S23) : Prop := v.f0 ≠ 5 ∨ v.f1 < 0 ∨ (want.length : Int) ≤ v.f1 ∨ (rd_T61 want v.f1).f0 ≠ 0
def lcL (vals : List S23) (out : List S61) (e : Int) : List S63 → List S61 → Prop
  | [], want => e = 0 ∧ out.length = want.length ∧ ∀ i : Nat, i < out.length → lcSame (out.getD i z61) (want.getD i z61)
  | m :: ms, want => m.f3.length < 8796093022208 ∧ ((lcVi vals.length (m.f0 :: m.f3) = false ∧ e = 3 ∧ out.length = 0) ∨ (lcVi vals.length (m.f0 :: m.f3) = true ∧
      ((lcBad want (rd_T23 vals m.f0) ∧ e = 8 ∧ out.length = 0) ∨ (¬ lcBad want (rd_T23 vals m.f0) ∧ lcL vals out e ms (want.set (rd_T23 vals m.f0).f1.toNat ⟨m.f1, m.f2, m.f3.map (rd_T23 vals), []⟩)))))
noncomputable section
open Classical in
def backstitchlaw3_LeaveCells.f (k : Nat) (l0 : List S61) (a1_0 : Int) (a1_1 : Int) (l1_2 : List S38) (l1_3 : List S63) (l2 : List S23) : Option Bool :=
  (backstitchlaw3_leftBy.f k).bind fun b => if b = true then (leave_Cells.f k l0 a1_0 a1_1 l1_2 l1_3 l2).bind fun p => if l0.length < 2199023255552 ∧ lcL l2 p.1 p.2 l1_3 l0 then some true else none else none
end
set_option maxHeartbeats 16000000 in
set_option maxRecDepth 100000 in
theorem backstitchlaw3_LeaveCells.calls (k : Nat) (A0 : Option Addr) (c0 : Nat) (l0 : List (S61)) (a1_0 : Int) (a1_1 : Int) (A1_2 : Option Addr) (c1_2 : Nat) (l1_2 : List (S38)) (A1_3 : Option Addr) (c1_3 : Nat) (l1_3 : List (S63)) (A2 : Option Addr) (c2 : Nat) (l2 : List (S23)) (r : Bool) (w : World) (hr0 : Kd.C k61 w A0 l0.length l0) (hc0 : l0.length ≤ c0) (hr1_2 : Kd.C k38 w A1_2 l1_2.length l1_2) (hc1_2 : l1_2.length ≤ c1_2) (hr1_3 : Kd.C k63 w A1_3 l1_3.length l1_3) (hc1_3 : l1_3.length ≤ c1_3) (hr2 : Kd.C k23 w A2 l2.length l2) (hc2 : l2.length ≤ c2) (h : backstitchlaw3_LeaveCells.f k l0 a1_0 a1_1 l1_2 l1_3 l2 = some r) :
    Calls Try.prog 5 #[.slice A0 l0.length c0, .agg #[.int .i64 a1_0, .int .i64 a1_1, .slice A1_2 l1_2.length c1_2, .slice A1_3 l1_3.length c1_3], .slice A2 l2.length c2] w fun e w' => e = .returned (.bool r) ∧ Below w.heap.size w w' := by
  unfold backstitchlaw3_LeaveCells.f at h
  obtain ⟨b, hlb, h⟩ := Option.bind_eq_some_iff.1 h
  split at h
  case isFalse => cases h
  rename_i hbt
  subst hbt
  obtain ⟨⟨out, er⟩, hcells, h⟩ := Option.bind_eq_some_iff.1 h
  split at h
  case isFalse => cases h
  rename_i hlc
  obtain rfl := Option.some.inj h
  obtain ⟨hlen, hlc⟩ := hlc
  obtain ⟨xs, hxl, hxr, hxf⟩ := Kd.reads_raw hr0 (fun x c hk => ⟨k61.K_len hk, k61.K_one hk⟩)
  have HLB := Aside0.mk hlb
  have HCELLS := Aside0.mk hcells
  have HLC := Aside0.mk hlc
  have HLEN := Aside0.mk hlen
  have HXL := Aside0.mk hxl
  have HXR := Aside0.mk hxr
  have HXF := Aside0.mk hxf
  have HR0 := Aside0.mk hr0
  have HC0 := Aside0.mk hc0
  have HR12 := Aside0.mk hr1_2
  have HC12 := Aside0.mk hc1_2
  have HR13 := Aside0.mk hr1_3
  have HC13 := Aside0.mk hc1_3
  have HR2 := Aside0.mk hr2
  have HC2 := Aside0.mk hc2
  have HN13 := Aside0.mk hr1_3.2.1
  have HN2 := Aside0.mk hr2.2.1
  clear h hlb hcells hlc hlen hxl hxr hxf hr0 hc0 hr1_2 hc1_2 hr1_3 hc1_3 hr2 hc2
  go_enter Try.func5, Try.ntmps5
  go_wp2_with (first | ((with_reducible refine gate_dst (N := 4) rfl ?_); (try (refine gate_guard (by rfl) ?_; dsimp only)); refine box_event ?hg (N := 4) ?hd (cs := #[.int .i64 a1_0, .int .i64 a1_1, .slice A1_2 l1_2.length c1_2, .slice A1_3 l1_3.length c1_3]) (t := 31) ?hr ?_; (case hd => rfl); (case hg => rfl); (case hr => first | (go_simp; done) | (go_simp; rfl)); intro gx hgx wx hbox hb; have HBX := Aside0.mk hb; have BX := Aside0.mk hbox; clear hgx hbox hb) | (go_at_call 15; refine (backstitchlaw3_leftBy.calls k true _ HLB.out).mono ?_; rintro e wl ⟨rfl, hb⟩; have HBL := Aside0.mk (below_step HBX.out hb); have BL := Aside0.mk (blk_below BX.out hb); have hx0 : wl.cell? ⟨gx, 0, none⟩ = some (.int .i64 a1_0) := (blk_cell BL.out 0).trans rfl; have hx1 : wl.cell? ⟨gx, 1, none⟩ = some (.int .i64 a1_1) := (blk_cell BL.out 1).trans rfl; have hx2 : wl.cell? ⟨gx, 2, none⟩ = some (.slice A1_2 l1_2.length c1_2) := (blk_cell BL.out 2).trans rfl; have hx3 : wl.cell? ⟨gx, 3, none⟩ = some (.slice A1_3 l1_3.length c1_3) := (blk_cell BL.out 3).trans rfl; clear hb) | (go_at_call 27; refine (leave_Cells.calls k A0 c0 l0 a1_0 a1_1 A1_2 c1_2 l1_2 A1_3 c1_3 l1_3 A2 c2 l2 out er _ (Kd.C_below HR0.out HBL.out) HC0.out (Kd.C_below HR12.out HBL.out) HC12.out (Kd.C_below HR13.out HBL.out) HC13.out (Kd.C_below HR2.out HBL.out) HC2.out HCELLS.out).mono ?_; rintro e w1 ⟨v7, rfl, hro, hb⟩; have HB1 := Aside0.mk (below_step HBL.out hb); have B1 := Aside0.mk (blk_below BL.out hb); obtain ⟨Ao, co, rfl⟩ := Kd.R_slice hro; have HOUT := Aside0.mk (Kd.R_reads' hro).2.2; have HOC := Aside0.mk (Kd.R_reads' hro).2.1; clear hb hro hx0 hx1 hx2 hx3) | (go_at_call 28; rw [← HXL.out]; refine (lcCopy_raw A0 c0 xs _ (Kd.C_below (show Kd.C (Kd.raw 4) w A0 xs.length xs by rw [HXL.out]; exact HXR.out) HB1.out) (by rw [HXL.out]; exact HLEN.out)).mono ?_; rintro e w2 ⟨v9, rfl, hrw, hb⟩; rw [HXL.out]; obtain ⟨A9, c9, rfl⟩ := Kd.R_slice hrw; have HB2 := Aside0.mk hb; have HWN := Aside0.mk (show Wn w1.heap.size w2 A9 xs.length c9 l0 from ⟨xs, HXL.out, hrw, fun j x c hx hc => fun W' hW' => k61_heap.K (fun k hlt => (hW' k (fun e => by have := Kd.R_base hrw k e.symm; have := HB1.out.size; omega) (by have := HB1.out.size; have := hb.size; omega)).trans ((hb.block k (by have := HB1.out.size; omega)).trans (HB1.out.block k hlt))) (HXF.out j x c hx hc)⟩); have hx3 : w2.cell? ⟨gx, 3, none⟩ = some (.slice A1_3 l1_3.length c1_3) := (blk_cell (blk_below B1.out hb) 3).trans rfl; clear hb hrw))
  obtain ⟨n, hn⟩ : ∃ n, n = xs.length := ⟨_, rfl⟩
  rw [← hn] at HWN ⊢
  have HNN := Aside0.mk (show l0.length = n by rw [hn, HXL.out])
  clear hn
  go_loopw [31] (fun v31 wr => ∃ (i : Int) (want : List S61), v31 = .int .i64 i ∧ Aside0 (0 ≤ i ∧ i ≤ l1_3.length) ∧ Aside0 (lcL l2 out er (l1_3.drop i.toNat) want) ∧ Aside0 (want.length = n) ∧ Aside0 (Wn w1.heap.size wr A9 n c9 want) ∧ Aside0 (Below w1.heap.size w1 wr)) (fun v31 _ => l1_3.length - (intOf v31).toNat)
  case atStart => exact ⟨0, l0, rfl, ⟨by omega⟩, ⟨by simpa using HLC.out⟩, HNN, HWN, HB2⟩
  case round =>
    clear HWN HB2 HLC HNN
    obtain ⟨i, want, rfl, Hi, HX, HWL, HWN, HB⟩ := hrel
    rename World => wo
    have hi0 : 0 ≤ i := Hi.out.1
    by_cases hlt : i < (l1_3.length : Int)
    · have ht : decide (i < (l1_3.length : Int)) = true := decide_eq_true hlt
      have HW := Aside0.mk (show wrap64 (i + 1) = i + 1 by have := HN13.out; unfold wrap64; omega)
      have hd : l1_3.drop i.toNat = rd_T63 l1_3 i :: l1_3.drop (i + 1).toNat := by
        rw [List.drop_eq_getElem_cons (by omega), show (i + 1).toNat = i.toNat + 1 by omega]
        congr 1
        rw [rd_T63, List.getD_eq_getElem?_getD, List.getElem?_eq_getElem (by omega), Option.getD_some]
      have hx := HX.out
      rw [hd, lcL] at hx
      clear hd
      have HWB := Aside0.mk (below_step HB1.out (show Below w1.heap.size w1 wo from HB.out))
      obtain ⟨ad, Am, cm, e, h0, h1, h2, h3, hlm, hgm⟩ := at_T63 HR13.out i hi0 hlt
      cases e
      replace h0 := (HWB.out.cell (World.block_lt_of_cell? w _ h0)).trans h0
      replace h1 := (HWB.out.cell (World.block_lt_of_cell? w _ h1)).trans h1
      replace h2 := (HWB.out.cell (World.block_lt_of_cell? w _ h2)).trans h2
      replace h3 := (HWB.out.cell (World.block_lt_of_cell? w _ h3)).trans h3
      have HLM := Aside0.mk hlm
      have HGM := Aside0.mk hgm
      clear hlm hgm
      generalize rd_T63 l1_3 i = m at *
      obtain ⟨hm3, hx⟩ := hx
      have HM3 := Aside0.mk hm3
      have HVI := Aside0.mk (lcVi_f (l2.length : Int) (m.f0 :: m.f3) (by simp; omega))
      clear hm3 HX
      rcases hx with ⟨hvi, her, hol⟩ | ⟨hvi, hx⟩
      · have HVB := Aside0.mk hvi
        rw [hvi] at HVI
        subst her
        obtain rfl := List.eq_nil_of_length_eq_zero hol
        have HS0 := Aside0.mk (St.nil (Below.refl wo.heap.size wo))
        clear hvi hol
        go_wp2_with (first | ((with_reducible refine gate_dst (N := 11) rfl ?_); (try (refine gate_guard (by rfl) ?_; dsimp only)); refine box_event ?hg (N := 11) ?hd (cs := #[.int .i64 0, .int .i64 0, .int .i64 0, .slice none 0 0]) (t := 63) ?hr ?_; (case hd => rfl); (case hg => rfl); (case hr => first | (go_simp; done) | (go_simp; rfl)); intro gm hg_ w1_ hx_ hb_; have HS2_ := Aside0.mk (HS0.out.box hg_ hx_ hb_); have c3_ : w1_.cell? ⟨gm, 0, none⟩ = some (.int .i64 0) := (HS2_.out.cell 0 rfl 0).trans rfl; have c4_ : w1_.cell? ⟨gm, 1, none⟩ = some (.int .i64 0) := (HS2_.out.cell 0 rfl 1).trans rfl; have c5_ : w1_.cell? ⟨gm, 2, none⟩ = some (.int .i64 0) := (HS2_.out.cell 0 rfl 2).trans rfl; have c6_ : w1_.cell? ⟨gm, 3, none⟩ = some (.slice none 0 0) := (HS2_.out.cell 0 rfl 3).trans rfl; have f7_ : w1_.frozen? ⟨gm, 0, none⟩ = false := HS2_.out.frz 0 rfl 0; have f8_ : w1_.frozen? ⟨gm, 1, none⟩ = false := HS2_.out.frz 0 rfl 1; have f9_ : w1_.frozen? ⟨gm, 2, none⟩ = false := HS2_.out.frz 0 rfl 2; have f10_ : w1_.frozen? ⟨gm, 3, none⟩ = false := HS2_.out.frz 0 rfl 3; clear hg_ hx_ hb_  HS0) | ((with_reducible refine gate_store (t := 63) (p := 11) rfl ?_); refine store_event (t := 63) (p := 11) (v := .tmp 34) (w1 := ((((w1_.setCell ⟨gm, 0, none⟩ (.int .i64 m.f0)).setCell ⟨gm, 1, none⟩ (.int .i64 m.f1)).setCell ⟨gm, 2, none⟩ (.int .i64 m.f2)).setCell ⟨gm, 3, none⟩ (.slice Am m.f3.length cm))) ?hg ?ho ?hn ?hr ?_; (case ho => rfl); (case hg => rfl); (case hn => rfl); (case hr => first | (go_simp; done) | (go_simp; rfl)); intro w11_ hw_; have HS12_ : Aside0 (St wo w11_ ((blkA gm #[.int .i64 m.f0, .int .i64 m.f1, .int .i64 m.f2, .slice Am m.f3.length cm] 63) :: [])) := ⟨by rw [hw_]; exact ((((HS2_.out.put 0 rfl 0 (.int .i64 m.f0) rfl).put 0 rfl 1 (.int .i64 m.f1) rfl).put 0 rfl 2 (.int .i64 m.f2) rfl).put 0 rfl 3 (.slice Am m.f3.length cm) rfl)⟩; have c13_ : w11_.cell? ⟨gm, 0, none⟩ = some (.int .i64 m.f0) := (HS12_.out.cell 0 rfl 0).trans rfl; have c14_ : w11_.cell? ⟨gm, 3, none⟩ = some (.slice Am m.f3.length cm) := (HS12_.out.cell 0 rfl 3).trans rfl; clear hw_ c3_ c4_ c5_ c6_ f7_ f8_ f9_ f10_ HS2_ h0 h1 h2 h3; have hq3a : ∀ o, (w11_.alloc o).cell? ⟨gm, 3, none⟩ = some (.slice Am m.f3.length cm) := fun o => ((HS12_.out.alloc o).cell 0 rfl 3).trans rfl) | ((with_reducible refine gate_builtin (b := .append) (xs := #[.tmp 37, .tmp 39]) rfl ?_); (try (refine gate_guard (by rfl) ?_; dsimp only)); at_builtin; obtain ⟨ok_, hf_, hr_, hs_⟩ := ((HS12_.out.litI 3 [m.f0] (by simp [maxLen]))).app 0 rfl; refine Kd.R_append_rows (Kd.int .i64) (Rr := (Kd.int .i64).K (w11_.alloc (.cells #[.int .i64 m.f0] 3))) (w0 := wo) wo.heap.size rfl (.tmp 37) (.tmp 39) 40 3 (.int .i64 0) 8 rfl Try.underlying40 info3 rfl (by decide) (by omega) (.slice (some ⟨w11_.heap.size, 0, none⟩) 1 1) [m.f0] m.f3 Am m.f3.length cm ok_ (fun _ => False) rfl rfl hr_ ?aR ?aM (fun _ hk => hk.elim) hf_ ((HS12_.out.litI 3 [m.f0] (by simp [maxLen]))).below ((HS12_.out.litI 3 [m.f0] (by simp [maxLen]))).size ?aL ?_; (case aR => exact Kd.C_alloc (Kd.C_below HGM.out (below_step HWB.out HS12_.out.below)) _); (case aM => exact fun x cs h => h); (case aL => have := HM3.out; simp; omega); intro Ap17_ w15_ ho_ hb_ hg_ hat_; have HS16_ := Aside0.mk (hs_ _ _ _ ho_ hb_ hg_); have hN_ := Kd.R_slice ho_; obtain ⟨A18_, c20_, rfl⟩ := hN_; clear ho_ hb_ hg_ hat_ hf_ hr_ hs_ c13_ c14_ hq3a HS12_) | (go_at_call 18; refine (backstitchlaw3_valuesIn.calls _ A18_ c20_ ([m.f0] ++ m.f3) (l2.length : Int) _ _ (Kd.R_reads' (HS16_.out.row 0 rfl)).2.2 (by have := (Kd.R_reads' (HS16_.out.row 0 rfl)).2.1; exact this) HVI.out).mono ?_; rintro e_ w21_ ⟨rfl, hd_⟩; have HS22_ := Aside0.mk (HS16_.out.call hd_.below); have c23_ : w21_.cell? ⟨gm, 0, none⟩ = some (.int .i64 m.f0) := (HS22_.out.cell 1 rfl 0).trans rfl; have c24_ : w21_.cell? ⟨gm, 1, none⟩ = some (.int .i64 m.f1) := (HS22_.out.cell 1 rfl 1).trans rfl; have c25_ : w21_.cell? ⟨gm, 2, none⟩ = some (.int .i64 m.f2) := (HS22_.out.cell 1 rfl 2).trans rfl; have c26_ : w21_.cell? ⟨gm, 3, none⟩ = some (.slice Am m.f3.length cm) := (HS22_.out.cell 1 rfl 3).trans rfl; clear HS16_))
        go_ret
        exact ⟨rfl, below_step HWB.out HS22_.out.below⟩
      · have HVA := Aside0.mk hvi
        rw [hvi] at HVI
        have hall : ∀ k ∈ m.f0 :: m.f3, 0 ≤ k ∧ k < (l2.length : Int) := fun k hk => by
          have := List.all_eq_true.1 hvi k hk
          simp only [Bool.and_eq_true, decide_eq_true_eq] at this
          exact this
        have HALL := Aside0.mk hall
        have hm0 := (hall m.f0 List.mem_cons_self).1
        have hm1 := (hall m.f0 List.mem_cons_self).2
        obtain ⟨adv, e, hA, hB⟩ := at_T23 HR2.out m.f0 hm0 hm1
        cases e
        have HS0 := Aside0.mk (St.nil (Below.refl wo.heap.size wo))
        clear hvi hall
        generalize rd_T23 l2 m.f0 = v at *
        have HXX := Aside0.mk hx
        clear hx
        by_cases hc1 : v.f0 = 5
        case neg =>
          have hx := HXX.out
          rcases hx with ⟨_, her, hol⟩ | ⟨hn, _⟩
          case inr => exact absurd (show lcBad want v from .inl hc1) hn
          subst her
          obtain rfl := List.eq_nil_of_length_eq_zero hol
          have hb1 : (v.f0 == 5) = false := beq_eq_false_iff_ne.mpr hc1
          have hb2 : (v.f0 != 5) = true := bne_iff_ne.mpr hc1
          clear hc1 hol HXX
          go_wp2_with (first | ((with_reducible refine gate_dst (N := 11) rfl ?_); (try (refine gate_guard (by rfl) ?_; dsimp only)); refine box_event ?hg (N := 11) ?hd (cs := #[.int .i64 0, .int .i64 0, .int .i64 0, .slice none 0 0]) (t := 63) ?hr ?_; (case hd => rfl); (case hg => rfl); (case hr => first | (go_simp; done) | (go_simp; rfl)); intro gm hg_ w27_ hx_ hb_; have HS28_ := Aside0.mk (HS0.out.box hg_ hx_ hb_); have c29_ : w27_.cell? ⟨gm, 0, none⟩ = some (.int .i64 0) := (HS28_.out.cell 0 rfl 0).trans rfl; have c30_ : w27_.cell? ⟨gm, 1, none⟩ = some (.int .i64 0) := (HS28_.out.cell 0 rfl 1).trans rfl; have c31_ : w27_.cell? ⟨gm, 2, none⟩ = some (.int .i64 0) := (HS28_.out.cell 0 rfl 2).trans rfl; have c32_ : w27_.cell? ⟨gm, 3, none⟩ = some (.slice none 0 0) := (HS28_.out.cell 0 rfl 3).trans rfl; have f33_ : w27_.frozen? ⟨gm, 0, none⟩ = false := HS28_.out.frz 0 rfl 0; have f34_ : w27_.frozen? ⟨gm, 1, none⟩ = false := HS28_.out.frz 0 rfl 1; have f35_ : w27_.frozen? ⟨gm, 2, none⟩ = false := HS28_.out.frz 0 rfl 2; have f36_ : w27_.frozen? ⟨gm, 3, none⟩ = false := HS28_.out.frz 0 rfl 3; clear hg_ hx_ hb_  HS0) | ((with_reducible refine gate_store (t := 63) (p := 11) rfl ?_); refine store_event (t := 63) (p := 11) (v := .tmp 34) (w1 := ((((w27_.setCell ⟨gm, 0, none⟩ (.int .i64 m.f0)).setCell ⟨gm, 1, none⟩ (.int .i64 m.f1)).setCell ⟨gm, 2, none⟩ (.int .i64 m.f2)).setCell ⟨gm, 3, none⟩ (.slice Am m.f3.length cm))) ?hg ?ho ?hn ?hr ?_; (case ho => rfl); (case hg => rfl); (case hn => rfl); (case hr => first | (go_simp; done) | (go_simp; rfl)); intro w37_ hw_; have HS38_ : Aside0 (St wo w37_ ((blkA gm #[.int .i64 m.f0, .int .i64 m.f1, .int .i64 m.f2, .slice Am m.f3.length cm] 63) :: [])) := ⟨by rw [hw_]; exact ((((HS28_.out.put 0 rfl 0 (.int .i64 m.f0) rfl).put 0 rfl 1 (.int .i64 m.f1) rfl).put 0 rfl 2 (.int .i64 m.f2) rfl).put 0 rfl 3 (.slice Am m.f3.length cm) rfl)⟩; have c39_ : w37_.cell? ⟨gm, 0, none⟩ = some (.int .i64 m.f0) := (HS38_.out.cell 0 rfl 0).trans rfl; have c40_ : w37_.cell? ⟨gm, 3, none⟩ = some (.slice Am m.f3.length cm) := (HS38_.out.cell 0 rfl 3).trans rfl; clear hw_ c29_ c30_ c31_ c32_ f33_ f34_ f35_ f36_ HS28_ h0 h1 h2 h3; have hq3a : ∀ o, (w37_.alloc o).cell? ⟨gm, 3, none⟩ = some (.slice Am m.f3.length cm) := fun o => ((HS38_.out.alloc o).cell 0 rfl 3).trans rfl) | ((with_reducible refine gate_builtin (b := .append) (xs := #[.tmp 37, .tmp 39]) rfl ?_); (try (refine gate_guard (by rfl) ?_; dsimp only)); at_builtin; obtain ⟨ok_, hf_, hr_, hs_⟩ := ((HS38_.out.litI 3 [m.f0] (by simp [maxLen]))).app 0 rfl; refine Kd.R_append_rows (Kd.int .i64) (Rr := (Kd.int .i64).K (w37_.alloc (.cells #[.int .i64 m.f0] 3))) (w0 := wo) wo.heap.size rfl (.tmp 37) (.tmp 39) 40 3 (.int .i64 0) 8 rfl Try.underlying40 info3 rfl (by decide) (by omega) (.slice (some ⟨w37_.heap.size, 0, none⟩) 1 1) [m.f0] m.f3 Am m.f3.length cm ok_ (fun _ => False) rfl rfl hr_ ?aR ?aM (fun _ hk => hk.elim) hf_ ((HS38_.out.litI 3 [m.f0] (by simp [maxLen]))).below ((HS38_.out.litI 3 [m.f0] (by simp [maxLen]))).size ?aL ?_; (case aR => exact Kd.C_alloc (Kd.C_below HGM.out (below_step HWB.out HS38_.out.below)) _); (case aM => exact fun x cs h => h); (case aL => have := HM3.out; simp; omega); intro Ap43_ w41_ ho_ hb_ hg_ hat_; have HS42_ := Aside0.mk (hs_ _ _ _ ho_ hb_ hg_); have hN_ := Kd.R_slice ho_; obtain ⟨A44_, c46_, rfl⟩ := hN_; clear ho_ hb_ hg_ hat_ hf_ hr_ hs_ c39_ c40_ hq3a HS38_) | (go_at_call 18; refine (backstitchlaw3_valuesIn.calls _ A44_ c46_ ([m.f0] ++ m.f3) (l2.length : Int) _ _ (Kd.R_reads' (HS42_.out.row 0 rfl)).2.2 (by have := (Kd.R_reads' (HS42_.out.row 0 rfl)).2.1; exact this) HVI.out).mono ?_; rintro e_ w47_ ⟨rfl, hd_⟩; have HS48_ := Aside0.mk (HS42_.out.call hd_.below); have c49_ : w47_.cell? ⟨gm, 0, none⟩ = some (.int .i64 m.f0) := (HS48_.out.cell 1 rfl 0).trans rfl; have c50_ : w47_.cell? ⟨gm, 1, none⟩ = some (.int .i64 m.f1) := (HS48_.out.cell 1 rfl 1).trans rfl; have c51_ : w47_.cell? ⟨gm, 2, none⟩ = some (.int .i64 m.f2) := (HS48_.out.cell 1 rfl 2).trans rfl; have c52_ : w47_.cell? ⟨gm, 3, none⟩ = some (.slice Am m.f3.length cm) := (HS48_.out.cell 1 rfl 3).trans rfl; clear HS42_; have hv0_ := ((below_step HWB.out HS48_.out.below).cell (World.block_lt_of_cell? w _ hA)).trans hA; have hv1_ := ((below_step HWB.out HS48_.out.below).cell (World.block_lt_of_cell? w _ hB)).trans hB) | ((with_reducible refine gate_dst (N := 12) rfl ?_); (try (refine gate_guard (by rfl) ?_; dsimp only)); refine box_event ?hg (N := 12) ?hd (cs := #[.int .i64 0, .int .i64 0]) (t := 23) ?hr ?_; (case hd => rfl); (case hg => rfl); (case hr => first | (go_simp; done) | (go_simp; rfl)); intro gv hg_ w53_ hx_ hb_; have HS54_ := Aside0.mk (HS48_.out.box hg_ hx_ hb_); have c55_ : w53_.cell? ⟨gv, 0, none⟩ = some (.int .i64 0) := (HS54_.out.cell 0 rfl 0).trans rfl; have c56_ : w53_.cell? ⟨gv, 1, none⟩ = some (.int .i64 0) := (HS54_.out.cell 0 rfl 1).trans rfl; have f57_ : w53_.frozen? ⟨gv, 0, none⟩ = false := HS54_.out.frz 0 rfl 0; have f58_ : w53_.frozen? ⟨gv, 1, none⟩ = false := HS54_.out.frz 0 rfl 1; replace hv0_ := (hb_.cell (World.block_lt_of_cell? _ _ hv0_)).trans hv0_; replace hv1_ := (hb_.cell (World.block_lt_of_cell? _ _ hv1_)).trans hv1_; clear hg_ hx_ hb_ c49_ c50_ c51_ c52_ HS48_) | ((with_reducible refine gate_store (t := 23) (p := 12) rfl ?_); refine store_event (t := 23) (p := 12) (v := .tmp 56) (w1 := ((w53_.setCell ⟨gv, 0, none⟩ (.int .i64 v.f0)).setCell ⟨gv, 1, none⟩ (.int .i64 v.f1))) ?hg ?ho ?hn ?hr ?_; (case ho => rfl); (case hg => rfl); (case hn => rfl); (case hr => first | (go_simp; done) | (go_simp; rfl)); intro w59_ hw_; have HS60_ : Aside0 (St wo w59_ ((blkA gv #[.int .i64 v.f0, .int .i64 v.f1] 23) :: (rowA wo.heap.size (Kd.int .i64) 3 (.slice A44_ ([m.f0] ++ m.f3).length c46_) ([m.f0] ++ m.f3)) :: (blkA gm #[.int .i64 m.f0, .int .i64 m.f1, .int .i64 m.f2, .slice Am m.f3.length cm] 63) :: [])) := ⟨by rw [hw_]; exact ((HS54_.out.put 0 rfl 0 (.int .i64 v.f0) rfl).put 0 rfl 1 (.int .i64 v.f1) rfl)⟩; have c61_ : w59_.cell? ⟨gv, 0, none⟩ = some (.int .i64 v.f0) := (HS60_.out.cell 0 rfl 0).trans rfl; have c62_ : w59_.cell? ⟨gv, 1, none⟩ = some (.int .i64 v.f1) := (HS60_.out.cell 0 rfl 1).trans rfl; have c63_ : w59_.cell? ⟨gm, 3, none⟩ = some (.slice Am m.f3.length cm) := (HS60_.out.cell 2 rfl 3).trans rfl; clear hw_ c55_ c56_ f57_ f58_ HS54_ hv0_ hv1_))
          go_ret
          exact ⟨rfl, below_step HWB.out HS60_.out.below⟩
        have hb1 : (v.f0 == 5) = true := beq_iff_eq.mpr hc1
        have hb2 : (v.f0 != 5) = false := by simp [bne, hb1]
        have HC1 := Aside0.mk hc1
        clear hc1
        by_cases hc2 : v.f1 < 0
        case pos =>
          have hx := HXX.out
          rcases hx with ⟨_, her, hol⟩ | ⟨hn, _⟩
          case inr => exact absurd (show lcBad want v from .inr (.inl hc2)) hn
          subst her
          obtain rfl := List.eq_nil_of_length_eq_zero hol
          have hb3 : decide (v.f1 < 0) = true := decide_eq_true hc2
          clear hc2 hol HXX
          go_wp2_with (first | ((with_reducible refine gate_dst (N := 11) rfl ?_); (try (refine gate_guard (by rfl) ?_; dsimp only)); refine box_event ?hg (N := 11) ?hd (cs := #[.int .i64 0, .int .i64 0, .int .i64 0, .slice none 0 0]) (t := 63) ?hr ?_; (case hd => rfl); (case hg => rfl); (case hr => first | (go_simp; done) | (go_simp; rfl)); intro gm hg_ w27_ hx_ hb_; have HS28_ := Aside0.mk (HS0.out.box hg_ hx_ hb_); have c29_ : w27_.cell? ⟨gm, 0, none⟩ = some (.int .i64 0) := (HS28_.out.cell 0 rfl 0).trans rfl; have c30_ : w27_.cell? ⟨gm, 1, none⟩ = some (.int .i64 0) := (HS28_.out.cell 0 rfl 1).trans rfl; have c31_ : w27_.cell? ⟨gm, 2, none⟩ = some (.int .i64 0) := (HS28_.out.cell 0 rfl 2).trans rfl; have c32_ : w27_.cell? ⟨gm, 3, none⟩ = some (.slice none 0 0) := (HS28_.out.cell 0 rfl 3).trans rfl; have f33_ : w27_.frozen? ⟨gm, 0, none⟩ = false := HS28_.out.frz 0 rfl 0; have f34_ : w27_.frozen? ⟨gm, 1, none⟩ = false := HS28_.out.frz 0 rfl 1; have f35_ : w27_.frozen? ⟨gm, 2, none⟩ = false := HS28_.out.frz 0 rfl 2; have f36_ : w27_.frozen? ⟨gm, 3, none⟩ = false := HS28_.out.frz 0 rfl 3; clear hg_ hx_ hb_  HS0) | ((with_reducible refine gate_store (t := 63) (p := 11) rfl ?_); refine store_event (t := 63) (p := 11) (v := .tmp 34) (w1 := ((((w27_.setCell ⟨gm, 0, none⟩ (.int .i64 m.f0)).setCell ⟨gm, 1, none⟩ (.int .i64 m.f1)).setCell ⟨gm, 2, none⟩ (.int .i64 m.f2)).setCell ⟨gm, 3, none⟩ (.slice Am m.f3.length cm))) ?hg ?ho ?hn ?hr ?_; (case ho => rfl); (case hg => rfl); (case hn => rfl); (case hr => first | (go_simp; done) | (go_simp; rfl)); intro w37_ hw_; have HS38_ : Aside0 (St wo w37_ ((blkA gm #[.int .i64 m.f0, .int .i64 m.f1, .int .i64 m.f2, .slice Am m.f3.length cm] 63) :: [])) := ⟨by rw [hw_]; exact ((((HS28_.out.put 0 rfl 0 (.int .i64 m.f0) rfl).put 0 rfl 1 (.int .i64 m.f1) rfl).put 0 rfl 2 (.int .i64 m.f2) rfl).put 0 rfl 3 (.slice Am m.f3.length cm) rfl)⟩; have c39_ : w37_.cell? ⟨gm, 0, none⟩ = some (.int .i64 m.f0) := (HS38_.out.cell 0 rfl 0).trans rfl; have c40_ : w37_.cell? ⟨gm, 3, none⟩ = some (.slice Am m.f3.length cm) := (HS38_.out.cell 0 rfl 3).trans rfl; clear hw_ c29_ c30_ c31_ c32_ f33_ f34_ f35_ f36_ HS28_ h0 h1 h2 h3; have hq3a : ∀ o, (w37_.alloc o).cell? ⟨gm, 3, none⟩ = some (.slice Am m.f3.length cm) := fun o => ((HS38_.out.alloc o).cell 0 rfl 3).trans rfl) | ((with_reducible refine gate_builtin (b := .append) (xs := #[.tmp 37, .tmp 39]) rfl ?_); (try (refine gate_guard (by rfl) ?_; dsimp only)); at_builtin; obtain ⟨ok_, hf_, hr_, hs_⟩ := ((HS38_.out.litI 3 [m.f0] (by simp [maxLen]))).app 0 rfl; refine Kd.R_append_rows (Kd.int .i64) (Rr := (Kd.int .i64).K (w37_.alloc (.cells #[.int .i64 m.f0] 3))) (w0 := wo) wo.heap.size rfl (.tmp 37) (.tmp 39) 40 3 (.int .i64 0) 8 rfl Try.underlying40 info3 rfl (by decide) (by omega) (.slice (some ⟨w37_.heap.size, 0, none⟩) 1 1) [m.f0] m.f3 Am m.f3.length cm ok_ (fun _ => False) rfl rfl hr_ ?aR ?aM (fun _ hk => hk.elim) hf_ ((HS38_.out.litI 3 [m.f0] (by simp [maxLen]))).below ((HS38_.out.litI 3 [m.f0] (by simp [maxLen]))).size ?aL ?_; (case aR => exact Kd.C_alloc (Kd.C_below HGM.out (below_step HWB.out HS38_.out.below)) _); (case aM => exact fun x cs h => h); (case aL => have := HM3.out; simp; omega); intro Ap43_ w41_ ho_ hb_ hg_ hat_; have HS42_ := Aside0.mk (hs_ _ _ _ ho_ hb_ hg_); have hN_ := Kd.R_slice ho_; obtain ⟨A44_, c46_, rfl⟩ := hN_; clear ho_ hb_ hg_ hat_ hf_ hr_ hs_ c39_ c40_ hq3a HS38_) | (go_at_call 18; refine (backstitchlaw3_valuesIn.calls _ A44_ c46_ ([m.f0] ++ m.f3) (l2.length : Int) _ _ (Kd.R_reads' (HS42_.out.row 0 rfl)).2.2 (by have := (Kd.R_reads' (HS42_.out.row 0 rfl)).2.1; exact this) HVI.out).mono ?_; rintro e_ w47_ ⟨rfl, hd_⟩; have HS48_ := Aside0.mk (HS42_.out.call hd_.below); have c49_ : w47_.cell? ⟨gm, 0, none⟩ = some (.int .i64 m.f0) := (HS48_.out.cell 1 rfl 0).trans rfl; have c50_ : w47_.cell? ⟨gm, 1, none⟩ = some (.int .i64 m.f1) := (HS48_.out.cell 1 rfl 1).trans rfl; have c51_ : w47_.cell? ⟨gm, 2, none⟩ = some (.int .i64 m.f2) := (HS48_.out.cell 1 rfl 2).trans rfl; have c52_ : w47_.cell? ⟨gm, 3, none⟩ = some (.slice Am m.f3.length cm) := (HS48_.out.cell 1 rfl 3).trans rfl; clear HS42_; have hv0_ := ((below_step HWB.out HS48_.out.below).cell (World.block_lt_of_cell? w _ hA)).trans hA; have hv1_ := ((below_step HWB.out HS48_.out.below).cell (World.block_lt_of_cell? w _ hB)).trans hB) | ((with_reducible refine gate_dst (N := 12) rfl ?_); (try (refine gate_guard (by rfl) ?_; dsimp only)); refine box_event ?hg (N := 12) ?hd (cs := #[.int .i64 0, .int .i64 0]) (t := 23) ?hr ?_; (case hd => rfl); (case hg => rfl); (case hr => first | (go_simp; done) | (go_simp; rfl)); intro gv hg_ w53_ hx_ hb_; have HS54_ := Aside0.mk (HS48_.out.box hg_ hx_ hb_); have c55_ : w53_.cell? ⟨gv, 0, none⟩ = some (.int .i64 0) := (HS54_.out.cell 0 rfl 0).trans rfl; have c56_ : w53_.cell? ⟨gv, 1, none⟩ = some (.int .i64 0) := (HS54_.out.cell 0 rfl 1).trans rfl; have f57_ : w53_.frozen? ⟨gv, 0, none⟩ = false := HS54_.out.frz 0 rfl 0; have f58_ : w53_.frozen? ⟨gv, 1, none⟩ = false := HS54_.out.frz 0 rfl 1; replace hv0_ := (hb_.cell (World.block_lt_of_cell? _ _ hv0_)).trans hv0_; replace hv1_ := (hb_.cell (World.block_lt_of_cell? _ _ hv1_)).trans hv1_; clear hg_ hx_ hb_ c49_ c50_ c51_ c52_ HS48_) | ((with_reducible refine gate_store (t := 23) (p := 12) rfl ?_); refine store_event (t := 23) (p := 12) (v := .tmp 56) (w1 := ((w53_.setCell ⟨gv, 0, none⟩ (.int .i64 v.f0)).setCell ⟨gv, 1, none⟩ (.int .i64 v.f1))) ?hg ?ho ?hn ?hr ?_; (case ho => rfl); (case hg => rfl); (case hn => rfl); (case hr => first | (go_simp; done) | (go_simp; rfl)); intro w59_ hw_; have HS60_ : Aside0 (St wo w59_ ((blkA gv #[.int .i64 v.f0, .int .i64 v.f1] 23) :: (rowA wo.heap.size (Kd.int .i64) 3 (.slice A44_ ([m.f0] ++ m.f3).length c46_) ([m.f0] ++ m.f3)) :: (blkA gm #[.int .i64 m.f0, .int .i64 m.f1, .int .i64 m.f2, .slice Am m.f3.length cm] 63) :: [])) := ⟨by rw [hw_]; exact ((HS54_.out.put 0 rfl 0 (.int .i64 v.f0) rfl).put 0 rfl 1 (.int .i64 v.f1) rfl)⟩; have c61_ : w59_.cell? ⟨gv, 0, none⟩ = some (.int .i64 v.f0) := (HS60_.out.cell 0 rfl 0).trans rfl; have c62_ : w59_.cell? ⟨gv, 1, none⟩ = some (.int .i64 v.f1) := (HS60_.out.cell 0 rfl 1).trans rfl; have c63_ : w59_.cell? ⟨gm, 3, none⟩ = some (.slice Am m.f3.length cm) := (HS60_.out.cell 2 rfl 3).trans rfl; clear hw_ c55_ c56_ f57_ f58_ HS54_ hv0_ hv1_))
          go_ret
          exact ⟨rfl, below_step HWB.out HS60_.out.below⟩
        have hv0 : 0 ≤ v.f1 := by omega
        have hb3 : decide (v.f1 < 0) = false := decide_eq_false hc2
        clear hc2
        by_cases hc3 : (n : Int) ≤ v.f1
        case pos =>
          have hx := HXX.out
          rcases hx with ⟨_, her, hol⟩ | ⟨hn, _⟩
          case inr => exact absurd (show lcBad want v from .inr (.inr (.inl (by rw [HWL.out]; exact hc3)))) hn
          subst her
          obtain rfl := List.eq_nil_of_length_eq_zero hol
          have hb4 : decide ((n : Int) ≤ v.f1) = true := decide_eq_true hc3
          have hb5 : decide (v.f1 ≥ (n : Int)) = true := decide_eq_true hc3
          clear hol HXX
          go_wp2_with (first | ((with_reducible refine gate_dst (N := 11) rfl ?_); (try (refine gate_guard (by rfl) ?_; dsimp only)); refine box_event ?hg (N := 11) ?hd (cs := #[.int .i64 0, .int .i64 0, .int .i64 0, .slice none 0 0]) (t := 63) ?hr ?_; (case hd => rfl); (case hg => rfl); (case hr => first | (go_simp; done) | (go_simp; rfl)); intro gm hg_ w27_ hx_ hb_; have HS28_ := Aside0.mk (HS0.out.box hg_ hx_ hb_); have c29_ : w27_.cell? ⟨gm, 0, none⟩ = some (.int .i64 0) := (HS28_.out.cell 0 rfl 0).trans rfl; have c30_ : w27_.cell? ⟨gm, 1, none⟩ = some (.int .i64 0) := (HS28_.out.cell 0 rfl 1).trans rfl; have c31_ : w27_.cell? ⟨gm, 2, none⟩ = some (.int .i64 0) := (HS28_.out.cell 0 rfl 2).trans rfl; have c32_ : w27_.cell? ⟨gm, 3, none⟩ = some (.slice none 0 0) := (HS28_.out.cell 0 rfl 3).trans rfl; have f33_ : w27_.frozen? ⟨gm, 0, none⟩ = false := HS28_.out.frz 0 rfl 0; have f34_ : w27_.frozen? ⟨gm, 1, none⟩ = false := HS28_.out.frz 0 rfl 1; have f35_ : w27_.frozen? ⟨gm, 2, none⟩ = false := HS28_.out.frz 0 rfl 2; have f36_ : w27_.frozen? ⟨gm, 3, none⟩ = false := HS28_.out.frz 0 rfl 3; clear hg_ hx_ hb_  HS0) | ((with_reducible refine gate_store (t := 63) (p := 11) rfl ?_); refine store_event (t := 63) (p := 11) (v := .tmp 34) (w1 := ((((w27_.setCell ⟨gm, 0, none⟩ (.int .i64 m.f0)).setCell ⟨gm, 1, none⟩ (.int .i64 m.f1)).setCell ⟨gm, 2, none⟩ (.int .i64 m.f2)).setCell ⟨gm, 3, none⟩ (.slice Am m.f3.length cm))) ?hg ?ho ?hn ?hr ?_; (case ho => rfl); (case hg => rfl); (case hn => rfl); (case hr => first | (go_simp; done) | (go_simp; rfl)); intro w37_ hw_; have HS38_ : Aside0 (St wo w37_ ((blkA gm #[.int .i64 m.f0, .int .i64 m.f1, .int .i64 m.f2, .slice Am m.f3.length cm] 63) :: [])) := ⟨by rw [hw_]; exact ((((HS28_.out.put 0 rfl 0 (.int .i64 m.f0) rfl).put 0 rfl 1 (.int .i64 m.f1) rfl).put 0 rfl 2 (.int .i64 m.f2) rfl).put 0 rfl 3 (.slice Am m.f3.length cm) rfl)⟩; have c39_ : w37_.cell? ⟨gm, 0, none⟩ = some (.int .i64 m.f0) := (HS38_.out.cell 0 rfl 0).trans rfl; have c40_ : w37_.cell? ⟨gm, 3, none⟩ = some (.slice Am m.f3.length cm) := (HS38_.out.cell 0 rfl 3).trans rfl; clear hw_ c29_ c30_ c31_ c32_ f33_ f34_ f35_ f36_ HS28_ h0 h1 h2 h3; have hq3a : ∀ o, (w37_.alloc o).cell? ⟨gm, 3, none⟩ = some (.slice Am m.f3.length cm) := fun o => ((HS38_.out.alloc o).cell 0 rfl 3).trans rfl) | ((with_reducible refine gate_builtin (b := .append) (xs := #[.tmp 37, .tmp 39]) rfl ?_); (try (refine gate_guard (by rfl) ?_; dsimp only)); at_builtin; obtain ⟨ok_, hf_, hr_, hs_⟩ := ((HS38_.out.litI 3 [m.f0] (by simp [maxLen]))).app 0 rfl; refine Kd.R_append_rows (Kd.int .i64) (Rr := (Kd.int .i64).K (w37_.alloc (.cells #[.int .i64 m.f0] 3))) (w0 := wo) wo.heap.size rfl (.tmp 37) (.tmp 39) 40 3 (.int .i64 0) 8 rfl Try.underlying40 info3 rfl (by decide) (by omega) (.slice (some ⟨w37_.heap.size, 0, none⟩) 1 1) [m.f0] m.f3 Am m.f3.length cm ok_ (fun _ => False) rfl rfl hr_ ?aR ?aM (fun _ hk => hk.elim) hf_ ((HS38_.out.litI 3 [m.f0] (by simp [maxLen]))).below ((HS38_.out.litI 3 [m.f0] (by simp [maxLen]))).size ?aL ?_; (case aR => exact Kd.C_alloc (Kd.C_below HGM.out (below_step HWB.out HS38_.out.below)) _); (case aM => exact fun x cs h => h); (case aL => have := HM3.out; simp; omega); intro Ap43_ w41_ ho_ hb_ hg_ hat_; have HS42_ := Aside0.mk (hs_ _ _ _ ho_ hb_ hg_); have hN_ := Kd.R_slice ho_; obtain ⟨A44_, c46_, rfl⟩ := hN_; clear ho_ hb_ hg_ hat_ hf_ hr_ hs_ c39_ c40_ hq3a HS38_) | (go_at_call 18; refine (backstitchlaw3_valuesIn.calls _ A44_ c46_ ([m.f0] ++ m.f3) (l2.length : Int) _ _ (Kd.R_reads' (HS42_.out.row 0 rfl)).2.2 (by have := (Kd.R_reads' (HS42_.out.row 0 rfl)).2.1; exact this) HVI.out).mono ?_; rintro e_ w47_ ⟨rfl, hd_⟩; have HS48_ := Aside0.mk (HS42_.out.call hd_.below); have c49_ : w47_.cell? ⟨gm, 0, none⟩ = some (.int .i64 m.f0) := (HS48_.out.cell 1 rfl 0).trans rfl; have c50_ : w47_.cell? ⟨gm, 1, none⟩ = some (.int .i64 m.f1) := (HS48_.out.cell 1 rfl 1).trans rfl; have c51_ : w47_.cell? ⟨gm, 2, none⟩ = some (.int .i64 m.f2) := (HS48_.out.cell 1 rfl 2).trans rfl; have c52_ : w47_.cell? ⟨gm, 3, none⟩ = some (.slice Am m.f3.length cm) := (HS48_.out.cell 1 rfl 3).trans rfl; clear HS42_; have hv0_ := ((below_step HWB.out HS48_.out.below).cell (World.block_lt_of_cell? w _ hA)).trans hA; have hv1_ := ((below_step HWB.out HS48_.out.below).cell (World.block_lt_of_cell? w _ hB)).trans hB) | ((with_reducible refine gate_dst (N := 12) rfl ?_); (try (refine gate_guard (by rfl) ?_; dsimp only)); refine box_event ?hg (N := 12) ?hd (cs := #[.int .i64 0, .int .i64 0]) (t := 23) ?hr ?_; (case hd => rfl); (case hg => rfl); (case hr => first | (go_simp; done) | (go_simp; rfl)); intro gv hg_ w53_ hx_ hb_; have HS54_ := Aside0.mk (HS48_.out.box hg_ hx_ hb_); have c55_ : w53_.cell? ⟨gv, 0, none⟩ = some (.int .i64 0) := (HS54_.out.cell 0 rfl 0).trans rfl; have c56_ : w53_.cell? ⟨gv, 1, none⟩ = some (.int .i64 0) := (HS54_.out.cell 0 rfl 1).trans rfl; have f57_ : w53_.frozen? ⟨gv, 0, none⟩ = false := HS54_.out.frz 0 rfl 0; have f58_ : w53_.frozen? ⟨gv, 1, none⟩ = false := HS54_.out.frz 0 rfl 1; replace hv0_ := (hb_.cell (World.block_lt_of_cell? _ _ hv0_)).trans hv0_; replace hv1_ := (hb_.cell (World.block_lt_of_cell? _ _ hv1_)).trans hv1_; clear hg_ hx_ hb_ c49_ c50_ c51_ c52_ HS48_) | ((with_reducible refine gate_store (t := 23) (p := 12) rfl ?_); refine store_event (t := 23) (p := 12) (v := .tmp 56) (w1 := ((w53_.setCell ⟨gv, 0, none⟩ (.int .i64 v.f0)).setCell ⟨gv, 1, none⟩ (.int .i64 v.f1))) ?hg ?ho ?hn ?hr ?_; (case ho => rfl); (case hg => rfl); (case hn => rfl); (case hr => first | (go_simp; done) | (go_simp; rfl)); intro w59_ hw_; have HS60_ : Aside0 (St wo w59_ ((blkA gv #[.int .i64 v.f0, .int .i64 v.f1] 23) :: (rowA wo.heap.size (Kd.int .i64) 3 (.slice A44_ ([m.f0] ++ m.f3).length c46_) ([m.f0] ++ m.f3)) :: (blkA gm #[.int .i64 m.f0, .int .i64 m.f1, .int .i64 m.f2, .slice Am m.f3.length cm] 63) :: [])) := ⟨by rw [hw_]; exact ((HS54_.out.put 0 rfl 0 (.int .i64 v.f0) rfl).put 0 rfl 1 (.int .i64 v.f1) rfl)⟩; have c61_ : w59_.cell? ⟨gv, 0, none⟩ = some (.int .i64 v.f0) := (HS60_.out.cell 0 rfl 0).trans rfl; have c62_ : w59_.cell? ⟨gv, 1, none⟩ = some (.int .i64 v.f1) := (HS60_.out.cell 0 rfl 1).trans rfl; have c63_ : w59_.cell? ⟨gm, 3, none⟩ = some (.slice Am m.f3.length cm) := (HS60_.out.cell 2 rfl 3).trans rfl; clear hw_ c55_ c56_ f57_ f58_ HS54_ hv0_ hv1_))
          go_ret
          exact ⟨rfl, below_step HWB.out HS60_.out.below⟩
        have hvn : v.f1 < (n : Int) := by omega
        have hb4 : decide ((n : Int) ≤ v.f1) = false := decide_eq_false hc3
        have hb5 : decide (v.f1 ≥ (n : Int)) = false := decide_eq_false hc3
        clear hc3
        obtain ⟨g, e, hgb, hgl⟩ := Wn.form HWN.out (by have := HWL.out; omega)
        cases e
        have HGB := Aside0.mk hgb
        have HGL := Aside0.mk hgl
        obtain ⟨Ap2, cp2, Ap3, cp3, hw0, hw1, hw2, hw3, _, _, hwf⟩ := Wn.get HWN.out v.f1 hv0 (by have := HWL.out; omega)
        have HW0 := Aside0.mk hw0
        have HW1 := Aside0.mk hw1
        have HW2 := Aside0.mk hw2
        have HW3 := Aside0.mk hw3
        have HWF := Aside0.mk hwf
        clear hgb hgl hw0 hw1 hw2 hw3 hwf
        by_cases hc4 : (rd_T61 want v.f1).f0 = 0
        case neg =>
          have hx := HXX.out
          rcases hx with ⟨_, her, hol⟩ | ⟨hn, _⟩
          case inr => exact absurd (show lcBad want v from .inr (.inr (.inr hc4))) hn
          subst her
          obtain rfl := List.eq_nil_of_length_eq_zero hol
          have hb6 : ((rd_T61 want v.f1).f0 == 0) = false := beq_eq_false_iff_ne.mpr hc4
          have hb7 : ((rd_T61 want v.f1).f0 != 0) = true := bne_iff_ne.mpr hc4
          clear hc4 hol HXX
          go_wp2_with (first | ((with_reducible refine gate_dst (N := 11) rfl ?_); (try (refine gate_guard (by rfl) ?_; dsimp only)); refine box_event ?hg (N := 11) ?hd (cs := #[.int .i64 0, .int .i64 0, .int .i64 0, .slice none 0 0]) (t := 63) ?hr ?_; (case hd => rfl); (case hg => rfl); (case hr => first | (go_simp; done) | (go_simp; rfl)); intro gm hg_ w27_ hx_ hb_; have HS28_ := Aside0.mk (HS0.out.box hg_ hx_ hb_); have c29_ : w27_.cell? ⟨gm, 0, none⟩ = some (.int .i64 0) := (HS28_.out.cell 0 rfl 0).trans rfl; have c30_ : w27_.cell? ⟨gm, 1, none⟩ = some (.int .i64 0) := (HS28_.out.cell 0 rfl 1).trans rfl; have c31_ : w27_.cell? ⟨gm, 2, none⟩ = some (.int .i64 0) := (HS28_.out.cell 0 rfl 2).trans rfl; have c32_ : w27_.cell? ⟨gm, 3, none⟩ = some (.slice none 0 0) := (HS28_.out.cell 0 rfl 3).trans rfl; have f33_ : w27_.frozen? ⟨gm, 0, none⟩ = false := HS28_.out.frz 0 rfl 0; have f34_ : w27_.frozen? ⟨gm, 1, none⟩ = false := HS28_.out.frz 0 rfl 1; have f35_ : w27_.frozen? ⟨gm, 2, none⟩ = false := HS28_.out.frz 0 rfl 2; have f36_ : w27_.frozen? ⟨gm, 3, none⟩ = false := HS28_.out.frz 0 rfl 3; clear hg_ hx_ hb_  HS0) | ((with_reducible refine gate_store (t := 63) (p := 11) rfl ?_); refine store_event (t := 63) (p := 11) (v := .tmp 34) (w1 := ((((w27_.setCell ⟨gm, 0, none⟩ (.int .i64 m.f0)).setCell ⟨gm, 1, none⟩ (.int .i64 m.f1)).setCell ⟨gm, 2, none⟩ (.int .i64 m.f2)).setCell ⟨gm, 3, none⟩ (.slice Am m.f3.length cm))) ?hg ?ho ?hn ?hr ?_; (case ho => rfl); (case hg => rfl); (case hn => rfl); (case hr => first | (go_simp; done) | (go_simp; rfl)); intro w37_ hw_; have HS38_ : Aside0 (St wo w37_ ((blkA gm #[.int .i64 m.f0, .int .i64 m.f1, .int .i64 m.f2, .slice Am m.f3.length cm] 63) :: [])) := ⟨by rw [hw_]; exact ((((HS28_.out.put 0 rfl 0 (.int .i64 m.f0) rfl).put 0 rfl 1 (.int .i64 m.f1) rfl).put 0 rfl 2 (.int .i64 m.f2) rfl).put 0 rfl 3 (.slice Am m.f3.length cm) rfl)⟩; have c39_ : w37_.cell? ⟨gm, 0, none⟩ = some (.int .i64 m.f0) := (HS38_.out.cell 0 rfl 0).trans rfl; have c40_ : w37_.cell? ⟨gm, 3, none⟩ = some (.slice Am m.f3.length cm) := (HS38_.out.cell 0 rfl 3).trans rfl; clear hw_ c29_ c30_ c31_ c32_ f33_ f34_ f35_ f36_ HS28_ h0 h1 h2 h3; have hq3a : ∀ o, (w37_.alloc o).cell? ⟨gm, 3, none⟩ = some (.slice Am m.f3.length cm) := fun o => ((HS38_.out.alloc o).cell 0 rfl 3).trans rfl) | ((with_reducible refine gate_builtin (b := .append) (xs := #[.tmp 37, .tmp 39]) rfl ?_); (try (refine gate_guard (by rfl) ?_; dsimp only)); at_builtin; obtain ⟨ok_, hf_, hr_, hs_⟩ := ((HS38_.out.litI 3 [m.f0] (by simp [maxLen]))).app 0 rfl; refine Kd.R_append_rows (Kd.int .i64) (Rr := (Kd.int .i64).K (w37_.alloc (.cells #[.int .i64 m.f0] 3))) (w0 := wo) wo.heap.size rfl (.tmp 37) (.tmp 39) 40 3 (.int .i64 0) 8 rfl Try.underlying40 info3 rfl (by decide) (by omega) (.slice (some ⟨w37_.heap.size, 0, none⟩) 1 1) [m.f0] m.f3 Am m.f3.length cm ok_ (fun _ => False) rfl rfl hr_ ?aR ?aM (fun _ hk => hk.elim) hf_ ((HS38_.out.litI 3 [m.f0] (by simp [maxLen]))).below ((HS38_.out.litI 3 [m.f0] (by simp [maxLen]))).size ?aL ?_; (case aR => exact Kd.C_alloc (Kd.C_below HGM.out (below_step HWB.out HS38_.out.below)) _); (case aM => exact fun x cs h => h); (case aL => have := HM3.out; simp; omega); intro Ap43_ w41_ ho_ hb_ hg_ hat_; have HS42_ := Aside0.mk (hs_ _ _ _ ho_ hb_ hg_); have hN_ := Kd.R_slice ho_; obtain ⟨A44_, c46_, rfl⟩ := hN_; clear ho_ hb_ hg_ hat_ hf_ hr_ hs_ c39_ c40_ hq3a HS38_) | (go_at_call 18; refine (backstitchlaw3_valuesIn.calls _ A44_ c46_ ([m.f0] ++ m.f3) (l2.length : Int) _ _ (Kd.R_reads' (HS42_.out.row 0 rfl)).2.2 (by have := (Kd.R_reads' (HS42_.out.row 0 rfl)).2.1; exact this) HVI.out).mono ?_; rintro e_ w47_ ⟨rfl, hd_⟩; have HS48_ := Aside0.mk (HS42_.out.call hd_.below); have c49_ : w47_.cell? ⟨gm, 0, none⟩ = some (.int .i64 m.f0) := (HS48_.out.cell 1 rfl 0).trans rfl; have c50_ : w47_.cell? ⟨gm, 1, none⟩ = some (.int .i64 m.f1) := (HS48_.out.cell 1 rfl 1).trans rfl; have c51_ : w47_.cell? ⟨gm, 2, none⟩ = some (.int .i64 m.f2) := (HS48_.out.cell 1 rfl 2).trans rfl; have c52_ : w47_.cell? ⟨gm, 3, none⟩ = some (.slice Am m.f3.length cm) := (HS48_.out.cell 1 rfl 3).trans rfl; clear HS42_; have hv0_ := ((below_step HWB.out HS48_.out.below).cell (World.block_lt_of_cell? w _ hA)).trans hA; have hv1_ := ((below_step HWB.out HS48_.out.below).cell (World.block_lt_of_cell? w _ hB)).trans hB) | ((with_reducible refine gate_dst (N := 12) rfl ?_); (try (refine gate_guard (by rfl) ?_; dsimp only)); refine box_event ?hg (N := 12) ?hd (cs := #[.int .i64 0, .int .i64 0]) (t := 23) ?hr ?_; (case hd => rfl); (case hg => rfl); (case hr => first | (go_simp; done) | (go_simp; rfl)); intro gv hg_ w53_ hx_ hb_; have HS54_ := Aside0.mk (HS48_.out.box hg_ hx_ hb_); have c55_ : w53_.cell? ⟨gv, 0, none⟩ = some (.int .i64 0) := (HS54_.out.cell 0 rfl 0).trans rfl; have c56_ : w53_.cell? ⟨gv, 1, none⟩ = some (.int .i64 0) := (HS54_.out.cell 0 rfl 1).trans rfl; have f57_ : w53_.frozen? ⟨gv, 0, none⟩ = false := HS54_.out.frz 0 rfl 0; have f58_ : w53_.frozen? ⟨gv, 1, none⟩ = false := HS54_.out.frz 0 rfl 1; replace hv0_ := (hb_.cell (World.block_lt_of_cell? _ _ hv0_)).trans hv0_; replace hv1_ := (hb_.cell (World.block_lt_of_cell? _ _ hv1_)).trans hv1_; clear hg_ hx_ hb_ c49_ c50_ c51_ c52_ HS48_) | ((with_reducible refine gate_store (t := 23) (p := 12) rfl ?_); refine store_event (t := 23) (p := 12) (v := .tmp 56) (w1 := ((w53_.setCell ⟨gv, 0, none⟩ (.int .i64 v.f0)).setCell ⟨gv, 1, none⟩ (.int .i64 v.f1))) ?hg ?ho ?hn ?hr ?_; (case ho => rfl); (case hg => rfl); (case hn => rfl); (case hr => first | (go_simp; done) | (go_simp; rfl)); intro w59_ hw_; have HS60_ : Aside0 (St wo w59_ ((blkA gv #[.int .i64 v.f0, .int .i64 v.f1] 23) :: (rowA wo.heap.size (Kd.int .i64) 3 (.slice A44_ ([m.f0] ++ m.f3).length c46_) ([m.f0] ++ m.f3)) :: (blkA gm #[.int .i64 m.f0, .int .i64 m.f1, .int .i64 m.f2, .slice Am m.f3.length cm] 63) :: [])) := ⟨by rw [hw_]; exact ((HS54_.out.put 0 rfl 0 (.int .i64 v.f0) rfl).put 0 rfl 1 (.int .i64 v.f1) rfl)⟩; have c61_ : w59_.cell? ⟨gv, 0, none⟩ = some (.int .i64 v.f0) := (HS60_.out.cell 0 rfl 0).trans rfl; have c62_ : w59_.cell? ⟨gv, 1, none⟩ = some (.int .i64 v.f1) := (HS60_.out.cell 0 rfl 1).trans rfl; have c63_ : w59_.cell? ⟨gm, 3, none⟩ = some (.slice Am m.f3.length cm) := (HS60_.out.cell 2 rfl 3).trans rfl; clear hw_ c55_ c56_ f57_ f58_ HS54_ hv0_ hv1_; have hk0_ : w59_.cell? ⟨g, v.f1.toNat * 4, none⟩ = some (.int .i64 (rd_T61 want v.f1).f0) := (HS60_.out.below.cell (World.block_lt_of_cell? wo _ HW0.out)).trans HW0.out))
          go_ret
          exact ⟨rfl, below_step HWB.out HS60_.out.below⟩
        have hb6 : ((rd_T61 want v.f1).f0 == 0) = true := beq_iff_eq.mpr hc4
        have hb7 : ((rd_T61 want v.f1).f0 != 0) = false := by simp [bne, hb6]
        have hx := HXX.out
        rcases hx with ⟨hbad, _, _⟩ | ⟨_, hx⟩
        case inl => exact absurd hbad (by have := HC1.out; have := HWL.out; rintro (h | h | h | h) <;> first | exact h this | omega | exact h hc4 | exact h (by assumption))
        have HX3 := Aside0.mk hx
        clear hx HXX hc4
        go_wp2_with (first | ((with_reducible refine gate_dst (N := 11) rfl ?_); (try (refine gate_guard (by rfl) ?_; dsimp only)); refine box_event ?hg (N := 11) ?hd (cs := #[.int .i64 0, .int .i64 0, .int .i64 0, .slice none 0 0]) (t := 63) ?hr ?_; (case hd => rfl); (case hg => rfl); (case hr => first | (go_simp; done) | (go_simp; rfl)); intro gm hg_ w27_ hx_ hb_; have HS28_ := Aside0.mk (HS0.out.box hg_ hx_ hb_); have c29_ : w27_.cell? ⟨gm, 0, none⟩ = some (.int .i64 0) := (HS28_.out.cell 0 rfl 0).trans rfl; have c30_ : w27_.cell? ⟨gm, 1, none⟩ = some (.int .i64 0) := (HS28_.out.cell 0 rfl 1).trans rfl; have c31_ : w27_.cell? ⟨gm, 2, none⟩ = some (.int .i64 0) := (HS28_.out.cell 0 rfl 2).trans rfl; have c32_ : w27_.cell? ⟨gm, 3, none⟩ = some (.slice none 0 0) := (HS28_.out.cell 0 rfl 3).trans rfl; have f33_ : w27_.frozen? ⟨gm, 0, none⟩ = false := HS28_.out.frz 0 rfl 0; have f34_ : w27_.frozen? ⟨gm, 1, none⟩ = false := HS28_.out.frz 0 rfl 1; have f35_ : w27_.frozen? ⟨gm, 2, none⟩ = false := HS28_.out.frz 0 rfl 2; have f36_ : w27_.frozen? ⟨gm, 3, none⟩ = false := HS28_.out.frz 0 rfl 3; clear hg_ hx_ hb_  HS0) | ((with_reducible refine gate_store (t := 63) (p := 11) rfl ?_); refine store_event (t := 63) (p := 11) (v := .tmp 34) (w1 := ((((w27_.setCell ⟨gm, 0, none⟩ (.int .i64 m.f0)).setCell ⟨gm, 1, none⟩ (.int .i64 m.f1)).setCell ⟨gm, 2, none⟩ (.int .i64 m.f2)).setCell ⟨gm, 3, none⟩ (.slice Am m.f3.length cm))) ?hg ?ho ?hn ?hr ?_; (case ho => rfl); (case hg => rfl); (case hn => rfl); (case hr => first | (go_simp; done) | (go_simp; rfl)); intro w37_ hw_; have HS38_ : Aside0 (St wo w37_ ((blkA gm #[.int .i64 m.f0, .int .i64 m.f1, .int .i64 m.f2, .slice Am m.f3.length cm] 63) :: [])) := ⟨by rw [hw_]; exact ((((HS28_.out.put 0 rfl 0 (.int .i64 m.f0) rfl).put 0 rfl 1 (.int .i64 m.f1) rfl).put 0 rfl 2 (.int .i64 m.f2) rfl).put 0 rfl 3 (.slice Am m.f3.length cm) rfl)⟩; have c39_ : w37_.cell? ⟨gm, 0, none⟩ = some (.int .i64 m.f0) := (HS38_.out.cell 0 rfl 0).trans rfl; have c40_ : w37_.cell? ⟨gm, 3, none⟩ = some (.slice Am m.f3.length cm) := (HS38_.out.cell 0 rfl 3).trans rfl; clear hw_ c29_ c30_ c31_ c32_ f33_ f34_ f35_ f36_ HS28_ h0 h1 h2 h3; have hq3a : ∀ o, (w37_.alloc o).cell? ⟨gm, 3, none⟩ = some (.slice Am m.f3.length cm) := fun o => ((HS38_.out.alloc o).cell 0 rfl 3).trans rfl) | ((with_reducible refine gate_builtin (b := .append) (xs := #[.tmp 37, .tmp 39]) rfl ?_); (try (refine gate_guard (by rfl) ?_; dsimp only)); at_builtin; obtain ⟨ok_, hf_, hr_, hs_⟩ := ((HS38_.out.litI 3 [m.f0] (by simp [maxLen]))).app 0 rfl; refine Kd.R_append_rows (Kd.int .i64) (Rr := (Kd.int .i64).K (w37_.alloc (.cells #[.int .i64 m.f0] 3))) (w0 := wo) wo.heap.size rfl (.tmp 37) (.tmp 39) 40 3 (.int .i64 0) 8 rfl Try.underlying40 info3 rfl (by decide) (by omega) (.slice (some ⟨w37_.heap.size, 0, none⟩) 1 1) [m.f0] m.f3 Am m.f3.length cm ok_ (fun _ => False) rfl rfl hr_ ?aR ?aM (fun _ hk => hk.elim) hf_ ((HS38_.out.litI 3 [m.f0] (by simp [maxLen]))).below ((HS38_.out.litI 3 [m.f0] (by simp [maxLen]))).size ?aL ?_; (case aR => exact Kd.C_alloc (Kd.C_below HGM.out (below_step HWB.out HS38_.out.below)) _); (case aM => exact fun x cs h => h); (case aL => have := HM3.out; simp; omega); intro Ap43_ w41_ ho_ hb_ hg_ hat_; have HS42_ := Aside0.mk (hs_ _ _ _ ho_ hb_ hg_); have hN_ := Kd.R_slice ho_; obtain ⟨A44_, c46_, rfl⟩ := hN_; clear ho_ hb_ hg_ hat_ hf_ hr_ hs_ c39_ c40_ hq3a HS38_) | (go_at_call 18; refine (backstitchlaw3_valuesIn.calls _ A44_ c46_ ([m.f0] ++ m.f3) (l2.length : Int) _ _ (Kd.R_reads' (HS42_.out.row 0 rfl)).2.2 (by have := (Kd.R_reads' (HS42_.out.row 0 rfl)).2.1; exact this) HVI.out).mono ?_; rintro e_ w47_ ⟨rfl, hd_⟩; have HS48_ := Aside0.mk (HS42_.out.call hd_.below); have c49_ : w47_.cell? ⟨gm, 0, none⟩ = some (.int .i64 m.f0) := (HS48_.out.cell 1 rfl 0).trans rfl; have c50_ : w47_.cell? ⟨gm, 1, none⟩ = some (.int .i64 m.f1) := (HS48_.out.cell 1 rfl 1).trans rfl; have c51_ : w47_.cell? ⟨gm, 2, none⟩ = some (.int .i64 m.f2) := (HS48_.out.cell 1 rfl 2).trans rfl; have c52_ : w47_.cell? ⟨gm, 3, none⟩ = some (.slice Am m.f3.length cm) := (HS48_.out.cell 1 rfl 3).trans rfl; clear HS42_; have hv0_ := ((below_step HWB.out HS48_.out.below).cell (World.block_lt_of_cell? w _ hA)).trans hA; have hv1_ := ((below_step HWB.out HS48_.out.below).cell (World.block_lt_of_cell? w _ hB)).trans hB) | ((with_reducible refine gate_dst (N := 12) rfl ?_); (try (refine gate_guard (by rfl) ?_; dsimp only)); refine box_event ?hg (N := 12) ?hd (cs := #[.int .i64 0, .int .i64 0]) (t := 23) ?hr ?_; (case hd => rfl); (case hg => rfl); (case hr => first | (go_simp; done) | (go_simp; rfl)); intro gv hg_ w53_ hx_ hb_; have HS54_ := Aside0.mk (HS48_.out.box hg_ hx_ hb_); have c55_ : w53_.cell? ⟨gv, 0, none⟩ = some (.int .i64 0) := (HS54_.out.cell 0 rfl 0).trans rfl; have c56_ : w53_.cell? ⟨gv, 1, none⟩ = some (.int .i64 0) := (HS54_.out.cell 0 rfl 1).trans rfl; have f57_ : w53_.frozen? ⟨gv, 0, none⟩ = false := HS54_.out.frz 0 rfl 0; have f58_ : w53_.frozen? ⟨gv, 1, none⟩ = false := HS54_.out.frz 0 rfl 1; replace hv0_ := (hb_.cell (World.block_lt_of_cell? _ _ hv0_)).trans hv0_; replace hv1_ := (hb_.cell (World.block_lt_of_cell? _ _ hv1_)).trans hv1_; clear hg_ hx_ hb_ c49_ c50_ c51_ c52_ HS48_) | ((with_reducible refine gate_store (t := 23) (p := 12) rfl ?_); refine store_event (t := 23) (p := 12) (v := .tmp 56) (w1 := ((w53_.setCell ⟨gv, 0, none⟩ (.int .i64 v.f0)).setCell ⟨gv, 1, none⟩ (.int .i64 v.f1))) ?hg ?ho ?hn ?hr ?_; (case ho => rfl); (case hg => rfl); (case hn => rfl); (case hr => first | (go_simp; done) | (go_simp; rfl)); intro w59_ hw_; have HS60_ : Aside0 (St wo w59_ ((blkA gv #[.int .i64 v.f0, .int .i64 v.f1] 23) :: (rowA wo.heap.size (Kd.int .i64) 3 (.slice A44_ ([m.f0] ++ m.f3).length c46_) ([m.f0] ++ m.f3)) :: (blkA gm #[.int .i64 m.f0, .int .i64 m.f1, .int .i64 m.f2, .slice Am m.f3.length cm] 63) :: [])) := ⟨by rw [hw_]; exact ((HS54_.out.put 0 rfl 0 (.int .i64 v.f0) rfl).put 0 rfl 1 (.int .i64 v.f1) rfl)⟩; have c61_ : w59_.cell? ⟨gv, 0, none⟩ = some (.int .i64 v.f0) := (HS60_.out.cell 0 rfl 0).trans rfl; have c62_ : w59_.cell? ⟨gv, 1, none⟩ = some (.int .i64 v.f1) := (HS60_.out.cell 0 rfl 1).trans rfl; have c63_ : w59_.cell? ⟨gm, 3, none⟩ = some (.slice Am m.f3.length cm) := (HS60_.out.cell 2 rfl 3).trans rfl; clear hw_ c55_ c56_ f57_ f58_ HS54_ hv0_ hv1_; have hk0_ : w59_.cell? ⟨g, v.f1.toNat * 4, none⟩ = some (.int .i64 (rd_T61 want v.f1).f0) := (HS60_.out.below.cell (World.block_lt_of_cell? wo _ HW0.out)).trans HW0.out))
        go_loopw [91, 13] (fun v91 v13 wr => ∃ (j : Int) (has : List S23) (Ah : Option Addr) (ch : Nat), v91 = .int .i64 j ∧ v13 = .slice Ah has.length ch ∧ Aside0 (0 ≤ j ∧ j ≤ m.f3.length) ∧ Aside0 (has = (m.f3.take j.toNat).map (rd_T23 l2)) ∧ Aside0 (St wo wr ((rowA wo.heap.size k23 23 (.slice Ah has.length ch) has) :: (blkA gv #[.int .i64 v.f0, .int .i64 v.f1] 23) :: (rowA wo.heap.size (Kd.int .i64) 3 (.slice A44_ ([m.f0] ++ m.f3).length c46_) ([m.f0] ++ m.f3)) :: (blkA gm #[.int .i64 m.f0, .int .i64 m.f1, .int .i64 m.f2, .slice Am m.f3.length cm] 63) :: []))) (fun v91 _ _ => m.f3.length - (intOf v91).toNat)
        case atStart => exact ⟨0, [], none, 0, rfl, rfl, ⟨by omega⟩, ⟨by simp⟩, ⟨HS60_.out.nrow _ _⟩⟩
        case round =>
          obtain ⟨j, has, Ah, ch, rfl, rfl, Hj, HH, HSi⟩ := hrel
          have hj0 : 0 ≤ j := Hj.out.1
          by_cases hlj : j < (m.f3.length : Int)
          · have htj : decide (j < (m.f3.length : Int)) = true := decide_eq_true hlj
            have HWj := Aside0.mk (show wrap64 (j + 1) = j + 1 by have := HM3.out; unfold wrap64; omega)
            obtain ⟨adk, e, hk⟩ := Kd.at_int HGM.out j hj0 hlj
            cases e
            have hkm : rd m.f3 j ∈ m.f3 := by
              rw [rd, List.getD_eq_getElem?_getD, List.getElem?_eq_getElem (by omega), Option.getD_some]
              exact List.getElem_mem _
            have hkx0 := (HALL.out (rd m.f3 j) (List.mem_cons_of_mem _ hkm)).1
            have hkx1 := (HALL.out (rd m.f3 j) (List.mem_cons_of_mem _ hkm)).2
            obtain ⟨adv2, e, hA, hB⟩ := at_T23 HR2.out (rd m.f3 j) hkx0 hkx1
            cases e
            have HH2 : Aside0 (has ++ [rd_T23 l2 (rd m.f3 j)] = (m.f3.take (j + 1).toNat).map (rd_T23 l2)) := ⟨by
              rw [show (j + 1).toNat = j.toNat + 1 by omega, List.take_succ_eq_append_getElem (by omega), List.map_append, ← HH.out, List.map_singleton, rd, List.getD_eq_getElem?_getD, List.getElem?_eq_getElem (by omega), Option.getD_some]⟩
            have HLM2 := Aside0.mk (show has.length ≤ m.f3.length by rw [HH.out]; simp; omega)
            clear hkm HH
            generalize rd m.f3 j = kx at *
            generalize rd_T23 l2 kx = p at *
            have HWi := Aside0.mk (below_step HWB.out HSi.out.below)
            replace hk := (HWi.out.cell (World.block_lt_of_cell? w _ hk)).trans hk
            replace hA := (HWi.out.cell (World.block_lt_of_cell? w _ hA)).trans hA
            replace hB := (HWi.out.cell (World.block_lt_of_cell? w _ hB)).trans hB
            go_wp2_with ((with_reducible refine gate_builtin (b := .append) (xs := #[.tmp 95, .tmp 100]) rfl ?_); (try (refine gate_guard (by rfl) ?_; dsimp only)); at_builtin; obtain ⟨ok_, hf_, hr_, hs_⟩ := (HSi.out).app 0 rfl; refine Kd.R_append k23 (w0 := wo) wo.heap.size rfl (.tmp 95) (.tmp 100) 24 23 (.agg #[.int .i64 0, .int .i64 0]) 16 rfl Try.underlying24 info23 rfl (by decide) (by omega) (.slice Ah has.length ch) has (p) [.int .i64 p.f0, .int .i64 p.f1] ok_ (fun _ => False) rfl rfl (k23_mkM _ _ _ p) (fun _ hk => hk.elim) hf_ hr_ (HSi.out).below (HSi.out).size ?aL ?_; (case aL => have := HM3.out; have := HLM2.out; omega); intro Ap66_ w64_ ho_ hb_ hg_ hat_; have HS65_ := Aside0.mk (hs_ _ _ _ ho_ hb_ hg_); have hN_ := Kd.R_slice ho_; obtain ⟨A67_, c69_, rfl⟩ := hN_; clear ho_ hb_ hg_ hat_ hf_ hr_ hs_  HSi hk hA hB)
            go_roundw
            case rel => exact ⟨j + 1, has ++ [p], A67_, c69_, by first | rw [HWj.out] | rfl, (by simp), ⟨by omega⟩, HH2, HS65_⟩
            case measure => simp only [intOf]; (try rw [HWj.out]); omega
          · have htj : decide (j < (m.f3.length : Int)) = false := decide_eq_false hlj
            have hH := HH.out
            rw [List.take_of_length_le (by omega)] at hH
            subst hH
            have HWi := Aside0.mk (below_step HWB.out HSi.out.below)
            have c70_ : wr.cell? ⟨gv, 1, none⟩ = some (.int .i64 v.f1) := (HSi.out.cell 1 rfl 1).trans rfl
            have c71_ : wr.cell? ⟨gm, 1, none⟩ = some (.int .i64 m.f1) := (HSi.out.cell 3 rfl 1).trans rfl
            have c72_ : wr.cell? ⟨gm, 2, none⟩ = some (.int .i64 m.f2) := (HSi.out.cell 3 rfl 2).trans rfl
            have hq0 := (HSi.out.below.cell (World.block_lt_of_cell? wo _ HW0.out)).trans HW0.out
            have hq1 := (HSi.out.below.cell (World.block_lt_of_cell? wo _ HW1.out)).trans HW1.out
            have hq2 := (HSi.out.below.cell (World.block_lt_of_cell? wo _ HW2.out)).trans HW2.out
            have hq3 := (HSi.out.below.cell (World.block_lt_of_cell? wo _ HW3.out)).trans HW3.out
            have hz0 : wr.frozen? ⟨g, v.f1.toNat * 4, none⟩ = false := (HSi.out.below.frozen (World.block_lt_of_cell? wo _ HW0.out)).trans (HWF.out 0)
            have hz1 : wr.frozen? ⟨g, v.f1.toNat * 4 + 1, none⟩ = false := (HSi.out.below.frozen (World.block_lt_of_cell? wo _ HW1.out)).trans (HWF.out 1)
            have hz2 : wr.frozen? ⟨g, v.f1.toNat * 4 + 2, none⟩ = false := (HSi.out.below.frozen (World.block_lt_of_cell? wo _ HW2.out)).trans (HWF.out 2)
            have hz3 : wr.frozen? ⟨g, v.f1.toNat * 4 + 3, none⟩ = false := (HSi.out.below.frozen (World.block_lt_of_cell? wo _ HW3.out)).trans (HWF.out 3)
            have HWNi := Aside0.mk (Wn.below HWN.out HSi.out.below)
            have HBi := Aside0.mk (below_step (show Below w1.heap.size w1 wo from HB.out) HSi.out.below)
            have HFi := Aside0.mk (show Kd.F k23 wr (fun k => k ≠ g) Ah (m.f3.map (rd_T23 l2)).length (m.f3.map (rd_T23 l2)) from (let ⟨G_, hr_, hG_⟩ := HSi.out.rowG 0 rfl; Kd.F_mono (Kd.R_F hr_) (fun k hk e => by have := (hG_ k hk).1; have := HGL.out; omega)))
            have HCi := Aside0.mk (Kd.R_reads' (HSi.out.row 0 rfl)).2.1
            go_wp2_with ((with_reducible refine gate_store (t := 61) (p := 112) rfl ?_); refine store_event (t := 61) (p := 112) (v := .tmp 111) (w1 := ((((wr.setCell ⟨g, v.f1.toNat * 4, none⟩ (.int .i64 m.f1)).setCell ⟨g, v.f1.toNat * 4 + 1, none⟩ (.int .i64 m.f2)).setCell ⟨g, v.f1.toNat * 4 + 2, none⟩ (.slice Ah (m.f3.map (rd_T23 l2)).length ch)).setCell ⟨g, v.f1.toNat * 4 + 3, none⟩ (.slice none 0 0))) ?hg ?ho ?hn ?hr ?_; (case ho => rfl); (case hg => rfl); (case hn => rfl); (case hr => first | (go_simp; done) | (go_simp; rfl)); intro w9 hw_; have HWN9 : Aside0 (Wn w1.heap.size w9 (some ⟨g, 0, none⟩) n c9 (want.set v.f1.toNat ⟨m.f1, m.f2, m.f3.map (rd_T23 l2), []⟩)) := ⟨by rw [hw_]; exact Wn.set HWNi.out v.f1 hv0 (by have := HWL.out; omega) m.f1 m.f2 Ah ch _ HCi.out HFi.out⟩; have HB9 : Aside0 (Below w1.heap.size w1 w9) := ⟨by rw [hw_]; exact below_set (below_set (below_set (below_set HBi.out HGB.out) HGB.out) HGB.out) HGB.out⟩; clear hw_ c70_ c71_ c72_ hq0 hq1 hq2 hq3 hz0 hz1 hz2 hz3)
            go_roundw
            case rel => exact ⟨i + 1, _, by first | rw [HW.out] | rfl, ⟨by omega⟩, HX3, ⟨by rw [List.length_set]; exact HWL.out⟩, HWN9, HB9⟩
            case measure => simp only [intOf]; (try rw [HW.out]); omega
    · rename World => we
      have ht : decide (i < (l1_3.length : Int)) = false := decide_eq_false hlt
      have hx := HX.out
      rw [List.drop_eq_nil_of_le (by omega), lcL] at hx
      obtain ⟨rfl, hol, hsm⟩ := hx
      have HSM := Aside0.mk hsm
      have HOL := Aside0.mk hol
      obtain ⟨no, hno⟩ : ∃ no, no = out.length := ⟨_, rfl⟩
      have HNO := Aside0.mk hno
      have hnn : n = no := by rw [hno, hol, HWL.out]
      rw [← hno] at HOUT HOC ⊢
      rw [hnn] at HWN HWL ⊢
      have HNL := Aside0.mk (show no ≤ 9223372036854775807 from Kd.C_max HOUT.out)
      clear hsm hol HX hno hnn
      go_wp2
      go_loopw [125] (fun v125 wr => ∃ (j : Int), v125 = .int .i64 j ∧ Aside0 (0 ≤ j ∧ j ≤ no) ∧ Aside0 (Below we.heap.size we wr)) (fun v125 _ => no - (intOf v125).toNat)
      case atStart => exact ⟨0, rfl, ⟨by omega⟩, ⟨Below.refl _ _⟩⟩
      case round =>
        obtain ⟨j, rfl, Hj, HB2⟩ := hrel
        have hj0 : 0 ≤ j := Hj.out.1
        by_cases hlj : j < (no : Int)
        · have htj : decide (j < (no : Int)) = true := decide_eq_true hlj
          have HWj := Aside0.mk (show wrap64 (j + 1) = j + 1 by have := HNL.out; unfold wrap64; omega)
          obtain ⟨g, e, hgb, hgl⟩ := Wn.form HWN.out (by have := HWL.out; omega)
          cases e
          obtain ⟨ado, X2, d2, X3, d3, e, h0, h1, h2, h3, hl2, hg2, hl3, hg3⟩ := at_T61 HOUT.out j hj0 hlj
          cases e
          obtain ⟨Y2, f2, Y3, f3, hw0, hw1, hw2, hw3, hlw, hgw, hwf⟩ := Wn.get HWN.out j hj0 (by have := HWL.out; omega)
          have hsm := HSM.out j.toNat (by have := HNO.out; omega)
          rw [show out.getD j.toNat z61 = rd_T61 out j from rfl, show want.getD j.toNat z61 = rd_T61 want j from rfl] at hsm
          obtain ⟨s0, s1, s2, s3⟩ := hsm
          rw [← s0] at hw0
          rw [← s1] at hw1
          rw [← s2] at hw2 hlw hgw
          rw [← s3] at hw3
          generalize rd_T61 out j = x at *
          clear s0 s1 s2 s3 hwf hgb hgl
          have HBo := Aside0.mk (below_step (show Below w1.heap.size w1 we from HB.out) HB2.out)
          replace h0 := (HBo.out.cell (World.block_lt_of_cell? w1 _ h0)).trans h0
          replace h1 := (HBo.out.cell (World.block_lt_of_cell? w1 _ h1)).trans h1
          replace h2 := (HBo.out.cell (World.block_lt_of_cell? w1 _ h2)).trans h2
          replace h3 := (HBo.out.cell (World.block_lt_of_cell? w1 _ h3)).trans h3
          replace hw0 := (HB2.out.cell (World.block_lt_of_cell? we _ hw0)).trans hw0
          replace hw1 := (HB2.out.cell (World.block_lt_of_cell? we _ hw1)).trans hw1
          replace hw2 := (HB2.out.cell (World.block_lt_of_cell? we _ hw2)).trans hw2
          replace hw3 := (HB2.out.cell (World.block_lt_of_cell? we _ hw3)).trans hw3
          have HXC := Aside0.mk (Kd.C_below hg2 HBo.out)
          have HYC := Aside0.mk (Kd.C_below hgw HB2.out)
          have HXL := Aside0.mk hl2
          have HYL := Aside0.mk hlw
          have HEQ := Aside0.mk (lcEq_f x.f2 (Kd.C_max hg2))
          have hb1 : (x.f0 == x.f0) = true := beq_self_eq_true _
          have hb2 : (x.f1 == x.f1) = true := beq_self_eq_true _
          have hjn : j < (no : Int) := hlj
          clear hl2 hg2 hl3 hg3 hlw hgw
          have h0d : wr.drew.cell? (ado.add (j.toNat * 4)) = _ := h0
          have h1d : wr.drew.cell? ⟨(ado.add (j.toNat * 4)).block, (ado.add (j.toNat * 4)).off + 1, none⟩ = _ := h1
          have h2d : wr.drew.cell? ⟨(ado.add (j.toNat * 4)).block, (ado.add (j.toNat * 4)).off + 2, none⟩ = _ := h2
          have h3d : wr.drew.cell? ⟨(ado.add (j.toNat * 4)).block, (ado.add (j.toNat * 4)).off + 3, none⟩ = _ := h3
          have hw0d : wr.drew.cell? ⟨g, j.toNat * 4, none⟩ = _ := hw0
          have hw1d : wr.drew.cell? ⟨g, j.toNat * 4 + 1, none⟩ = _ := hw1
          have hw2d : wr.drew.cell? ⟨g, j.toNat * 4 + 2, none⟩ = _ := hw2
          have hw3d : wr.drew.cell? ⟨g, j.toNat * 4 + 3, none⟩ = _ := hw3
          have HXCd := Aside0.mk (Kd.C_drew HXC.out)
          have HYCd := Aside0.mk (Kd.C_drew HYC.out)
          have HB2d := Aside0.mk (below_drew HB2.out)
          go_wp2
          go_region_held3 (fun w' => w'.cell? (ado.add (j.toNat * 4)) = some (.int .i64 x.f0) ∧ w'.cell? ⟨(ado.add (j.toNat * 4)).block, (ado.add (j.toNat * 4)).off + 1, none⟩ = some (.int .i64 x.f1) ∧ w'.cell? ⟨(ado.add (j.toNat * 4)).block, (ado.add (j.toNat * 4)).off + 2, none⟩ = some (.slice X2 x.f2.length d2) ∧ w'.cell? ⟨(ado.add (j.toNat * 4)).block, (ado.add (j.toNat * 4)).off + 3, none⟩ = some (.slice X3 x.f3.length d3) ∧ w'.cell? ⟨g, j.toNat * 4, none⟩ = some (.int .i64 x.f0) ∧ w'.cell? ⟨g, j.toNat * 4 + 1, none⟩ = some (.int .i64 x.f1) ∧ w'.cell? ⟨g, j.toNat * 4 + 2, none⟩ = some (.slice Y2 x.f2.length f2) ∧ w'.cell? ⟨g, j.toNat * 4 + 3, none⟩ = some (.slice Y3 x.f3.length f3)) (first | go_keep | exact ⟨h0e, h1e, h2e, h3e, hw0e, hw1e, hw2e, hw3e⟩)
            ((go_at_call 19; with_reducible refine (api_Val_19.calls (x.f2.length + 1) X2 d2 x.f2 Y2 f2 x.f2 true _ ?s1 ?s2 ?s3 ?s4 HEQ.out).mono ?_; (case s1 => exact HXCd.out); (case s2 => exact HXL.out); (case s3 => exact HYCd.out); (case s4 => exact HYL.out); rintro e w4 ⟨rfl, hb4⟩; have HB4 := Aside0.mk (below_step HB2d.out hb4); have h0e := (hb4.cell (World.block_lt_of_cell? _ _ h0d)).trans h0d; have h1e := (hb4.cell (World.block_lt_of_cell? _ _ h1d)).trans h1d; have h2e := (hb4.cell (World.block_lt_of_cell? _ _ h2d)).trans h2d; have h3e := (hb4.cell (World.block_lt_of_cell? _ _ h3d)).trans h3d; have hw0e := (hb4.cell (World.block_lt_of_cell? _ _ hw0d)).trans hw0d; have hw1e := (hb4.cell (World.block_lt_of_cell? _ _ hw1d)).trans hw1d; have hw2e := (hb4.cell (World.block_lt_of_cell? _ _ hw2d)).trans hw2d; have hw3e := (hb4.cell (World.block_lt_of_cell? _ _ hw3d)).trans hw3d; clear hb4))
          all_goals
            go_wp2
            go_roundw
            case rel => exact ⟨j + 1, by first | rw [HWj.out] | rfl, ⟨by omega⟩, HB4⟩
            case measure => simp only [intOf]; (try rw [HWj.out]); omega
        · have htj : decide (j < (no : Int)) = false := decide_eq_false hlj
          go_wp2
          go_ret
          exact ⟨rfl, below_step HB1.out (below_step (show Below w1.heap.size w1 we from HB.out) HB2.out)⟩
end

end Go.Proofs.Ytlojkphocbbjdaa.PLeaveCells
