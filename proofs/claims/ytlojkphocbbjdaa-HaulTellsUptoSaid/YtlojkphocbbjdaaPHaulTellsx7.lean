-- Printed for this claim by a program of this session (inj.py), beside the kit's print. Not trusted: Lean checks it.
import Derived.Test.YtlojkphocbbjdaaPHaulTellsx0
import Derived.Test.YtlojkphocbbjdaaPHaulTellsx5
import Derived.Test.YtlojkphocbbjdaaPHaulTellsx6
namespace Go.Proofs.Ytlojkphocbbjdaa.PHaulTells
open Go.RowKit Go.Proofs.YtlojkphocbbjdaaW.PrintWords Go.Proofs.YtlojkphocbbjdaaW.PrintLast Go.Proofs.YtlojkphocbbjdaaW.PrintMore
attribute [local go_sem] max2_int min2_int max_two min_two max_three min_three max_four min_four   -- for this text's walks alone
set_option linter.unusedVariables false
set_option linter.unusedSimpArgs false

/-! ### backstitchref3_told: function 107 -/
def backstitchref3_told.l0 : Nat → List Int → List Int → Int → Int → Option (List Int)
  | 0, _, _, _, _ => none
  | k + 1, x3, x8, x9, x10 => if x10 < x9 then (if 0 ≤ x10 then (if x10 < (x8.length : Int) then ((backstitchref3_Unbox.f k (rd x8 x10)).bind fun bt203 => (if bt203.2.2 = true then (if bt203.1 = 5 then (if x3.length < 17592186044416 then (backstitchref3_told.l0 k (x3 ++ [bt203.2.1]) x8 x9 (wrap64 (x10 + 1))) else (none)) else (backstitchref3_told.l0 k x3 x8 x9 (wrap64 (x10 + 1)))) else (backstitchref3_told.l0 k x3 x8 x9 (wrap64 (x10 + 1))))) else (none)) else (none)) else (some x3)
def backstitchref3_told.f (k : Nat) (l0 : List Int) : Option (List Int) := backstitchref3_told.l0 k ([] : List Int) l0 (l0.length : Int) 0
theorem backstitchref3_told.mono_l : ∀ k, (∀ y0 y1 y2 y3, LeO (backstitchref3_told.l0 k y0 y1 y2 y3) (backstitchref3_told.l0 (k + 1) y0 y1 y2 y3))
  | 0 => fun _ _ _ _ r h => by simp [backstitchref3_told.l0] at h
  | k + 1 => by
    have ih0 := backstitchref3_told.mono_l k
    · intro y0 y1 y2 y3
      unfold backstitchref3_told.l0
      repeat' first
      | (with_reducible exact ih0 _ _ _ _)
      | (with_reducible exact backstitchref3_Unbox.mono _ _)
      | (with_reducible exact LeO.refl _)
      | (with_reducible exact LeO.none _)
      | (with_reducible refine LeO.ite ?_ ?_)
      | (with_reducible refine LeO.bind ?_ (fun _ => ?_))
      | exact ih0 _ _ _ _
      | exact backstitchref3_Unbox.mono _ _
      | exact LeO.none _
      | refine LeO.ite ?_ ?_
      | refine LeO.bind ?_ (fun _ => ?_)
theorem backstitchref3_told.mono : ∀ a0 k, LeO (backstitchref3_told.f k a0) (backstitchref3_told.f (k + 1) a0) := by
  intro a0 k
  have ih0 := backstitchref3_told.mono_l k
  unfold backstitchref3_told.f
  repeat' first
      | (with_reducible exact ih0 _ _ _ _)
      | (with_reducible exact backstitchref3_Unbox.mono _ _)
      | (with_reducible exact LeO.refl _)
      | (with_reducible exact LeO.none _)
      | (with_reducible refine LeO.ite ?_ ?_)
      | (with_reducible refine LeO.bind ?_ (fun _ => ?_))
      | exact ih0 _ _ _ _
      | exact backstitchref3_Unbox.mono _ _
      | exact LeO.none _
      | refine LeO.ite ?_ ?_
      | refine LeO.bind ?_ (fun _ => ?_)
set_option maxHeartbeats 8000000 in
set_option maxRecDepth 100000 in
theorem backstitchref3_told.calls (k : Nat) (A0 : Option Addr) (c0 : Nat) (l0 : List Int) (r : List Int) (w : World) (hr0 : Kd.C (Kd.int .u64) w A0 l0.length l0) (hc0 : l0.length ≤ c0) (h : backstitchref3_told.f k l0 = some r) :
    Calls Try.prog 107 #[.slice A0 l0.length c0] w fun e w' => ∃ v0_ : Value, e = .returned (v0_) ∧ Kd.R (Kd.int .i64) 3 w' w.heap.size (fun _ => True) v0_ r ∧ Below w.heap.size w w' := by
  have hu23 := Try.underlying23
  have HR0 := Aside0.mk hr0
  have HC0 := Aside0.mk hc0
  clear hr0 hc0
  have HB := Aside0.mk (Below.refl w.heap.size w)
  have H : (backstitchref3_told.l0 k ([] : List Int) l0 (l0.length : Int) 0) = some r := h
  clear h
  have H' := Aside0.mk H
  clear H
  go_enter Try.func107, Try.ntmps107
  go_wp2
  go_loopg [3, 10] k (fun kq v3 v10 w' => ∃ (x3_1 : List Int) (x10_1 : Int), v10 = .int .i64 x10_1 ∧ Aside0 (backstitchref3_told.l0 kq x3_1 l0 (l0.length : Int) x10_1 = some r) ∧ Aside0 (kq ≤ k) ∧ Aside0 (Kd.R (Kd.int .i64) 3 w' w.heap.size (fun _ => True) v3 x3_1) ∧ Aside0 (Below w.heap.size w w'))
  case atStart => exact ⟨(([] : List Int)), (0), (by first | rfl | (simp; done) | (simp [*]; done)), H', ⟨Nat.le_refl _⟩, ⟨by first | exact Kd.R_nil _ _ _ _ _ | exact Kd.N_nil _ _ _ _ _ | exact Kd.V_nil _ _ _ _ _ | exact Kd.Q_nil _ _ _ _ _ | exact Kd.S_nil _ _ _ _ _⟩, ⟨by repeat (first | (with_reducible first | exact HB.out | apply below_alloc | apply pw_below_drewN | apply below_drew1) | exact HB.out)⟩⟩
  case round =>
    clear H'
    try clear c1
    obtain ⟨x3_1, x10_1, rfl, HA, HK1, HO_3, HB⟩ := hrel
    cases gk with
    | zero => exact absurd HA.out (by simp [backstitchref3_told.l0])
    | succ k1 =>
      have H := HA.out
      clear HA
      simp only [backstitchref3_told.l0] at H
      by_cases c2 : x10_1 < (l0.length : Int)
      · rw [if_pos c2] at H
        have c2b0 : decide (x10_1 < (l0.length : Int)) = true := decide_eq_true c2
        clear c2
        by_cases c3 : 0 ≤ x10_1
        · rw [if_pos c3] at H
          have c3b0 : decide (0 ≤ x10_1) = true := decide_eq_true c3
          clear c3
          by_cases c4 : x10_1 < (l0.length : Int)
          · rw [if_pos c4] at H
            have c4b0 : decide (x10_1 < (l0.length : Int)) = true := decide_eq_true c4
            clear c4
            replace H := Option.bind_eq_some_iff.mp H
            obtain ⟨⟨t203, t204, t205⟩, A50, H⟩ := H
            replace H : (if t205 = true then (if t203 = 5 then (if x3_1.length < 17592186044416 then (backstitchref3_told.l0 k1 (x3_1 ++ [t204]) l0 (l0.length : Int) (wrap64 (x10_1 + 1))) else (none)) else (backstitchref3_told.l0 k1 x3_1 l0 (l0.length : Int) (wrap64 (x10_1 + 1)))) else (backstitchref3_told.l0 k1 x3_1 l0 (l0.length : Int) (wrap64 (x10_1 + 1)))) = some r := H
            have A5 := Aside0.mk A50
            clear A50
            by_cases c6 : t205 = true
            · subst c6
              have H1 : (if t203 = 5 then (if x3_1.length < 17592186044416 then (backstitchref3_told.l0 k1 (x3_1 ++ [t204]) l0 (l0.length : Int) (wrap64 (x10_1 + 1))) else (none)) else (backstitchref3_told.l0 k1 x3_1 l0 (l0.length : Int) (wrap64 (x10_1 + 1)))) = some r := by rw [if_pos rfl] at H; exact H
              clear H
              have H := H1
              clear H1
              by_cases c7 : t203 = 5
              · rw [if_pos c7] at H
                have c7b0 : (t203 == 5) = true := beq_iff_eq.mpr c7
                have c7b1 : (t203 != 5) = false := bne_eq_false_iff_eq.mpr c7
                clear c7
                by_cases c8 : x3_1.length < 17592186044416
                · rw [if_pos c8] at H
                  have LMc8 := Aside0.mk c8
                  clear c8
                  obtain ⟨y207, hy207⟩ : ∃ y_ : List Int, y_ = (x3_1 ++ [t204]) := ⟨_, rfl⟩
                  replace H : (backstitchref3_told.l0 k1 y207 l0 (l0.length : Int) (wrap64 (x10_1 + 1))) = some r := by first | (rw [hy207]; with_reducible exact H) | (have H2_ := (Option.bind_some _ _).symm.trans H; rw [hy207]; with_reducible exact H2_) | (have H2_ := (Option.bind_some _ _).symm.trans H; with_reducible exact H2_) | with_reducible exact H | (rw [hy207]; exact H) | exact H
                  have Ny207 := Aside0.mk hy207
                  clear hy207
                  have H' := Aside0.mk H
                  clear H
                  have p202 : 0 ≤ (x10_1 : Int) := of_decide_eq_true (by first | (with_reducible assumption) | assumption)
                  have q202 : x10_1 < (l0.length : Int) := of_decide_eq_true (by first | (with_reducible assumption) | assumption)
                  obtain ⟨ad202, e202, hx202_0⟩ := Kd.at_int HR0.out x10_1 p202 q202
                  cases e202
                  try replace hx202_0 := (HB.out.cell (World.block_lt_of_cell? w _ hx202_0)).trans hx202_0
                  replace p202 := eq_true p202
                  replace q202 := eq_true q202
                  go_wp2_with (first | ((with_reducible refine gate_callee (f := 25) rfl ?_); refine goesL_ (some 16) rfl rfl Try.func25 (by kernel_rfl) rfl #[.int .u64 (rd l0 x10_1)] rfl (by (try simp only [List.map_toArray, List.map_cons, List.map_nil]); first | done | rfl | (simp only [List.length_drop, List.length_take]; rfl)) ?_; (with_reducible refine (backstitchref3_Unbox.calls k1 (rd l0 x10_1) t203 t204 true _ A5.out).mono ?_); rintro e w9 ⟨rfl, hb⟩; refine ⟨_, rfl, ?_⟩; have n0_ := Aside0.mk (Kd.R_below (by (with_reducible repeat (first | apply Kd.R_alloc | apply Kd.R_drewN | apply Kd.R_drew)); exact HO_3.out) hb); have n1_ := Aside0.mk (below_step (by repeat (first | (with_reducible first | exact HB.out | apply below_alloc | apply pw_below_drewN | apply below_drew1) | exact HB.out)) hb); clear HO_3; clear HB; have HO_3 := n0_; have HB := n1_; clear n0_ n1_; (try clear hb); (try clear hb2); (try clear hk); (try clear hi)) | ((with_reducible refine gate_dst (N := 6) rfl ?_); refine box_event ?hg (N := 6) ?hd (cs := #[.int .i64 0, .int .i64 0]) (t := 23) ?hr ?_; (case hd => rfl); (case hg => rfl); (case hr => first | (go_simp; done) | (go_simp; rfl)); intro gb206 hg w10 hbox hb; have n0_ := Aside0.mk (Kd.R_below (by (with_reducible repeat (first | apply Kd.R_alloc | apply Kd.R_drewN | apply Kd.R_drew)); exact HO_3.out) hb); have n1_ := Aside0.mk (below_step (by repeat (first | (with_reducible first | exact HB.out | apply below_alloc | apply pw_below_drewN | apply below_drew1) | exact HB.out)) hb); have n2_ := Aside0.mk (hbox); have n3_ := Aside0.mk ((by rw [hg]; exact (below_size (by repeat (first | (with_reducible first | exact HB.out | apply below_alloc | apply pw_below_drewN | apply below_drew1) | exact HB.out))) : w.heap.size ≤ gb206)); have n4_ := Aside0.mk ((by rw [hg]; exact (below_size (by repeat (first | (with_reducible first | exact HB.out | apply below_alloc | apply pw_below_drewN | apply below_drew1) | exact HB.out))) : w.heap.size ≤ gb206)); clear HO_3; clear HB; have HO_3 := n0_; have HB := n1_; have BK206 := n2_; have GW206 := n3_; have GE206 := n4_; clear n0_ n1_ n2_ n3_ n4_; clear hb hbox hg; have hcz11_0 : w10.cell? ⟨gb206, 0, none⟩ = some (.int .i64 0) := (blk_cell BK206.out 0).trans rfl; have hcz11_1 : w10.cell? ⟨gb206, 1, none⟩ = some (.int .i64 0) := (blk_cell BK206.out 1).trans rfl; have hfz11_0 := blk_frozen BK206.out 0; have hfz11_1 := blk_frozen BK206.out 1) | ((with_reducible refine gate_builtin (b := .append) (xs := #[.tmp 25, .tmp 28]) rfl ?_); at_builtin; refine Kd.R_append (Kd.int .i64) (w0 := w) w.heap.size rfl (.tmp 25) (.tmp 28) 40 3 (.int .i64 0) 8 rfl Try.underlying40 info3 rfl (by decide) (by omega) u3 x3_1 t204 [.int .i64 t204] (fun _ => True) (fun _ => False) rfl (by first | (go_simp; done) | (go_simp; rfl)) ?aP (fun _ hk => hk.elim) ?aF ?aO ?aB ?aS ?aL ?_; (case aP => exact rfl); (case aB => exact (by repeat (first | (with_reducible first | exact HB.out | apply below_alloc | apply pw_below_drewN | apply below_drew1 | refine below_set ?_ GE206.out) | exact HB.out))); (case aF => exact (fun _ _ => trivial)); (case aO => exact (by (with_reducible repeat (first | apply Kd.R_alloc | apply Kd.R_drewN | apply Kd.R_drew)); exact Kd.R_mono (Kd.R_far (p := ⟨gb206, 1, none⟩) (Kd.R_far (p := ⟨gb206, 0, none⟩) (Kd.R_types HO_3.out BK206.out (by decide)) (fun _ hk => hk.2) (.int .i64 t203)) (fun _ hk => hk.2) (.int .i64 t204)) (fun _ hk => trivial))); (case aS => exact (below_size (by repeat (first | (with_reducible first | exact HB.out | apply below_alloc | apply pw_below_drewN | apply below_drew1 | refine below_set ?_ GE206.out) | exact HB.out)))); (case aL => have := LMc8.out; omega); intro v208 w12 ho hb hg hat; rw [← Ny207.out] at ho; have n0_ := Aside0.mk (blk_grown (g := gb206) (o := .cells #[.int .i64 t203, .int .i64 t204] 23 (0, 0)) (by (with_reducible repeat (first | refine blk_drewN ?_ _ | refine blk_drew ?_ | refine blk_alloc ?_ _)); refine blk_put (cs := #[.int .i64 t203, .int .i64 0]) ?_ 1 _ rfl; (with_reducible repeat (first | refine blk_drewN ?_ _ | refine blk_drew ?_ | refine blk_alloc ?_ _)); refine blk_put (cs := #[.int .i64 0, .int .i64 0]) ?_ 0 _ rfl; (with_reducible repeat (first | refine blk_drewN ?_ _ | refine blk_drew ?_ | refine blk_alloc ?_ _)); exact BK206.out) hg (Kd.R_ne HO_3.out BK206.out (by decide))); have n1_ := Aside0.mk (hb); have n2_ := Aside0.mk (ho); clear BK206; clear HB; clear HO_3; have BK206 := n0_; have HB := n1_; have HO209 := n2_; clear n0_ n1_ n2_; clear ho hb hg hat))
                  go_roundg k1
                  case measure => have := HK1.out; omega
                  case rel => exact ⟨(y207), (wrap64 (x10_1 + 1)), (by first | rfl | (simp; done) | (simp [*]; done)), H', ⟨by have := HK1.out; omega⟩, ⟨by (with_reducible repeat (first | apply Kd.R_alloc | apply Kd.R_drewN | apply Kd.R_drew)); exact HO209.out⟩, ⟨by repeat (first | (with_reducible first | exact HB.out | apply below_alloc | apply pw_below_drewN | apply below_drew1 | refine below_set ?_ GE206.out) | exact HB.out)⟩⟩
                · rw [if_neg c8] at H
                  exact absurd H (by simp)
              · rw [if_neg c7] at H
                have c7b0 : (t203 == 5) = false := beq_eq_false_iff_ne.mpr c7
                have c7b1 : (t203 != 5) = true := bne_iff_ne.mpr c7
                have H' := Aside0.mk H
                clear H
                have p202 : 0 ≤ (x10_1 : Int) := of_decide_eq_true (by first | (with_reducible assumption) | assumption)
                have q202 : x10_1 < (l0.length : Int) := of_decide_eq_true (by first | (with_reducible assumption) | assumption)
                obtain ⟨ad202, e202, hx202_0⟩ := Kd.at_int HR0.out x10_1 p202 q202
                cases e202
                try replace hx202_0 := (HB.out.cell (World.block_lt_of_cell? w _ hx202_0)).trans hx202_0
                replace p202 := eq_true p202
                replace q202 := eq_true q202
                go_wp2_with (first | ((with_reducible refine gate_callee (f := 25) rfl ?_); refine goesL_ (some 16) rfl rfl Try.func25 (by kernel_rfl) rfl #[.int .u64 (rd l0 x10_1)] rfl (by (try simp only [List.map_toArray, List.map_cons, List.map_nil]); first | done | rfl | (simp only [List.length_drop, List.length_take]; rfl)) ?_; (with_reducible refine (backstitchref3_Unbox.calls k1 (rd l0 x10_1) t203 t204 true _ A5.out).mono ?_); rintro e w13 ⟨rfl, hb⟩; refine ⟨_, rfl, ?_⟩; have n0_ := Aside0.mk (Kd.R_below (by (with_reducible repeat (first | apply Kd.R_alloc | apply Kd.R_drewN | apply Kd.R_drew)); exact HO_3.out) hb); have n1_ := Aside0.mk (below_step (by repeat (first | (with_reducible first | exact HB.out | apply below_alloc | apply pw_below_drewN | apply below_drew1) | exact HB.out)) hb); clear HO_3; clear HB; have HO_3 := n0_; have HB := n1_; clear n0_ n1_; (try clear hb); (try clear hb2); (try clear hk); (try clear hi)) | ((with_reducible refine gate_dst (N := 6) rfl ?_); refine box_event ?hg (N := 6) ?hd (cs := #[.int .i64 0, .int .i64 0]) (t := 23) ?hr ?_; (case hd => rfl); (case hg => rfl); (case hr => first | (go_simp; done) | (go_simp; rfl)); intro gb206 hg w14 hbox hb; have n0_ := Aside0.mk (Kd.R_below (by (with_reducible repeat (first | apply Kd.R_alloc | apply Kd.R_drewN | apply Kd.R_drew)); exact HO_3.out) hb); have n1_ := Aside0.mk (below_step (by repeat (first | (with_reducible first | exact HB.out | apply below_alloc | apply pw_below_drewN | apply below_drew1) | exact HB.out)) hb); have n2_ := Aside0.mk (hbox); have n3_ := Aside0.mk ((by rw [hg]; exact (below_size (by repeat (first | (with_reducible first | exact HB.out | apply below_alloc | apply pw_below_drewN | apply below_drew1) | exact HB.out))) : w.heap.size ≤ gb206)); have n4_ := Aside0.mk ((by rw [hg]; exact (below_size (by repeat (first | (with_reducible first | exact HB.out | apply below_alloc | apply pw_below_drewN | apply below_drew1) | exact HB.out))) : w.heap.size ≤ gb206)); clear HO_3; clear HB; have HO_3 := n0_; have HB := n1_; have BK206 := n2_; have GW206 := n3_; have GE206 := n4_; clear n0_ n1_ n2_ n3_ n4_; clear hb hbox hg; have hcz15_0 : w14.cell? ⟨gb206, 0, none⟩ = some (.int .i64 0) := (blk_cell BK206.out 0).trans rfl; have hcz15_1 : w14.cell? ⟨gb206, 1, none⟩ = some (.int .i64 0) := (blk_cell BK206.out 1).trans rfl; have hfz15_0 := blk_frozen BK206.out 0; have hfz15_1 := blk_frozen BK206.out 1))
                go_roundg k1
                case measure => have := HK1.out; omega
                case rel => exact ⟨(x3_1), (wrap64 (x10_1 + 1)), (by first | rfl | (simp; done) | (simp [*]; done)), H', ⟨by have := HK1.out; omega⟩, ⟨by (with_reducible repeat (first | apply Kd.R_alloc | apply Kd.R_drewN | apply Kd.R_drew)); exact Kd.R_mono (Kd.R_far (p := ⟨gb206, 1, none⟩) (Kd.R_far (p := ⟨gb206, 0, none⟩) (Kd.R_types HO_3.out BK206.out (by decide)) (fun _ hk => hk.2) (.int .i64 t203)) (fun _ hk => hk.2) (.int .i64 t204)) (fun _ hk => trivial)⟩, ⟨by repeat (first | (with_reducible first | exact HB.out | apply below_alloc | apply pw_below_drewN | apply below_drew1 | refine below_set ?_ GE206.out) | exact HB.out)⟩⟩
            · replace c6 := Bool.eq_false_iff.mpr c6
              subst c6
              have H1 : (backstitchref3_told.l0 k1 x3_1 l0 (l0.length : Int) (wrap64 (x10_1 + 1))) = some r := by rw [if_neg (show ¬ (false = true) by decide)] at H; exact H
              clear H
              have H := H1
              clear H1
              have H' := Aside0.mk H
              clear H
              have p202 : 0 ≤ (x10_1 : Int) := of_decide_eq_true (by first | (with_reducible assumption) | assumption)
              have q202 : x10_1 < (l0.length : Int) := of_decide_eq_true (by first | (with_reducible assumption) | assumption)
              obtain ⟨ad202, e202, hx202_0⟩ := Kd.at_int HR0.out x10_1 p202 q202
              cases e202
              try replace hx202_0 := (HB.out.cell (World.block_lt_of_cell? w _ hx202_0)).trans hx202_0
              replace p202 := eq_true p202
              replace q202 := eq_true q202
              go_wp2_with (first | ((with_reducible refine gate_callee (f := 25) rfl ?_); refine goesL_ (some 16) rfl rfl Try.func25 (by kernel_rfl) rfl #[.int .u64 (rd l0 x10_1)] rfl (by (try simp only [List.map_toArray, List.map_cons, List.map_nil]); first | done | rfl | (simp only [List.length_drop, List.length_take]; rfl)) ?_; (with_reducible refine (backstitchref3_Unbox.calls k1 (rd l0 x10_1) t203 t204 false _ A5.out).mono ?_); rintro e w16 ⟨rfl, hb⟩; refine ⟨_, rfl, ?_⟩; have n0_ := Aside0.mk (Kd.R_below (by (with_reducible repeat (first | apply Kd.R_alloc | apply Kd.R_drewN | apply Kd.R_drew)); exact HO_3.out) hb); have n1_ := Aside0.mk (below_step (by repeat (first | (with_reducible first | exact HB.out | apply below_alloc | apply pw_below_drewN | apply below_drew1) | exact HB.out)) hb); clear HO_3; clear HB; have HO_3 := n0_; have HB := n1_; clear n0_ n1_; (try clear hb); (try clear hb2); (try clear hk); (try clear hi)) | ((with_reducible refine gate_dst (N := 6) rfl ?_); refine box_event ?hg (N := 6) ?hd (cs := #[.int .i64 0, .int .i64 0]) (t := 23) ?hr ?_; (case hd => rfl); (case hg => rfl); (case hr => first | (go_simp; done) | (go_simp; rfl)); intro gb206 hg w17 hbox hb; have n0_ := Aside0.mk (Kd.R_below (by (with_reducible repeat (first | apply Kd.R_alloc | apply Kd.R_drewN | apply Kd.R_drew)); exact HO_3.out) hb); have n1_ := Aside0.mk (below_step (by repeat (first | (with_reducible first | exact HB.out | apply below_alloc | apply pw_below_drewN | apply below_drew1) | exact HB.out)) hb); have n2_ := Aside0.mk (hbox); have n3_ := Aside0.mk ((by rw [hg]; exact (below_size (by repeat (first | (with_reducible first | exact HB.out | apply below_alloc | apply pw_below_drewN | apply below_drew1) | exact HB.out))) : w.heap.size ≤ gb206)); have n4_ := Aside0.mk ((by rw [hg]; exact (below_size (by repeat (first | (with_reducible first | exact HB.out | apply below_alloc | apply pw_below_drewN | apply below_drew1) | exact HB.out))) : w.heap.size ≤ gb206)); clear HO_3; clear HB; have HO_3 := n0_; have HB := n1_; have BK206 := n2_; have GW206 := n3_; have GE206 := n4_; clear n0_ n1_ n2_ n3_ n4_; clear hb hbox hg; have hcz18_0 : w17.cell? ⟨gb206, 0, none⟩ = some (.int .i64 0) := (blk_cell BK206.out 0).trans rfl; have hcz18_1 : w17.cell? ⟨gb206, 1, none⟩ = some (.int .i64 0) := (blk_cell BK206.out 1).trans rfl; have hfz18_0 := blk_frozen BK206.out 0; have hfz18_1 := blk_frozen BK206.out 1))
              go_roundg k1
              case measure => have := HK1.out; omega
              case rel => exact ⟨(x3_1), (wrap64 (x10_1 + 1)), (by first | rfl | (simp; done) | (simp [*]; done)), H', ⟨by have := HK1.out; omega⟩, ⟨by (with_reducible repeat (first | apply Kd.R_alloc | apply Kd.R_drewN | apply Kd.R_drew)); exact Kd.R_mono (Kd.R_far (p := ⟨gb206, 1, none⟩) (Kd.R_far (p := ⟨gb206, 0, none⟩) (Kd.R_types HO_3.out BK206.out (by decide)) (fun _ hk => hk.2) (.int .i64 t203)) (fun _ hk => hk.2) (.int .i64 t204)) (fun _ hk => trivial)⟩, ⟨by repeat (first | (with_reducible first | exact HB.out | apply below_alloc | apply pw_below_drewN | apply below_drew1 | refine below_set ?_ GE206.out) | exact HB.out)⟩⟩
          · rw [if_neg c4] at H
            exact absurd H (by simp)
        · rw [if_neg c3] at H
          exact absurd H (by simp)
      · rw [if_neg c2] at H
        have c2b0 : decide (x10_1 < (l0.length : Int)) = false := decide_eq_false c2
        clear c2
        obtain rfl := Option.some.inj H
        go_wp2
        go_ret
        exact ⟨_, by first | rfl | (simp [errW_none, errW_some] <;> rfl) | (simp [*, errW_none, errW_some] <;> rfl), by (with_reducible repeat (first | apply Kd.R_alloc | apply Kd.R_drewN | apply Kd.R_drew)); exact HO_3.out, by repeat (first | (with_reducible first | exact HB.out | apply below_alloc | apply pw_below_drewN | apply below_drew1) | exact HB.out)⟩

/-! ### backstitchref3_object: function 108 -/
section
open Go.Maps Go.Proofs.YtlojkphocbbjdaaW.Sep Go.Proofs.YtlojkphocbbjdaaW.Mapw Go.Proofs.YtlojkphocbbjdaaW.Reg
def backstitchref3_object.T1 : Bool × List (List Nat × List Nat) := (true, [([], []), ([0], [0]), ([], []), ([], []), ([3], [3]), ([], []), ([5], [5]), ([], []), ([6, 7], [6, 7]), ([8], [8]), ([9], [9]), ([10], [10]), ([4, 11], [4, 11]), ([1, 2, 12], [1, 2, 12]), ([13, 0, 1, 2, 3, 4, 5, 6, 7, 8, 9, 10, 11, 12, 13], [13])])
def backstitchref3_object.B1 : List Nat := [0, 1, 0, 0, 8, 0, 32, 0, 224, 480, 992, 2016, 4088, 8191, 16383]
theorem backstitchref3_object.tab1 : rtab .any (opsOf Try.f108 1) = backstitchref3_object.T1 := by kernel_rfl
theorem backstitchref3_object.bits1 : waitsOk backstitchref3_object.T1.2 backstitchref3_object.B1 = true := by kernel_rfl
def olen (y : Int) : Int := wrap64 (Int.tmod y 4294967296)
def backstitchref3_object.f (l0_0 : List Int) (a1 : Int) : Option (List Int) := if 0 ≤ a1 ∧ a1 < (l0_0.length : Int) ∧ 0 ≤ olen (rd l0_0 a1) ∧ a1 + 1 + olen (rd l0_0 a1) ≤ (l0_0.length : Int) then some ((l0_0.take (a1 + 1 + olen (rd l0_0 a1)).toNat).drop a1.toNat) else none
set_option maxHeartbeats 4000000 in
set_option maxRecDepth 100000 in
theorem backstitchref3_object.walk (A0_0 : Option Addr) (c0_0 : Nat) (l0_0 : List (Int)) (A0_1 : Option Addr) (c0_1 : Nat) (l0_1 : List (Int)) (a1 : Int) (r : List Int) (wb w : World) (hB : Below wb.heap.size wb w) (hr0 : Kd.C (Kd.int .u64) wb A0_0 l0_0.length l0_0) (hc0 : l0_0.length ≤ c0_0) (h : backstitchref3_object.f l0_0 a1 = some r) :
    Calls Try.prog 108 #[.agg #[.slice A0_0 l0_0.length c0_0, .slice A0_1 l0_1.length c0_1], .int .i64 a1] w fun e w' => ∃ (A : Option Addr) (c : Nat), e = .returned (.slice A r.length c) ∧ r.length ≤ c ∧ Kd.C (Kd.int .u64) wb A r.length r ∧ Below w.heap.size w w' := by
  have HR := Aside0.mk hr0
  have HC := Aside0.mk hc0
  have HS0 := Aside0.mk (St.nil (Below.refl w.heap.size w))
  clear hr0 hc0
  unfold backstitchref3_object.f at h
  split at h
  case isFalse => cases h
  rename_i hcs
  obtain ⟨h0, h1, h2, h3⟩ := hcs
  obtain ⟨adf, e, hy⟩ := Kd.at_int HR.out a1 h0 h1
  cases e
  have hmx := Kd.C_max HR.out
  generalize rd l0_0 a1 = y at *
  replace hy := (hB.cell (World.block_lt_of_cell? wb _ hy)).trans hy
  have HY := Aside0.mk hy
  obtain ⟨ly, hly⟩ : ∃ ly, ly = olen y := ⟨_, rfl⟩
  rw [← hly] at h h2 h3
  have hW1 : wrap64 (a1 + 1) = a1 + 1 := by unfold wrap64; omega
  have hW2 : wrap64 (a1 + 1 + ly) = a1 + 1 + ly := by unfold wrap64; omega
  obtain rfl := Option.some.inj h
  obtain ⟨cl, hcl⟩ : ∃ cl, cl = (l0_0.take (a1 + 1 + ly).toNat).drop a1.toNat := ⟨_, rfl⟩
  have hclen : cl.length = (a1 + 1 + ly).toNat - a1.toNat := by rw [hcl, List.length_drop, List.length_take]; omega
  obtain ⟨B, hB⟩ : ∃ B : Option Addr, B = if c0_0 = a1.toNat then some adf else (some adf).map (·.add (a1.toNat * 1)) := ⟨_, rfl⟩
  obtain ⟨cc, hcc⟩ : ∃ cc : Nat, cc = c0_0 - a1.toNat := ⟨_, rfl⟩
  have HCL := Aside0.mk (show Kd.C (Kd.int .u64) wb B cl.length cl by
    rw [hB, hcl]
    exact Kd.C_mid HR.out (by omega) (by omega) HC.out)
  have HCC := Aside0.mk (show cl.length ≤ cc by have := HC.out; omega)
  obtain ⟨i0, hi, hz⟩ := Option.map_eq_some_iff.1 info46
  have hz1 : i0.size = 1 := by simpa using (Prod.mk.inj (Prod.mk.inj hz).2).1
  have hsl : ∀ W : World, (Instr.slice 74 (.slice (some adf) l0_0.length c0_0) (some (.int .i64 a1)) (some (.int .i64 (wrap64 (wrap64 (a1 + 1) + wrap64 (Int.tmod y 4294967296))))) none).run Try.prog W = .ok (.slice B cl.length cc) W := fun W => by
    rw [show wrap64 (Int.tmod y 4294967296) = ly from hly.symm, hW1, hW2, cut_mid 74 46 .i64 .i64 Try.underlying74 hi 1 hz1 (some adf) l0_0.length c0_0 a1 (a1 + 1 + ly) h0 (by omega) (by omega) HC.out W, hclen, hB, hcc]
  rw [← hcl]
  clear hi hz hz1 i0 hcc hB hclen hcl hW1 hW2 hly hy h2 h3 h hmx
  go_enter Try.func108, Try.ntmps108
  go_wp2_with (first | ((with_reducible refine gate_dst (N := 2) rfl ?_); (try (refine gate_guard (by rfl) ?_; dsimp only)); refine box_event ?hg (N := 2) ?hd (cs := #[.slice (some adf) l0_0.length c0_0, .slice A0_1 l0_1.length c0_1]) (t := 106) ?hr ?_; (case hd => rfl); (case hg => rfl); (case hr => first | (go_simp; done) | (go_simp; rfl)); intro gh hg_ w131_ hx_ hb_; have HS132_ := Aside0.mk (HS0.out.box hg_ hx_ hb_); clear hg_ hx_ hb_  HS0))
  refine st_ (fun w' => St w w' ((blkA gh #[.slice (some adf) l0_0.length c0_0, .slice A0_1 l0_1.length c0_1] 106) :: [])) backstitchref3_object.tab1 backstitchref3_object.bits1 HS132_.out.drew (fun HT_ HW_ hHeld => ?_)
  clear HS132_
  generalize w131_.drew = w133_ at hHeld ⊢
  have HS134_ := Aside0.mk (show St w w133_ ((blkA gh #[.slice (some adf) l0_0.length c0_0, .slice A0_1 l0_1.length c0_1] 106) :: []) from hHeld)
  refine pu_ (v := ?_) (a' := ?_) HT_.out 0 (some 5) ?_ ?_ ?_; rotate_left 2; (intro w'; go_simp; with_reducible rfl); (simp only [Act.put, List.setIfInBounds_toArray, List.set_cons_zero, List.set_cons_succ, i64_w, i32_w]; rfl)
  refine pu_ (v := ?_) (a' := ?_) HT_.out 2 (some 7) ?_ ?_ ?_; rotate_left 2; (intro w'; go_simp; with_reducible rfl); (simp only [Act.put, List.setIfInBounds_toArray, List.set_cons_zero, List.set_cons_succ, i64_w, i32_w]; rfl)
  refine pu_ (v := ?_) (a' := ?_) HT_.out 3 (some 8) ?_ ?_ ?_; rotate_left 2; (intro w'; go_simp; with_reducible rfl); (simp only [Act.put, List.setIfInBounds_toArray, List.set_cons_zero, List.set_cons_succ, i64_w, i32_w]; rfl)
  refine pu_ (v := ?_) (a' := ?_) HT_.out 4 (some 9) ?_ ?_ ?_; rotate_left 2; (intro w'; go_simp; with_reducible rfl); (simp only [Act.put, List.setIfInBounds_toArray, List.set_cons_zero, List.set_cons_succ, i64_w, i32_w]; rfl)
  refine pu_ (v := ?_) (a' := ?_) HT_.out 5 (some 10) ?_ ?_ ?_; rotate_left 2; (intro w'; go_simp; with_reducible rfl); (simp only [Act.put, List.setIfInBounds_toArray, List.set_cons_zero, List.set_cons_succ, i64_w, i32_w]; rfl)
  refine pu_ (v := ?_) (a' := ?_) HT_.out 7 (some 12) ?_ ?_ ?_; rotate_left 2; (intro w'; go_simp; with_reducible rfl); (simp only [Act.put, List.setIfInBounds_toArray, List.set_cons_zero, List.set_cons_succ, i64_w, i32_w]; rfl)
  refine tk_ (v := ?_) (a' := ?_) HT_.out HW_.out hHeld 1 (some 6) ?_ ?_ ?_; rotate_left 2; (intro w' hS; have s0 : w'.cell? ⟨gh, 0, none⟩ = some _ := hS.cell 0 rfl 0; go_simp; with_reducible rfl); (simp only [Act.put, List.setIfInBounds_toArray, List.set_cons_zero, List.set_cons_succ, i64_w, i32_w]; rfl)
  refine tk_ (v := ?_) (a' := ?_) HT_.out HW_.out hHeld 6 (some 11) ?_ ?_ ?_; rotate_left 2; (intro w' hS; have s0 : w'.cell? ⟨gh, 0, none⟩ = some _ := hS.cell 0 rfl 0; go_simp; with_reducible rfl); (simp only [Act.put, List.setIfInBounds_toArray, List.set_cons_zero, List.set_cons_succ, i64_w, i32_w]; rfl)
  refine pu_ (v := ?_) (a' := ?_) HT_.out 8 (some 13) ?_ ?_ ?_; rotate_left 2; (intro w'; go_simp; with_reducible rfl); (simp only [Act.put, List.setIfInBounds_toArray, List.set_cons_zero, List.set_cons_succ, i64_w, i32_w]; rfl)
  refine tk_ (v := ?_) (a' := ?_) HT_.out HW_.out hHeld 9 (some 14) ?_ ?_ ?_; rotate_left 2; (intro w' hS; have s0 : w'.cell? (adf.add a1.toNat) = some (.int .u64 y) := (hS.below.cell (World.block_lt_of_cell? w _ HY.out)).trans HY.out; go_simp; with_reducible rfl); (simp only [Act.put, List.setIfInBounds_toArray, List.set_cons_zero, List.set_cons_succ, i64_w, i32_w]; rfl)
  refine pu_ (v := ?_) (a' := ?_) HT_.out 10 (some 15) ?_ ?_ ?_; rotate_left 2; (intro w'; go_simp; with_reducible rfl); (simp only [Act.put, List.setIfInBounds_toArray, List.set_cons_zero, List.set_cons_succ, i64_w, i32_w]; rfl)
  refine pu_ (v := ?_) (a' := ?_) HT_.out 11 (some 16) ?_ ?_ ?_; rotate_left 2; (intro w'; go_simp; with_reducible rfl); (simp only [Act.put, List.setIfInBounds_toArray, List.set_cons_zero, List.set_cons_succ, i64_w, i32_w]; rfl)
  refine pu_ (v := ?_) (a' := ?_) HT_.out 12 (some 17) ?_ ?_ ?_; rotate_left 2; (intro w'; go_simp; with_reducible rfl); (simp only [Act.put, List.setIfInBounds_toArray, List.set_cons_zero, List.set_cons_succ, i64_w, i32_w]; rfl)
  refine pu_ (v := ?_) (a' := ?_) HT_.out 13 (some 18) ?_ ?_ ?_; rotate_left 2; (intro w'; go_simp; with_reducible rfl); (simp only [Act.put, List.setIfInBounds_toArray, List.set_cons_zero, List.set_cons_succ, i64_w, i32_w]; rfl)
  refine pu_ (v := ?_) (a' := ?_) HT_.out 14 (some 4) ?_ ?_ ?_; rotate_left 2; (intro w'; go_simp; with_reducible rfl); (simp only [Act.put, List.setIfInBounds_toArray, List.set_cons_zero, List.set_cons_succ, i64_w, i32_w]; rfl)
  refine dn_ HT_.out ?_
  clear hHeld HT_ HW_
  go_wp2
  go_ret
  exact ⟨B, cc, rfl, HCC.out, HCL.out, HS134_.out.below⟩
end

/-! ### backstitchref3_Moved: function 59 -/
section
open Go.Maps Go.Proofs.YtlojkphocbbjdaaW.Sep Go.Proofs.YtlojkphocbbjdaaW.Mapw Go.Proofs.YtlojkphocbbjdaaW.Reg
def moreF (k : Nat) : List Int → List Int → Option (List Int)
  | [], o => some o
  | x :: l, o => if o.length < 17592186044415 then (backstitchref3_Has_int.f k o x).bind fun b => if b = true then moreF k l o else moreF k l (o ++ [x]) else none
theorem moreF_mono (k : Nat) : ∀ (l o : List Int), LeO (moreF k l o) (moreF (k + 1) l o)
  | [], _ => LeO.refl _
  | x :: l, o => LeO.ite (LeO.bind (backstitchref3_Has_int.mono _ _ _) (fun _ => LeO.ite (moreF_mono k l _) (moreF_mono k l _))) (LeO.refl _)
theorem backstitchref3_object.has (k : Nat) (A0 : Option Addr) (c0 : Nat) (l0 : List Int) (a1 : Int) (r : Bool) (w : World) (hr0 : Kd.C (Kd.int .i64) w A0 l0.length l0) (hc0 : l0.length ≤ c0) (h : backstitchref3_Has_int.f k l0 a1 = some r) :
    Calls Try.prog 89 #[.slice A0 l0.length c0, .int .i64 a1] w fun e w' => e = .returned (.bool r) ∧ Below w.heap.size w w' := (backstitchref3_Has_int.calls k A0 c0 l0 a1 r w hr0 hc0 h).mono fun _ _ h => ⟨h.1, h.2.below⟩
set_option maxHeartbeats 4000000 in
set_option maxRecDepth 100000 in
theorem more_walk (k : Nat) (w0 w : World) (L : List Asn) (go : Nat) (Ao : Option Addr) (co : Nat) (o : List Int) (A : Option Addr) (c : Nat) (l r : List Int) (hS : St w0 w ((blkA go #[.slice Ao o.length co] 40) :: (rowA w0.heap.size (Kd.int .i64) 3 (.slice Ao o.length co) o) :: (rowA w0.heap.size (Kd.int .i64) 3 (.slice A l.length c) l) :: L)) (h : moreF k l o = some r) :
    Calls Try.prog 106 #[.slice A l.length c, .pointer (some ⟨go, 0, none⟩)] w fun e w' => e = .returned (.tuple #[]) ∧ ∃ (Ao' : Option Addr) (co' : Nat), St w0 w' ((blkA go #[.slice Ao' r.length co'] 40) :: (rowA w0.heap.size (Kd.int .i64) 3 (.slice Ao' r.length co') r) :: (rowA w0.heap.size (Kd.int .i64) 3 (.slice A l.length c) l) :: L) := by
  have HS0 := Aside0.mk hS
  have HX0 := Aside0.mk (show moreF k (l.drop (0 : Int).toNat) o = some r from h)
  have HLM := Aside0.mk (Kd.C_max (Kd.R_reads' (hS.row 2 rfl)).2.2)
  clear hS h
  go_enter Try.func106, Try.ntmps106
  go_wp2
  go_loopw [7] (fun v7 wr => ∃ (i : Int) (Ao : Option Addr) (co : Nat) (o : List Int), v7 = .int .i64 i ∧ Aside0 (0 ≤ i ∧ i ≤ l.length) ∧ Aside0 (moreF k (l.drop i.toNat) o = some r) ∧ Aside0 (St w0 wr ((blkA go #[.slice Ao o.length co] 40) :: (rowA w0.heap.size (Kd.int .i64) 3 (.slice Ao o.length co) o) :: (rowA w0.heap.size (Kd.int .i64) 3 (.slice A l.length c) l) :: L))) (fun v7 _ => l.length - (intOf v7).toNat)
  case atStart => exact ⟨0, _, _, _, rfl, ⟨by omega⟩, HX0, HS0⟩
  case round =>
    clear HS0 HX0
    obtain ⟨i, Ao, co, o, rfl, Hi, HX, HSr⟩ := hrel
    have hi0 : 0 ≤ i := Hi.out.1
    by_cases hlt : i < (l.length : Int)
    · have ht : decide (i < (l.length : Int)) = true := decide_eq_true hlt
      have HW := Aside0.mk (show wrap64 (i + 1) = i + 1 by have := HLM.out; unfold wrap64; omega)
      have hd : l.drop i.toNat = rd l i :: l.drop (i + 1).toNat := by
        rw [List.drop_eq_getElem_cons (by omega), show (i + 1).toNat = i.toNat + 1 by omega]
        congr 1
        rw [rd, List.getD_eq_getElem?_getD, List.getElem?_eq_getElem (by omega), Option.getD_some]
      have hx := HX.out
      rw [hd, moreF] at hx
      clear hd HX
      obtain ⟨ad, e, hk⟩ := Kd.at_int (Kd.R_reads' (HSr.out.row 2 rfl)).2.2 i hi0 hlt
      cases e
      generalize rd l i = x at *
      split at hx
      case isFalse => cases hx
      rename_i hol
      have HLO := Aside0.mk hol
      obtain ⟨b, hb, hx2⟩ := Option.bind_eq_some_iff.1 hx
      have HB := Aside0.mk hb
      clear hx hb hol
      have c232_ : wr.cell? ⟨go, 0, none⟩ = some (.slice Ao o.length co) := (HSr.out.cell 0 rfl 0).trans rfl
      rcases b with _ | _
      · have HX4 := Aside0.mk (show moreF k (l.drop (i + 1).toNat) (o ++ [x]) = some r from hx2)
        clear hx2
        go_wp2_with (first | (go_at_call 89; refine (backstitchref3_object.has k Ao co o x false _ (Kd.R_reads' (HSr.out.row 1 rfl)).2.2 (Kd.R_reads' (HSr.out.row 1 rfl)).2.1 HB.out).mono ?_; rintro e_ w236_ ⟨rfl, hb_⟩; have HS237_ := Aside0.mk (HSr.out.call hb_); have c238_ : w236_.cell? ⟨go, 0, none⟩ = some (.slice Ao o.length co) := (HS237_.out.cell 0 rfl 0).trans rfl; clear hb_; clear c232_ HSr) | ((with_reducible refine gate_builtin (b := .append) (xs := #[.tmp 15, .tmp 17]) rfl ?_); (try (refine gate_guard (by rfl) ?_; dsimp only)); at_builtin; obtain ⟨ok_, hf_, hr_, hs_⟩ := (HS237_.out).app 1 rfl; refine Kd.R_append (Kd.int .i64) (w0 := w0) w0.heap.size rfl (.tmp 15) (.tmp 17) 40 3 (.int .i64 0) 8 rfl Try.underlying40 info3 rfl (by decide) (by omega) (.slice Ao o.length co) o (x) [.int .i64 x] ok_ (fun _ => False) rfl rfl rfl (fun _ hk => hk.elim) hf_ hr_ (HS237_.out).below (HS237_.out).size ?aL ?_; (case aL => have := HLO.out; omega); intro Ap241_ w239_ ho_ hb_ hg_ hat_; have HS240_ := Aside0.mk (hs_ _ _ _ ho_ hb_ hg_); have hN_ := Kd.R_slice ho_; obtain ⟨A242_, c244_, rfl⟩ := hN_; have c245_ : w239_.cell? ⟨go, 0, none⟩ = some (.slice Ao o.length co) := (HS240_.out.cell 0 rfl 0).trans rfl; clear ho_ hb_ hg_ hat_ hf_ hr_ hs_ c238_ HS237_; have f246_ : w239_.frozen? ⟨go, 0, none⟩ = false := HS240_.out.frz 0 rfl 0) | ((with_reducible refine gate_store (t := 40) (p := 1) rfl ?_); refine store_event (t := 40) (p := 1) (v := .tmp 18) (w1 := (w239_.setCell ⟨go, 0, none⟩ (.slice A242_ (o ++ [x]).length c244_))) ?hg ?ho ?hn ?hr ?_; (case ho => rfl); (case hg => rfl); (case hn => rfl); (case hr => first | (go_simp; done) | (go_simp; rfl)); intro w247_ hw_; have HS248_ : Aside0 (St w0 w247_ ((blkA go #[.slice A242_ (o ++ [x]).length c244_] 40) :: (rowA w0.heap.size (Kd.int .i64) 3 (.slice A242_ (o ++ [x]).length c244_) (o ++ [x])) :: (rowA w0.heap.size (Kd.int .i64) 3 (.slice (some ad) l.length c) l) :: L)) := ⟨by rw [hw_]; exact (HS240_.out.put 0 rfl 0 (.slice A242_ (o ++ [x]).length c244_) rfl)⟩; clear hw_ c245_ f246_ HS240_))
        go_roundw
        case rel => exact ⟨i + 1, _, _, _, by first | rw [HW.out] | rfl, ⟨by omega⟩, HX4, HS248_⟩
        case measure => simp only [intOf]; (try rw [HW.out]); omega
      · have HX4 := Aside0.mk (show moreF k (l.drop (i + 1).toNat) o = some r from hx2)
        clear hx2
        go_wp2_with (first | (go_at_call 89; refine (backstitchref3_object.has k Ao co o x true _ (Kd.R_reads' (HSr.out.row 1 rfl)).2.2 (Kd.R_reads' (HSr.out.row 1 rfl)).2.1 HB.out).mono ?_; rintro e_ w233_ ⟨rfl, hb_⟩; have HS234_ := Aside0.mk (HSr.out.call hb_); clear hb_; clear c232_ HSr))
        go_roundw
        case rel => exact ⟨i + 1, _, _, _, by first | rw [HW.out] | rfl, ⟨by omega⟩, HX4, HS234_⟩
        case measure => simp only [intOf]; (try rw [HW.out]); omega
    · have ht : decide (i < (l.length : Int)) = false := decide_eq_false hlt
      have hx := HX.out
      rw [List.drop_eq_nil_of_le (by omega)] at hx
      obtain rfl := Option.some.inj hx
      clear hx HX
      go_wp2
      first | go_end0 | ((try simp only [Exit.inBlock, Exit.then]); refine bodyPost_ret (results_none rfl _ _ _) rfl ?_)
      exact ⟨rfl, _, _, HSr.out⟩
def turnW (k : Nat) (n : Int) : List S71 → Int → Option Int
  | [], x => some x
  | m :: ms, x => if m.f1 = n then (backstitchref3_Box.f k 5 m.f0).bind fun b => turnW k n ms b.1 else turnW k n ms x
theorem turnW_mono (k : Nat) (n : Int) : ∀ (ms : List S71) (x : Int), LeO (turnW k n ms x) (turnW (k + 1) n ms x)
  | [], _ => LeO.refl _
  | m :: ms, x => LeO.ite (LeO.bind (backstitchref3_Box.mono _ _ _) (fun _ => turnW_mono k n ms _)) (turnW_mono k n ms _)
def turnF (k : Nat) (ms : List S71) : List Int → List Int → Option (List Int)
  | [], o => some o
  | x :: l, o => if o.length < 17592186044415 then (backstitchref3_Unbox.f k x).bind fun u => if u.2.2 = true then (if u.1 = 5 then (turnW k u.2.1 ms x).bind fun y => turnF k ms l (o ++ [y]) else turnF k ms l (o ++ [x])) else turnF k ms l (o ++ [x]) else none
theorem turnF_mono (k : Nat) (ms : List S71) : ∀ (l o : List Int), LeO (turnF k ms l o) (turnF (k + 1) ms l o)
  | [], _ => LeO.refl _
  | x :: l, o => LeO.ite (LeO.bind (backstitchref3_Unbox.mono _ _) (fun _ => LeO.ite (LeO.ite (LeO.bind (turnW_mono k _ ms _) (fun _ => turnF_mono k ms l _)) (turnF_mono k ms l _)) (turnF_mono k ms l _))) (LeO.refl _)
set_option maxHeartbeats 8000000 in
set_option maxRecDepth 100000 in
theorem turned_walk (k : Nat) (w : World) (gm : Nat) (Am : Option Addr) (cm : Nat) (ms : List S71) (A : Option Addr) (c : Nat) (l r : List Int) (hl : Kd.C (Kd.int .u64) w A l.length l) (hg : w.cell? ⟨gm, 0, none⟩ = some (.slice Am ms.length cm)) (hm : Kd.C k71 w Am ms.length ms) (h : turnF k ms l [] = some r) :
    Calls Try.prog 109 #[.slice A l.length c, .pointer (some ⟨gm, 0, none⟩)] w fun e w' => ∃ v : Value, e = .returned v ∧ Kd.R (Kd.int .u64) 46 w' w.heap.size (fun _ => True) v r ∧ Below w.heap.size w w' := by
  have HL := Aside0.mk hl
  have HLM := Aside0.mk (Kd.C_max hl)
  have HG := Aside0.mk hg
  have HMS := Aside0.mk hm
  have HMM := Aside0.mk (Kd.C_max hm)
  have HS0 := Aside0.mk ((St.nil (Below.refl w.heap.size w)).nrow (Kd.int .u64) 46)
  have HX0 := Aside0.mk (show turnF k ms (l.drop (0 : Int).toNat) [] = some r from h)
  clear hl hg hm h
  go_enter Try.func109, Try.ntmps109
  go_wp2
  go_loopw [13, 4] (fun v13 v4 wr => ∃ (i : Int) (Ao : Option Addr) (co : Nat) (o : List Int), v13 = .int .i64 i ∧ v4 = .slice Ao o.length co ∧ Aside0 (0 ≤ i ∧ i ≤ l.length) ∧ Aside0 (turnF k ms (l.drop i.toNat) o = some r) ∧ Aside0 (St w wr ((rowA w.heap.size (Kd.int .u64) 46 (.slice Ao o.length co) o) :: []))) (fun v13 _ _ => l.length - (intOf v13).toNat)
  case atStart => exact ⟨0, none, 0, [], rfl, rfl, ⟨by omega⟩, HX0, HS0⟩
  case round =>
    clear HS0 HX0
    obtain ⟨i, Ao, co, o, rfl, rfl, Hi, HX, HSr⟩ := hrel
    have hi0 : 0 ≤ i := Hi.out.1
    by_cases hlt : i < (l.length : Int)
    · have ht : decide (i < (l.length : Int)) = true := decide_eq_true hlt
      have HW := Aside0.mk (show wrap64 (i + 1) = i + 1 by have := HLM.out; unfold wrap64; omega)
      have hd : l.drop i.toNat = rd l i :: l.drop (i + 1).toNat := by
        rw [List.drop_eq_getElem_cons (by omega), show (i + 1).toNat = i.toNat + 1 by omega]
        congr 1
        rw [rd, List.getD_eq_getElem?_getD, List.getElem?_eq_getElem (by omega), Option.getD_some]
      have hx := HX.out
      rw [hd, turnF] at hx
      clear hd HX
      obtain ⟨ad, e, hk⟩ := Kd.at_int HL.out i hi0 hlt
      cases e
      generalize rd l i = x at *
      replace hk := (HSr.out.below.cell (World.block_lt_of_cell? w _ hk)).trans hk
      split at hx
      case isFalse => cases hx
      rename_i hol
      have HLO := Aside0.mk hol
      obtain ⟨⟨u1, u2, u3⟩, hu, hx2⟩ := Option.bind_eq_some_iff.1 hx
      have HU := Aside0.mk hu
      clear hx hu hol
      rcases u3 with _ | _
      · have HX4 := Aside0.mk (show turnF k ms (l.drop (i + 1).toNat) (o ++ [x]) = some r from hx2)
        clear hx2
        go_wp2_with (first | (go_at_call 25; refine (backstitchref3_Unbox.calls k x u1 u2 false _ HU.out).mono ?_; rintro e_ w249_ ⟨rfl, hb_⟩; have HS250_ := Aside0.mk (HSr.out.call hb_); clear hb_; clear HSr) | ((with_reducible refine gate_dst (N := 7) rfl ?_); (try (refine gate_guard (by rfl) ?_; dsimp only)); refine box_event ?hg (N := 7) ?hd (cs := #[.int .i64 0, .int .i64 0]) (t := 23) ?hr ?_; (case hd => rfl); (case hg => rfl); (case hr => first | (go_simp; done) | (go_simp; rfl)); intro gv hg_ w251_ hx_ hb_; have HS252_ := Aside0.mk (HS250_.out.box hg_ hx_ hb_); have c253_ : w251_.cell? ⟨gv, 0, none⟩ = some (.int .i64 0) := (HS252_.out.cell 0 rfl 0).trans rfl; have c254_ : w251_.cell? ⟨gv, 1, none⟩ = some (.int .i64 0) := (HS252_.out.cell 0 rfl 1).trans rfl; have f255_ : w251_.frozen? ⟨gv, 0, none⟩ = false := HS252_.out.frz 0 rfl 0; have f256_ : w251_.frozen? ⟨gv, 1, none⟩ = false := HS252_.out.frz 0 rfl 1; clear hg_ hx_ hb_  HS250_) | ((with_reducible refine gate_store (t := 23) (p := 7) rfl ?_); refine store_event (t := 23) (p := 7) (v := .tmp 20) (w1 := ((w251_.setCell ⟨gv, 0, none⟩ (.int .i64 u1)).setCell ⟨gv, 1, none⟩ (.int .i64 u2))) ?hg ?ho ?hn ?hr ?_; (case ho => rfl); (case hg => rfl); (case hn => rfl); (case hr => first | (go_simp; done) | (go_simp; rfl)); intro w257_ hw_; have HS258_ : Aside0 (St w w257_ ((blkA gv #[.int .i64 u1, .int .i64 u2] 23) :: (rowA w.heap.size (Kd.int .u64) 46 (.slice Ao o.length co) o) :: [])) := ⟨by rw [hw_]; exact ((HS252_.out.put 0 rfl 0 (.int .i64 u1) rfl).put 0 rfl 1 (.int .i64 u2) rfl)⟩; clear hw_ c253_ c254_ f255_ f256_ HS252_) | ((with_reducible refine gate_builtin (b := .append) (xs := #[.tmp 47, .tmp 49]) rfl ?_); (try (refine gate_guard (by rfl) ?_; dsimp only)); at_builtin; obtain ⟨ok_, hf_, hr_, hs_⟩ := (HS258_.out).app 1 rfl; refine Kd.R_append (Kd.int .u64) (w0 := w) w.heap.size rfl (.tmp 47) (.tmp 49) 74 46 (.int .u64 0) 8 rfl Try.underlying74 info46 rfl (by decide) (by omega) (.slice Ao o.length co) o (x) [.int .u64 x] ok_ (fun _ => False) rfl rfl rfl (fun _ hk => hk.elim) hf_ hr_ (HS258_.out).below (HS258_.out).size ?aL ?_; (case aL => have := HLO.out; omega); intro Ap261_ w259_ ho_ hb_ hg_ hat_; have HS260_ := Aside0.mk (hs_ _ _ _ ho_ hb_ hg_); have hN_ := Kd.R_slice ho_; obtain ⟨A262_, c264_, rfl⟩ := hN_; clear ho_ hb_ hg_ hat_ hf_ hr_ hs_  HS258_))
        go_roundw
        case rel => exact ⟨i + 1, _, _, _, by first | rw [HW.out] | rfl, by first | rfl | simp, ⟨by omega⟩, HX4, ⟨(HS260_.out).drop 0 rfl⟩⟩
        case measure => simp only [intOf]; (try rw [HW.out]); omega
      simp only [if_true] at hx2
      by_cases c5 : u1 = 5
      case neg =>
        rw [if_neg c5] at hx2
        have hc5 : (u1 == 5) = false := beq_eq_false_iff_ne.mpr c5
        have HX4 := Aside0.mk (show turnF k ms (l.drop (i + 1).toNat) (o ++ [x]) = some r from hx2)
        clear hx2 c5
        go_wp2_with (first | (go_at_call 25; refine (backstitchref3_Unbox.calls k x u1 u2 true _ HU.out).mono ?_; rintro e_ w265_ ⟨rfl, hb_⟩; have HS266_ := Aside0.mk (HSr.out.call hb_); clear hb_; clear HSr) | ((with_reducible refine gate_dst (N := 7) rfl ?_); (try (refine gate_guard (by rfl) ?_; dsimp only)); refine box_event ?hg (N := 7) ?hd (cs := #[.int .i64 0, .int .i64 0]) (t := 23) ?hr ?_; (case hd => rfl); (case hg => rfl); (case hr => first | (go_simp; done) | (go_simp; rfl)); intro gv hg_ w267_ hx_ hb_; have HS268_ := Aside0.mk (HS266_.out.box hg_ hx_ hb_); have c269_ : w267_.cell? ⟨gv, 0, none⟩ = some (.int .i64 0) := (HS268_.out.cell 0 rfl 0).trans rfl; have c270_ : w267_.cell? ⟨gv, 1, none⟩ = some (.int .i64 0) := (HS268_.out.cell 0 rfl 1).trans rfl; have f271_ : w267_.frozen? ⟨gv, 0, none⟩ = false := HS268_.out.frz 0 rfl 0; have f272_ : w267_.frozen? ⟨gv, 1, none⟩ = false := HS268_.out.frz 0 rfl 1; clear hg_ hx_ hb_  HS266_) | ((with_reducible refine gate_store (t := 23) (p := 7) rfl ?_); refine store_event (t := 23) (p := 7) (v := .tmp 20) (w1 := ((w267_.setCell ⟨gv, 0, none⟩ (.int .i64 u1)).setCell ⟨gv, 1, none⟩ (.int .i64 u2))) ?hg ?ho ?hn ?hr ?_; (case ho => rfl); (case hg => rfl); (case hn => rfl); (case hr => first | (go_simp; done) | (go_simp; rfl)); intro w273_ hw_; have HS274_ : Aside0 (St w w273_ ((blkA gv #[.int .i64 u1, .int .i64 u2] 23) :: (rowA w.heap.size (Kd.int .u64) 46 (.slice Ao o.length co) o) :: [])) := ⟨by rw [hw_]; exact ((HS268_.out.put 0 rfl 0 (.int .i64 u1) rfl).put 0 rfl 1 (.int .i64 u2) rfl)⟩; have c275_ : w273_.cell? ⟨gv, 0, none⟩ = some (.int .i64 u1) := (HS274_.out.cell 0 rfl 0).trans rfl; clear hw_ c269_ c270_ f271_ f272_ HS268_) | ((with_reducible refine gate_builtin (b := .append) (xs := #[.tmp 47, .tmp 49]) rfl ?_); (try (refine gate_guard (by rfl) ?_; dsimp only)); at_builtin; obtain ⟨ok_, hf_, hr_, hs_⟩ := (HS274_.out).app 1 rfl; refine Kd.R_append (Kd.int .u64) (w0 := w) w.heap.size rfl (.tmp 47) (.tmp 49) 74 46 (.int .u64 0) 8 rfl Try.underlying74 info46 rfl (by decide) (by omega) (.slice Ao o.length co) o (x) [.int .u64 x] ok_ (fun _ => False) rfl rfl rfl (fun _ hk => hk.elim) hf_ hr_ (HS274_.out).below (HS274_.out).size ?aL ?_; (case aL => have := HLO.out; omega); intro Ap278_ w276_ ho_ hb_ hg_ hat_; have HS277_ := Aside0.mk (hs_ _ _ _ ho_ hb_ hg_); have hN_ := Kd.R_slice ho_; obtain ⟨A279_, c281_, rfl⟩ := hN_; clear ho_ hb_ hg_ hat_ hf_ hr_ hs_ c275_ HS274_))
        go_roundw
        case rel => exact ⟨i + 1, _, _, _, by first | rw [HW.out] | rfl, by first | rfl | simp, ⟨by omega⟩, HX4, ⟨(HS277_.out).drop 0 rfl⟩⟩
        case measure => simp only [intOf]; (try rw [HW.out]); omega
      rw [if_pos c5] at hx2
      have hc5 : (u1 == 5) = true := beq_iff_eq.mpr c5
      obtain ⟨y, hy, hx3⟩ := Option.bind_eq_some_iff.1 hx2
      have HX4 := Aside0.mk (show turnF k ms (l.drop (i + 1).toNat) (o ++ [y]) = some r from hx3)
      have HY := Aside0.mk (show turnW k u2 (ms.drop (0 : Int).toNat) x = some y from hy)
      clear hx2 hx3 hy c5
      go_wp2_with (first | (go_at_call 25; refine (backstitchref3_Unbox.calls k x u1 u2 true _ HU.out).mono ?_; rintro e_ w282_ ⟨rfl, hb_⟩; have HS283_ := Aside0.mk (HSr.out.call hb_); clear hb_; clear HSr) | ((with_reducible refine gate_dst (N := 7) rfl ?_); (try (refine gate_guard (by rfl) ?_; dsimp only)); refine box_event ?hg (N := 7) ?hd (cs := #[.int .i64 0, .int .i64 0]) (t := 23) ?hr ?_; (case hd => rfl); (case hg => rfl); (case hr => first | (go_simp; done) | (go_simp; rfl)); intro gv hg_ w284_ hx_ hb_; have HS285_ := Aside0.mk (HS283_.out.box hg_ hx_ hb_); have c286_ : w284_.cell? ⟨gv, 0, none⟩ = some (.int .i64 0) := (HS285_.out.cell 0 rfl 0).trans rfl; have c287_ : w284_.cell? ⟨gv, 1, none⟩ = some (.int .i64 0) := (HS285_.out.cell 0 rfl 1).trans rfl; have f288_ : w284_.frozen? ⟨gv, 0, none⟩ = false := HS285_.out.frz 0 rfl 0; have f289_ : w284_.frozen? ⟨gv, 1, none⟩ = false := HS285_.out.frz 0 rfl 1; clear hg_ hx_ hb_  HS283_) | ((with_reducible refine gate_store (t := 23) (p := 7) rfl ?_); refine store_event (t := 23) (p := 7) (v := .tmp 20) (w1 := ((w284_.setCell ⟨gv, 0, none⟩ (.int .i64 u1)).setCell ⟨gv, 1, none⟩ (.int .i64 u2))) ?hg ?ho ?hn ?hr ?_; (case ho => rfl); (case hg => rfl); (case hn => rfl); (case hr => first | (go_simp; done) | (go_simp; rfl)); intro w290_ hw_; have HS291_ : Aside0 (St w w290_ ((blkA gv #[.int .i64 u1, .int .i64 u2] 23) :: (rowA w.heap.size (Kd.int .u64) 46 (.slice Ao o.length co) o) :: [])) := ⟨by rw [hw_]; exact ((HS285_.out.put 0 rfl 0 (.int .i64 u1) rfl).put 0 rfl 1 (.int .i64 u2) rfl)⟩; have c292_ : w290_.cell? ⟨gv, 0, none⟩ = some (.int .i64 u1) := (HS291_.out.cell 0 rfl 0).trans rfl; clear hw_ c286_ c287_ f288_ f289_ HS285_; have cgm_ : w290_.cell? ⟨gm, 0, none⟩ = some (.slice Am ms.length cm) := (HS291_.out.below.cell (World.block_lt_of_cell? w _ HG.out)).trans HG.out))
      clear c292_ cgm_
      rename World => wo
      go_loopw [30, 6] (fun v30 v6 wr => ∃ (j x : Int), v30 = .int .i64 j ∧ v6 = .int .u64 x ∧ Aside0 (0 ≤ j ∧ j ≤ ms.length) ∧ Aside0 (turnW k u2 (ms.drop j.toNat) x = some y) ∧ Aside0 (St w wr ((blkA gv #[.int .i64 u1, .int .i64 u2] 23) :: (rowA w.heap.size (Kd.int .u64) 46 (.slice Ao o.length co) o) :: []))) (fun v30 _ _ => ms.length - (intOf v30).toNat)
      case atStart => exact ⟨0, x, rfl, rfl, ⟨by omega⟩, HY, HS291_⟩
      case round =>
        clear HS291_ HY
        obtain ⟨j, x, rfl, rfl, Hj, HXJ, HSj⟩ := hrel
        have hj0 : 0 ≤ j := Hj.out.1
        by_cases hlj : j < (ms.length : Int)
        · have htj : decide (j < (ms.length : Int)) = true := decide_eq_true hlj
          have HWj := Aside0.mk (show wrap64 (j + 1) = j + 1 by have := HMM.out; unfold wrap64; omega)
          have hd : ms.drop j.toNat = rd_T71 ms j :: ms.drop (j + 1).toNat := by
            rw [List.drop_eq_getElem_cons (by omega), show (j + 1).toNat = j.toNat + 1 by omega]
            congr 1
            rw [rd_T71, List.getD_eq_getElem?_getD, List.getElem?_eq_getElem (by omega), Option.getD_some]
          have hx := HXJ.out
          rw [hd, turnW] at hx
          clear hd HXJ
          obtain ⟨adm, e, hm0, hm1⟩ := at_T71 HMS.out j hj0 hlj
          cases e
          generalize rd_T71 ms j = m at *
          replace hm0 := (HSj.out.below.cell (World.block_lt_of_cell? w _ hm0)).trans hm0
          replace hm1 := (HSj.out.below.cell (World.block_lt_of_cell? w _ hm1)).trans hm1
          by_cases ce : m.f1 = u2
          · rw [if_pos ce] at hx
            have hce : (m.f1 == u2) = true := beq_iff_eq.mpr ce
            obtain ⟨⟨b1, b2⟩, hbx, hx3⟩ := Option.bind_eq_some_iff.1 hx
            have HBX := Aside0.mk hbx
            have HX5 := Aside0.mk (show turnW k u2 (ms.drop (j + 1).toNat) b1 = some y from hx3)
            clear hx hbx hx3 ce
            go_wp2_with (first | ((with_reducible refine gate_dst (N := 10) rfl ?_); (try (refine gate_guard (by rfl) ?_; dsimp only)); refine box_event ?hg (N := 10) ?hd (cs := #[.int .i64 0, .int .i64 0]) (t := 71) ?hr ?_; (case hd => rfl); (case hg => rfl); (case hr => first | (go_simp; done) | (go_simp; rfl)); intro gq hg_ w293_ hx_ hb_; have HS294_ := Aside0.mk (HSj.out.box hg_ hx_ hb_); have c295_ : w293_.cell? ⟨gq, 0, none⟩ = some (.int .i64 0) := (HS294_.out.cell 0 rfl 0).trans rfl; have c296_ : w293_.cell? ⟨gq, 1, none⟩ = some (.int .i64 0) := (HS294_.out.cell 0 rfl 1).trans rfl; have f297_ : w293_.frozen? ⟨gq, 0, none⟩ = false := HS294_.out.frz 0 rfl 0; have f298_ : w293_.frozen? ⟨gq, 1, none⟩ = false := HS294_.out.frz 0 rfl 1; clear hg_ hx_ hb_  HSj) | ((with_reducible refine gate_store (t := 71) (p := 10) rfl ?_); refine store_event (t := 71) (p := 10) (v := .tmp 33) (w1 := ((w293_.setCell ⟨gq, 0, none⟩ (.int .i64 m.f0)).setCell ⟨gq, 1, none⟩ (.int .i64 m.f1))) ?hg ?ho ?hn ?hr ?_; (case ho => rfl); (case hg => rfl); (case hn => rfl); (case hr => first | (go_simp; done) | (go_simp; rfl)); intro w299_ hw_; have HS300_ : Aside0 (St w w299_ ((blkA gq #[.int .i64 m.f0, .int .i64 m.f1] 71) :: (blkA gv #[.int .i64 u1, .int .i64 u2] 23) :: (rowA w.heap.size (Kd.int .u64) 46 (.slice Ao o.length co) o) :: [])) := ⟨by rw [hw_]; exact ((HS294_.out.put 0 rfl 0 (.int .i64 m.f0) rfl).put 0 rfl 1 (.int .i64 m.f1) rfl)⟩; have c301_ : w299_.cell? ⟨gq, 0, none⟩ = some (.int .i64 m.f0) := (HS300_.out.cell 0 rfl 0).trans rfl; have c302_ : w299_.cell? ⟨gq, 1, none⟩ = some (.int .i64 m.f1) := (HS300_.out.cell 0 rfl 1).trans rfl; have c303_ : w299_.cell? ⟨gv, 1, none⟩ = some (.int .i64 u2) := (HS300_.out.cell 1 rfl 1).trans rfl; clear hw_ c295_ c296_ f297_ f298_ HS294_) | (go_at_call 23; refine (backstitchref3_Box.calls k 5 m.f0 b1 b2 _ HBX.out).mono ?_; rintro e_ w304_ ⟨rfl, hb_⟩; have HS305_ := Aside0.mk (HS300_.out.call hb_); clear hb_; clear c301_ c302_ c303_ HS300_))
            go_roundw
            case rel => exact ⟨j + 1, b1, by first | rw [HWj.out] | rfl, rfl, ⟨by omega⟩, HX5, ⟨(HS305_.out).drop 0 rfl⟩⟩
            case measure => simp only [intOf]; (try rw [HWj.out]); omega
          · rw [if_neg ce] at hx
            have hce : (m.f1 == u2) = false := beq_eq_false_iff_ne.mpr ce
            have HX5 := Aside0.mk hx
            clear hx ce
            go_wp2_with (first | ((with_reducible refine gate_dst (N := 10) rfl ?_); (try (refine gate_guard (by rfl) ?_; dsimp only)); refine box_event ?hg (N := 10) ?hd (cs := #[.int .i64 0, .int .i64 0]) (t := 71) ?hr ?_; (case hd => rfl); (case hg => rfl); (case hr => first | (go_simp; done) | (go_simp; rfl)); intro gq hg_ w306_ hx_ hb_; have HS307_ := Aside0.mk (HSj.out.box hg_ hx_ hb_); have c308_ : w306_.cell? ⟨gq, 0, none⟩ = some (.int .i64 0) := (HS307_.out.cell 0 rfl 0).trans rfl; have c309_ : w306_.cell? ⟨gq, 1, none⟩ = some (.int .i64 0) := (HS307_.out.cell 0 rfl 1).trans rfl; have f310_ : w306_.frozen? ⟨gq, 0, none⟩ = false := HS307_.out.frz 0 rfl 0; have f311_ : w306_.frozen? ⟨gq, 1, none⟩ = false := HS307_.out.frz 0 rfl 1; clear hg_ hx_ hb_  HSj) | ((with_reducible refine gate_store (t := 71) (p := 10) rfl ?_); refine store_event (t := 71) (p := 10) (v := .tmp 33) (w1 := ((w306_.setCell ⟨gq, 0, none⟩ (.int .i64 m.f0)).setCell ⟨gq, 1, none⟩ (.int .i64 m.f1))) ?hg ?ho ?hn ?hr ?_; (case ho => rfl); (case hg => rfl); (case hn => rfl); (case hr => first | (go_simp; done) | (go_simp; rfl)); intro w312_ hw_; have HS313_ : Aside0 (St w w312_ ((blkA gq #[.int .i64 m.f0, .int .i64 m.f1] 71) :: (blkA gv #[.int .i64 u1, .int .i64 u2] 23) :: (rowA w.heap.size (Kd.int .u64) 46 (.slice Ao o.length co) o) :: [])) := ⟨by rw [hw_]; exact ((HS307_.out.put 0 rfl 0 (.int .i64 m.f0) rfl).put 0 rfl 1 (.int .i64 m.f1) rfl)⟩; have c314_ : w312_.cell? ⟨gq, 0, none⟩ = some (.int .i64 m.f0) := (HS313_.out.cell 0 rfl 0).trans rfl; have c315_ : w312_.cell? ⟨gq, 1, none⟩ = some (.int .i64 m.f1) := (HS313_.out.cell 0 rfl 1).trans rfl; have c316_ : w312_.cell? ⟨gv, 1, none⟩ = some (.int .i64 u2) := (HS313_.out.cell 1 rfl 1).trans rfl; clear hw_ c308_ c309_ f310_ f311_ HS307_))
            go_roundw
            case rel => exact ⟨j + 1, x, by first | rw [HWj.out] | rfl, rfl, ⟨by omega⟩, HX5, ⟨(HS313_.out).drop 0 rfl⟩⟩
            case measure => simp only [intOf]; (try rw [HWj.out]); omega
        · have htj : decide (j < (ms.length : Int)) = false := decide_eq_false hlj
          have hx := HXJ.out
          rw [List.drop_eq_nil_of_le (by omega)] at hx
          obtain rfl := Option.some.inj hx
          clear hx HXJ
          go_wp2_with (first | ((with_reducible refine gate_builtin (b := .append) (xs := #[.tmp 47, .tmp 49]) rfl ?_); (try (refine gate_guard (by rfl) ?_; dsimp only)); at_builtin; obtain ⟨ok_, hf_, hr_, hs_⟩ := (HSj.out).app 1 rfl; refine Kd.R_append (Kd.int .u64) (w0 := w) w.heap.size rfl (.tmp 47) (.tmp 49) 74 46 (.int .u64 0) 8 rfl Try.underlying74 info46 rfl (by decide) (by omega) (.slice Ao o.length co) o (x) [.int .u64 x] ok_ (fun _ => False) rfl rfl rfl (fun _ hk => hk.elim) hf_ hr_ (HSj.out).below (HSj.out).size ?aL ?_; (case aL => have := HLO.out; omega); intro Ap319_ w317_ ho_ hb_ hg_ hat_; have HS318_ := Aside0.mk (hs_ _ _ _ ho_ hb_ hg_); have hN_ := Kd.R_slice ho_; obtain ⟨A320_, c322_, rfl⟩ := hN_; clear ho_ hb_ hg_ hat_ hf_ hr_ hs_  HSj))
          go_roundw
          case rel => exact ⟨i + 1, _, _, _, by first | rw [HW.out] | rfl, by first | rfl | simp, ⟨by omega⟩, HX4, ⟨(HS318_.out).drop 0 rfl⟩⟩
          case measure => simp only [intOf]; (try rw [HW.out]); omega
    · have ht : decide (i < (l.length : Int)) = false := decide_eq_false hlt
      have hx := HX.out
      rw [List.drop_eq_nil_of_le (by omega)] at hx
      obtain rfl := Option.some.inj hx
      clear hx HX
      go_wp2
      go_ret
      exact ⟨_, rfl, HSr.out.row 0 rfl, HSr.out.below⟩
def backstitchref3_Moved.T7 : Bool × List (List Nat × List Nat) := (true, [([], []), ([], []), ([], []), ([], []), ([2, 3], [2, 3]), ([4], [4]), ([1, 5], [1, 5]), ([6], [6]), ([7, 6], [7]), ([0, 8, 8], [0, 8])])
def backstitchref3_Moved.B7 : List Nat := [0, 0, 0, 0, 12, 28, 62, 126, 254, 511]
theorem backstitchref3_Moved.tab7 : rtab .any (opsOf Try.f59 7) = backstitchref3_Moved.T7 := by kernel_rfl
theorem backstitchref3_Moved.bits7 : waitsOk backstitchref3_Moved.T7.2 backstitchref3_Moved.B7 = true := by kernel_rfl
def backstitchref3_Moved.T22 : Bool × List (List Nat × List Nat) := (true, [([], []), ([0], [0]), ([], []), ([2], [2]), ([3], [3]), ([4], [4]), ([1, 5], [1, 5]), ([], []), ([], []), ([8], [8]), ([7, 9, 6], [7, 9]), ([6, 10, 10], [6, 10]), ([0, 1, 2, 3, 4, 5, 6, 7, 8, 9, 10, 11], []), ([12, 11, 11, 0, 1, 2, 3, 4, 5, 6, 7, 8, 9, 10, 11], [11, 12])])
def backstitchref3_Moved.B22 : List Nat := [0, 1, 0, 4, 12, 28, 63, 0, 0, 256, 1023, 2047, 4095, 8191]
theorem backstitchref3_Moved.tab22 : rtab .any (opsOf Try.f59 22) = backstitchref3_Moved.T22 := by kernel_rfl
theorem backstitchref3_Moved.bits22 : waitsOk backstitchref3_Moved.T22.2 backstitchref3_Moved.B22 = true := by kernel_rfl
def backstitchref3_Moved.T25 : Bool × List (List Nat × List Nat) := (true, [([], []), ([], []), ([0, 0], [0]), ([1, 2, 0, 1, 2], [1])])
def backstitchref3_Moved.B25 : List Nat := [0, 0, 1, 7]
theorem backstitchref3_Moved.tab25 : rtab .any (opsOf Try.f59 25) = backstitchref3_Moved.T25 := by kernel_rfl
theorem backstitchref3_Moved.bits25 : waitsOk backstitchref3_Moved.T25.2 backstitchref3_Moved.B25 = true := by kernel_rfl
def backstitchref3_Moved.bf (k : Nat) (fr : List Int) : Nat → Int → List Int → Option (List Int)
  | 0, _, _ => none
  | d + 1, i, o => if i < (o.length : Int) then (if 0 ≤ i then (backstitchref3_object.f fr (rd o i)).bind fun b => if 1 ≤ b.length then (backstitchref3_told.f k (b.drop 1)).bind fun t => (moreF k t o).bind fun o2 => backstitchref3_Moved.bf k fr d (i + 1) o2 else none else none) else some o
theorem backstitchref3_Moved.bf_mono (fr : List Int) (k : Nat) : ∀ (d : Nat) (i : Int) (o : List Int), LeO (backstitchref3_Moved.bf k fr d i o) (backstitchref3_Moved.bf (k + 1) fr d i o)
  | 0, _, _ => LeO.refl _
  | d + 1, i, o => LeO.ite (LeO.ite (LeO.bind (LeO.refl _) (fun _ => LeO.ite (LeO.bind (backstitchref3_told.mono _ _) (fun _ => LeO.bind (moreF_mono k _ _) (fun _ => backstitchref3_Moved.bf_mono fr k d _ _))) (LeO.refl _))) (LeO.refl _)) (LeO.refl _)
def backstitchref3_Moved.mvs (fr : List Int) : List Int → Int → List S71 → Option (List S71)
  | [], _, ms => some ms
  | x :: l, at_, ms => if ms.length < 4398046511104 then (backstitchref3_object.f fr x).bind fun b => backstitchref3_Moved.mvs fr l (wrap64 (at_ + b.length)) (ms ++ [⟨at_, x⟩]) else none
def backstitchref3_Moved.wds (k : Nat) (fr : List Int) (ms : List S71) : List Int → List Int → Option (List Int)
  | [], ws => some ws
  | x :: l, ws => (backstitchref3_object.f fr x).bind fun b => if 1 ≤ b.length ∧ ws.length < 17592186044415 then (turnF k ms (b.drop 1) []).bind fun t => if ws.length + t.length < 17592186044414 then backstitchref3_Moved.wds k fr ms l (ws ++ [rd b 0] ++ t) else none else none
theorem backstitchref3_Moved.wds_mono (fr : List Int) (ms : List S71) (k : Nat) : ∀ (l ws : List Int), LeO (backstitchref3_Moved.wds k fr ms l ws) (backstitchref3_Moved.wds (k + 1) fr ms l ws)
  | [], _ => LeO.refl _
  | x :: l, ws => LeO.bind (LeO.refl _) (fun _ => LeO.ite (LeO.bind (turnF_mono k ms _ _) (fun _ => LeO.ite (backstitchref3_Moved.wds_mono fr ms k l _) (LeO.refl _))) (LeO.refl _))
def backstitchref3_Moved.f (k : Nat) (l0_0 : List (Int)) (l0_1 : List (Int)) : Option (List Int × List Int × List S71) := (backstitchref3_told.f k l0_1).bind fun t => (moreF k t []).bind fun o1 => (backstitchref3_Moved.bf k l0_0 (l0_0.length + 1) 0 o1).bind fun o2 => (backstitchref3_Moved.mvs l0_0 o2 0 []).bind fun ms => (backstitchref3_Moved.wds k l0_0 ms o2 []).bind fun ws => (turnF k ms l0_1 []).bind fun rs => some (ws, rs, ms)
theorem backstitchref3_Moved.mono : ∀ l0_0 l0_1 k, LeO (backstitchref3_Moved.f k l0_0 l0_1) (backstitchref3_Moved.f (k + 1) l0_0 l0_1) := fun _ _ k => LeO.bind (backstitchref3_told.mono _ _) (fun _ => LeO.bind (moreF_mono k _ _) (fun _ => LeO.bind (backstitchref3_Moved.bf_mono _ k _ _ _) (fun _ => LeO.bind (LeO.refl _) (fun ms => LeO.bind (backstitchref3_Moved.wds_mono _ ms k _ _) (fun _ => LeO.bind (turnF_mono k ms _ _) (fun _ => LeO.refl _))))))
theorem backstitchref3_Moved.cut1 {w : World} {A : Option Addr} {c : Nat} {b bd : List Int} (hd : bd = b.drop 1) (h1 : 1 ≤ b.length) (hC : Kd.C (Kd.int .u64) w A b.length b) (hc : b.length ≤ c) : ∃ (B : Option Addr) (c2 : Nat), (∀ W : World, (Instr.slice 74 (.slice A b.length c) (some (.int .i64 1)) none none).run Try.prog W = .ok (.slice B bd.length c2) W) ∧ Kd.C (Kd.int .u64) w B bd.length bd ∧ bd.length ≤ c2 := by
  subst hd
  obtain ⟨i0, hi, hz⟩ := Option.map_eq_some_iff.1 info46
  have hz1 : i0.size = 1 := by simpa using (Prod.mk.inj (Prod.mk.inj hz).2).1
  refine ⟨_, c - 1, fun W => ?_, Kd.C_drop hC h1 hc, by rw [List.length_drop]; omega⟩
  rw [cut_from 74 46 .i64 Try.underlying74 hi 1 hz1 A b.length c 1 (by decide) (by omega) W, List.length_drop]
  rfl
set_option maxHeartbeats 8000000 in
set_option maxRecDepth 100000 in
theorem backstitchref3_Moved.calls (k : Nat) (A0_0 : Option Addr) (c0_0 : Nat) (l0_0 : List (Int)) (A0_1 : Option Addr) (c0_1 : Nat) (l0_1 : List (Int)) (r1 r2 : List Int) (r3 : List S71) (w : World) (hr0_0 : Kd.C (Kd.int .u64) w A0_0 l0_0.length l0_0) (hc0_0 : l0_0.length ≤ c0_0) (hr0_1 : Kd.C (Kd.int .u64) w A0_1 l0_1.length l0_1) (hc0_1 : l0_1.length ≤ c0_1) (h : backstitchref3_Moved.f k l0_0 l0_1 = some (r1, r2, r3)) :
    Calls Try.prog 59 #[.agg #[.slice A0_0 l0_0.length c0_0, .slice A0_1 l0_1.length c0_1]] w fun e w' => ∃ v0_ v1_ v2_ : Value, e = .returned (.tuple #[.agg #[v0_, v1_], v2_]) ∧ Kd.R (Kd.int .u64) 46 w' w.heap.size (fun k_ => some k_ ≠ (v1_ : Value).ownBlock) v0_ r1 ∧ Kd.R (Kd.int .u64) 46 w' w.heap.size (fun k_ => some k_ ≠ (v0_ : Value).ownBlock) v1_ r2 ∧ Kd.R k71 71 w' w.heap.size (fun _ => True) v2_ r3 ∧ Below w.heap.size w w' := by
  unfold backstitchref3_Moved.f at h
  have HR0 := Aside0.mk hr0_0
  have HC0 := Aside0.mk hc0_0
  have HR1 := Aside0.mk hr0_1
  have HC1 := Aside0.mk hc0_1
  have HS0 := Aside0.mk (St.nil (Below.refl w.heap.size w))
  clear hr0_0 hc0_0 hr0_1 hc0_1
  obtain ⟨t, hq, h⟩ := Option.bind_eq_some_iff.1 h
  have HT := Aside0.mk hq
  obtain ⟨o1, hq2, h⟩ := Option.bind_eq_some_iff.1 h
  have HM := Aside0.mk hq2
  obtain ⟨o2, hq3, h⟩ := Option.bind_eq_some_iff.1 h
  have HX0 := Aside0.mk hq3
  obtain ⟨mz, hq4, h⟩ := Option.bind_eq_some_iff.1 h
  have HMV := Aside0.mk (show backstitchref3_Moved.mvs l0_0 (o2.drop (0 : Int).toNat) 0 [] = some mz from hq4)
  obtain ⟨wz, hq5, h⟩ := Option.bind_eq_some_iff.1 h
  have HWD := Aside0.mk (show backstitchref3_Moved.wds k l0_0 mz (o2.drop (0 : Int).toNat) [] = some wz from hq5)
  obtain ⟨rs, hq6, h⟩ := Option.bind_eq_some_iff.1 h
  have HTR := Aside0.mk hq6
  simp only [Option.some.injEq, Prod.mk.injEq] at h
  obtain ⟨rfl, rfl, rfl⟩ := h
  clear hq hq2 hq3 hq4 hq5 hq6
  go_enter Try.func59, Try.ntmps59
  go_wp2_with (first | ((with_reducible refine gate_dst (N := 1) rfl ?_); (try (refine gate_guard (by rfl) ?_; dsimp only)); refine box_event ?hg (N := 1) ?hd (cs := #[.slice A0_0 l0_0.length c0_0, .slice A0_1 l0_1.length c0_1]) (t := 106) ?hr ?_; (case hd => rfl); (case hg => rfl); (case hr => first | (go_simp; done) | (go_simp; rfl)); intro gh hg_ w135_ hx_ hb_; have HS136_ := Aside0.mk (HS0.out.box hg_ hx_ hb_); have c137_ : w135_.cell? ⟨gh, 1, none⟩ = some (.slice A0_1 l0_1.length c0_1) := (HS136_.out.cell 0 rfl 1).trans rfl; clear hg_ hx_ hb_  HS0) | ((with_reducible refine gate_dst (N := 2) rfl ?_); (try (refine gate_guard (by rfl) ?_; dsimp only)); refine box_event ?hg (N := 2) ?hd (cs := #[.slice none 0 0, .slice none 0 0]) (t := 106) ?hr ?_; (case hd => rfl); (case hg => rfl); (case hr => first | (go_simp; done) | (go_simp; rfl)); intro gr hg_ w138_ hx_ hb_; have HS139_ := Aside0.mk (HS136_.out.box hg_ hx_ hb_); have c140_ : w138_.cell? ⟨gh, 1, none⟩ = some (.slice A0_1 l0_1.length c0_1) := (HS139_.out.cell 1 rfl 1).trans rfl; clear hg_ hx_ hb_ c137_ HS136_) | ((with_reducible refine gate_dst (N := 4) rfl ?_); (try (refine gate_guard (by rfl) ?_; dsimp only)); refine box_event ?hg (N := 4) ?hd (cs := #[.slice none 0 0]) (t := 40) ?hr ?_; (case hd => rfl); (case hg => rfl); (case hr => first | (go_simp; done) | (go_simp; rfl)); intro go hg_ w141_ hx_ hb_; have HS142_ := Aside0.mk (HS139_.out.box hg_ hx_ hb_); have c143_ : w141_.cell? ⟨gh, 1, none⟩ = some (.slice A0_1 l0_1.length c0_1) := (HS142_.out.cell 2 rfl 1).trans rfl; clear hg_ hx_ hb_ c140_ HS139_) | (go_at_call 107; refine (backstitchref3_told.calls k A0_1 c0_1 l0_1 t _ (Kd.C_below HR1.out HS142_.out.below) HC1.out HT.out).mono ?_; rintro e_ w144_ ⟨v4, rfl, ho_, hb_⟩; obtain ⟨A4, c4, rfl⟩ := Kd.R_slice ho_; have HS145_ := Aside0.mk (HS142_.out.mrow hb_ ho_); clear ho_ hb_; clear c143_ HS142_) | (go_at_call 106; refine (more_walk k w w144_ _ go _ _ [] A4 c4 t o1 (((((((HS145_.out.nrow (Kd.int .i64) 3)).front 4 rfl).front 4 rfl).front 3 rfl).front 3 rfl).front 4 rfl) HM.out).mono ?_; rintro e_ w146_ ⟨rfl, Ao', co', hS'⟩; have HS5 : Aside0 (St w w146_ ((blkA go #[.slice Ao' o1.length co'] 40) :: (rowA w.heap.size (Kd.int .i64) 3 (.slice Ao' o1.length co') o1) :: (blkA gr #[.slice none 0 0, .slice none 0 0] 106) :: (blkA gh #[.slice A0_0 l0_0.length c0_0, .slice A0_1 l0_1.length c0_1] 106) :: [])) := ⟨hS'.drop 2 rfl⟩; clear hS' HS145_ ))
  clear HT HM
  go_loopg [6] (l0_0.length + 1) (fun kq v6 wr => ∃ (i : Int) (Ao : Option Addr) (co : Nat) (o : List Int), v6 = .int .i64 i ∧ Aside0 (kq ≤ l0_0.length + 1) ∧ Aside0 (0 ≤ i) ∧ Aside0 (backstitchref3_Moved.bf k l0_0 kq i o = some o2) ∧ Aside0 (St w wr ((blkA go #[.slice Ao o.length co] 40) :: (rowA w.heap.size (Kd.int .i64) 3 (.slice Ao o.length co) o) :: (blkA gr #[.slice none 0 0, .slice none 0 0] 106) :: (blkA gh #[.slice A0_0 l0_0.length c0_0, .slice A0_1 l0_1.length c0_1] 106) :: [])))
  case atStart => exact ⟨0, _, _, _, rfl, ⟨Nat.le_refl _⟩, ⟨by omega⟩, HX0, HS5⟩
  case round =>
    clear HS5 HX0
    obtain ⟨i, Ao, co, o, rfl, HK1, HI0, HX, HSr⟩ := hrel
    cases gk with
    | zero => exact absurd HX.out (by simp [backstitchref3_Moved.bf])
    | succ k1 =>
      have hx := HX.out
      rw [backstitchref3_Moved.bf] at hx
      clear HX
      have cg_ : wr.cell? ⟨go, 0, none⟩ = some (.slice Ao o.length co) := (HSr.out.cell 0 rfl 0).trans rfl
      by_cases hlt : i < (o.length : Int)
      · rw [if_pos hlt, if_pos HI0.out] at hx
        have ht : decide (i < (o.length : Int)) = true := decide_eq_true hlt
        have HI1 := Aside0.mk hlt
        have hi0 := HI0.out
        obtain ⟨ad, e, hk⟩ := Kd.at_int (Kd.R_reads' (HSr.out.row 1 rfl)).2.2 i hi0 hlt
        cases e
        clear hk
        have HWi := Aside0.mk (show wrap64 (i + 1) = i + 1 by have := Kd.C_max (Kd.R_reads' (HSr.out.row 1 rfl)).2.2; unfold wrap64; omega)
        obtain ⟨x, hxo⟩ : ∃ x, rd o i = x := ⟨_, rfl⟩
        rw [hxo] at hx
        have HXO := Aside0.mk hxo
        obtain ⟨b, hb, hx2⟩ := Option.bind_eq_some_iff.1 hx
        have HO := Aside0.mk hb
        split at hx2
        case isFalse => cases hx2
        rename_i hb1
        have HB1 := Aside0.mk hb1
        obtain ⟨bd, hbd⟩ : ∃ z, z = b.drop 1 := ⟨_, rfl⟩
        have HBD := Aside0.mk hbd
        rw [← hbd] at hx2
        obtain ⟨t, ht1, hx3⟩ := Option.bind_eq_some_iff.1 hx2
        have HT := Aside0.mk ht1
        obtain ⟨o3, hm1, hx4⟩ := Option.bind_eq_some_iff.1 hx3
        have HM := Aside0.mk hm1
        have HX4 := Aside0.mk hx4
        clear hx hb hx2 hb1 ht1 hx3 hm1 hx4 hxo hbd
        go_wp2
        refine std_ [9] (fun w' => St w w' ((blkA go #[.slice (some ad) o.length co] 40) :: (rowA w.heap.size (Kd.int .i64) 3 (.slice (some ad) o.length co) o) :: (blkA gr #[.slice none 0 0, .slice none 0 0] 106) :: (blkA gh #[.slice A0_0 l0_0.length c0_0, .slice A0_1 l0_1.length c0_1] 106) :: [])) backstitchref3_Moved.tab7 backstitchref3_Moved.bits7 HSr.out.drew (fun HT_ HW_ hHeld => ?_)
        clear HSr
        generalize wr.drew = w147_ at hHeld ⊢
        have HS148_ := Aside0.mk (show St w w147_ ((blkA go #[.slice (some ad) o.length co] 40) :: (rowA w.heap.size (Kd.int .i64) 3 (.slice (some ad) o.length co) o) :: (blkA gr #[.slice none 0 0, .slice none 0 0] 106) :: (blkA gh #[.slice A0_0 l0_0.length c0_0, .slice A0_1 l0_1.length c0_1] 106) :: []) from hHeld)
        refine pu_ (v := ?_) (a' := ?_) HT_.out 0 (some 28) ?_ ?_ ?_; rotate_left 2; (intro w'; go_simp; with_reducible rfl); (simp only [Act.put, List.setIfInBounds_toArray, List.set_cons_zero, List.set_cons_succ, i64_w, i32_w]; rfl)
        refine pu_ (v := ?_) (a' := ?_) HT_.out 3 (some 31) ?_ ?_ ?_; rotate_left 2; (intro w'; go_simp; with_reducible rfl); (simp only [Act.put, List.setIfInBounds_toArray, List.set_cons_zero, List.set_cons_succ, i64_w, i32_w]; rfl)
        refine tk_ (v := ?_) (a' := ?_) HT_.out HW_.out hHeld 1 (some 29) ?_ ?_ ?_; rotate_left 2; (intro w' hS; have s0 : w'.cell? ⟨gh, 0, none⟩ = some _ := hS.cell 3 rfl 0; have s1 : w'.cell? ⟨gh, 1, none⟩ = some _ := hS.cell 3 rfl 1; go_simp; with_reducible rfl); (simp only [Act.put, List.setIfInBounds_toArray, List.set_cons_zero, List.set_cons_succ, i64_w, i32_w]; rfl)
        refine tk_ (v := ?_) (a' := ?_) HT_.out HW_.out hHeld 2 (some 30) ?_ ?_ ?_; rotate_left 2; (intro w' hS; have s0 : w'.cell? ⟨go, 0, none⟩ = some _ := hS.cell 0 rfl 0; go_simp; with_reducible rfl); (simp only [Act.put, List.setIfInBounds_toArray, List.set_cons_zero, List.set_cons_succ, i64_w, i32_w]; rfl)
        refine pu_ (v := ?_) (a' := ?_) HT_.out 4 (some 32) ?_ ?_ ?_; rotate_left 2; (intro w'; go_simp; with_reducible rfl); (simp only [Act.put, List.setIfInBounds_toArray, List.set_cons_zero, List.set_cons_succ, i64_w, i32_w]; rfl)
        refine tk_ (v := ?_) (a' := ?_) HT_.out HW_.out hHeld 5 (some 33) ?_ ?_ ?_; rotate_left 2; (intro w' hS; obtain ⟨ad2, e2, hk2⟩ := Kd.at_int (Kd.R_reads' (hS.row 1 rfl)).2.2 i HI0.out HI1.out; obtain rfl := Option.some.inj e2; rw [HXO.out] at hk2; go_simp; with_reducible rfl); (simp only [Act.put, List.setIfInBounds_toArray, List.set_cons_zero, List.set_cons_succ, i64_w, i32_w]; rfl)
        refine on_ HT_.out 6 (some 34) (fun K hK => ?_)
        refine goes_ Try.func108 (by kernel_rfl) rfl #[.agg #[.slice A0_0 l0_0.length c0_0, .slice A0_1 l0_1.length c0_1], .int .i64 x] (by rfl) rfl rfl (by simp only [List.map_toArray, List.map_cons, List.map_nil]; rfl) ?_
        with_reducible refine (backstitchref3_object.walk A0_0 c0_0 l0_0 A0_1 c0_1 l0_1 x b w _ HS148_.out.below HR0.out HC0.out HO.out).mono ?_
        rintro e_ w149_ ⟨A6, c6, rfl, hc6, hC6, hb_⟩
        refine ⟨_, rfl, ?_⟩
        have HS150_ := Aside0.mk (HS148_.out.call hb_)
        obtain ⟨B, c2, hsl, hCB, hcB⟩ := backstitchref3_Moved.cut1 HBD.out HB1.out hC6 hc6
        have HCB := Aside0.mk hCB
        have HLB := Aside0.mk hcB
        clear hCB hcB
        clear hb_ HS148_ hHeld
        refine hK.out _ _ (HS150_.out) (fun hHeld => ?_)
        clear hK K
        refine norm_ (a' := ?_) ?_ ?_; rotate_left; (show Act.put _ (some 34) _ = _; simp only [Act.put, List.setIfInBounds_toArray, List.set_cons_zero, List.set_cons_succ, i64_w, i32_w]; rfl)
        refine pu_ (v := ?_) (a' := ?_) HT_.out 7 (some 35) ?_ ?_ ?_; rotate_left 2; (intro w'; go_simp; with_reducible rfl); (simp only [Act.put, List.setIfInBounds_toArray, List.set_cons_zero, List.set_cons_succ, i64_w, i32_w]; rfl)
        refine on_ HT_.out 8 (some 36) (fun K hK => ?_)
        refine goes_ Try.func107 (by kernel_rfl) rfl #[.slice B bd.length c2] (by rfl) rfl rfl (by simp only [List.map_toArray, List.map_cons, List.map_nil]; rfl) ?_
        with_reducible refine (backstitchref3_told.calls k B c2 bd t _ (Kd.C_below HCB.out HS150_.out.below) HLB.out HT.out).mono ?_
        rintro e_ w151_ ⟨v4, rfl, ho_, hb_⟩
        refine ⟨_, rfl, ?_⟩
        have HS152_ := Aside0.mk (HS150_.out.call hb_)
        obtain ⟨A4, c4, rfl⟩ := Kd.R_slice ho_
        have HL153_ := Aside0.mk (HS150_.out.mrow hb_ ho_)
        clear ho_
        clear hb_ HS150_ hHeld
        refine hK.out _ _ (HS152_.out) (fun hHeld => ?_)
        clear hK K
        refine norm_ (a' := ?_) ?_ ?_; rotate_left; (show Act.put _ (some 36) _ = _; simp only [Act.put, List.setIfInBounds_toArray, List.set_cons_zero, List.set_cons_succ, i64_w, i32_w]; rfl)
        refine la_ HT_.out 9 (some 37) (fun K hK => ?_)
        refine call_ 106 #[.slice A4 t.length c4, .pointer (some ⟨go, 0, none⟩)] (by rfl) rfl ?_ ?_
        · go_simp; first | done | rfl
        refine (more_walk k w w151_ _ go _ _ o A4 c4 t o3 ((((((HL153_.out).front 4 rfl).front 4 rfl).front 2 rfl).front 4 rfl).front 4 rfl) HM.out).mono ?_
        rintro e_ w156_ ⟨rfl, Ao', co', hS'⟩
        refine ⟨_, rfl, ?_⟩
        have HS157_ : Aside0 (St w w156_ ((blkA go #[.slice Ao' o3.length co'] 40) :: (rowA w.heap.size (Kd.int .i64) 3 (.slice Ao' o3.length co') o3) :: (blkA gr #[.slice none 0 0, .slice none 0 0] 106) :: (blkA gh #[.slice A0_0 l0_0.length c0_0, .slice A0_1 l0_1.length c0_1] 106) :: [])) := ⟨hS'.drop 2 rfl⟩
        clear hS' HS152_ HL153_
        refine hK.out _ _ ?_
        clear hK K
        refine norm_ (a' := ?_) ?_ ?_; rotate_left; (show Act.put _ (some 37) _ = _; simp only [Act.put, List.setIfInBounds_toArray, List.set_cons_zero, List.set_cons_succ, i64_w, i32_w]; rfl)
        refine dn_ HT_.out ?_
        clear HT_ HW_
        go_wp2
        go_roundg k1
        case measure => have := HK1.out; omega
        case rel => exact ⟨i + 1, _, _, _, by first | rw [HWi.out] | rfl, ⟨by have := HK1.out; omega⟩, ⟨by have := HI0.out; omega⟩, HX4, HS157_⟩
      · rw [if_neg hlt] at hx
        have ht : decide (i < (o.length : Int)) = false := decide_eq_false hlt
        obtain rfl := Option.some.inj hx
        clear hx hlt
        have HN2 := Aside0.mk (Kd.C_max (Kd.R_reads' (HSr.out.row 1 rfl)).2.2)
        go_wp2_with (first | ((with_reducible refine gate_dst (N := 7) rfl ?_); (try (refine gate_guard (by rfl) ?_; dsimp only)); refine box_event ?hg (N := 7) ?hd (cs := #[.slice none 0 0]) (t := 65) ?hr ?_; (case hd => rfl); (case hg => rfl); (case hr => first | (go_simp; done) | (go_simp; rfl)); intro gm hg_ w158_ hx_ hb_; have HS159_ := Aside0.mk (HSr.out.box hg_ hx_ hb_); have c160_ : w158_.cell? ⟨go, 0, none⟩ = some (.slice Ao o.length co) := (HS159_.out.cell 1 rfl 0).trans rfl; clear hg_ hx_ hb_  HSr))
        clear ht cg_ c160_
        have HSm := Aside0.mk ((((((((HS159_.out.nrow k71 71)).front 5 rfl).front 5 rfl).front 5 rfl).front 5 rfl).front 4 rfl).front 5 rfl)
        clear HS159_
        rename World => wo
        go_loopw [40, 8] (fun v40 v8 wr => ∃ (i at_ : Int) (Am : Option Addr) (cm : Nat) (ms : List S71), v40 = .int .i64 i ∧ v8 = .int .i64 at_ ∧ Aside0 (0 ≤ i ∧ i ≤ o.length) ∧ Aside0 (backstitchref3_Moved.mvs l0_0 (o.drop i.toNat) at_ ms = some mz) ∧ Aside0 (St w wr ((blkA gm #[.slice Am ms.length cm] 65) :: (rowA w.heap.size k71 71 (.slice Am ms.length cm) ms) :: (blkA go #[.slice Ao o.length co] 40) :: (rowA w.heap.size (Kd.int .i64) 3 (.slice Ao o.length co) o) :: (blkA gr #[.slice none 0 0, .slice none 0 0] 106) :: (blkA gh #[.slice A0_0 l0_0.length c0_0, .slice A0_1 l0_1.length c0_1] 106) :: []))) (fun v40 _ _ => o.length - (intOf v40).toNat)
        case atStart => exact ⟨0, 0, _, _, _, rfl, rfl, ⟨by omega⟩, HMV, HSm⟩
        case round =>
          clear HSm HMV
          obtain ⟨i, at_, Am, cm, ms, rfl, rfl, Hi, HX, HSr⟩ := hrel
          have hi0 : 0 ≤ i := Hi.out.1
          by_cases hlt : i < (o.length : Int)
          · have ht : decide (i < (o.length : Int)) = true := decide_eq_true hlt
            have HW := Aside0.mk (show wrap64 (i + 1) = i + 1 by have := HN2.out; unfold wrap64; omega)
            have hd : o.drop i.toNat = rd o i :: o.drop (i + 1).toNat := by
              rw [List.drop_eq_getElem_cons (by omega), show (i + 1).toNat = i.toNat + 1 by omega]
              congr 1
              rw [rd, List.getD_eq_getElem?_getD, List.getElem?_eq_getElem (by omega), Option.getD_some]
            have hx := HX.out
            rw [hd, backstitchref3_Moved.mvs] at hx
            clear hd HX
            obtain ⟨ad, e, hk⟩ := Kd.at_int (Kd.R_reads' (HSr.out.row 3 rfl)).2.2 i hi0 hlt
            cases e
            generalize rd o i = x at *
            split at hx
            case isFalse => cases hx
            rename_i hlm
            have HLM := Aside0.mk hlm
            obtain ⟨b, hb, hx2⟩ := Option.bind_eq_some_iff.1 hx
            have HO := Aside0.mk hb
            have HX4 := Aside0.mk hx2
            have c161_ : wr.cell? ⟨gm, 0, none⟩ = some (.slice Am ms.length cm) := (HSr.out.cell 0 rfl 0).trans rfl
            clear hx hb hx2 hlm
            go_wp2_with (first | ((with_reducible refine gate_builtin (b := .append) (xs := #[.tmp 44, .tmp 48]) rfl ?_); (try (refine gate_guard (by rfl) ?_; dsimp only)); at_builtin; obtain ⟨ok_, hf_, hr_, hs_⟩ := (HSr.out).app 1 rfl; refine Kd.R_append k71 (w0 := w) w.heap.size rfl (.tmp 44) (.tmp 48) 65 71 (.agg #[.int .i64 0, .int .i64 0]) 16 rfl Try.underlying65 info71 rfl (by decide) (by omega) (.slice Am ms.length cm) ms ((⟨at_, x⟩ : S71)) [.int .i64 at_, .int .i64 x] ok_ (fun _ => False) rfl rfl (k71_mkM _ _ _ _) (fun _ hk => hk.elim) hf_ hr_ (HSr.out).below (HSr.out).size ?aL ?_; (case aL => have := HLM.out; omega); intro Ap164_ w162_ ho_ hb_ hg_ hat_; have HS163_ := Aside0.mk (hs_ _ _ _ ho_ hb_ hg_); have hN_ := Kd.R_slice ho_; obtain ⟨A165_, c167_, rfl⟩ := hN_; have c168_ : w162_.cell? ⟨gm, 0, none⟩ = some (.slice Am ms.length cm) := (HS163_.out.cell 0 rfl 0).trans rfl; clear ho_ hb_ hg_ hat_ hf_ hr_ hs_ c161_ HSr; have f169_ : w162_.frozen? ⟨gm, 0, none⟩ = false := HS163_.out.frz 0 rfl 0) | ((with_reducible refine gate_store (t := 65) (p := 7) rfl ?_); refine store_event (t := 65) (p := 7) (v := .tmp 49) (w1 := (w162_.setCell ⟨gm, 0, none⟩ (.slice A165_ (ms ++ [(⟨at_, x⟩ : S71)]).length c167_))) ?hg ?ho ?hn ?hr ?_; (case ho => rfl); (case hg => rfl); (case hn => rfl); (case hr => first | (go_simp; done) | (go_simp; rfl)); intro w170_ hw_; have HS171_ : Aside0 (St w w170_ ((blkA gm #[.slice A165_ (ms ++ [(⟨at_, x⟩ : S71)]).length c167_] 65) :: (rowA w.heap.size k71 71 (.slice A165_ (ms ++ [(⟨at_, x⟩ : S71)]).length c167_) (ms ++ [(⟨at_, x⟩ : S71)])) :: (blkA go #[.slice (some ad) o.length co] 40) :: (rowA w.heap.size (Kd.int .i64) 3 (.slice (some ad) o.length co) o) :: (blkA gr #[.slice none 0 0, .slice none 0 0] 106) :: (blkA gh #[.slice A0_0 l0_0.length c0_0, .slice A0_1 l0_1.length c0_1] 106) :: [])) := ⟨by rw [hw_]; exact (HS163_.out.put 0 rfl 0 (.slice A165_ (ms ++ [(⟨at_, x⟩ : S71)]).length c167_) rfl)⟩; have c172_ : w170_.cell? ⟨gh, 0, none⟩ = some (.slice A0_0 l0_0.length c0_0) := (HS171_.out.cell 5 rfl 0).trans rfl; have c173_ : w170_.cell? ⟨gh, 1, none⟩ = some (.slice A0_1 l0_1.length c0_1) := (HS171_.out.cell 5 rfl 1).trans rfl; clear hw_ c168_ f169_ HS163_) | (go_at_call 108; refine (backstitchref3_object.walk A0_0 c0_0 l0_0 A0_1 c0_1 l0_1 x b w _ HS171_.out.below HR0.out HC0.out HO.out).mono ?_; rintro e_ w174_ ⟨A6, c6, rfl, hc6, hC6, hb_⟩; have HS175_ := Aside0.mk (HS171_.out.call hb_); have HC6 := Aside0.mk hC6; have HL6 := Aside0.mk hc6; clear hb_ hc6 hC6; clear c172_ c173_ HS171_))
            go_roundw
            case rel => exact ⟨i + 1, _, _, _, _, by first | rw [HW.out] | rfl, rfl, ⟨by omega⟩, HX4, HS175_⟩
            case measure => simp only [intOf]; (try rw [HW.out]); omega
          · have ht : decide (i < (o.length : Int)) = false := decide_eq_false hlt
            have hx := HX.out
            rw [List.drop_eq_nil_of_le (by omega)] at hx
            obtain rfl := Option.some.inj hx
            clear hx HX hlt Hi hi0
            go_wp2_with (first | ((with_reducible refine gate_dst (N := 12) rfl ?_); (try (refine gate_guard (by rfl) ?_; dsimp only)); refine box_event ?hg (N := 12) ?hd (cs := #[.slice none 0 0, .slice none 0 0]) (t := 106) ?hr ?_; (case hd => rfl); (case hg => rfl); (case hr => first | (go_simp; done) | (go_simp; rfl)); intro gx hg_ w176_ hx_ hb_; have HS177_ := Aside0.mk (HSr.out.box hg_ hx_ hb_); have c178_ : w176_.cell? ⟨go, 0, none⟩ = some (.slice Ao o.length co) := (HS177_.out.cell 3 rfl 0).trans rfl; clear hg_ hx_ hb_  HSr))
            clear ht c178_
            have HSm := Aside0.mk ((((((((((HS177_.out.nrow (Kd.int .u64) 46)).front 7 rfl).front 7 rfl).front 7 rfl).front 7 rfl).front 7 rfl).front 7 rfl).front 6 rfl).front 7 rfl)
            clear HS177_
            rename World => wo2
            go_loopw [60] (fun v60 wr => ∃ (i : Int) (Aw : Option Addr) (cw : Nat) (ws : List Int), v60 = .int .i64 i ∧ Aside0 (0 ≤ i ∧ i ≤ o.length) ∧ Aside0 (backstitchref3_Moved.wds k l0_0 ms (o.drop i.toNat) ws = some wz) ∧ Aside0 (St w wr ((blkA gx #[.slice Aw ws.length cw, .slice none 0 0] 106) :: (rowA w.heap.size (Kd.int .u64) 46 (.slice Aw ws.length cw) ws) :: (blkA gm #[.slice Am ms.length cm] 65) :: (rowA w.heap.size k71 71 (.slice Am ms.length cm) ms) :: (blkA go #[.slice Ao o.length co] 40) :: (rowA w.heap.size (Kd.int .i64) 3 (.slice Ao o.length co) o) :: (blkA gr #[.slice none 0 0, .slice none 0 0] 106) :: (blkA gh #[.slice A0_0 l0_0.length c0_0, .slice A0_1 l0_1.length c0_1] 106) :: []))) (fun v60 _ => o.length - (intOf v60).toNat)
            case atStart => exact ⟨0, _, _, _, rfl, ⟨by omega⟩, HWD, HSm⟩
            case round =>
              clear HSm HWD
              obtain ⟨i, Aw, cw, ws, rfl, Hi, HX, HSr⟩ := hrel
              have hi0 : 0 ≤ i := Hi.out.1
              by_cases hlt : i < (o.length : Int)
              · have ht : decide (i < (o.length : Int)) = true := decide_eq_true hlt
                have HW := Aside0.mk (show wrap64 (i + 1) = i + 1 by have := HN2.out; unfold wrap64; omega)
                have hd : o.drop i.toNat = rd o i :: o.drop (i + 1).toNat := by
                  rw [List.drop_eq_getElem_cons (by omega), show (i + 1).toNat = i.toNat + 1 by omega]
                  congr 1
                  rw [rd, List.getD_eq_getElem?_getD, List.getElem?_eq_getElem (by omega), Option.getD_some]
                have hx := HX.out
                rw [hd, backstitchref3_Moved.wds] at hx
                clear hd HX
                obtain ⟨ad, e, hk⟩ := Kd.at_int (Kd.R_reads' (HSr.out.row 5 rfl)).2.2 i hi0 hlt
                cases e
                generalize rd o i = x at *
                obtain ⟨b, hb, hx2⟩ := Option.bind_eq_some_iff.1 hx
                have HO := Aside0.mk hb
                split at hx2
                case isFalse => cases hx2
                rename_i hb1
                have HB1 := Aside0.mk hb1.1
                have HLW := Aside0.mk hb1.2
                obtain ⟨bd, hbd⟩ : ∃ z, z = b.drop 1 := ⟨_, rfl⟩
                have HBD := Aside0.mk hbd
                rw [← hbd] at hx2
                obtain ⟨t, ht1, hx3⟩ := Option.bind_eq_some_iff.1 hx2
                have HTF := Aside0.mk ht1
                split at hx3
                case isFalse => cases hx3
                rename_i hlw
                obtain ⟨y, hy0⟩ : ∃ y, y = rd b 0 := ⟨_, rfl⟩
                rw [← hy0] at hx3
                obtain ⟨ws1, hw1⟩ : ∃ z, z = ws ++ [y] := ⟨_, rfl⟩
                rw [← hw1] at hx3
                obtain ⟨ws2, hw2⟩ : ∃ z, z = ws1 ++ t := ⟨_, rfl⟩
                rw [← hw2] at hx3
                have HX4 := Aside0.mk hx3
                have HW1 := Aside0.mk hw1
                have HW2 := Aside0.mk hw2
                have HLW2 := Aside0.mk (show ws1.length + t.length < 17592186044415 by rw [hw1, List.length_append, List.length_singleton]; omega)
                have HY0 := Aside0.mk hy0
                have c179_ : wr.cell? ⟨gh, 0, none⟩ = some (.slice A0_0 l0_0.length c0_0) := (HSr.out.cell 7 rfl 0).trans rfl; have c180_ : wr.cell? ⟨gh, 1, none⟩ = some (.slice A0_1 l0_1.length c0_1) := (HSr.out.cell 7 rfl 1).trans rfl
                clear hx hb hx2 hb1 ht1 hx3 hlw hw1 hw2 hy0 hbd
                go_wp2_with (first | (go_at_call 108; refine (backstitchref3_object.walk A0_0 c0_0 l0_0 A0_1 c0_1 l0_1 x b w _ HSr.out.below HR0.out HC0.out HO.out).mono ?_; rintro e_ w181_ ⟨A6, c6, rfl, hc6, hC6, hb_⟩; have HS182_ := Aside0.mk (HSr.out.call hb_); have HC6 := Aside0.mk hC6; have HL6 := Aside0.mk hc6; clear hb_ hc6 hC6; clear c179_ c180_ HSr))
                obtain ⟨B, c2, hsl, hCB, hcB⟩ := backstitchref3_Moved.cut1 HBD.out HB1.out HC6.out HL6.out
                have HCB := Aside0.mk hCB
                clear hCB hcB
                obtain ⟨ad6, e, hy⟩ := Kd.at_int HC6.out 0 (by decide) (by have := HB1.out; omega)
                cases e
                rw [← HY0.out, show ad6.add (0 : Int).toNat = ad6 by simp [Addr.add]] at hy
                have HY := Aside0.mk hy
                have hb0 : 0 < b.length := by have := HB1.out; omega
                clear hy HC6 HL6
                refine std_ [6, 10, 11, 13] (fun w' => St w w' ((blkA gx #[.slice Aw ws.length cw, .slice none 0 0] 106) :: (rowA w.heap.size (Kd.int .u64) 46 (.slice Aw ws.length cw) ws) :: (blkA gm #[.slice Am ms.length cm] 65) :: (rowA w.heap.size k71 71 (.slice Am ms.length cm) ms) :: (blkA go #[.slice (some ad) o.length co] 40) :: (rowA w.heap.size (Kd.int .i64) 3 (.slice (some ad) o.length co) o) :: (blkA gr #[.slice none 0 0, .slice none 0 0] 106) :: (blkA gh #[.slice A0_0 l0_0.length c0_0, .slice A0_1 l0_1.length c0_1] 106) :: [])) backstitchref3_Moved.tab22 backstitchref3_Moved.bits22 HS182_.out.drew (fun HT_ HW_ hHeld => ?_)
                clear HS182_
                generalize w181_.drew = w183_ at hHeld ⊢
                have HS184_ := Aside0.mk (show St w w183_ ((blkA gx #[.slice Aw ws.length cw, .slice none 0 0] 106) :: (rowA w.heap.size (Kd.int .u64) 46 (.slice Aw ws.length cw) ws) :: (blkA gm #[.slice Am ms.length cm] 65) :: (rowA w.heap.size k71 71 (.slice Am ms.length cm) ms) :: (blkA go #[.slice (some ad) o.length co] 40) :: (rowA w.heap.size (Kd.int .i64) 3 (.slice (some ad) o.length co) o) :: (blkA gr #[.slice none 0 0, .slice none 0 0] 106) :: (blkA gh #[.slice A0_0 l0_0.length c0_0, .slice A0_1 l0_1.length c0_1] 106) :: []) from hHeld)
                refine pu_ (v := ?_) (a' := ?_) HT_.out 0 (some 67) ?_ ?_ ?_; rotate_left 2; (intro w'; go_simp; with_reducible rfl); (simp only [Act.put, List.setIfInBounds_toArray, List.set_cons_zero, List.set_cons_succ, i64_w, i32_w]; rfl)
                refine pu_ (v := ?_) (a' := ?_) HT_.out 2 (some 69) ?_ ?_ ?_; rotate_left 2; (intro w'; go_simp; with_reducible rfl); (simp only [Act.put, List.setIfInBounds_toArray, List.set_cons_zero, List.set_cons_succ, i64_w, i32_w]; rfl)
                refine pu_ (v := ?_) (a' := ?_) HT_.out 3 (some 70) ?_ ?_ ?_; rotate_left 2; (intro w'; go_simp; with_reducible rfl); (simp only [Act.put, List.setIfInBounds_toArray, List.set_cons_zero, List.set_cons_succ, i64_w, i32_w]; rfl)
                refine pu_ (v := ?_) (a' := ?_) HT_.out 7 (some 74) ?_ ?_ ?_; rotate_left 2; (intro w'; go_simp; with_reducible rfl); (simp only [Act.put, List.setIfInBounds_toArray, List.set_cons_zero, List.set_cons_succ, i64_w, i32_w]; rfl)
                refine pu_ (v := ?_) (a' := ?_) HT_.out 8 (some 75) ?_ ?_ ?_; rotate_left 2; (intro w'; go_simp; with_reducible rfl); (simp only [Act.put, List.setIfInBounds_toArray, List.set_cons_zero, List.set_cons_succ, i64_w, i32_w]; rfl)
                refine pu_ (v := ?_) (a' := ?_) HT_.out 9 (some 76) ?_ ?_ ?_; rotate_left 2; (intro w'; go_simp; with_reducible rfl); (simp only [Act.put, List.setIfInBounds_toArray, List.set_cons_zero, List.set_cons_succ, i64_w, i32_w]; rfl)
                refine tk_ (v := ?_) (a' := ?_) HT_.out HW_.out hHeld 1 (some 68) ?_ ?_ ?_; rotate_left 2; (intro w' hS; have s0 : w'.cell? ⟨gx, 0, none⟩ = some _ := hS.cell 0 rfl 0; go_simp; with_reducible rfl); (simp only [Act.put, List.setIfInBounds_toArray, List.set_cons_zero, List.set_cons_succ, i64_w, i32_w]; rfl)
                refine tk_ (v := ?_) (a' := ?_) HT_.out HW_.out hHeld 4 (some 71) ?_ ?_ ?_; rotate_left 2; (intro w' hS; have s0 : w'.cell? ad6 = some (.int .u64 y) := (hS.below.cell (World.block_lt_of_cell? w _ HY.out)).trans HY.out; go_simp; with_reducible rfl); (simp only [Act.put, List.setIfInBounds_toArray, List.set_cons_zero, List.set_cons_succ, i64_w, i32_w]; rfl)
                refine on_ HT_.out 5 (some 72) (fun K hK => ?_)
                refine value_ (w1 := ?_) (v := ?_) (by rfl) rfl ?_ ?_; rotate_left 2; (go_simp; constructor; rfl; rfl)
                have HS187_ := Aside0.mk (HS184_.out.alloc (.cells #[.int .u64 y] 46))
                try clear hHeld
                refine hK.out _ _ (HS187_.out) (fun hHeld => ?_)
                clear hK K
                refine norm_ (a' := ?_) ?_ ?_; rotate_left; (show Act.put _ (some 72) _ = _; simp only [Act.put, List.setIfInBounds_toArray, List.set_cons_zero, List.set_cons_succ, i64_w, i32_w]; rfl)
                refine la_ HT_.out 6 (some 73) (fun K hK => ?_)
                (obtain ⟨ok_, hf_, hr_, hs_⟩ := (HS184_.out).app 1 rfl; refine Kd.R_append_step (Kd.int .u64) (w0 := w) w.heap.size rfl (.tmp 68) (.tmp 72) 74 46 (.int .u64 0) 8 rfl Try.underlying74 info46 rfl (by decide) (by omega) (.slice Aw ws.length cw) ws (y) [.int .u64 y] ok_ (fun _ => False) rfl rfl rfl (fun _ hk => hk.elim) hf_ hr_ (HS184_.out).below (HS184_.out).size ?aL ?_; (case aL => have := HLW.out; omega); intro Ap192_ w190_ ho_ hb_ hg_ hat_; have HS191_ := Aside0.mk (hs_ _ _ _ ho_ hb_ hg_); have hN_ := Kd.R_slice ho_; obtain ⟨A193_, c195_, rfl⟩ := hN_; clear ho_ hb_ hg_ hat_ hf_ hr_ hs_  HS187_)
                clear HS184_
                have HS196_ : Aside0 (St w w190_ ((blkA gx #[.slice Aw ws.length cw, .slice none 0 0] 106) :: (rowA w.heap.size (Kd.int .u64) 46 (.slice A193_ ws1.length c195_) ws1) :: (blkA gm #[.slice Am ms.length cm] 65) :: (rowA w.heap.size k71 71 (.slice Am ms.length cm) ms) :: (blkA go #[.slice (some ad) o.length co] 40) :: (rowA w.heap.size (Kd.int .i64) 3 (.slice (some ad) o.length co) o) :: (blkA gr #[.slice none 0 0, .slice none 0 0] 106) :: (blkA gh #[.slice A0_0 l0_0.length c0_0, .slice A0_1 l0_1.length c0_1] 106) :: [])) := ⟨by rw [HW1.out]; exact HS191_.out⟩; clear HS191_; rw [← HW1.out]
                refine hK.out _ _ ?_
                clear hK K
                refine norm_ (a' := ?_) ?_ ?_; rotate_left; (show Act.put _ (some 73) _ = _; simp only [Act.put, List.setIfInBounds_toArray, List.set_cons_zero, List.set_cons_succ, i64_w, i32_w]; rfl)
                refine la_ HT_.out 10 (some 77) (fun K hK => ?_)
                refine call_ 109 #[.slice B bd.length c2, .pointer (some ⟨gm, 0, none⟩)] (by rfl) rfl ?_ ?_
                · go_simp; first | done | rfl
                refine (turned_walk k w190_ gm Am cm ms B c2 bd t (Kd.C_below HCB.out HS196_.out.below) ((HS196_.out.cell 2 rfl 0).trans rfl) (Kd.R_reads' (HS196_.out.row 3 rfl)).2.2 HTF.out).mono ?_
                rintro e_ w199_ ⟨v5, rfl, ho_, hb_⟩
                obtain ⟨A5, c5, rfl⟩ := Kd.R_slice ho_
                have HV := Aside0.mk ho_
                have HS200_ := Aside0.mk (HS196_.out.call hb_)
                refine ⟨_, rfl, ?_⟩
                clear ho_ hb_ HS196_
                refine hK.out _ _ ?_
                clear hK K
                refine norm_ (a' := ?_) ?_ ?_; rotate_left; (show Act.put _ (some 77) _ = _; simp only [Act.put, List.setIfInBounds_toArray, List.set_cons_zero, List.set_cons_succ, i64_w, i32_w]; rfl)
                refine la_ HT_.out 11 (some 78) (fun K hK => ?_)
                (obtain ⟨ok_, hf_, hr_, hs_⟩ := (HS200_.out).app 1 rfl; refine Kd.R_append_rows_step (Kd.int .u64) (Rr := (Kd.int .u64).K w199_) (w0 := w) w.heap.size rfl (.tmp 73) (.tmp 77) 74 46 (.int .u64 0) 8 rfl Try.underlying74 info46 rfl (by decide) (by omega) (.slice A193_ ws1.length c195_) ws1 t A5 t.length c5 ok_ (fun _ => False) rfl rfl hr_ ?aR ?aM (fun _ hk => hk.elim) hf_ (HS200_.out).below (HS200_.out).size ?aL ?_; (case aR => exact (Kd.R_reads' HV.out).2.2); (case aM => exact fun x cs h => h); (case aL => have := HLW2.out; omega); intro Ap205_ w203_ ho_ hb_ hg_ hat_; have HS204_ := Aside0.mk (hs_ _ _ _ ho_ hb_ hg_); have hN_ := Kd.R_slice ho_; obtain ⟨A206_, c208_, rfl⟩ := hN_; clear ho_ hb_ hg_ hat_ hf_ hr_ hs_  HS200_)
                have HS209_ : Aside0 (St w w203_ ((blkA gx #[.slice Aw ws.length cw, .slice none 0 0] 106) :: (rowA w.heap.size (Kd.int .u64) 46 (.slice A206_ ws2.length c208_) ws2) :: (blkA gm #[.slice Am ms.length cm] 65) :: (rowA w.heap.size k71 71 (.slice Am ms.length cm) ms) :: (blkA go #[.slice (some ad) o.length co] 40) :: (rowA w.heap.size (Kd.int .i64) 3 (.slice (some ad) o.length co) o) :: (blkA gr #[.slice none 0 0, .slice none 0 0] 106) :: (blkA gh #[.slice A0_0 l0_0.length c0_0, .slice A0_1 l0_1.length c0_1] 106) :: [])) := ⟨by rw [HW2.out]; exact HS204_.out⟩; clear HS204_; rw [← HW2.out]
                clear HV
                refine hK.out _ _ ?_
                clear hK K
                refine norm_ (a' := ?_) ?_ ?_; rotate_left; (show Act.put _ (some 78) _ = _; simp only [Act.put, List.setIfInBounds_toArray, List.set_cons_zero, List.set_cons_succ, i64_w, i32_w]; rfl)
                refine pu_ (v := ?_) (a' := ?_) HT_.out 12 (some 79) ?_ ?_ ?_; rotate_left 2; (intro w'; go_simp; with_reducible rfl); (simp only [Act.put, List.setIfInBounds_toArray, List.set_cons_zero, List.set_cons_succ, i64_w, i32_w]; rfl)
                refine la_ HT_.out 13 none (fun K hK => ?_)
                have c213_ : w203_.cell? ⟨gx, 0, none⟩ = some (.slice Aw ws.length cw) := (HS209_.out.cell 0 rfl 0).trans rfl
                have f214_ : w203_.frozen? ⟨gx, 0, none⟩ = false := HS209_.out.frz 0 rfl 0
                refine skip_ (w1 := ?_) (by rfl) rfl ?_ ?_; rotate_left; (go_simp; rfl)
                have HS212_ : Aside0 (St w (w203_.setCell ⟨gx, 0, none⟩ (.slice A206_ ws2.length c208_)) ((blkA gx #[.slice A206_ ws2.length c208_, .slice none 0 0] 106) :: (rowA w.heap.size (Kd.int .u64) 46 (.slice A206_ ws2.length c208_) ws2) :: (blkA gm #[.slice Am ms.length cm] 65) :: (rowA w.heap.size k71 71 (.slice Am ms.length cm) ms) :: (blkA go #[.slice (some ad) o.length co] 40) :: (rowA w.heap.size (Kd.int .i64) 3 (.slice (some ad) o.length co) o) :: (blkA gr #[.slice none 0 0, .slice none 0 0] 106) :: (blkA gh #[.slice A0_0 l0_0.length c0_0, .slice A0_1 l0_1.length c0_1] 106) :: [])) := ⟨HS209_.out.put 0 rfl 0 (.slice A206_ ws2.length c208_) rfl⟩
                clear HS209_ c213_ f214_
                refine hK.out _ _ ?_
                clear hK K
                refine dn_ HT_.out ?_
                clear HT_ HW_
                go_wp2
                go_roundw
                case rel => exact ⟨i + 1, _, _, _, by first | rw [HW.out] | rfl, ⟨by omega⟩, HX4, HS212_⟩
                case measure => simp only [intOf]; (try rw [HW.out]); omega
              · have ht : decide (i < (o.length : Int)) = false := decide_eq_false hlt
                have hx := HX.out
                rw [List.drop_eq_nil_of_le (by omega)] at hx
                obtain rfl := Option.some.inj hx
                clear hx HX hlt Hi hi0
                have c215_ : wr.cell? ⟨gh, 1, none⟩ = some (.slice A0_1 l0_1.length c0_1) := (HSr.out.cell 7 rfl 1).trans rfl
                go_wp2_with (first | (go_at_call 109; refine (turned_walk k wr gm Am cm ms A0_1 c0_1 l0_1 rs (Kd.C_below HR1.out HSr.out.below) ((HSr.out.cell 2 rfl 0).trans rfl) (Kd.R_reads' (HSr.out.row 3 rfl)).2.2 HTR.out).mono ?_; rintro e_ w216_ ⟨v7, rfl, ho_, hb_⟩; obtain ⟨A7, c7, rfl⟩ := Kd.R_slice ho_; have HS217_ := Aside0.mk (HSr.out.mrow hb_ ho_); have c218_ : w216_.cell? ⟨gx, 0, none⟩ = some (.slice Aw ws.length cw) := (HS217_.out.cell 1 rfl 0).trans rfl; have c219_ : w216_.cell? ⟨gx, 1, none⟩ = some (.slice none 0 0) := (HS217_.out.cell 1 rfl 1).trans rfl; clear ho_ hb_; clear c215_ HSr; have f220_ : w216_.frozen? ⟨gx, 0, none⟩ = false := HS217_.out.frz 1 rfl 0; have f221_ : w216_.frozen? ⟨gx, 1, none⟩ = false := HS217_.out.frz 1 rfl 1) | ((with_reducible refine gate_store (t := 74) (p := 85) rfl ?_); refine store_event (t := 74) (p := 85) (v := .tmp 84) (w1 := (w216_.setCell ⟨gx, 1, none⟩ (.slice A7 rs.length c7))) ?hg ?ho ?hn ?hr ?_; (case ho => rfl); (case hg => rfl); (case hn => rfl); (case hr => first | (go_simp; done) | (go_simp; rfl)); intro w222_ hw_; have HS223_ : Aside0 (St w w222_ ((rowA w.heap.size (Kd.int .u64) 46 (.slice A7 rs.length c7) rs) :: (blkA gx #[.slice Aw ws.length cw, .slice A7 rs.length c7] 106) :: (rowA w.heap.size (Kd.int .u64) 46 (.slice Aw ws.length cw) ws) :: (blkA gm #[.slice Am ms.length cm] 65) :: (rowA w.heap.size k71 71 (.slice Am ms.length cm) ms) :: (blkA go #[.slice Ao o.length co] 40) :: (rowA w.heap.size (Kd.int .i64) 3 (.slice Ao o.length co) o) :: (blkA gr #[.slice none 0 0, .slice none 0 0] 106) :: (blkA gh #[.slice A0_0 l0_0.length c0_0, .slice A0_1 l0_1.length c0_1] 106) :: [])) := ⟨by rw [hw_]; exact (HS217_.out.put 1 rfl 1 (.slice A7 rs.length c7) rfl)⟩; clear hw_ c218_ c219_ f220_ f221_ HS217_))
                have HF_ := Aside0.mk HS223_.out.drew
                refine st_ (fun w' => St w w' ((rowA w.heap.size (Kd.int .u64) 46 (.slice A7 rs.length c7) rs) :: (blkA gx #[.slice Aw ws.length cw, .slice A7 rs.length c7] 106) :: (rowA w.heap.size (Kd.int .u64) 46 (.slice Aw ws.length cw) ws) :: (blkA gm #[.slice Am ms.length cm] 65) :: (rowA w.heap.size k71 71 (.slice Am ms.length cm) ms) :: (blkA go #[.slice Ao o.length co] 40) :: (rowA w.heap.size (Kd.int .i64) 3 (.slice Ao o.length co) o) :: (blkA gh #[.slice A0_0 l0_0.length c0_0, .slice A0_1 l0_1.length c0_1] 106) :: [])) backstitchref3_Moved.tab25 backstitchref3_Moved.bits25 ((HF_.out).drop 7 rfl) (fun HT_ HW_ hHeld => ?_)
                clear HS223_
                generalize w222_.drew = w224_ at hHeld HF_ ⊢
                refine tk_ (v := ?_) (a' := ?_) HT_.out HW_.out hHeld 0 (some 86) ?_ ?_ ?_; rotate_left 2; (intro w' hS; have s0 : w'.cell? ⟨gx, 0, none⟩ = some _ := hS.cell 1 rfl 0; have s1 : w'.cell? ⟨gx, 1, none⟩ = some _ := hS.cell 1 rfl 1; go_simp; with_reducible rfl); (simp only [Act.put, List.setIfInBounds_toArray, List.set_cons_zero, List.set_cons_succ, i64_w, i32_w]; rfl)
                refine tk_ (v := ?_) (a' := ?_) HT_.out HW_.out hHeld 1 (some 87) ?_ ?_ ?_; rotate_left 2; (intro w' hS; have s0 : w'.cell? ⟨gm, 0, none⟩ = some _ := hS.cell 3 rfl 0; go_simp; with_reducible rfl); (simp only [Act.put, List.setIfInBounds_toArray, List.set_cons_zero, List.set_cons_succ, i64_w, i32_w]; rfl)
                refine on_ HT_.out 2 none (fun K hK => ?_)
                have c228_ : w224_.cell? ⟨gr, 0, none⟩ = some (.slice none 0 0) := (HF_.out.cell 7 rfl 0).trans rfl; have c229_ : w224_.cell? ⟨gr, 1, none⟩ = some (.slice none 0 0) := (HF_.out.cell 7 rfl 1).trans rfl
                have f230_ : w224_.frozen? ⟨gr, 0, none⟩ = false := HF_.out.frz 7 rfl 0; have f231_ : w224_.frozen? ⟨gr, 1, none⟩ = false := HF_.out.frz 7 rfl 1
                refine skip_ (w1 := ?_) (by rfl) rfl ?_ ?_; rotate_left; (go_simp; rfl)
                have HS227_ : Aside0 (St w ((w224_.setCell ⟨gr, 0, none⟩ (.slice Aw ws.length cw)).setCell ⟨gr, 1, none⟩ (.slice A7 rs.length c7)) ((rowA w.heap.size (Kd.int .u64) 46 (.slice A7 rs.length c7) rs) :: (blkA gx #[.slice Aw ws.length cw, .slice A7 rs.length c7] 106) :: (rowA w.heap.size (Kd.int .u64) 46 (.slice Aw ws.length cw) ws) :: (blkA gm #[.slice Am ms.length cm] 65) :: (rowA w.heap.size k71 71 (.slice Am ms.length cm) ms) :: (blkA go #[.slice Ao o.length co] 40) :: (rowA w.heap.size (Kd.int .i64) 3 (.slice Ao o.length co) o) :: (blkA gr #[.slice Aw ws.length cw, .slice A7 rs.length c7] 106) :: (blkA gh #[.slice A0_0 l0_0.length c0_0, .slice A0_1 l0_1.length c0_1] 106) :: [])) := ⟨((HF_.out.put 7 rfl 0 (.slice Aw ws.length cw) rfl).put 7 rfl 1 (.slice A7 rs.length c7) rfl)⟩
                clear HF_ c228_ c229_ f230_ f231_
                try clear hHeld
                refine hK.out _ _ ((HS227_.out).drop 7 rfl) (fun hHeld => ?_)
                clear hK K
                refine pu_ (v := ?_) (a' := ?_) HT_.out 3 (some 3) ?_ ?_ ?_; rotate_left 2; (intro w'; go_simp; with_reducible rfl); (simp only [Act.put, List.setIfInBounds_toArray, List.set_cons_zero, List.set_cons_succ, i64_w, i32_w]; rfl)
                refine dn_ HT_.out ?_
                clear hHeld HT_ HW_
                try go_wp2
                refine bodyPost_ret (results_ct rfl _ _ gr 106 #[.slice Aw ws.length cw, .slice A7 rs.length c7] (0, 0) _ rfl (HS227_.out.blk 7 rfl) Try.underlying106 rfl (by kernel_rfl)) rfl ?_
                have htw := St.two ((((((((((HS227_.out).front 8 rfl).front 8 rfl).front 8 rfl).front 8 rfl).front 8 rfl).front 8 rfl).front 7 rfl).front 7 rfl).front 8 rfl)
                exact ⟨_, _, _, rfl, htw.1, htw.2, HS227_.out.row 4 rfl, HS227_.out.below⟩
end

end Go.Proofs.Ytlojkphocbbjdaa.PHaulTells
