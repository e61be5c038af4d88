-- Printed for this claim by a program of this session (inj.py), beside the kit's print. Not trusted: Lean checks it.
import Derived.Test.YtlojkphocbbjdaaPLeaveCellsx0
import Derived.Test.YtlojkphocbbjdaaPLeaveCellsx1
import Derived.Test.YtlojkphocbbjdaaPLeaveCellsx2
namespace Go.Proofs.Ytlojkphocbbjdaa.PLeaveCells
open Go.RowKit Go.Proofs.YtlojkphocbbjdaaW.PrintWords Go.Proofs.YtlojkphocbbjdaaW.PrintLast Go.Proofs.YtlojkphocbbjdaaW.PrintMore
attribute [local go_sem] max2_int min2_int max_two min_two max_three min_three max_four min_four   -- for this text's walks alone
set_option linter.unusedVariables false
set_option linter.unusedSimpArgs false

attribute [local go_sem high] eqA23
/-! ### backstitchlaw3_leftBy: function 15 -/
def backstitchlaw3_leftBy.f (k : Nat)  : Option (Bool) := (leave_Frame.f k 0 0 0 0 0 0 (([(⟨0, 0⟩ : S23), (⟨0, 0⟩ : S23)] : List (S23))) ([] : List (S44)) 5 0 (([(⟨1, 0⟩ : S38)] : List (S38))) ([] : List (S63)) (([(⟨2, 9⟩ : S23)] : List (S23)))).bind fun bt135 => (if bt135.2.2.2.2.2.2.2.2 = 0 then (if bt135.2.1 = 5 then (if 1 < (bt135.2.2.2.2.2.2.1.length : Int) then (some (((rd_T23 bt135.2.2.2.2.2.2.1 1).f0) == 2 && (((rd_T23 bt135.2.2.2.2.2.2.1 1).f1) == 9))) else (none)) else (some false)) else (some false))
theorem backstitchlaw3_leftBy.mono : ∀ k, LeO (backstitchlaw3_leftBy.f k ) (backstitchlaw3_leftBy.f (k + 1) ) := by
  intro  k
  unfold backstitchlaw3_leftBy.f
  repeat' first
      | (with_reducible exact leave_Frame.mono _ _ _ _ _ _ _ _ _ _ _ _ _ _)
      | (with_reducible exact LeO.refl _)
      | (with_reducible exact LeO.none _)
      | (with_reducible refine LeO.ite ?_ ?_)
      | (with_reducible refine LeO.bind ?_ (fun _ => ?_))
      | exact leave_Frame.mono _ _ _ _ _ _ _ _ _ _ _ _ _ _
      | exact LeO.none _
      | refine LeO.ite ?_ ?_
      | refine LeO.bind ?_ (fun _ => ?_)
set_option maxHeartbeats 8000000 in
set_option maxRecDepth 100000 in
theorem backstitchlaw3_leftBy.calls (k : Nat)  (r : Bool) (w : World) (h : backstitchlaw3_leftBy.f k  = some r) :
    Calls Try.prog 15 #[] w fun e w' => e = .returned (.bool r) ∧ Below w.heap.size w w' := by
  have hu23 := Try.underlying23
  have hu27 := Try.underlying27
  have hu38 := Try.underlying38
  have hu31 := Try.underlying31
  have HB := Aside0.mk (Below.refl w.heap.size w)
  have H : ((leave_Frame.f k 0 0 0 0 0 0 (([(⟨0, 0⟩ : S23), (⟨0, 0⟩ : S23)] : List (S23))) ([] : List (S44)) 5 0 (([(⟨1, 0⟩ : S38)] : List (S38))) ([] : List (S63)) (([(⟨2, 9⟩ : S23)] : List (S23)))).bind fun bt135 => (if bt135.2.2.2.2.2.2.2.2 = 0 then (if bt135.2.1 = 5 then (if 1 < (bt135.2.2.2.2.2.2.1.length : Int) then (some (((rd_T23 bt135.2.2.2.2.2.2.1 1).f0) == 2 && (((rd_T23 bt135.2.2.2.2.2.2.1 1).f1) == 9))) else (none)) else (some false)) else (some false))) = some r := h
  clear h
  obtain ⟨y126, hy126⟩ : ∃ y_ : List (S23), y_ = (([(⟨0, 0⟩ : S23), (⟨0, 0⟩ : S23)] : List (S23))) := ⟨_, rfl⟩
  replace H : ((leave_Frame.f k 0 0 0 0 0 0 y126 ([] : List (S44)) 5 0 (([(⟨1, 0⟩ : S38)] : List (S38))) ([] : List (S63)) (([(⟨2, 9⟩ : S23)] : List (S23)))).bind fun bt135 => (if bt135.2.2.2.2.2.2.2.2 = 0 then (if bt135.2.1 = 5 then (if 1 < (bt135.2.2.2.2.2.2.1.length : Int) then (some (((rd_T23 bt135.2.2.2.2.2.2.1 1).f0) == 2 && (((rd_T23 bt135.2.2.2.2.2.2.1 1).f1) == 9))) else (none)) else (some false)) else (some false))) = some r := by first | (rw [hy126]; with_reducible exact H) | (have H2_ := (Option.bind_some _ _).symm.trans H; rw [hy126]; with_reducible exact H2_) | (have H2_ := (Option.bind_some _ _).symm.trans H; with_reducible exact H2_) | with_reducible exact H | (rw [hy126]; exact H) | exact H
  have Ny126 := Aside0.mk hy126
  clear hy126
  obtain ⟨y129, hy129⟩ : ∃ y_ : List (S38), y_ = (([(⟨1, 0⟩ : S38)] : List (S38))) := ⟨_, rfl⟩
  replace H : ((leave_Frame.f k 0 0 0 0 0 0 y126 ([] : List (S44)) 5 0 y129 ([] : List (S63)) (([(⟨2, 9⟩ : S23)] : List (S23)))).bind fun bt135 => (if bt135.2.2.2.2.2.2.2.2 = 0 then (if bt135.2.1 = 5 then (if 1 < (bt135.2.2.2.2.2.2.1.length : Int) then (some (((rd_T23 bt135.2.2.2.2.2.2.1 1).f0) == 2 && (((rd_T23 bt135.2.2.2.2.2.2.1 1).f1) == 9))) else (none)) else (some false)) else (some false))) = some r := by first | (rw [hy129]; with_reducible exact H) | (have H2_ := (Option.bind_some _ _).symm.trans H; rw [hy129]; with_reducible exact H2_) | (have H2_ := (Option.bind_some _ _).symm.trans H; with_reducible exact H2_) | with_reducible exact H | (rw [hy129]; exact H) | exact H
  have Ny129 := Aside0.mk hy129
  clear hy129
  obtain ⟨y132, hy132⟩ : ∃ y_ : List (S23), y_ = (([(⟨2, 9⟩ : S23)] : List (S23))) := ⟨_, rfl⟩
  replace H : ((leave_Frame.f k 0 0 0 0 0 0 y126 ([] : List (S44)) 5 0 y129 ([] : List (S63)) y132).bind fun bt135 => (if bt135.2.2.2.2.2.2.2.2 = 0 then (if bt135.2.1 = 5 then (if 1 < (bt135.2.2.2.2.2.2.1.length : Int) then (some (((rd_T23 bt135.2.2.2.2.2.2.1 1).f0) == 2 && (((rd_T23 bt135.2.2.2.2.2.2.1 1).f1) == 9))) else (none)) else (some false)) else (some false))) = some r := by first | (rw [hy132]; with_reducible exact H) | (have H2_ := (Option.bind_some _ _).symm.trans H; rw [hy132]; with_reducible exact H2_) | (have H2_ := (Option.bind_some _ _).symm.trans H; with_reducible exact H2_) | with_reducible exact H | (rw [hy132]; exact H) | exact H
  have Ny132 := Aside0.mk hy132
  clear hy132
  replace H := Option.bind_eq_some_iff.mp H
  obtain ⟨⟨t135, t136, t137, t138, t139, t140, t141, t144, t147⟩, A10, H⟩ := H
  replace H : (if t147 = 0 then (if t136 = 5 then (if 1 < (t141.length : Int) then (some (((rd_T23 t141 1).f0) == 2 && (((rd_T23 t141 1).f1) == 9))) else (none)) else (some false)) else (some false)) = some r := H
  have A1 := Aside0.mk A10
  clear A10
  by_cases c2 : t147 = 0
  · rw [if_pos c2] at H
    have c2b0 : (t147 == 0) = true := beq_iff_eq.mpr c2
    have c2b1 : (t147 != 0) = false := bne_eq_false_iff_eq.mpr c2
    clear c2
    by_cases c3 : t136 = 5
    · rw [if_pos c3] at H
      have c3b0 : (t136 == 5) = true := beq_iff_eq.mpr c3
      have c3b1 : (t136 != 5) = false := bne_eq_false_iff_eq.mpr c3
      clear c3
      by_cases c4 : 1 < (t141.length : Int)
      · rw [if_pos c4] at H
        have c4b0 : decide (1 < (t141.length : Int)) = true := decide_eq_true c4
        have c4b1 : decide (1 < t141.length) = true := decide_eq_true (by omega)
        clear c4
        obtain rfl := Option.some.inj H
        go_enter Try.func15, Try.ntmps15
        go_wp2_with (first | ((with_reducible refine gate_dst (N := 6) rfl ?_); refine Kd.R_lit k23 _ 23 ?hg (N := 6) ?hd (xs := ([(⟨0, 0⟩ : S23), (⟨0, 0⟩ : S23)] : List (S23))) (inner := [.int .i64 0, .int .i64 0, .int .i64 0, .int .i64 0]) (ok := fun _ => True) (okp := fun _ => True) ?hr ?hp (fun _ hk => hk) trivial (Below.refl _ _) (Nat.le_refl _) (by simp) ?_; (case hd => rfl); (case hg => rfl); (case hr => first | (go_simp; done) | (go_simp; rfl)); (case hp => exact (Reps.c2 (show Kd.M k23 _ _ _ (⟨0, 0⟩ : S23) [.int .i64 0, .int .i64 0] from (k23_mkM _ _ _ (⟨0, 0⟩ : S23) )) (Reps.c2 (show Kd.M k23 _ _ _ (⟨0, 0⟩ : S23) [.int .i64 0, .int .i64 0] from (k23_mkM _ _ _ (⟨0, 0⟩ : S23) )) (Reps.none _ _)))); intro v127 w5 ho6 hb hg_ hnew_; clear hg_ hnew_; (first | rw [← Ny126.out] at ho6 | (simp only [Int.reduceToNat] at ho6; rw [← Ny126.out] at ho6)); have n0_ := Aside0.mk (Kd.R_lower ho6 (below_size (by repeat (first | (with_reducible first | exact HB.out | apply below_alloc | apply pw_below_drewN | apply below_drew1) | exact HB.out)))); have n1_ := Aside0.mk (below_step (by repeat (first | (with_reducible first | exact HB.out | apply below_alloc | apply pw_below_drewN | apply below_drew1) | exact HB.out)) hb); clear HB; have HO128 := n0_; have HB := n1_; clear n0_ n1_; clear hb ho6; obtain ⟨Ao7, co7, eo7⟩ := Kd.R_slice HO128.out; subst eo7) | ((with_reducible refine gate_dst (N := 9) rfl ?_); refine Kd.R_lit k38 _ 38 ?hg (N := 9) ?hd (xs := ([(⟨1, 0⟩ : S38)] : List (S38))) (inner := [.int .i64 1, .int .i64 0]) (ok := fun _ => True) (okp := fun _ => True) ?hr ?hp (fun _ hk => hk) trivial (Below.refl _ _) (Nat.le_refl _) (by simp) ?_; (case hd => rfl); (case hg => rfl); (case hr => first | (go_simp; done) | (go_simp; rfl)); (case hp => exact (Reps.c2 (show Kd.M k38 _ _ _ (⟨1, 0⟩ : S38) [.int .i64 1, .int .i64 0] from (k38_mkM _ _ _ (⟨1, 0⟩ : S38) )) (Reps.none _ _))); intro v130 w8 ho9 hb hg_ hnew_; clear hg_ hnew_; (first | rw [← Ny129.out] at ho9 | (simp only [Int.reduceToNat] at ho9; rw [← Ny129.out] at ho9)); have n0_ := Aside0.mk (Kd.R_below (by (with_reducible repeat (first | apply Kd.R_alloc | apply Kd.R_drewN | apply Kd.R_drew)); exact HO128.out) hb); have n1_ := Aside0.mk (Kd.R_lower ho9 (below_size (by repeat (first | (with_reducible first | exact HB.out | apply below_alloc | apply pw_below_drewN | apply below_drew1) | exact HB.out)))); have n2_ := Aside0.mk (below_step (by repeat (first | (with_reducible first | exact HB.out | apply below_alloc | apply pw_below_drewN | apply below_drew1) | exact HB.out)) hb); clear HO128; clear HB; have HO128 := n0_; have HO131 := n1_; have HB := n2_; clear n0_ n1_ n2_; clear hb ho9; obtain ⟨Ao10, co10, eo10⟩ := Kd.R_slice HO131.out; subst eo10) | ((with_reducible refine gate_dst (N := 12) rfl ?_); refine Kd.R_lit k23 _ 23 ?hg (N := 12) ?hd (xs := ([(⟨2, 9⟩ : S23)] : List (S23))) (inner := [.int .i64 2, .int .i64 9]) (ok := fun _ => True) (okp := fun _ => True) ?hr ?hp (fun _ hk => hk) trivial (Below.refl _ _) (Nat.le_refl _) (by simp) ?_; (case hd => rfl); (case hg => rfl); (case hr => first | (go_simp; done) | (go_simp; rfl)); (case hp => exact (Reps.c2 (show Kd.M k23 _ _ _ (⟨2, 9⟩ : S23) [.int .i64 2, .int .i64 9] from (k23_mkM _ _ _ (⟨2, 9⟩ : S23) )) (Reps.none _ _))); intro v133 w11 ho12 hb hg_ hnew_; clear hg_ hnew_; (first | rw [← Ny132.out] at ho12 | (simp only [Int.reduceToNat] at ho12; rw [← Ny132.out] at ho12)); have n0_ := Aside0.mk (Kd.R_elder' (by (with_reducible repeat (first | apply Kd.R_alloc | apply Kd.R_drewN | apply Kd.R_drew)); exact HO128.out) (Kd.R_base ho12) hb); have n1_ := Aside0.mk (Kd.R_below (by (with_reducible repeat (first | apply Kd.R_alloc | apply Kd.R_drewN | apply Kd.R_drew)); exact HO131.out) hb); have n2_ := Aside0.mk (Kd.R_lower (Kd.R_new' ho12 (Kd.R_lt (by (with_reducible repeat (first | apply Kd.R_alloc | apply Kd.R_drewN | apply Kd.R_drew)); exact HO128.out))) (below_size (by repeat (first | (with_reducible first | exact HB.out | apply below_alloc | apply pw_below_drewN | apply below_drew1) | exact HB.out)))); have n3_ := Aside0.mk (below_step (by repeat (first | (with_reducible first | exact HB.out | apply below_alloc | apply pw_below_drewN | apply below_drew1) | exact HB.out)) hb); clear HO128; clear HO131; clear HB; have HO128 := n0_; have HO131 := n1_; have HO134 := n2_; have HB := n3_; clear n0_ n1_ n2_ n3_; clear hb ho12; obtain ⟨Ao13, co13, eo13⟩ := Kd.R_slice HO134.out; subst eo13) | ((with_reducible refine gate_callee (f := 16) rfl ?_); refine goesL_ (some 13) rfl rfl Try.func16 (by kernel_rfl) rfl #[.agg #[.int .i64 0, .int .i64 0, .int .i64 0, .int .i64 0, .int .i64 0, .int .i64 0, .slice Ao7 y126.length co7, .slice none 0 0], .agg #[.int .i64 5, .int .i64 0, .slice Ao10 y129.length co10, .slice none 0 0], .slice Ao13 y132.length co13] rfl (by (try simp only [List.map_toArray, List.map_cons, List.map_nil]); first | done | rfl | (simp only [List.length_drop, List.length_take]; rfl)) ?_; (refine (leave_Frame.calls k 0 0 0 0 0 0 _ _ y126 _ _ ([] : List (S44)) 5 0 _ _ y129 _ _ ([] : List (S63)) _ _ y132 t135 t136 t137 t138 t139 t140 t141 t144 t147 _ ?side1 ?side2 ?side3 ?side4 ?side5 ?side6 ?side7 ?side8 ?side9 ?side10 A1.out).mono ?_); (case side1 => repeat (first | exact (Kd.R_reads' HO128.out).2.2 | (with_reducible refine Kd.C_alloc ?_ _) | (with_reducible refine Kd.C_drewN ?_ _) | (with_reducible refine Kd.C_drew ?_))); (case side2 => exact (Kd.R_reads' HO128.out).2.1); (case side3 => exact Kd.C_nil _ _); (case side4 => exact Nat.le_refl _); (case side5 => repeat (first | exact (Kd.R_reads' HO131.out).2.2 | (with_reducible refine Kd.C_alloc ?_ _) | (with_reducible refine Kd.C_drewN ?_ _) | (with_reducible refine Kd.C_drew ?_))); (case side6 => exact (Kd.R_reads' HO131.out).2.1); (case side7 => exact Kd.C_nil _ _); (case side8 => exact Nat.le_refl _); (case side9 => repeat (first | exact (Kd.R_reads' HO134.out).2.2 | (with_reducible refine Kd.C_alloc ?_ _) | (with_reducible refine Kd.C_drewN ?_ _) | (with_reducible refine Kd.C_drew ?_))); (case side10 => exact (Kd.R_reads' HO134.out).2.1); rintro e w14 ⟨v142, v145, rfl, ho0, ho1, hb⟩; refine ⟨_, rfl, ?_⟩; have n0_ := Aside0.mk (Kd.R_elder' (by (with_reducible repeat (first | apply Kd.R_alloc | apply Kd.R_drewN | apply Kd.R_drew)); exact HO128.out) (Kd.R_base ho0) hb); have n1_ := Aside0.mk (Kd.R_below (by (with_reducible repeat (first | apply Kd.R_alloc | apply Kd.R_drewN | apply Kd.R_drew)); exact HO131.out) hb); have n2_ := Aside0.mk (Kd.R_elder' (by (with_reducible repeat (first | apply Kd.R_alloc | apply Kd.R_drewN | apply Kd.R_drew)); exact HO134.out) (Kd.R_base ho0) hb); have n3_ := Aside0.mk (Kd.R_lower (Kd.R_new' (Kd.R_new' ho0 (Kd.R_lt (by (with_reducible repeat (first | apply Kd.R_alloc | apply Kd.R_drewN | apply Kd.R_drew)); exact HO128.out))) (Kd.R_lt (by (with_reducible repeat (first | apply Kd.R_alloc | apply Kd.R_drewN | apply Kd.R_drew)); exact HO134.out))) (below_size (by repeat (first | (with_reducible first | exact HB.out | apply below_alloc | apply pw_below_drewN | apply below_drew1) | exact HB.out)))); have n4_ := Aside0.mk (Kd.R_lower ho1 (below_size (by repeat (first | (with_reducible first | exact HB.out | apply below_alloc | apply pw_below_drewN | apply below_drew1) | exact HB.out)))); have n5_ := Aside0.mk (below_step (by repeat (first | (with_reducible first | exact HB.out | apply below_alloc | apply pw_below_drewN | apply below_drew1) | exact HB.out)) hb); clear HO128; clear HO131; clear HO134; clear HB; have HO128 := n0_; have HO131 := n1_; have HO134 := n2_; have HO143 := n3_; have HO146 := n4_; have HB := n5_; clear n0_ n1_ n2_ n3_ n4_ n5_; (try clear hb); (try clear hb2); (try clear hk); (try clear hi); (try clear ho0); (try clear ho1)) | ((with_reducible refine gate_dst (N := 1) rfl ?_); refine box_event ?hg (N := 1) ?hd (cs := #[.int .i64 0, .int .i64 0, .int .i64 0, .int .i64 0, .int .i64 0, .int .i64 0, .slice none 0 0, .slice none 0 0]) (t := 27) ?hr ?_; (case hd => rfl); (case hg => rfl); (case hr => first | (go_simp; done) | (go_simp; rfl)); intro gb148 hg w15 hbox hb; have n0_ := Aside0.mk (Kd.R_below (by (with_reducible repeat (first | apply Kd.R_alloc | apply Kd.R_drewN | apply Kd.R_drew)); exact HO128.out) hb); have n1_ := Aside0.mk (Kd.R_below (by (with_reducible repeat (first | apply Kd.R_alloc | apply Kd.R_drewN | apply Kd.R_drew)); exact HO131.out) hb); have n2_ := Aside0.mk (Kd.R_below (by (with_reducible repeat (first | apply Kd.R_alloc | apply Kd.R_drewN | apply Kd.R_drew)); exact HO134.out) hb); have n3_ := Aside0.mk (Kd.R_below (by (with_reducible repeat (first | apply Kd.R_alloc | apply Kd.R_drewN | apply Kd.R_drew)); exact HO143.out) hb); have n4_ := Aside0.mk (Kd.R_below (by (with_reducible repeat (first | apply Kd.R_alloc | apply Kd.R_drewN | apply Kd.R_drew)); exact HO146.out) hb); have n5_ := Aside0.mk (below_step (by repeat (first | (with_reducible first | exact HB.out | apply below_alloc | apply pw_below_drewN | apply below_drew1) | exact HB.out)) hb); have n6_ := Aside0.mk (hbox); have n7_ := Aside0.mk ((by rw [hg]; exact (below_size (by repeat (first | (with_reducible first | exact HB.out | apply below_alloc | apply pw_below_drewN | apply below_drew1) | exact HB.out))) : w.heap.size ≤ gb148)); have n8_ := Aside0.mk ((by rw [hg]; exact (below_size (by repeat (first | (with_reducible first | exact HB.out | apply below_alloc | apply pw_below_drewN | apply below_drew1) | exact HB.out))) : w.heap.size ≤ gb148)); clear HO128; clear HO131; clear HO134; clear HO143; clear HO146; clear HB; have HO128 := n0_; have HO131 := n1_; have HO134 := n2_; have HO143 := n3_; have HO146 := n4_; have HB := n5_; have BK148 := n6_; have GW148 := n7_; have GE148 := n8_; clear n0_ n1_ n2_ n3_ n4_ n5_ n6_ n7_ n8_; clear hb hbox hg; have hcz16_0 : w15.cell? ⟨gb148, 0, none⟩ = some (.int .i64 0) := (blk_cell BK148.out 0).trans rfl; have hcz16_1 : w15.cell? ⟨gb148, 1, none⟩ = some (.int .i64 0) := (blk_cell BK148.out 1).trans rfl; have hcz16_2 : w15.cell? ⟨gb148, 2, none⟩ = some (.int .i64 0) := (blk_cell BK148.out 2).trans rfl; have hcz16_3 : w15.cell? ⟨gb148, 3, none⟩ = some (.int .i64 0) := (blk_cell BK148.out 3).trans rfl; have hcz16_4 : w15.cell? ⟨gb148, 4, none⟩ = some (.int .i64 0) := (blk_cell BK148.out 4).trans rfl; have hcz16_5 : w15.cell? ⟨gb148, 5, none⟩ = some (.int .i64 0) := (blk_cell BK148.out 5).trans rfl; have hcz16_6 : w15.cell? ⟨gb148, 6, none⟩ = some (.slice none 0 0) := (blk_cell BK148.out 6).trans rfl; have hcz16_7 : w15.cell? ⟨gb148, 7, none⟩ = some (.slice none 0 0) := (blk_cell BK148.out 7).trans rfl; have hfz16_0 := blk_frozen BK148.out 0; have hfz16_1 := blk_frozen BK148.out 1; have hfz16_2 := blk_frozen BK148.out 2; have hfz16_3 := blk_frozen BK148.out 3; have hfz16_4 := blk_frozen BK148.out 4; have hfz16_5 := blk_frozen BK148.out 5; have hfz16_6 := blk_frozen BK148.out 6; have hfz16_7 := blk_frozen BK148.out 7; obtain ⟨Ao17, co17, eo17⟩ := Kd.R_slice HO143.out; subst eo17; obtain ⟨Ao18, co18, eo18⟩ := Kd.R_slice HO146.out; subst eo18; have p149 : 0 ≤ (1 : Int) := (by omega); have q149 : 1 < (t141.length : Int) := of_decide_eq_true (by first | (with_reducible assumption) | assumption); obtain ⟨ad149, e149, hx149_0, hx149_1⟩ := at_T23 (Kd.R_reads' HO143.out).2.2 1 p149 q149; cases e149; (try simp only [show (1 : Int).toNat = 1 from rfl, Nat.reduceMul, Nat.reduceEqDiff, Go.Addr.add, ↓reduceIte] at hx149_0); (try simp only [show (1 : Int).toNat = 1 from rfl, Nat.reduceMul, Nat.reduceEqDiff, Go.Addr.add, ↓reduceIte] at hx149_1); have qi149 : (1 < t141.length) = True := eq_true (by omega); (try rw [show ((1 : Int)).toNat = 1 from rfl] at hx149_0); (try rw [show 1 * 2 = 2 from rfl] at hx149_0); (try rw [show ((1 : Int)).toNat = 1 from rfl] at hx149_1); (try rw [show 1 * 2 = 2 from rfl] at hx149_1); have hn149_0 : ad149.block ≠ gb148 := Kd.own_blk (Kd.R_ne HO143.out BK148.out (by decide)); have hn149_1 : ad149.block ≠ gb148 := Kd.own_blk (Kd.R_ne HO143.out BK148.out (by decide)); have hn149_2 : ad149.block ≠ gb148 := Kd.own_blk (Kd.R_ne HO143.out BK148.out (by decide)); have hn149_3 : ad149.block ≠ gb148 := Kd.own_blk (Kd.R_ne HO143.out BK148.out (by decide)); have hn149_4 : ad149.block ≠ gb148 := Kd.own_blk (Kd.R_ne HO143.out BK148.out (by decide)); have hn149_5 : ad149.block ≠ gb148 := Kd.own_blk (Kd.R_ne HO143.out BK148.out (by decide)); have hn149_6 : ad149.block ≠ gb148 := Kd.own_blk (Kd.R_ne HO143.out BK148.out (by decide)); have hn149_7 : ad149.block ≠ gb148 := Kd.own_blk (Kd.R_ne HO143.out BK148.out (by decide)); replace hx149_0 := (cell_far (p := ⟨gb148, 0, none⟩) (by first | (rw [add_block]; exact hn149_0) | (show (Addr.add _ _).block ≠ _; rw [add_block]; exact hn149_0) | exact hn149_0) (.int .i64 t135)).trans hx149_0; replace hx149_1 := (cell_far (p := ⟨gb148, 0, none⟩) (by first | (rw [add_block]; exact hn149_0) | (show (Addr.add _ _).block ≠ _; rw [add_block]; exact hn149_0) | exact hn149_0) (.int .i64 t135)).trans hx149_1; replace hx149_0 := (cell_far (p := ⟨gb148, 1, none⟩) (by first | (rw [add_block]; exact hn149_1) | (show (Addr.add _ _).block ≠ _; rw [add_block]; exact hn149_1) | exact hn149_1) (.int .i64 t136)).trans hx149_0; replace hx149_1 := (cell_far (p := ⟨gb148, 1, none⟩) (by first | (rw [add_block]; exact hn149_1) | (show (Addr.add _ _).block ≠ _; rw [add_block]; exact hn149_1) | exact hn149_1) (.int .i64 t136)).trans hx149_1; replace hx149_0 := (cell_far (p := ⟨gb148, 2, none⟩) (by first | (rw [add_block]; exact hn149_2) | (show (Addr.add _ _).block ≠ _; rw [add_block]; exact hn149_2) | exact hn149_2) (.int .i64 t137)).trans hx149_0; replace hx149_1 := (cell_far (p := ⟨gb148, 2, none⟩) (by first | (rw [add_block]; exact hn149_2) | (show (Addr.add _ _).block ≠ _; rw [add_block]; exact hn149_2) | exact hn149_2) (.int .i64 t137)).trans hx149_1; replace hx149_0 := (cell_far (p := ⟨gb148, 3, none⟩) (by first | (rw [add_block]; exact hn149_3) | (show (Addr.add _ _).block ≠ _; rw [add_block]; exact hn149_3) | exact hn149_3) (.int .i64 t138)).trans hx149_0; replace hx149_1 := (cell_far (p := ⟨gb148, 3, none⟩) (by first | (rw [add_block]; exact hn149_3) | (show (Addr.add _ _).block ≠ _; rw [add_block]; exact hn149_3) | exact hn149_3) (.int .i64 t138)).trans hx149_1; replace hx149_0 := (cell_far (p := ⟨gb148, 4, none⟩) (by first | (rw [add_block]; exact hn149_4) | (show (Addr.add _ _).block ≠ _; rw [add_block]; exact hn149_4) | exact hn149_4) (.int .i64 t139)).trans hx149_0; replace hx149_1 := (cell_far (p := ⟨gb148, 4, none⟩) (by first | (rw [add_block]; exact hn149_4) | (show (Addr.add _ _).block ≠ _; rw [add_block]; exact hn149_4) | exact hn149_4) (.int .i64 t139)).trans hx149_1; replace hx149_0 := (cell_far (p := ⟨gb148, 5, none⟩) (by first | (rw [add_block]; exact hn149_5) | (show (Addr.add _ _).block ≠ _; rw [add_block]; exact hn149_5) | exact hn149_5) (.int .i64 t140)).trans hx149_0; replace hx149_1 := (cell_far (p := ⟨gb148, 5, none⟩) (by first | (rw [add_block]; exact hn149_5) | (show (Addr.add _ _).block ≠ _; rw [add_block]; exact hn149_5) | exact hn149_5) (.int .i64 t140)).trans hx149_1; replace hx149_0 := (cell_far (p := ⟨gb148, 6, none⟩) (by first | (rw [add_block]; exact hn149_6) | (show (Addr.add _ _).block ≠ _; rw [add_block]; exact hn149_6) | exact hn149_6) (.slice (some ad149) t141.length co17)).trans hx149_0; replace hx149_1 := (cell_far (p := ⟨gb148, 6, none⟩) (by first | (rw [add_block]; exact hn149_6) | (show (Addr.add _ _).block ≠ _; rw [add_block]; exact hn149_6) | exact hn149_6) (.slice (some ad149) t141.length co17)).trans hx149_1; replace hx149_0 := (cell_far (p := ⟨gb148, 7, none⟩) (by first | (rw [add_block]; exact hn149_7) | (show (Addr.add _ _).block ≠ _; rw [add_block]; exact hn149_7) | exact hn149_7) (.slice Ao18 t144.length co18)).trans hx149_0; replace hx149_1 := (cell_far (p := ⟨gb148, 7, none⟩) (by first | (rw [add_block]; exact hn149_7) | (show (Addr.add _ _).block ≠ _; rw [add_block]; exact hn149_7) | exact hn149_7) (.slice Ao18 t144.length co18)).trans hx149_1; clear hn149_0; clear hn149_1; clear hn149_2; clear hn149_3; clear hn149_4; clear hn149_5; clear hn149_6; clear hn149_7; replace p149 := eq_true p149; replace q149 := eq_true q149))
        go_ret
        exact ⟨by first | rfl | (simp [errW_none, errW_some] <;> rfl) | (simp [*, errW_none, errW_some] <;> rfl), by repeat (first | (with_reducible first | exact HB.out | apply below_alloc | apply pw_below_drewN | apply below_drew1 | refine below_set ?_ GE148.out) | exact HB.out)⟩
      · rw [if_neg c4] at H
        exact absurd H (by simp)
    · rw [if_neg c3] at H
      have c3b0 : (t136 == 5) = false := beq_eq_false_iff_ne.mpr c3
      have c3b1 : (t136 != 5) = true := bne_iff_ne.mpr c3
      obtain rfl := Option.some.inj H
      go_enter Try.func15, Try.ntmps15
      go_wp2_with (first | ((with_reducible refine gate_dst (N := 6) rfl ?_); refine Kd.R_lit k23 _ 23 ?hg (N := 6) ?hd (xs := ([(⟨0, 0⟩ : S23), (⟨0, 0⟩ : S23)] : List (S23))) (inner := [.int .i64 0, .int .i64 0, .int .i64 0, .int .i64 0]) (ok := fun _ => True) (okp := fun _ => True) ?hr ?hp (fun _ hk => hk) trivial (Below.refl _ _) (Nat.le_refl _) (by simp) ?_; (case hd => rfl); (case hg => rfl); (case hr => first | (go_simp; done) | (go_simp; rfl)); (case hp => exact (Reps.c2 (show Kd.M k23 _ _ _ (⟨0, 0⟩ : S23) [.int .i64 0, .int .i64 0] from (k23_mkM _ _ _ (⟨0, 0⟩ : S23) )) (Reps.c2 (show Kd.M k23 _ _ _ (⟨0, 0⟩ : S23) [.int .i64 0, .int .i64 0] from (k23_mkM _ _ _ (⟨0, 0⟩ : S23) )) (Reps.none _ _)))); intro v127 w19 ho20 hb hg_ hnew_; clear hg_ hnew_; (first | rw [← Ny126.out] at ho20 | (simp only [Int.reduceToNat] at ho20; rw [← Ny126.out] at ho20)); have n0_ := Aside0.mk (Kd.R_lower ho20 (below_size (by repeat (first | (with_reducible first | exact HB.out | apply below_alloc | apply pw_below_drewN | apply below_drew1) | exact HB.out)))); have n1_ := Aside0.mk (below_step (by repeat (first | (with_reducible first | exact HB.out | apply below_alloc | apply pw_below_drewN | apply below_drew1) | exact HB.out)) hb); clear HB; have HO128 := n0_; have HB := n1_; clear n0_ n1_; clear hb ho20; obtain ⟨Ao21, co21, eo21⟩ := Kd.R_slice HO128.out; subst eo21) | ((with_reducible refine gate_dst (N := 9) rfl ?_); refine Kd.R_lit k38 _ 38 ?hg (N := 9) ?hd (xs := ([(⟨1, 0⟩ : S38)] : List (S38))) (inner := [.int .i64 1, .int .i64 0]) (ok := fun _ => True) (okp := fun _ => True) ?hr ?hp (fun _ hk => hk) trivial (Below.refl _ _) (Nat.le_refl _) (by simp) ?_; (case hd => rfl); (case hg => rfl); (case hr => first | (go_simp; done) | (go_simp; rfl)); (case hp => exact (Reps.c2 (show Kd.M k38 _ _ _ (⟨1, 0⟩ : S38) [.int .i64 1, .int .i64 0] from (k38_mkM _ _ _ (⟨1, 0⟩ : S38) )) (Reps.none _ _))); intro v130 w22 ho23 hb hg_ hnew_; clear hg_ hnew_; (first | rw [← Ny129.out] at ho23 | (simp only [Int.reduceToNat] at ho23; rw [← Ny129.out] at ho23)); have n0_ := Aside0.mk (Kd.R_below (by (with_reducible repeat (first | apply Kd.R_alloc | apply Kd.R_drewN | apply Kd.R_drew)); exact HO128.out) hb); have n1_ := Aside0.mk (Kd.R_lower ho23 (below_size (by repeat (first | (with_reducible first | exact HB.out | apply below_alloc | apply pw_below_drewN | apply below_drew1) | exact HB.out)))); have n2_ := Aside0.mk (below_step (by repeat (first | (with_reducible first | exact HB.out | apply below_alloc | apply pw_below_drewN | apply below_drew1) | exact HB.out)) hb); clear HO128; clear HB; have HO128 := n0_; have HO131 := n1_; have HB := n2_; clear n0_ n1_ n2_; clear hb ho23; obtain ⟨Ao24, co24, eo24⟩ := Kd.R_slice HO131.out; subst eo24) | ((with_reducible refine gate_dst (N := 12) rfl ?_); refine Kd.R_lit k23 _ 23 ?hg (N := 12) ?hd (xs := ([(⟨2, 9⟩ : S23)] : List (S23))) (inner := [.int .i64 2, .int .i64 9]) (ok := fun _ => True) (okp := fun _ => True) ?hr ?hp (fun _ hk => hk) trivial (Below.refl _ _) (Nat.le_refl _) (by simp) ?_; (case hd => rfl); (case hg => rfl); (case hr => first | (go_simp; done) | (go_simp; rfl)); (case hp => exact (Reps.c2 (show Kd.M k23 _ _ _ (⟨2, 9⟩ : S23) [.int .i64 2, .int .i64 9] from (k23_mkM _ _ _ (⟨2, 9⟩ : S23) )) (Reps.none _ _))); intro v133 w25 ho26 hb hg_ hnew_; clear hg_ hnew_; (first | rw [← Ny132.out] at ho26 | (simp only [Int.reduceToNat] at ho26; rw [← Ny132.out] at ho26)); have n0_ := Aside0.mk (Kd.R_elder' (by (with_reducible repeat (first | apply Kd.R_alloc | apply Kd.R_drewN | apply Kd.R_drew)); exact HO128.out) (Kd.R_base ho26) hb); have n1_ := Aside0.mk (Kd.R_below (by (with_reducible repeat (first | apply Kd.R_alloc | apply Kd.R_drewN | apply Kd.R_drew)); exact HO131.out) hb); have n2_ := Aside0.mk (Kd.R_lower (Kd.R_new' ho26 (Kd.R_lt (by (with_reducible repeat (first | apply Kd.R_alloc | apply Kd.R_drewN | apply Kd.R_drew)); exact HO128.out))) (below_size (by repeat (first | (with_reducible first | exact HB.out | apply below_alloc | apply pw_below_drewN | apply below_drew1) | exact HB.out)))); have n3_ := Aside0.mk (below_step (by repeat (first | (with_reducible first | exact HB.out | apply below_alloc | apply pw_below_drewN | apply below_drew1) | exact HB.out)) hb); clear HO128; clear HO131; clear HB; have HO128 := n0_; have HO131 := n1_; have HO134 := n2_; have HB := n3_; clear n0_ n1_ n2_ n3_; clear hb ho26; obtain ⟨Ao27, co27, eo27⟩ := Kd.R_slice HO134.out; subst eo27) | ((with_reducible refine gate_callee (f := 16) rfl ?_); refine goesL_ (some 13) rfl rfl Try.func16 (by kernel_rfl) rfl #[.agg #[.int .i64 0, .int .i64 0, .int .i64 0, .int .i64 0, .int .i64 0, .int .i64 0, .slice Ao21 y126.length co21, .slice none 0 0], .agg #[.int .i64 5, .int .i64 0, .slice Ao24 y129.length co24, .slice none 0 0], .slice Ao27 y132.length co27] rfl (by (try simp only [List.map_toArray, List.map_cons, List.map_nil]); first | done | rfl | (simp only [List.length_drop, List.length_take]; rfl)) ?_; (refine (leave_Frame.calls k 0 0 0 0 0 0 _ _ y126 _ _ ([] : List (S44)) 5 0 _ _ y129 _ _ ([] : List (S63)) _ _ y132 t135 t136 t137 t138 t139 t140 t141 t144 t147 _ ?side1 ?side2 ?side3 ?side4 ?side5 ?side6 ?side7 ?side8 ?side9 ?side10 A1.out).mono ?_); (case side1 => repeat (first | exact (Kd.R_reads' HO128.out).2.2 | (with_reducible refine Kd.C_alloc ?_ _) | (with_reducible refine Kd.C_drewN ?_ _) | (with_reducible refine Kd.C_drew ?_))); (case side2 => exact (Kd.R_reads' HO128.out).2.1); (case side3 => exact Kd.C_nil _ _); (case side4 => exact Nat.le_refl _); (case side5 => repeat (first | exact (Kd.R_reads' HO131.out).2.2 | (with_reducible refine Kd.C_alloc ?_ _) | (with_reducible refine Kd.C_drewN ?_ _) | (with_reducible refine Kd.C_drew ?_))); (case side6 => exact (Kd.R_reads' HO131.out).2.1); (case side7 => exact Kd.C_nil _ _); (case side8 => exact Nat.le_refl _); (case side9 => repeat (first | exact (Kd.R_reads' HO134.out).2.2 | (with_reducible refine Kd.C_alloc ?_ _) | (with_reducible refine Kd.C_drewN ?_ _) | (with_reducible refine Kd.C_drew ?_))); (case side10 => exact (Kd.R_reads' HO134.out).2.1); rintro e w28 ⟨v142, v145, rfl, ho0, ho1, hb⟩; refine ⟨_, rfl, ?_⟩; have n0_ := Aside0.mk (Kd.R_elder' (by (with_reducible repeat (first | apply Kd.R_alloc | apply Kd.R_drewN | apply Kd.R_drew)); exact HO128.out) (Kd.R_base ho0) hb); have n1_ := Aside0.mk (Kd.R_below (by (with_reducible repeat (first | apply Kd.R_alloc | apply Kd.R_drewN | apply Kd.R_drew)); exact HO131.out) hb); have n2_ := Aside0.mk (Kd.R_elder' (by (with_reducible repeat (first | apply Kd.R_alloc | apply Kd.R_drewN | apply Kd.R_drew)); exact HO134.out) (Kd.R_base ho0) hb); have n3_ := Aside0.mk (Kd.R_lower (Kd.R_new' (Kd.R_new' ho0 (Kd.R_lt (by (with_reducible repeat (first | apply Kd.R_alloc | apply Kd.R_drewN | apply Kd.R_drew)); exact HO128.out))) (Kd.R_lt (by (with_reducible repeat (first | apply Kd.R_alloc | apply Kd.R_drewN | apply Kd.R_drew)); exact HO134.out))) (below_size (by repeat (first | (with_reducible first | exact HB.out | apply below_alloc | apply pw_below_drewN | apply below_drew1) | exact HB.out)))); have n4_ := Aside0.mk (Kd.R_lower ho1 (below_size (by repeat (first | (with_reducible first | exact HB.out | apply below_alloc | apply pw_below_drewN | apply below_drew1) | exact HB.out)))); have n5_ := Aside0.mk (below_step (by repeat (first | (with_reducible first | exact HB.out | apply below_alloc | apply pw_below_drewN | apply below_drew1) | exact HB.out)) hb); clear HO128; clear HO131; clear HO134; clear HB; have HO128 := n0_; have HO131 := n1_; have HO134 := n2_; have HO143 := n3_; have HO146 := n4_; have HB := n5_; clear n0_ n1_ n2_ n3_ n4_ n5_; (try clear hb); (try clear hb2); (try clear hk); (try clear hi); (try clear ho0); (try clear ho1)) | ((with_reducible refine gate_dst (N := 1) rfl ?_); refine box_event ?hg (N := 1) ?hd (cs := #[.int .i64 0, .int .i64 0, .int .i64 0, .int .i64 0, .int .i64 0, .int .i64 0, .slice none 0 0, .slice none 0 0]) (t := 27) ?hr ?_; (case hd => rfl); (case hg => rfl); (case hr => first | (go_simp; done) | (go_simp; rfl)); intro gb148 hg w29 hbox hb; have n0_ := Aside0.mk (Kd.R_below (by (with_reducible repeat (first | apply Kd.R_alloc | apply Kd.R_drewN | apply Kd.R_drew)); exact HO128.out) hb); have n1_ := Aside0.mk (Kd.R_below (by (with_reducible repeat (first | apply Kd.R_alloc | apply Kd.R_drewN | apply Kd.R_drew)); exact HO131.out) hb); have n2_ := Aside0.mk (Kd.R_below (by (with_reducible repeat (first | apply Kd.R_alloc | apply Kd.R_drewN | apply Kd.R_drew)); exact HO134.out) hb); have n3_ := Aside0.mk (Kd.R_below (by (with_reducible repeat (first | apply Kd.R_alloc | apply Kd.R_drewN | apply Kd.R_drew)); exact HO143.out) hb); have n4_ := Aside0.mk (Kd.R_below (by (with_reducible repeat (first | apply Kd.R_alloc | apply Kd.R_drewN | apply Kd.R_drew)); exact HO146.out) hb); have n5_ := Aside0.mk (below_step (by repeat (first | (with_reducible first | exact HB.out | apply below_alloc | apply pw_below_drewN | apply below_drew1) | exact HB.out)) hb); have n6_ := Aside0.mk (hbox); have n7_ := Aside0.mk ((by rw [hg]; exact (below_size (by repeat (first | (with_reducible first | exact HB.out | apply below_alloc | apply pw_below_drewN | apply below_drew1) | exact HB.out))) : w.heap.size ≤ gb148)); have n8_ := Aside0.mk ((by rw [hg]; exact (below_size (by repeat (first | (with_reducible first | exact HB.out | apply below_alloc | apply pw_below_drewN | apply below_drew1) | exact HB.out))) : w.heap.size ≤ gb148)); clear HO128; clear HO131; clear HO134; clear HO143; clear HO146; clear HB; have HO128 := n0_; have HO131 := n1_; have HO134 := n2_; have HO143 := n3_; have HO146 := n4_; have HB := n5_; have BK148 := n6_; have GW148 := n7_; have GE148 := n8_; clear n0_ n1_ n2_ n3_ n4_ n5_ n6_ n7_ n8_; clear hb hbox hg; have hcz30_0 : w29.cell? ⟨gb148, 0, none⟩ = some (.int .i64 0) := (blk_cell BK148.out 0).trans rfl; have hcz30_1 : w29.cell? ⟨gb148, 1, none⟩ = some (.int .i64 0) := (blk_cell BK148.out 1).trans rfl; have hcz30_2 : w29.cell? ⟨gb148, 2, none⟩ = some (.int .i64 0) := (blk_cell BK148.out 2).trans rfl; have hcz30_3 : w29.cell? ⟨gb148, 3, none⟩ = some (.int .i64 0) := (blk_cell BK148.out 3).trans rfl; have hcz30_4 : w29.cell? ⟨gb148, 4, none⟩ = some (.int .i64 0) := (blk_cell BK148.out 4).trans rfl; have hcz30_5 : w29.cell? ⟨gb148, 5, none⟩ = some (.int .i64 0) := (blk_cell BK148.out 5).trans rfl; have hcz30_6 : w29.cell? ⟨gb148, 6, none⟩ = some (.slice none 0 0) := (blk_cell BK148.out 6).trans rfl; have hcz30_7 : w29.cell? ⟨gb148, 7, none⟩ = some (.slice none 0 0) := (blk_cell BK148.out 7).trans rfl; have hfz30_0 := blk_frozen BK148.out 0; have hfz30_1 := blk_frozen BK148.out 1; have hfz30_2 := blk_frozen BK148.out 2; have hfz30_3 := blk_frozen BK148.out 3; have hfz30_4 := blk_frozen BK148.out 4; have hfz30_5 := blk_frozen BK148.out 5; have hfz30_6 := blk_frozen BK148.out 6; have hfz30_7 := blk_frozen BK148.out 7; obtain ⟨Ao31, co31, eo31⟩ := Kd.R_slice HO143.out; subst eo31; obtain ⟨Ao32, co32, eo32⟩ := Kd.R_slice HO146.out; subst eo32))
      go_ret
      exact ⟨by first | rfl | (simp [errW_none, errW_some] <;> rfl) | (simp [*, errW_none, errW_some] <;> rfl), by repeat (first | (with_reducible first | exact HB.out | apply below_alloc | apply pw_below_drewN | apply below_drew1 | refine below_set ?_ GE148.out) | exact HB.out)⟩
  · rw [if_neg c2] at H
    have c2b0 : (t147 == 0) = false := beq_eq_false_iff_ne.mpr c2
    have c2b1 : (t147 != 0) = true := bne_iff_ne.mpr c2
    obtain rfl := Option.some.inj H
    go_enter Try.func15, Try.ntmps15
    go_wp2_with (first | ((with_reducible refine gate_dst (N := 6) rfl ?_); refine Kd.R_lit k23 _ 23 ?hg (N := 6) ?hd (xs := ([(⟨0, 0⟩ : S23), (⟨0, 0⟩ : S23)] : List (S23))) (inner := [.int .i64 0, .int .i64 0, .int .i64 0, .int .i64 0]) (ok := fun _ => True) (okp := fun _ => True) ?hr ?hp (fun _ hk => hk) trivial (Below.refl _ _) (Nat.le_refl _) (by simp) ?_; (case hd => rfl); (case hg => rfl); (case hr => first | (go_simp; done) | (go_simp; rfl)); (case hp => exact (Reps.c2 (show Kd.M k23 _ _ _ (⟨0, 0⟩ : S23) [.int .i64 0, .int .i64 0] from (k23_mkM _ _ _ (⟨0, 0⟩ : S23) )) (Reps.c2 (show Kd.M k23 _ _ _ (⟨0, 0⟩ : S23) [.int .i64 0, .int .i64 0] from (k23_mkM _ _ _ (⟨0, 0⟩ : S23) )) (Reps.none _ _)))); intro v127 w33 ho34 hb hg_ hnew_; clear hg_ hnew_; (first | rw [← Ny126.out] at ho34 | (simp only [Int.reduceToNat] at ho34; rw [← Ny126.out] at ho34)); have n0_ := Aside0.mk (Kd.R_lower ho34 (below_size (by repeat (first | (with_reducible first | exact HB.out | apply below_alloc | apply pw_below_drewN | apply below_drew1) | exact HB.out)))); have n1_ := Aside0.mk (below_step (by repeat (first | (with_reducible first | exact HB.out | apply below_alloc | apply pw_below_drewN | apply below_drew1) | exact HB.out)) hb); clear HB; have HO128 := n0_; have HB := n1_; clear n0_ n1_; clear hb ho34; obtain ⟨Ao35, co35, eo35⟩ := Kd.R_slice HO128.out; subst eo35) | ((with_reducible refine gate_dst (N := 9) rfl ?_); refine Kd.R_lit k38 _ 38 ?hg (N := 9) ?hd (xs := ([(⟨1, 0⟩ : S38)] : List (S38))) (inner := [.int .i64 1, .int .i64 0]) (ok := fun _ => True) (okp := fun _ => True) ?hr ?hp (fun _ hk => hk) trivial (Below.refl _ _) (Nat.le_refl _) (by simp) ?_; (case hd => rfl); (case hg => rfl); (case hr => first | (go_simp; done) | (go_simp; rfl)); (case hp => exact (Reps.c2 (show Kd.M k38 _ _ _ (⟨1, 0⟩ : S38) [.int .i64 1, .int .i64 0] from (k38_mkM _ _ _ (⟨1, 0⟩ : S38) )) (Reps.none _ _))); intro v130 w36 ho37 hb hg_ hnew_; clear hg_ hnew_; (first | rw [← Ny129.out] at ho37 | (simp only [Int.reduceToNat] at ho37; rw [← Ny129.out] at ho37)); have n0_ := Aside0.mk (Kd.R_below (by (with_reducible repeat (first | apply Kd.R_alloc | apply Kd.R_drewN | apply Kd.R_drew)); exact HO128.out) hb); have n1_ := Aside0.mk (Kd.R_lower ho37 (below_size (by repeat (first | (with_reducible first | exact HB.out | apply below_alloc | apply pw_below_drewN | apply below_drew1) | exact HB.out)))); have n2_ := Aside0.mk (below_step (by repeat (first | (with_reducible first | exact HB.out | apply below_alloc | apply pw_below_drewN | apply below_drew1) | exact HB.out)) hb); clear HO128; clear HB; have HO128 := n0_; have HO131 := n1_; have HB := n2_; clear n0_ n1_ n2_; clear hb ho37; obtain ⟨Ao38, co38, eo38⟩ := Kd.R_slice HO131.out; subst eo38) | ((with_reducible refine gate_dst (N := 12) rfl ?_); refine Kd.R_lit k23 _ 23 ?hg (N := 12) ?hd (xs := ([(⟨2, 9⟩ : S23)] : List (S23))) (inner := [.int .i64 2, .int .i64 9]) (ok := fun _ => True) (okp := fun _ => True) ?hr ?hp (fun _ hk => hk) trivial (Below.refl _ _) (Nat.le_refl _) (by simp) ?_; (case hd => rfl); (case hg => rfl); (case hr => first | (go_simp; done) | (go_simp; rfl)); (case hp => exact (Reps.c2 (show Kd.M k23 _ _ _ (⟨2, 9⟩ : S23) [.int .i64 2, .int .i64 9] from (k23_mkM _ _ _ (⟨2, 9⟩ : S23) )) (Reps.none _ _))); intro v133 w39 ho40 hb hg_ hnew_; clear hg_ hnew_; (first | rw [← Ny132.out] at ho40 | (simp only [Int.reduceToNat] at ho40; rw [← Ny132.out] at ho40)); have n0_ := Aside0.mk (Kd.R_elder' (by (with_reducible repeat (first | apply Kd.R_alloc | apply Kd.R_drewN | apply Kd.R_drew)); exact HO128.out) (Kd.R_base ho40) hb); have n1_ := Aside0.mk (Kd.R_below (by (with_reducible repeat (first | apply Kd.R_alloc | apply Kd.R_drewN | apply Kd.R_drew)); exact HO131.out) hb); have n2_ := Aside0.mk (Kd.R_lower (Kd.R_new' ho40 (Kd.R_lt (by (with_reducible repeat (first | apply Kd.R_alloc | apply Kd.R_drewN | apply Kd.R_drew)); exact HO128.out))) (below_size (by repeat (first | (with_reducible first | exact HB.out | apply below_alloc | apply pw_below_drewN | apply below_drew1) | exact HB.out)))); have n3_ := Aside0.mk (below_step (by repeat (first | (with_reducible first | exact HB.out | apply below_alloc | apply pw_below_drewN | apply below_drew1) | exact HB.out)) hb); clear HO128; clear HO131; clear HB; have HO128 := n0_; have HO131 := n1_; have HO134 := n2_; have HB := n3_; clear n0_ n1_ n2_ n3_; clear hb ho40; obtain ⟨Ao41, co41, eo41⟩ := Kd.R_slice HO134.out; subst eo41) | ((with_reducible refine gate_callee (f := 16) rfl ?_); refine goesL_ (some 13) rfl rfl Try.func16 (by kernel_rfl) rfl #[.agg #[.int .i64 0, .int .i64 0, .int .i64 0, .int .i64 0, .int .i64 0, .int .i64 0, .slice Ao35 y126.length co35, .slice none 0 0], .agg #[.int .i64 5, .int .i64 0, .slice Ao38 y129.length co38, .slice none 0 0], .slice Ao41 y132.length co41] rfl (by (try simp only [List.map_toArray, List.map_cons, List.map_nil]); first | done | rfl | (simp only [List.length_drop, List.length_take]; rfl)) ?_; (refine (leave_Frame.calls k 0 0 0 0 0 0 _ _ y126 _ _ ([] : List (S44)) 5 0 _ _ y129 _ _ ([] : List (S63)) _ _ y132 t135 t136 t137 t138 t139 t140 t141 t144 t147 _ ?side1 ?side2 ?side3 ?side4 ?side5 ?side6 ?side7 ?side8 ?side9 ?side10 A1.out).mono ?_); (case side1 => repeat (first | exact (Kd.R_reads' HO128.out).2.2 | (with_reducible refine Kd.C_alloc ?_ _) | (with_reducible refine Kd.C_drewN ?_ _) | (with_reducible refine Kd.C_drew ?_))); (case side2 => exact (Kd.R_reads' HO128.out).2.1); (case side3 => exact Kd.C_nil _ _); (case side4 => exact Nat.le_refl _); (case side5 => repeat (first | exact (Kd.R_reads' HO131.out).2.2 | (with_reducible refine Kd.C_alloc ?_ _) | (with_reducible refine Kd.C_drewN ?_ _) | (with_reducible refine Kd.C_drew ?_))); (case side6 => exact (Kd.R_reads' HO131.out).2.1); (case side7 => exact Kd.C_nil _ _); (case side8 => exact Nat.le_refl _); (case side9 => repeat (first | exact (Kd.R_reads' HO134.out).2.2 | (with_reducible refine Kd.C_alloc ?_ _) | (with_reducible refine Kd.C_drewN ?_ _) | (with_reducible refine Kd.C_drew ?_))); (case side10 => exact (Kd.R_reads' HO134.out).2.1); rintro e w42 ⟨v142, v145, rfl, ho0, ho1, hb⟩; refine ⟨_, rfl, ?_⟩; have n0_ := Aside0.mk (Kd.R_elder' (by (with_reducible repeat (first | apply Kd.R_alloc | apply Kd.R_drewN | apply Kd.R_drew)); exact HO128.out) (Kd.R_base ho0) hb); have n1_ := Aside0.mk (Kd.R_below (by (with_reducible repeat (first | apply Kd.R_alloc | apply Kd.R_drewN | apply Kd.R_drew)); exact HO131.out) hb); have n2_ := Aside0.mk (Kd.R_elder' (by (with_reducible repeat (first | apply Kd.R_alloc | apply Kd.R_drewN | apply Kd.R_drew)); exact HO134.out) (Kd.R_base ho0) hb); have n3_ := Aside0.mk (Kd.R_lower (Kd.R_new' (Kd.R_new' ho0 (Kd.R_lt (by (with_reducible repeat (first | apply Kd.R_alloc | apply Kd.R_drewN | apply Kd.R_drew)); exact HO128.out))) (Kd.R_lt (by (with_reducible repeat (first | apply Kd.R_alloc | apply Kd.R_drewN | apply Kd.R_drew)); exact HO134.out))) (below_size (by repeat (first | (with_reducible first | exact HB.out | apply below_alloc | apply pw_below_drewN | apply below_drew1) | exact HB.out)))); have n4_ := Aside0.mk (Kd.R_lower ho1 (below_size (by repeat (first | (with_reducible first | exact HB.out | apply below_alloc | apply pw_below_drewN | apply below_drew1) | exact HB.out)))); have n5_ := Aside0.mk (below_step (by repeat (first | (with_reducible first | exact HB.out | apply below_alloc | apply pw_below_drewN | apply below_drew1) | exact HB.out)) hb); clear HO128; clear HO131; clear HO134; clear HB; have HO128 := n0_; have HO131 := n1_; have HO134 := n2_; have HO143 := n3_; have HO146 := n4_; have HB := n5_; clear n0_ n1_ n2_ n3_ n4_ n5_; (try clear hb); (try clear hb2); (try clear hk); (try clear hi); (try clear ho0); (try clear ho1)) | ((with_reducible refine gate_dst (N := 1) rfl ?_); refine box_event ?hg (N := 1) ?hd (cs := #[.int .i64 0, .int .i64 0, .int .i64 0, .int .i64 0, .int .i64 0, .int .i64 0, .slice none 0 0, .slice none 0 0]) (t := 27) ?hr ?_; (case hd => rfl); (case hg => rfl); (case hr => first | (go_simp; done) | (go_simp; rfl)); intro gb148 hg w43 hbox hb; have n0_ := Aside0.mk (Kd.R_below (by (with_reducible repeat (first | apply Kd.R_alloc | apply Kd.R_drewN | apply Kd.R_drew)); exact HO128.out) hb); have n1_ := Aside0.mk (Kd.R_below (by (with_reducible repeat (first | apply Kd.R_alloc | apply Kd.R_drewN | apply Kd.R_drew)); exact HO131.out) hb); have n2_ := Aside0.mk (Kd.R_below (by (with_reducible repeat (first | apply Kd.R_alloc | apply Kd.R_drewN | apply Kd.R_drew)); exact HO134.out) hb); have n3_ := Aside0.mk (Kd.R_below (by (with_reducible repeat (first | apply Kd.R_alloc | apply Kd.R_drewN | apply Kd.R_drew)); exact HO143.out) hb); have n4_ := Aside0.mk (Kd.R_below (by (with_reducible repeat (first | apply Kd.R_alloc | apply Kd.R_drewN | apply Kd.R_drew)); exact HO146.out) hb); have n5_ := Aside0.mk (below_step (by repeat (first | (with_reducible first | exact HB.out | apply below_alloc | apply pw_below_drewN | apply below_drew1) | exact HB.out)) hb); have n6_ := Aside0.mk (hbox); have n7_ := Aside0.mk ((by rw [hg]; exact (below_size (by repeat (first | (with_reducible first | exact HB.out | apply below_alloc | apply pw_below_drewN | apply below_drew1) | exact HB.out))) : w.heap.size ≤ gb148)); have n8_ := Aside0.mk ((by rw [hg]; exact (below_size (by repeat (first | (with_reducible first | exact HB.out | apply below_alloc | apply pw_below_drewN | apply below_drew1) | exact HB.out))) : w.heap.size ≤ gb148)); clear HO128; clear HO131; clear HO134; clear HO143; clear HO146; clear HB; have HO128 := n0_; have HO131 := n1_; have HO134 := n2_; have HO143 := n3_; have HO146 := n4_; have HB := n5_; have BK148 := n6_; have GW148 := n7_; have GE148 := n8_; clear n0_ n1_ n2_ n3_ n4_ n5_ n6_ n7_ n8_; clear hb hbox hg; have hcz44_0 : w43.cell? ⟨gb148, 0, none⟩ = some (.int .i64 0) := (blk_cell BK148.out 0).trans rfl; have hcz44_1 : w43.cell? ⟨gb148, 1, none⟩ = some (.int .i64 0) := (blk_cell BK148.out 1).trans rfl; have hcz44_2 : w43.cell? ⟨gb148, 2, none⟩ = some (.int .i64 0) := (blk_cell BK148.out 2).trans rfl; have hcz44_3 : w43.cell? ⟨gb148, 3, none⟩ = some (.int .i64 0) := (blk_cell BK148.out 3).trans rfl; have hcz44_4 : w43.cell? ⟨gb148, 4, none⟩ = some (.int .i64 0) := (blk_cell BK148.out 4).trans rfl; have hcz44_5 : w43.cell? ⟨gb148, 5, none⟩ = some (.int .i64 0) := (blk_cell BK148.out 5).trans rfl; have hcz44_6 : w43.cell? ⟨gb148, 6, none⟩ = some (.slice none 0 0) := (blk_cell BK148.out 6).trans rfl; have hcz44_7 : w43.cell? ⟨gb148, 7, none⟩ = some (.slice none 0 0) := (blk_cell BK148.out 7).trans rfl; have hfz44_0 := blk_frozen BK148.out 0; have hfz44_1 := blk_frozen BK148.out 1; have hfz44_2 := blk_frozen BK148.out 2; have hfz44_3 := blk_frozen BK148.out 3; have hfz44_4 := blk_frozen BK148.out 4; have hfz44_5 := blk_frozen BK148.out 5; have hfz44_6 := blk_frozen BK148.out 6; have hfz44_7 := blk_frozen BK148.out 7; obtain ⟨Ao45, co45, eo45⟩ := Kd.R_slice HO143.out; subst eo45; obtain ⟨Ao46, co46, eo46⟩ := Kd.R_slice HO146.out; subst eo46))
    go_ret
    exact ⟨by first | rfl | (simp [errW_none, errW_some] <;> rfl) | (simp [*, errW_none, errW_some] <;> rfl), by repeat (first | (with_reducible first | exact HB.out | apply below_alloc | apply pw_below_drewN | apply below_drew1 | refine below_set ?_ GE148.out) | exact HB.out)⟩

/-! ### backstitchlaw3_valuesIn: function 18 -/
def backstitchlaw3_valuesIn.l0 : Nat → Int → List Int → Int → Int → Option (Bool)
  | 0, _, _, _, _ => none
  | k + 1, x1, x7, x8, x9 => if x9 < x8 then (if 0 ≤ x9 then (if x9 < (x7.length : Int) then (if (rd x7 x9) < 0 then (some false) else (if (rd x7 x9) ≥ x1 then (some false) else (backstitchlaw3_valuesIn.l0 k x1 x7 x8 (wrap64 (x9 + 1))))) else (none)) else (none)) else (some true)
def backstitchlaw3_valuesIn.f (k : Nat) (l0 : List Int) (a1 : Int) : Option (Bool) := backstitchlaw3_valuesIn.l0 k a1 l0 (l0.length : Int) 0
theorem backstitchlaw3_valuesIn.mono_l : ∀ k, (∀ y0 y1 y2 y3, LeO (backstitchlaw3_valuesIn.l0 k y0 y1 y2 y3) (backstitchlaw3_valuesIn.l0 (k + 1) y0 y1 y2 y3))
  | 0 => fun _ _ _ _ r h => by simp [backstitchlaw3_valuesIn.l0] at h
  | k + 1 => by
    have ih0 := backstitchlaw3_valuesIn.mono_l k
    · intro y0 y1 y2 y3
      unfold backstitchlaw3_valuesIn.l0
      repeat' first
      | (with_reducible exact ih0 _ _ _ _)
      | (with_reducible exact LeO.refl _)
      | (with_reducible exact LeO.none _)
      | (with_reducible refine LeO.ite ?_ ?_)
      | (with_reducible refine LeO.bind ?_ (fun _ => ?_))
      | exact ih0 _ _ _ _
      | exact LeO.none _
      | refine LeO.ite ?_ ?_
      | refine LeO.bind ?_ (fun _ => ?_)
theorem backstitchlaw3_valuesIn.mono : ∀ a0 a1 k, LeO (backstitchlaw3_valuesIn.f k a0 a1) (backstitchlaw3_valuesIn.f (k + 1) a0 a1) := by
  intro a0 a1 k
  have ih0 := backstitchlaw3_valuesIn.mono_l k
  unfold backstitchlaw3_valuesIn.f
  repeat' first
      | (with_reducible exact ih0 _ _ _ _)
      | (with_reducible exact LeO.refl _)
      | (with_reducible exact LeO.none _)
      | (with_reducible refine LeO.ite ?_ ?_)
      | (with_reducible refine LeO.bind ?_ (fun _ => ?_))
      | exact ih0 _ _ _ _
      | exact LeO.none _
      | refine LeO.ite ?_ ?_
      | refine LeO.bind ?_ (fun _ => ?_)
set_option maxHeartbeats 8000000 in
set_option maxRecDepth 100000 in
theorem backstitchlaw3_valuesIn.calls (k : Nat) (A0 : Option Addr) (c0 : Nat) (l0 : List Int) (a1 : Int) (r : Bool) (w : World) (hr0 : Kd.C (Kd.int .i64) w A0 l0.length l0) (hc0 : l0.length ≤ c0) (h : backstitchlaw3_valuesIn.f k l0 a1 = some r) :
    Calls Try.prog 18 #[.slice A0 l0.length c0, .int .i64 a1] w fun e w' => e = .returned (.bool r) ∧ Drawn0 w w' := by
  have HR0 := Aside0.mk hr0
  have HC0 := Aside0.mk hc0
  clear hr0 hc0
  have H : (backstitchlaw3_valuesIn.l0 k a1 l0 (l0.length : Int) 0) = some r := h
  clear h
  have H' := Aside0.mk H
  clear H
  go_enter Try.func18, Try.ntmps18
  go_wp2
  go_loopg [9] k (fun kq v9 w' => ∃ (x9_1 : Int), v9 = .int .i64 x9_1 ∧ Aside0 (backstitchlaw3_valuesIn.l0 kq a1 l0 (l0.length : Int) x9_1 = some r) ∧ Aside0 (kq ≤ k) ∧ Drawn0 w w')
  case atStart => exact ⟨(0), (by first | rfl | (simp; done) | (simp [*]; done)), H', ⟨Nat.le_refl _⟩, by repeat (first | exact Drawn0.refl _ | apply Drawn0.step)⟩
  case round =>
    clear H'
    try clear c1
    try clear p2
    obtain ⟨x9_1, rfl, HA, HK1, ⟨m1, rfl⟩⟩ := hrel
    cases gk with
    | zero => exact absurd HA.out (by simp [backstitchlaw3_valuesIn.l0])
    | succ k1 =>
      have H := HA.out
      clear HA
      simp only [backstitchlaw3_valuesIn.l0] at H
      by_cases c3 : x9_1 < (l0.length : Int)
      · rw [if_pos c3] at H
        have c3b0 : decide (x9_1 < (l0.length : Int)) = true := decide_eq_true c3
        clear c3
        by_cases c4 : 0 ≤ x9_1
        · rw [if_pos c4] at H
          have c4b0 : decide (0 ≤ x9_1) = true := decide_eq_true c4
          clear c4
          by_cases c5 : x9_1 < (l0.length : Int)
          · rw [if_pos c5] at H
            have c5b0 : decide (x9_1 < (l0.length : Int)) = true := decide_eq_true c5
            clear c5
            by_cases c6 : (rd l0 x9_1) < 0
            · rw [if_pos c6] at H
              have c6b0 : decide ((rd l0 x9_1) < 0) = true := decide_eq_true c6
              clear c6
              obtain rfl := Option.some.inj H
              have p150 : 0 ≤ (x9_1 : Int) := of_decide_eq_true (by first | (with_reducible assumption) | assumption)
              have q150 : x9_1 < (l0.length : Int) := of_decide_eq_true (by first | (with_reducible assumption) | assumption)
              obtain ⟨ad150, e150, hx150_0⟩ := Kd.at_int HR0.out x9_1 p150 q150
              cases e150
              replace p150 := eq_true p150
              replace q150 := eq_true q150
              go_wp2
              go_ret
              exact ⟨by first | rfl | (simp; done) | (simp [*]; done), by repeat (first | exact Drawn0.refl _ | apply Drawn0.step)⟩
            · rw [if_neg c6] at H
              have c6b0 : decide ((rd l0 x9_1) < 0) = false := decide_eq_false c6
              clear c6
              by_cases c7 : (rd l0 x9_1) ≥ a1
              · rw [if_pos c7] at H
                have c7b0 : decide (a1 ≤ (rd l0 x9_1)) = true := decide_eq_true c7
                clear c7
                obtain rfl := Option.some.inj H
                have p150 : 0 ≤ (x9_1 : Int) := of_decide_eq_true (by first | (with_reducible assumption) | assumption)
                have q150 : x9_1 < (l0.length : Int) := of_decide_eq_true (by first | (with_reducible assumption) | assumption)
                obtain ⟨ad150, e150, hx150_0⟩ := Kd.at_int HR0.out x9_1 p150 q150
                cases e150
                replace p150 := eq_true p150
                replace q150 := eq_true q150
                go_wp2
                go_ret
                exact ⟨by first | rfl | (simp; done) | (simp [*]; done), by repeat (first | exact Drawn0.refl _ | apply Drawn0.step)⟩
              · rw [if_neg c7] at H
                have c7b0 : decide (a1 ≤ (rd l0 x9_1)) = false := decide_eq_false c7
                clear c7
                have H' := Aside0.mk H
                clear H
                have p150 : 0 ≤ (x9_1 : Int) := of_decide_eq_true (by first | (with_reducible assumption) | assumption)
                have q150 : x9_1 < (l0.length : Int) := of_decide_eq_true (by first | (with_reducible assumption) | assumption)
                obtain ⟨ad150, e150, hx150_0⟩ := Kd.at_int HR0.out x9_1 p150 q150
                cases e150
                replace p150 := eq_true p150
                replace q150 := eq_true q150
                go_wp2
                go_roundg k1
                case measure => have := HK1.out; omega
                case rel => exact ⟨(wrap64 (x9_1 + 1)), (by first | rfl | (simp; done) | (simp [*]; done)), H', ⟨by have := HK1.out; omega⟩, by repeat (first | exact Drawn0.refl _ | apply Drawn0.step)⟩
          · rw [if_neg c5] at H
            exact absurd H (by simp)
        · rw [if_neg c4] at H
          exact absurd H (by simp)
      · rw [if_neg c3] at H
        have c3b0 : decide (x9_1 < (l0.length : Int)) = false := decide_eq_false c3
        clear c3
        obtain rfl := Option.some.inj H
        go_wp2
        go_ret
        exact ⟨by first | rfl | (simp; done) | (simp [*]; done), by repeat (first | exact Drawn0.refl _ | apply Drawn0.step)⟩

/-! ### api_Val_19: function 19 -/
def api_Val_19.l0 : Nat → List (S23) → List (S23) → Int → Int → Option (Bool)
  | 0, _, _, _, _ => none
  | k + 1, x1, x12, x13, x14 => if x14 < x13 then (if 0 ≤ x14 then (if x14 < (x12.length : Int) then (if x14 < (x1.length : Int) then (if (!(((rd_T23 x12 x14).f0) == ((rd_T23 x1 x14).f0)) || (!(((rd_T23 x12 x14).f1) == ((rd_T23 x1 x14).f1)))) = true then (some false) else (api_Val_19.l0 k x1 x12 x13 (wrap64 (x14 + 1)))) else (none)) else (none)) else (none)) else (some true)
def api_Val_19.f (k : Nat) (l0 : List (S23)) (l1 : List (S23)) : Option (Bool) := if (l0.length : Int) = (l1.length : Int) then (api_Val_19.l0 k l1 l0 (l0.length : Int) 0) else (some false)
theorem api_Val_19.mono_l : ∀ k, (∀ y0 y1 y2 y3, LeO (api_Val_19.l0 k y0 y1 y2 y3) (api_Val_19.l0 (k + 1) y0 y1 y2 y3))
  | 0 => fun _ _ _ _ r h => by simp [api_Val_19.l0] at h
  | k + 1 => by
    have ih0 := api_Val_19.mono_l k
    · intro y0 y1 y2 y3
      unfold api_Val_19.l0
      repeat' first
      | (with_reducible exact ih0 _ _ _ _)
      | (with_reducible exact LeO.refl _)
      | (with_reducible exact LeO.none _)
      | (with_reducible refine LeO.ite ?_ ?_)
      | (with_reducible refine LeO.bind ?_ (fun _ => ?_))
      | exact ih0 _ _ _ _
      | exact LeO.none _
      | refine LeO.ite ?_ ?_
      | refine LeO.bind ?_ (fun _ => ?_)
theorem api_Val_19.mono : ∀ a0 a1 k, LeO (api_Val_19.f k a0 a1) (api_Val_19.f (k + 1) a0 a1) := by
  intro a0 a1 k
  have ih0 := api_Val_19.mono_l k
  unfold api_Val_19.f
  repeat' first
      | (with_reducible exact ih0 _ _ _ _)
      | (with_reducible exact LeO.refl _)
      | (with_reducible exact LeO.none _)
      | (with_reducible refine LeO.ite ?_ ?_)
      | (with_reducible refine LeO.bind ?_ (fun _ => ?_))
      | exact ih0 _ _ _ _
      | exact LeO.none _
      | refine LeO.ite ?_ ?_
      | refine LeO.bind ?_ (fun _ => ?_)
set_option maxHeartbeats 8000000 in
set_option maxRecDepth 100000 in
theorem api_Val_19.calls (k : Nat) (A0 : Option Addr) (c0 : Nat) (l0 : List (S23)) (A1 : Option Addr) (c1 : Nat) (l1 : List (S23)) (r : Bool) (w : World) (hr0 : Kd.C k23 w A0 l0.length l0) (hc0 : l0.length ≤ c0) (hr1 : Kd.C k23 w A1 l1.length l1) (hc1 : l1.length ≤ c1) (h : api_Val_19.f k l0 l1 = some r) :
    Calls Try.prog 19 #[.slice A0 l0.length c0, .slice A1 l1.length c1] w fun e w' => e = .returned (.bool r) ∧ Below w.heap.size w w' := by
  have hu23 := Try.underlying23
  have HR0 := Aside0.mk hr0
  have HC0 := Aside0.mk hc0
  clear hr0 hc0
  have HR1 := Aside0.mk hr1
  have HC1 := Aside0.mk hc1
  clear hr1 hc1
  have HB := Aside0.mk (Below.refl w.heap.size w)
  have H : (if (l0.length : Int) = (l1.length : Int) then (api_Val_19.l0 k l1 l0 (l0.length : Int) 0) else (some false)) = some r := h
  clear h
  by_cases c3 : (l0.length : Int) = (l1.length : Int)
  · rw [if_pos c3] at H
    have c3b0 : ((l0.length : Int) == (l1.length : Int)) = true := beq_iff_eq.mpr c3
    have c3b1 : ((l0.length : Int) != (l1.length : Int)) = false := bne_eq_false_iff_eq.mpr c3
    have c3b2 : (l0.length == l1.length) = true := by first | simpa using c3 | (simp at c3 ⊢; omega)
    clear c3
    have H' := Aside0.mk H
    clear H
    go_enter Try.func19, Try.ntmps19
    go_wp2
    repeat (go_quiet (fail); try go_wp2)
    go_loopg [14] k (fun kq v14 w' => ∃ (x14_1 : Int), v14 = .int .i64 x14_1 ∧ Aside0 (api_Val_19.l0 kq l1 l0 (l0.length : Int) x14_1 = some r) ∧ Aside0 (kq ≤ k) ∧ Aside0 (Below w.heap.size w w'))
    case atStart => exact ⟨(0), (by first | rfl | (simp; done) | (simp [*]; done)), H', ⟨Nat.le_refl _⟩, ⟨by repeat (first | (with_reducible first | exact HB.out | apply below_alloc | apply pw_below_drewN | apply below_drew1) | exact HB.out)⟩⟩
    case round =>
      clear H'
      try clear c1
      try clear p2
      try clear c3
      try clear c3b0
      try clear c3b1
      try clear c3b2
      obtain ⟨x14_1, rfl, HA, HK1, HB⟩ := hrel
      cases gk with
      | zero => exact absurd HA.out (by simp [api_Val_19.l0])
      | succ k1 =>
        have H := HA.out
        clear HA
        simp only [api_Val_19.l0] at H
        by_cases c4 : x14_1 < (l0.length : Int)
        · rw [if_pos c4] at H
          have c4b0 : decide (x14_1 < (l0.length : Int)) = true := decide_eq_true c4
          clear c4
          by_cases c5 : 0 ≤ x14_1
          · rw [if_pos c5] at H
            have c5b0 : decide (0 ≤ x14_1) = true := decide_eq_true c5
            clear c5
            by_cases c6 : x14_1 < (l0.length : Int)
            · rw [if_pos c6] at H
              have c6b0 : decide (x14_1 < (l0.length : Int)) = true := decide_eq_true c6
              clear c6
              by_cases c7 : x14_1 < (l1.length : Int)
              · rw [if_pos c7] at H
                have c7b0 : decide (x14_1 < (l1.length : Int)) = true := decide_eq_true c7
                clear c7
                by_cases c8 : (!(((rd_T23 l0 x14_1).f0) == ((rd_T23 l1 x14_1).f0)) || (!(((rd_T23 l0 x14_1).f1) == ((rd_T23 l1 x14_1).f1)))) = true
                · rw [if_pos c8] at H
                  have c8b0 : (!(((rd_T23 l0 x14_1).f0) == ((rd_T23 l1 x14_1).f0)) || (!(((rd_T23 l0 x14_1).f1) == ((rd_T23 l1 x14_1).f1)))) = true := c8
                  clear c8
                  obtain rfl := Option.some.inj H
                  have p151 : 0 ≤ (x14_1 : Int) := of_decide_eq_true (by first | (with_reducible assumption) | assumption)
                  have q151 : x14_1 < (l0.length : Int) := of_decide_eq_true (by first | (with_reducible assumption) | assumption)
                  obtain ⟨ad151, e151, hx151_0, hx151_1⟩ := at_T23 HR0.out x14_1 p151 q151
                  cases e151
                  try replace hx151_0 := (HB.out.cell (World.block_lt_of_cell? w _ hx151_0)).trans hx151_0
                  try replace hx151_1 := (HB.out.cell (World.block_lt_of_cell? w _ hx151_1)).trans hx151_1
                  replace p151 := eq_true p151
                  replace q151 := eq_true q151
                  go_wp2_with (first | ((with_reducible refine gate_dst (N := 6) rfl ?_); refine box_event ?hg (N := 6) ?hd (cs := #[.int .i64 0, .int .i64 0]) (t := 23) ?hr ?_; (case hd => rfl); (case hg => rfl); (case hr => first | (go_simp; done) | (go_simp; rfl)); intro gb152 hg w9 hbox hb; have n0_ := Aside0.mk (below_step (by repeat (first | (with_reducible first | exact HB.out | apply below_alloc | apply pw_below_drewN | apply below_drew1) | exact HB.out)) hb); have n1_ := Aside0.mk (hbox); have n2_ := Aside0.mk ((by rw [hg]; exact (below_size (by repeat (first | (with_reducible first | exact HB.out | apply below_alloc | apply pw_below_drewN | apply below_drew1) | exact HB.out))) : w.heap.size ≤ gb152)); have n3_ := Aside0.mk ((by rw [hg]; exact (below_size (by repeat (first | (with_reducible first | exact HB.out | apply below_alloc | apply pw_below_drewN | apply below_drew1) | exact HB.out))) : w.heap.size ≤ gb152)); clear HB; have HB := n0_; have BK152 := n1_; have GW152 := n2_; have GE152 := n3_; clear n0_ n1_ n2_ n3_; clear hb hbox hg; have hcz10_0 : w9.cell? ⟨gb152, 0, none⟩ = some (.int .i64 0) := (blk_cell BK152.out 0).trans rfl; have hcz10_1 : w9.cell? ⟨gb152, 1, none⟩ = some (.int .i64 0) := (blk_cell BK152.out 1).trans rfl; have hfz10_0 := blk_frozen BK152.out 0; have hfz10_1 := blk_frozen BK152.out 1; have p153 : 0 ≤ (x14_1 : Int) := of_decide_eq_true (by first | (with_reducible assumption) | assumption); have q153 : x14_1 < (l1.length : Int) := of_decide_eq_true (by first | (with_reducible assumption) | assumption); obtain ⟨ad153, e153, hx153_0, hx153_1⟩ := at_T23 HR1.out x14_1 p153 q153; cases e153; have hn153_0 : ad153.block ≠ gb152 := Nat.ne_of_lt (Nat.lt_of_lt_of_le (by have := World.block_lt_of_cell? _ _ hx153_0; first | rwa [add_block] at this | exact this) GW152.out); have hn153_1 : ad153.block ≠ gb152 := Nat.ne_of_lt (Nat.lt_of_lt_of_le (by have := World.block_lt_of_cell? _ _ hx153_0; first | rwa [add_block] at this | exact this) GW152.out); try replace hx153_0 := (HB.out.cell (World.block_lt_of_cell? w _ hx153_0)).trans hx153_0; try replace hx153_1 := (HB.out.cell (World.block_lt_of_cell? w _ hx153_1)).trans hx153_1; replace hx153_0 := (cell_far (p := ⟨gb152, 0, none⟩) (by first | (rw [add_block]; exact hn153_0) | (show (Addr.add _ _).block ≠ _; rw [add_block]; exact hn153_0) | exact hn153_0) (.int .i64 ((rd_T23 l0 x14_1).f0))).trans hx153_0; replace hx153_1 := (cell_far (p := ⟨gb152, 0, none⟩) (by first | (rw [add_block]; exact hn153_0) | (show (Addr.add _ _).block ≠ _; rw [add_block]; exact hn153_0) | exact hn153_0) (.int .i64 ((rd_T23 l0 x14_1).f0))).trans hx153_1; replace hx153_0 := (cell_far (p := ⟨gb152, 1, none⟩) (by first | (rw [add_block]; exact hn153_1) | (show (Addr.add _ _).block ≠ _; rw [add_block]; exact hn153_1) | exact hn153_1) (.int .i64 ((rd_T23 l0 x14_1).f1))).trans hx153_0; replace hx153_1 := (cell_far (p := ⟨gb152, 1, none⟩) (by first | (rw [add_block]; exact hn153_1) | (show (Addr.add _ _).block ≠ _; rw [add_block]; exact hn153_1) | exact hn153_1) (.int .i64 ((rd_T23 l0 x14_1).f1))).trans hx153_1; (try have hy153_0 := fun (n_ : Nat) => (show ((((w9.drewN n_).setCell ⟨gb152, 0, none⟩ (.int .i64 ((rd_T23 l0 x14_1).f0))).setCell ⟨gb152, 1, none⟩ (.int .i64 ((rd_T23 l0 x14_1).f1)))).cell? _ = some _ from hx153_0)); (try have hy153_1 := fun (n_ : Nat) => (show ((((w9.drewN n_).setCell ⟨gb152, 0, none⟩ (.int .i64 ((rd_T23 l0 x14_1).f0))).setCell ⟨gb152, 1, none⟩ (.int .i64 ((rd_T23 l0 x14_1).f1)))).cell? _ = some _ from hx153_1)); clear hn153_0; clear hn153_1; replace p153 := eq_true p153; replace q153 := eq_true q153))
                  repeat (go_quiet (first | ((with_reducible refine gate_dst (N := 6) rfl ?_); refine box_event ?hg (N := 6) ?hd (cs := #[.int .i64 0, .int .i64 0]) (t := 23) ?hr ?_; (case hd => rfl); (case hg => rfl); (case hr => first | (go_simp; done) | (go_simp; rfl)); intro gb152 hg w9 hbox hb; have n0_ := Aside0.mk (below_step (by repeat (first | (with_reducible first | exact HB.out | apply below_alloc | apply pw_below_drewN | apply below_drew1) | exact HB.out)) hb); have n1_ := Aside0.mk (hbox); have n2_ := Aside0.mk ((by rw [hg]; exact (below_size (by repeat (first | (with_reducible first | exact HB.out | apply below_alloc | apply pw_below_drewN | apply below_drew1) | exact HB.out))) : w.heap.size ≤ gb152)); have n3_ := Aside0.mk ((by rw [hg]; exact (below_size (by repeat (first | (with_reducible first | exact HB.out | apply below_alloc | apply pw_below_drewN | apply below_drew1) | exact HB.out))) : w.heap.size ≤ gb152)); clear HB; have HB := n0_; have BK152 := n1_; have GW152 := n2_; have GE152 := n3_; clear n0_ n1_ n2_ n3_; clear hb hbox hg; have hcz10_0 : w9.cell? ⟨gb152, 0, none⟩ = some (.int .i64 0) := (blk_cell BK152.out 0).trans rfl; have hcz10_1 : w9.cell? ⟨gb152, 1, none⟩ = some (.int .i64 0) := (blk_cell BK152.out 1).trans rfl; have hfz10_0 := blk_frozen BK152.out 0; have hfz10_1 := blk_frozen BK152.out 1; have p153 : 0 ≤ (x14_1 : Int) := of_decide_eq_true (by first | (with_reducible assumption) | assumption); have q153 : x14_1 < (l1.length : Int) := of_decide_eq_true (by first | (with_reducible assumption) | assumption); obtain ⟨ad153, e153, hx153_0, hx153_1⟩ := at_T23 HR1.out x14_1 p153 q153; cases e153; have hn153_0 : ad153.block ≠ gb152 := Nat.ne_of_lt (Nat.lt_of_lt_of_le (by have := World.block_lt_of_cell? _ _ hx153_0; first | rwa [add_block] at this | exact this) GW152.out); have hn153_1 : ad153.block ≠ gb152 := Nat.ne_of_lt (Nat.lt_of_lt_of_le (by have := World.block_lt_of_cell? _ _ hx153_0; first | rwa [add_block] at this | exact this) GW152.out); try replace hx153_0 := (HB.out.cell (World.block_lt_of_cell? w _ hx153_0)).trans hx153_0; try replace hx153_1 := (HB.out.cell (World.block_lt_of_cell? w _ hx153_1)).trans hx153_1; replace hx153_0 := (cell_far (p := ⟨gb152, 0, none⟩) (by first | (rw [add_block]; exact hn153_0) | (show (Addr.add _ _).block ≠ _; rw [add_block]; exact hn153_0) | exact hn153_0) (.int .i64 ((rd_T23 l0 x14_1).f0))).trans hx153_0; replace hx153_1 := (cell_far (p := ⟨gb152, 0, none⟩) (by first | (rw [add_block]; exact hn153_0) | (show (Addr.add _ _).block ≠ _; rw [add_block]; exact hn153_0) | exact hn153_0) (.int .i64 ((rd_T23 l0 x14_1).f0))).trans hx153_1; replace hx153_0 := (cell_far (p := ⟨gb152, 1, none⟩) (by first | (rw [add_block]; exact hn153_1) | (show (Addr.add _ _).block ≠ _; rw [add_block]; exact hn153_1) | exact hn153_1) (.int .i64 ((rd_T23 l0 x14_1).f1))).trans hx153_0; replace hx153_1 := (cell_far (p := ⟨gb152, 1, none⟩) (by first | (rw [add_block]; exact hn153_1) | (show (Addr.add _ _).block ≠ _; rw [add_block]; exact hn153_1) | exact hn153_1) (.int .i64 ((rd_T23 l0 x14_1).f1))).trans hx153_1; (try have hy153_0 := fun (n_ : Nat) => (show ((((w9.drewN n_).setCell ⟨gb152, 0, none⟩ (.int .i64 ((rd_T23 l0 x14_1).f0))).setCell ⟨gb152, 1, none⟩ (.int .i64 ((rd_T23 l0 x14_1).f1)))).cell? _ = some _ from hx153_0)); (try have hy153_1 := fun (n_ : Nat) => (show ((((w9.drewN n_).setCell ⟨gb152, 0, none⟩ (.int .i64 ((rd_T23 l0 x14_1).f0))).setCell ⟨gb152, 1, none⟩ (.int .i64 ((rd_T23 l0 x14_1).f1)))).cell? _ = some _ from hx153_1)); clear hn153_0; clear hn153_1; replace p153 := eq_true p153; replace q153 := eq_true q153)); try go_wp2_with (first | ((with_reducible refine gate_dst (N := 6) rfl ?_); refine box_event ?hg (N := 6) ?hd (cs := #[.int .i64 0, .int .i64 0]) (t := 23) ?hr ?_; (case hd => rfl); (case hg => rfl); (case hr => first | (go_simp; done) | (go_simp; rfl)); intro gb152 hg w9 hbox hb; have n0_ := Aside0.mk (below_step (by repeat (first | (with_reducible first | exact HB.out | apply below_alloc | apply pw_below_drewN | apply below_drew1) | exact HB.out)) hb); have n1_ := Aside0.mk (hbox); have n2_ := Aside0.mk ((by rw [hg]; exact (below_size (by repeat (first | (with_reducible first | exact HB.out | apply below_alloc | apply pw_below_drewN | apply below_drew1) | exact HB.out))) : w.heap.size ≤ gb152)); have n3_ := Aside0.mk ((by rw [hg]; exact (below_size (by repeat (first | (with_reducible first | exact HB.out | apply below_alloc | apply pw_below_drewN | apply below_drew1) | exact HB.out))) : w.heap.size ≤ gb152)); clear HB; have HB := n0_; have BK152 := n1_; have GW152 := n2_; have GE152 := n3_; clear n0_ n1_ n2_ n3_; clear hb hbox hg; have hcz10_0 : w9.cell? ⟨gb152, 0, none⟩ = some (.int .i64 0) := (blk_cell BK152.out 0).trans rfl; have hcz10_1 : w9.cell? ⟨gb152, 1, none⟩ = some (.int .i64 0) := (blk_cell BK152.out 1).trans rfl; have hfz10_0 := blk_frozen BK152.out 0; have hfz10_1 := blk_frozen BK152.out 1; have p153 : 0 ≤ (x14_1 : Int) := of_decide_eq_true (by first | (with_reducible assumption) | assumption); have q153 : x14_1 < (l1.length : Int) := of_decide_eq_true (by first | (with_reducible assumption) | assumption); obtain ⟨ad153, e153, hx153_0, hx153_1⟩ := at_T23 HR1.out x14_1 p153 q153; cases e153; have hn153_0 : ad153.block ≠ gb152 := Nat.ne_of_lt (Nat.lt_of_lt_of_le (by have := World.block_lt_of_cell? _ _ hx153_0; first | rwa [add_block] at this | exact this) GW152.out); have hn153_1 : ad153.block ≠ gb152 := Nat.ne_of_lt (Nat.lt_of_lt_of_le (by have := World.block_lt_of_cell? _ _ hx153_0; first | rwa [add_block] at this | exact this) GW152.out); try replace hx153_0 := (HB.out.cell (World.block_lt_of_cell? w _ hx153_0)).trans hx153_0; try replace hx153_1 := (HB.out.cell (World.block_lt_of_cell? w _ hx153_1)).trans hx153_1; replace hx153_0 := (cell_far (p := ⟨gb152, 0, none⟩) (by first | (rw [add_block]; exact hn153_0) | (show (Addr.add _ _).block ≠ _; rw [add_block]; exact hn153_0) | exact hn153_0) (.int .i64 ((rd_T23 l0 x14_1).f0))).trans hx153_0; replace hx153_1 := (cell_far (p := ⟨gb152, 0, none⟩) (by first | (rw [add_block]; exact hn153_0) | (show (Addr.add _ _).block ≠ _; rw [add_block]; exact hn153_0) | exact hn153_0) (.int .i64 ((rd_T23 l0 x14_1).f0))).trans hx153_1; replace hx153_0 := (cell_far (p := ⟨gb152, 1, none⟩) (by first | (rw [add_block]; exact hn153_1) | (show (Addr.add _ _).block ≠ _; rw [add_block]; exact hn153_1) | exact hn153_1) (.int .i64 ((rd_T23 l0 x14_1).f1))).trans hx153_0; replace hx153_1 := (cell_far (p := ⟨gb152, 1, none⟩) (by first | (rw [add_block]; exact hn153_1) | (show (Addr.add _ _).block ≠ _; rw [add_block]; exact hn153_1) | exact hn153_1) (.int .i64 ((rd_T23 l0 x14_1).f1))).trans hx153_1; (try have hy153_0 := fun (n_ : Nat) => (show ((((w9.drewN n_).setCell ⟨gb152, 0, none⟩ (.int .i64 ((rd_T23 l0 x14_1).f0))).setCell ⟨gb152, 1, none⟩ (.int .i64 ((rd_T23 l0 x14_1).f1)))).cell? _ = some _ from hx153_0)); (try have hy153_1 := fun (n_ : Nat) => (show ((((w9.drewN n_).setCell ⟨gb152, 0, none⟩ (.int .i64 ((rd_T23 l0 x14_1).f0))).setCell ⟨gb152, 1, none⟩ (.int .i64 ((rd_T23 l0 x14_1).f1)))).cell? _ = some _ from hx153_1)); clear hn153_0; clear hn153_1; replace p153 := eq_true p153; replace q153 := eq_true q153)))
                  go_ret
                  exact ⟨by first | rfl | (simp [errW_none, errW_some] <;> rfl) | (simp [*, errW_none, errW_some] <;> rfl), by repeat (first | (with_reducible first | exact HB.out | apply below_alloc | apply pw_below_drewN | apply below_drew1 | refine below_set ?_ GE152.out) | exact HB.out)⟩
                · rw [if_neg c8] at H
                  have c8b0 : (!(((rd_T23 l0 x14_1).f0) == ((rd_T23 l1 x14_1).f0)) || (!(((rd_T23 l0 x14_1).f1) == ((rd_T23 l1 x14_1).f1)))) = false := by simpa using c8
                  clear c8
                  have H' := Aside0.mk H
                  clear H
                  have p151 : 0 ≤ (x14_1 : Int) := of_decide_eq_true (by first | (with_reducible assumption) | assumption)
                  have q151 : x14_1 < (l0.length : Int) := of_decide_eq_true (by first | (with_reducible assumption) | assumption)
                  obtain ⟨ad151, e151, hx151_0, hx151_1⟩ := at_T23 HR0.out x14_1 p151 q151
                  cases e151
                  try replace hx151_0 := (HB.out.cell (World.block_lt_of_cell? w _ hx151_0)).trans hx151_0
                  try replace hx151_1 := (HB.out.cell (World.block_lt_of_cell? w _ hx151_1)).trans hx151_1
                  replace p151 := eq_true p151
                  replace q151 := eq_true q151
                  go_wp2_with (first | ((with_reducible refine gate_dst (N := 6) rfl ?_); refine box_event ?hg (N := 6) ?hd (cs := #[.int .i64 0, .int .i64 0]) (t := 23) ?hr ?_; (case hd => rfl); (case hg => rfl); (case hr => first | (go_simp; done) | (go_simp; rfl)); intro gb152 hg w11 hbox hb; have n0_ := Aside0.mk (below_step (by repeat (first | (with_reducible first | exact HB.out | apply below_alloc | apply pw_below_drewN | apply below_drew1) | exact HB.out)) hb); have n1_ := Aside0.mk (hbox); have n2_ := Aside0.mk ((by rw [hg]; exact (below_size (by repeat (first | (with_reducible first | exact HB.out | apply below_alloc | apply pw_below_drewN | apply below_drew1) | exact HB.out))) : w.heap.size ≤ gb152)); have n3_ := Aside0.mk ((by rw [hg]; exact (below_size (by repeat (first | (with_reducible first | exact HB.out | apply below_alloc | apply pw_below_drewN | apply below_drew1) | exact HB.out))) : w.heap.size ≤ gb152)); clear HB; have HB := n0_; have BK152 := n1_; have GW152 := n2_; have GE152 := n3_; clear n0_ n1_ n2_ n3_; clear hb hbox hg; have hcz12_0 : w11.cell? ⟨gb152, 0, none⟩ = some (.int .i64 0) := (blk_cell BK152.out 0).trans rfl; have hcz12_1 : w11.cell? ⟨gb152, 1, none⟩ = some (.int .i64 0) := (blk_cell BK152.out 1).trans rfl; have hfz12_0 := blk_frozen BK152.out 0; have hfz12_1 := blk_frozen BK152.out 1; have p153 : 0 ≤ (x14_1 : Int) := of_decide_eq_true (by first | (with_reducible assumption) | assumption); have q153 : x14_1 < (l1.length : Int) := of_decide_eq_true (by first | (with_reducible assumption) | assumption); obtain ⟨ad153, e153, hx153_0, hx153_1⟩ := at_T23 HR1.out x14_1 p153 q153; cases e153; have hn153_0 : ad153.block ≠ gb152 := Nat.ne_of_lt (Nat.lt_of_lt_of_le (by have := World.block_lt_of_cell? _ _ hx153_0; first | rwa [add_block] at this | exact this) GW152.out); have hn153_1 : ad153.block ≠ gb152 := Nat.ne_of_lt (Nat.lt_of_lt_of_le (by have := World.block_lt_of_cell? _ _ hx153_0; first | rwa [add_block] at this | exact this) GW152.out); try replace hx153_0 := (HB.out.cell (World.block_lt_of_cell? w _ hx153_0)).trans hx153_0; try replace hx153_1 := (HB.out.cell (World.block_lt_of_cell? w _ hx153_1)).trans hx153_1; replace hx153_0 := (cell_far (p := ⟨gb152, 0, none⟩) (by first | (rw [add_block]; exact hn153_0) | (show (Addr.add _ _).block ≠ _; rw [add_block]; exact hn153_0) | exact hn153_0) (.int .i64 ((rd_T23 l0 x14_1).f0))).trans hx153_0; replace hx153_1 := (cell_far (p := ⟨gb152, 0, none⟩) (by first | (rw [add_block]; exact hn153_0) | (show (Addr.add _ _).block ≠ _; rw [add_block]; exact hn153_0) | exact hn153_0) (.int .i64 ((rd_T23 l0 x14_1).f0))).trans hx153_1; replace hx153_0 := (cell_far (p := ⟨gb152, 1, none⟩) (by first | (rw [add_block]; exact hn153_1) | (show (Addr.add _ _).block ≠ _; rw [add_block]; exact hn153_1) | exact hn153_1) (.int .i64 ((rd_T23 l0 x14_1).f1))).trans hx153_0; replace hx153_1 := (cell_far (p := ⟨gb152, 1, none⟩) (by first | (rw [add_block]; exact hn153_1) | (show (Addr.add _ _).block ≠ _; rw [add_block]; exact hn153_1) | exact hn153_1) (.int .i64 ((rd_T23 l0 x14_1).f1))).trans hx153_1; (try have hy153_0 := fun (n_ : Nat) => (show ((((w11.drewN n_).setCell ⟨gb152, 0, none⟩ (.int .i64 ((rd_T23 l0 x14_1).f0))).setCell ⟨gb152, 1, none⟩ (.int .i64 ((rd_T23 l0 x14_1).f1)))).cell? _ = some _ from hx153_0)); (try have hy153_1 := fun (n_ : Nat) => (show ((((w11.drewN n_).setCell ⟨gb152, 0, none⟩ (.int .i64 ((rd_T23 l0 x14_1).f0))).setCell ⟨gb152, 1, none⟩ (.int .i64 ((rd_T23 l0 x14_1).f1)))).cell? _ = some _ from hx153_1)); clear hn153_0; clear hn153_1; replace p153 := eq_true p153; replace q153 := eq_true q153))
                  repeat (go_quiet (first | ((with_reducible refine gate_dst (N := 6) rfl ?_); refine box_event ?hg (N := 6) ?hd (cs := #[.int .i64 0, .int .i64 0]) (t := 23) ?hr ?_; (case hd => rfl); (case hg => rfl); (case hr => first | (go_simp; done) | (go_simp; rfl)); intro gb152 hg w11 hbox hb; have n0_ := Aside0.mk (below_step (by repeat (first | (with_reducible first | exact HB.out | apply below_alloc | apply pw_below_drewN | apply below_drew1) | exact HB.out)) hb); have n1_ := Aside0.mk (hbox); have n2_ := Aside0.mk ((by rw [hg]; exact (below_size (by repeat (first | (with_reducible first | exact HB.out | apply below_alloc | apply pw_below_drewN | apply below_drew1) | exact HB.out))) : w.heap.size ≤ gb152)); have n3_ := Aside0.mk ((by rw [hg]; exact (below_size (by repeat (first | (with_reducible first | exact HB.out | apply below_alloc | apply pw_below_drewN | apply below_drew1) | exact HB.out))) : w.heap.size ≤ gb152)); clear HB; have HB := n0_; have BK152 := n1_; have GW152 := n2_; have GE152 := n3_; clear n0_ n1_ n2_ n3_; clear hb hbox hg; have hcz12_0 : w11.cell? ⟨gb152, 0, none⟩ = some (.int .i64 0) := (blk_cell BK152.out 0).trans rfl; have hcz12_1 : w11.cell? ⟨gb152, 1, none⟩ = some (.int .i64 0) := (blk_cell BK152.out 1).trans rfl; have hfz12_0 := blk_frozen BK152.out 0; have hfz12_1 := blk_frozen BK152.out 1; have p153 : 0 ≤ (x14_1 : Int) := of_decide_eq_true (by first | (with_reducible assumption) | assumption); have q153 : x14_1 < (l1.length : Int) := of_decide_eq_true (by first | (with_reducible assumption) | assumption); obtain ⟨ad153, e153, hx153_0, hx153_1⟩ := at_T23 HR1.out x14_1 p153 q153; cases e153; have hn153_0 : ad153.block ≠ gb152 := Nat.ne_of_lt (Nat.lt_of_lt_of_le (by have := World.block_lt_of_cell? _ _ hx153_0; first | rwa [add_block] at this | exact this) GW152.out); have hn153_1 : ad153.block ≠ gb152 := Nat.ne_of_lt (Nat.lt_of_lt_of_le (by have := World.block_lt_of_cell? _ _ hx153_0; first | rwa [add_block] at this | exact this) GW152.out); try replace hx153_0 := (HB.out.cell (World.block_lt_of_cell? w _ hx153_0)).trans hx153_0; try replace hx153_1 := (HB.out.cell (World.block_lt_of_cell? w _ hx153_1)).trans hx153_1; replace hx153_0 := (cell_far (p := ⟨gb152, 0, none⟩) (by first | (rw [add_block]; exact hn153_0) | (show (Addr.add _ _).block ≠ _; rw [add_block]; exact hn153_0) | exact hn153_0) (.int .i64 ((rd_T23 l0 x14_1).f0))).trans hx153_0; replace hx153_1 := (cell_far (p := ⟨gb152, 0, none⟩) (by first | (rw [add_block]; exact hn153_0) | (show (Addr.add _ _).block ≠ _; rw [add_block]; exact hn153_0) | exact hn153_0) (.int .i64 ((rd_T23 l0 x14_1).f0))).trans hx153_1; replace hx153_0 := (cell_far (p := ⟨gb152, 1, none⟩) (by first | (rw [add_block]; exact hn153_1) | (show (Addr.add _ _).block ≠ _; rw [add_block]; exact hn153_1) | exact hn153_1) (.int .i64 ((rd_T23 l0 x14_1).f1))).trans hx153_0; replace hx153_1 := (cell_far (p := ⟨gb152, 1, none⟩) (by first | (rw [add_block]; exact hn153_1) | (show (Addr.add _ _).block ≠ _; rw [add_block]; exact hn153_1) | exact hn153_1) (.int .i64 ((rd_T23 l0 x14_1).f1))).trans hx153_1; (try have hy153_0 := fun (n_ : Nat) => (show ((((w11.drewN n_).setCell ⟨gb152, 0, none⟩ (.int .i64 ((rd_T23 l0 x14_1).f0))).setCell ⟨gb152, 1, none⟩ (.int .i64 ((rd_T23 l0 x14_1).f1)))).cell? _ = some _ from hx153_0)); (try have hy153_1 := fun (n_ : Nat) => (show ((((w11.drewN n_).setCell ⟨gb152, 0, none⟩ (.int .i64 ((rd_T23 l0 x14_1).f0))).setCell ⟨gb152, 1, none⟩ (.int .i64 ((rd_T23 l0 x14_1).f1)))).cell? _ = some _ from hx153_1)); clear hn153_0; clear hn153_1; replace p153 := eq_true p153; replace q153 := eq_true q153)); try go_wp2_with (first | ((with_reducible refine gate_dst (N := 6) rfl ?_); refine box_event ?hg (N := 6) ?hd (cs := #[.int .i64 0, .int .i64 0]) (t := 23) ?hr ?_; (case hd => rfl); (case hg => rfl); (case hr => first | (go_simp; done) | (go_simp; rfl)); intro gb152 hg w11 hbox hb; have n0_ := Aside0.mk (below_step (by repeat (first | (with_reducible first | exact HB.out | apply below_alloc | apply pw_below_drewN | apply below_drew1) | exact HB.out)) hb); have n1_ := Aside0.mk (hbox); have n2_ := Aside0.mk ((by rw [hg]; exact (below_size (by repeat (first | (with_reducible first | exact HB.out | apply below_alloc | apply pw_below_drewN | apply below_drew1) | exact HB.out))) : w.heap.size ≤ gb152)); have n3_ := Aside0.mk ((by rw [hg]; exact (below_size (by repeat (first | (with_reducible first | exact HB.out | apply below_alloc | apply pw_below_drewN | apply below_drew1) | exact HB.out))) : w.heap.size ≤ gb152)); clear HB; have HB := n0_; have BK152 := n1_; have GW152 := n2_; have GE152 := n3_; clear n0_ n1_ n2_ n3_; clear hb hbox hg; have hcz12_0 : w11.cell? ⟨gb152, 0, none⟩ = some (.int .i64 0) := (blk_cell BK152.out 0).trans rfl; have hcz12_1 : w11.cell? ⟨gb152, 1, none⟩ = some (.int .i64 0) := (blk_cell BK152.out 1).trans rfl; have hfz12_0 := blk_frozen BK152.out 0; have hfz12_1 := blk_frozen BK152.out 1; have p153 : 0 ≤ (x14_1 : Int) := of_decide_eq_true (by first | (with_reducible assumption) | assumption); have q153 : x14_1 < (l1.length : Int) := of_decide_eq_true (by first | (with_reducible assumption) | assumption); obtain ⟨ad153, e153, hx153_0, hx153_1⟩ := at_T23 HR1.out x14_1 p153 q153; cases e153; have hn153_0 : ad153.block ≠ gb152 := Nat.ne_of_lt (Nat.lt_of_lt_of_le (by have := World.block_lt_of_cell? _ _ hx153_0; first | rwa [add_block] at this | exact this) GW152.out); have hn153_1 : ad153.block ≠ gb152 := Nat.ne_of_lt (Nat.lt_of_lt_of_le (by have := World.block_lt_of_cell? _ _ hx153_0; first | rwa [add_block] at this | exact this) GW152.out); try replace hx153_0 := (HB.out.cell (World.block_lt_of_cell? w _ hx153_0)).trans hx153_0; try replace hx153_1 := (HB.out.cell (World.block_lt_of_cell? w _ hx153_1)).trans hx153_1; replace hx153_0 := (cell_far (p := ⟨gb152, 0, none⟩) (by first | (rw [add_block]; exact hn153_0) | (show (Addr.add _ _).block ≠ _; rw [add_block]; exact hn153_0) | exact hn153_0) (.int .i64 ((rd_T23 l0 x14_1).f0))).trans hx153_0; replace hx153_1 := (cell_far (p := ⟨gb152, 0, none⟩) (by first | (rw [add_block]; exact hn153_0) | (show (Addr.add _ _).block ≠ _; rw [add_block]; exact hn153_0) | exact hn153_0) (.int .i64 ((rd_T23 l0 x14_1).f0))).trans hx153_1; replace hx153_0 := (cell_far (p := ⟨gb152, 1, none⟩) (by first | (rw [add_block]; exact hn153_1) | (show (Addr.add _ _).block ≠ _; rw [add_block]; exact hn153_1) | exact hn153_1) (.int .i64 ((rd_T23 l0 x14_1).f1))).trans hx153_0; replace hx153_1 := (cell_far (p := ⟨gb152, 1, none⟩) (by first | (rw [add_block]; exact hn153_1) | (show (Addr.add _ _).block ≠ _; rw [add_block]; exact hn153_1) | exact hn153_1) (.int .i64 ((rd_T23 l0 x14_1).f1))).trans hx153_1; (try have hy153_0 := fun (n_ : Nat) => (show ((((w11.drewN n_).setCell ⟨gb152, 0, none⟩ (.int .i64 ((rd_T23 l0 x14_1).f0))).setCell ⟨gb152, 1, none⟩ (.int .i64 ((rd_T23 l0 x14_1).f1)))).cell? _ = some _ from hx153_0)); (try have hy153_1 := fun (n_ : Nat) => (show ((((w11.drewN n_).setCell ⟨gb152, 0, none⟩ (.int .i64 ((rd_T23 l0 x14_1).f0))).setCell ⟨gb152, 1, none⟩ (.int .i64 ((rd_T23 l0 x14_1).f1)))).cell? _ = some _ from hx153_1)); clear hn153_0; clear hn153_1; replace p153 := eq_true p153; replace q153 := eq_true q153)))
                  go_roundg k1
                  case measure => have := HK1.out; omega
                  case rel => exact ⟨(wrap64 (x14_1 + 1)), (by first | rfl | (simp; done) | (simp [*]; done)), H', ⟨by have := HK1.out; omega⟩, ⟨by repeat (first | (with_reducible first | exact HB.out | apply below_alloc | apply pw_below_drewN | apply below_drew1 | refine below_set ?_ GE152.out) | exact HB.out)⟩⟩
              · rw [if_neg c7] at H
                exact absurd H (by simp)
            · rw [if_neg c6] at H
              exact absurd H (by simp)
          · rw [if_neg c5] at H
            exact absurd H (by simp)
        · rw [if_neg c4] at H
          have c4b0 : decide (x14_1 < (l0.length : Int)) = false := decide_eq_false c4
          clear c4
          obtain rfl := Option.some.inj H
          go_wp2
          repeat (go_quiet (fail); try go_wp2)
          go_ret
          exact ⟨by first | rfl | (simp [errW_none, errW_some] <;> rfl) | (simp [*, errW_none, errW_some] <;> rfl), by repeat (first | (with_reducible first | exact HB.out | apply below_alloc | apply pw_below_drewN | apply below_drew1) | exact HB.out)⟩
  · rw [if_neg c3] at H
    have c3b0 : ((l0.length : Int) == (l1.length : Int)) = false := beq_eq_false_iff_ne.mpr c3
    have c3b1 : ((l0.length : Int) != (l1.length : Int)) = true := bne_iff_ne.mpr c3
    have c3b2 : (l0.length == l1.length) = false := by first | simpa using c3 | (simp at c3 ⊢; omega)
    obtain rfl := Option.some.inj H
    go_enter Try.func19, Try.ntmps19
    go_wp2
    repeat (go_quiet (fail); try go_wp2)
    go_ret
    exact ⟨by first | rfl | (simp [errW_none, errW_some] <;> rfl) | (simp [*, errW_none, errW_some] <;> rfl), by repeat (first | (with_reducible first | exact HB.out | apply below_alloc | apply pw_below_drewN | apply below_drew1) | exact HB.out)⟩

/-! ### api_Cell_130: function 130 -/
def api_Cell_130.f (l0 : List (S61)) : Option (List (S61)) := if l0.length < 2199023255552 then some l0 else none
theorem api_Cell_130.calls (P0_ : Nat → Prop) (A0 : Option Addr) (c0 : Nat) (l0 : List (S61)) (r : List (S61)) (w : World) (hs0 : Kd.V k61 61 w w.heap.size (fun k_ => P0_ k_) (.slice A0 l0.length c0) l0) (h : api_Cell_130.f l0 = some r) :
    Calls Try.prog 130 #[.slice A0 l0.length c0] w fun e w' => ∃ v0_ : Value, e = .returned v0_ ∧ Kd.N k61 61 w' w.heap.size (fun k_ => (P0_ k_ ∨ w.heap.size ≤ k_)) v0_ r ∧ Below w.heap.size w w' := by
  have HF := Aside0.mk (Kd.F_bound (Kd.V_at hs0).2.2)
  clear hs0
  have HL : Aside0 (l0.length < 2199023255552) := ⟨by unfold api_Cell_130.f at h; split at h; assumption; cases h⟩
  have HE : Aside0 (l0 = r) := ⟨by unfold api_Cell_130.f at h; split at h; simpa using h; cases h⟩
  clear h
  have q22 : ∀ (w : World) (a : Option Addr) (n c : Nat), (binOp .eql 55 (.slice a n c) (.slice none 0 0)).run Try.prog w = .ok (.bool a.isNone) w := fun w a n c => Lib.run_eql_slice_nil w _ _ a n c 0 0 Try.underlying55
  rcases A0 with _ | ad
  · obtain ⟨rfl, _⟩ := YtlojkphocbbjdaaW.Bas.nil_of_none (Kd.F_now HF.out)
    go_enter Try.func130, Try.ntmps130
    go_wp2
    go_ret
    exact ⟨_, rfl, by rw [← HE.out]; exact Kd.N_nil _ _ _ _ _, Below.refl _ _⟩
  · go_enter Try.func130, Try.ntmps130
    go_wp2_with (at_builtin; refine Kd.N_append_rows k61 (w0 := w) w.heap.size rfl (.tmp 5) (.tmp 6) 55 61 (.agg #[(.int .i64 0), (.int .i64 0), (.slice none 0 0), (.slice none 0 0)]) 64 rfl Try.underlying55 info61 rfl (by decide) (by omega) (.slice (some ⟨w.heap.size, 0, none⟩) 0 0) [] l0 (some ad) l0.length c0 (fun k_ => (P0_ k_ ∨ w.heap.size ≤ k_)) (fun k => P0_ k ∧ k < w.heap.size) rfl rfl ?aE ?aR ?aO (fun k hk => .inr (by simp at hk; omega)) ?aB ?aS ?aL ?_; (case aE => exact Kd.R_N (YtlojkphocbbjdaaW.Bas.R_empty _ _ _ _ (.inr (Nat.le_refl _)))); (case aR => exact Kd.F_alloc HF.out _); (case aO => exact (fun k hk => ⟨.inl hk.1, by simp [Value.ownBlock]; omega⟩)); (case aB => exact below_alloc (Below.refl _ _) _); (case aS => simp); (case aL => have := HL.out; simp; omega); intro v1 w1 ho hb hg hat; rw [List.nil_append] at ho; have HO := Aside0.mk ho; have HB := Aside0.mk hb; clear ho hb hg hat)
    go_ret
    exact ⟨_, rfl, by rw [← HE.out]; exact HO.out, HB.out⟩

/-! ### api_Frame: function 161 -/
def api_Frame.f (l0 : List (S27)) : Option (List (S27)) := if l0.length < 1466015503701 then some l0 else none
theorem api_Frame.calls (P0_ : Nat → Prop) (A0 : Option Addr) (c0 : Nat) (l0 : List (S27)) (r : List (S27)) (w : World) (hs0 : Kd.V k27 27 w w.heap.size (fun k_ => P0_ k_) (.slice A0 l0.length c0) l0) (h : api_Frame.f l0 = some r) :
    Calls Try.prog 161 #[.slice A0 l0.length c0] w fun e w' => ∃ v0_ : Value, e = .returned v0_ ∧ Kd.N k27 27 w' w.heap.size (fun k_ => (P0_ k_ ∨ w.heap.size ≤ k_)) v0_ r ∧ Below w.heap.size w w' := by
  have HF := Aside0.mk (Kd.F_bound (Kd.V_at hs0).2.2)
  clear hs0
  have HL : Aside0 (l0.length < 1466015503701) := ⟨by unfold api_Frame.f at h; split at h; assumption; cases h⟩
  have HE : Aside0 (l0 = r) := ⟨by unfold api_Frame.f at h; split at h; simpa using h; cases h⟩
  clear h
  have q22 : ∀ (w : World) (a : Option Addr) (n c : Nat), (binOp .eql 59 (.slice a n c) (.slice none 0 0)).run Try.prog w = .ok (.bool a.isNone) w := fun w a n c => Lib.run_eql_slice_nil w _ _ a n c 0 0 Try.underlying59
  rcases A0 with _ | ad
  · obtain ⟨rfl, _⟩ := YtlojkphocbbjdaaW.Bas.nil_of_none (Kd.F_now HF.out)
    go_enter Try.func161, Try.ntmps161
    go_wp2
    go_ret
    exact ⟨_, rfl, by rw [← HE.out]; exact Kd.N_nil _ _ _ _ _, Below.refl _ _⟩
  · go_enter Try.func161, Try.ntmps161
    go_wp2_with (at_builtin; refine Kd.N_append_rows k27 (w0 := w) w.heap.size rfl (.tmp 5) (.tmp 6) 59 27 (.agg #[(.int .i64 0), (.int .i64 0), (.int .i64 0), (.int .i64 0), (.int .i64 0), (.int .i64 0), (.slice none 0 0), (.slice none 0 0)]) 96 rfl Try.underlying59 info27 rfl (by decide) (by omega) (.slice (some ⟨w.heap.size, 0, none⟩) 0 0) [] l0 (some ad) l0.length c0 (fun k_ => (P0_ k_ ∨ w.heap.size ≤ k_)) (fun k => P0_ k ∧ k < w.heap.size) rfl rfl ?aE ?aR ?aO (fun k hk => .inr (by simp at hk; omega)) ?aB ?aS ?aL ?_; (case aE => exact Kd.R_N (YtlojkphocbbjdaaW.Bas.R_empty _ _ _ _ (.inr (Nat.le_refl _)))); (case aR => exact Kd.F_alloc HF.out _); (case aO => exact (fun k hk => ⟨.inl hk.1, by simp [Value.ownBlock]; omega⟩)); (case aB => exact below_alloc (Below.refl _ _) _); (case aS => simp); (case aL => have := HL.out; simp; omega); intro v1 w1 ho hb hg hat; rw [List.nil_append] at ho; have HO := Aside0.mk ho; have HB := Aside0.mk hb; clear ho hb hg hat)
    go_ret
    exact ⟨_, rfl, by rw [← HE.out]; exact HO.out, HB.out⟩

/-! ### leave_frames: function 131 -/
theorem leave_frames_raw (A0 : Option Addr) (c0 : Nat) (xs : List (List Value)) (w : World) (hr0 : Kd.C (Kd.raw 8) w A0 xs.length xs) (hn : xs.length < 1466015503701) :
    Calls Try.prog 161 #[.slice A0 xs.length c0] w fun e w' => ∃ v0_ : Value, e = .returned v0_ ∧ Kd.R (Kd.raw 8) 27 w' w.heap.size (fun _ => True) v0_ xs ∧ Below w.heap.size w w' := by
  have HR0 := Aside0.mk hr0
  have HL := Aside0.mk hn
  clear hr0 hn
  have q22 : ∀ (w : World) (a : Option Addr) (n c : Nat), (binOp .eql 59 (.slice a n c) (.slice none 0 0)).run Try.prog w = .ok (.bool a.isNone) w := fun w a n c => Lib.run_eql_slice_nil w _ _ a n c 0 0 Try.underlying59
  rcases A0 with _ | ad
  · obtain ⟨rfl, _⟩ := YtlojkphocbbjdaaW.Bas.nil_of_none HR0.out
    go_enter Try.func161, Try.ntmps161
    go_wp2
    go_ret
    exact ⟨_, rfl, Kd.R_nil _ _ _ _ _, Below.refl _ _⟩
  · go_enter Try.func161, Try.ntmps161
    go_wp2_with (at_builtin; refine Kd.R_append_rows (Kd.raw 8) (Rr := (Kd.raw 8).K (w.alloc (.cells #[] 27))) (w0 := w) w.heap.size rfl (.tmp 5) (.tmp 6) 59 27 (.agg #[(.int .i64 0), (.int .i64 0), (.int .i64 0), (.int .i64 0), (.int .i64 0), (.int .i64 0), (.slice none 0 0), (.slice none 0 0)]) 96 rfl Try.underlying59 info27 rfl (by decide) (by omega) (.slice (some ⟨w.heap.size, 0, none⟩) 0 0) [] xs (some ad) xs.length c0 (fun _ => True) (fun k => k < w.heap.size) rfl rfl ?aE ?aR ?aM ?aO (fun _ _ => trivial) ?aB ?aS ?aL ?_; (case aE => exact YtlojkphocbbjdaaW.Bas.R_empty _ _ _ _ trivial); (case aR => exact Kd.C_alloc HR0.out _); (case aM => exact fun x cs h => h); (case aO => exact (fun k hk => ⟨trivial, by simp [Value.ownBlock]; omega⟩)); (case aB => exact below_alloc (Below.refl _ _) _); (case aS => simp); (case aL => have := HL.out; simp; omega); intro v1 w1 ho hb hg hat; rw [List.nil_append] at ho; have HO := Aside0.mk ho; have HB := Aside0.mk hb; clear ho hb hg hat)
    go_ret
    exact ⟨_, rfl, HO.out, HB.out⟩
def leave_frames.okE (x : S27) : Prop := x.f5.length < 8796093022208 ∧ x.f6.length < 8796093022208
instance (x : S27) : Decidable (leave_frames.okE x) := by unfold leave_frames.okE; infer_instance
def leave_frames.f (l0 : List S27) : Option (List S27) := if l0.length < 1466015503701 ∧ ∀ x ∈ l0, leave_frames.okE x then some l0 else none
theorem leave_frames_done {w : World} {base g n cap : Nat} {ys : List (List Value)} {l : List S27} (hR : Kd.R (Kd.raw 8) 27 w base (fun _ => True) (.slice (some ⟨g, 0, none⟩) n cap) ys) (hl : ys.length = l.length)
    (hM : ∀ (j : Nat) (x : S27) (c : List Value), l[j]? = some x → ys[j]? = some c → k27.M w base (fun k => k ≠ g) x c) : Kd.R k27 27 w base (fun _ => True) (.slice (some ⟨g, 0, none⟩) n cap) l := by
  obtain ⟨_, inner, ho, hr⟩ := hR
  refine ⟨fun _ _ => trivial, inner, ?_, ?_⟩
  · rw [hl] at ho; exact ho
  · refine ⟨by rw [hr.1, hl]; rfl, fun j x hj => ?_⟩
    have hlt : j < ys.length := by rw [hl]; exact (List.getElem?_eq_some_iff.1 hj).1
    have h1 := hr.2 j ys[j] (List.getElem?_eq_getElem hlt)
    rw [show (inner.drop (j * k27.sz)).take k27.sz = ys[j] from h1.1]
    exact k27.M_mono (fun k hk => ⟨trivial, fun e => hk (by injection e)⟩) (hM j x ys[j] hj (List.getElem?_eq_getElem hlt))
set_option maxHeartbeats 8000000 in
set_option maxRecDepth 100000 in
theorem leave_frames.calls (A0 : Option Addr) (c0 : Nat) (l0 : List S27) (r : List S27) (w : World) (hr0 : Kd.C k27 w A0 l0.length l0) (hc0 : l0.length ≤ c0) (h : leave_frames.f l0 = some r) :
    Calls Try.prog 131 #[.slice A0 l0.length c0] w fun e w' => ∃ v0_ : Value, e = .returned v0_ ∧ Kd.R k27 27 w' w.heap.size (fun _ => True) v0_ r ∧ Below w.heap.size w w' := by
  unfold leave_frames.f at h
  split at h
  case isFalse => cases h
  rename_i hok
  obtain rfl := Option.some.inj h
  obtain ⟨xs, hxl, hxr, hxf⟩ := Kd.reads_raw hr0 (fun x c hk => ⟨k27.K_len hk, k27.K_one hk⟩)
  have HCL := Aside0.mk (leave_frames_raw A0 c0 xs w (by rw [hxl]; exact hxr) (by rw [hxl]; exact hok.1))
  rw [hxl] at HCL
  have HR0 := Aside0.mk hr0
  have HC0 := Aside0.mk hc0
  have HXL := Aside0.mk hxl
  have HXF := Aside0.mk hxf
  have HOK := Aside0.mk hok.2
  have HN := Aside0.mk hr0.2.1
  clear h hxl hxr hxf hok hr0 hc0
  go_enter Try.func131, Try.ntmps131
  go_wp2_with (go_at_call 161; refine HCL.out.mono ?_; rintro e w2 ⟨v2, rfl, hr2, hb2⟩; have HB2 := Aside0.mk hb2; have HR2 := Aside0.mk hr2; clear hr2 hb2; obtain ⟨A2, c2, rfl⟩ := Kd.R_slice HR2.out)
  obtain ⟨n, hn⟩ : ∃ n, n = l0.length := ⟨_, rfl⟩
  have HNN := Aside0.mk hn
  rw [show xs.length = n by rw [HXL.out, hn]] at HR2 ⊢
  clear hn
  go_loopw [10] (fun v10 wr => ∃ (i : Int) (ys : List (List Value)), v10 = .int .i64 i ∧ Aside0 (0 ≤ i ∧ i ≤ l0.length) ∧ Aside0 (ys.length = l0.length) ∧ Aside0 (Kd.R (Kd.raw 8) 27 wr w.heap.size (fun _ => True) (.slice A2 n c2) ys) ∧ Aside0 (∀ (j : Nat) (x : S27) (c : List Value), (j : Int) < i → l0[j]? = some x → ys[j]? = some c → k27.M wr w.heap.size (fun k => some k ≠ (Value.slice A2 n c2).ownBlock) x c) ∧ Aside0 (∀ j : Nat, i ≤ (j : Int) → ys[j]? = xs[j]?) ∧ Aside0 (Below w.heap.size w wr)) (fun v10 _ => l0.length - (intOf v10).toNat)
  case atStart => exact ⟨0, xs, rfl, ⟨by omega⟩, HXL, HR2, ⟨fun j x c hj => by omega⟩, ⟨fun _ _ => rfl⟩, HB2⟩
  case round =>
    clear HR2 HB2 HCL
    obtain ⟨i, ys, rfl, Hi, HYL, HR, HM, HK, HB⟩ := hrel
    have hi0 : 0 ≤ i := Hi.out.1
    by_cases hlt : i < (l0.length : Int)
    · have ht : decide (i < (l0.length : Int)) = true := decide_eq_true hlt
      have HW := Aside0.mk (show wrap64 (i + 1) = i + 1 by have := HN.out; unfold wrap64; omega)
      obtain ⟨g, cp, hv, hgb, hgl, _⟩ := Kd.R_form HR.out (by have := HYL.out; omega)
      obtain ⟨rfl, rfl⟩ : A2 = some ⟨g, 0, none⟩ ∧ c2 = cp := by injection hv with a b c; exact ⟨a, c⟩
      have HGB := Aside0.mk hgb
      clear hv hgb hgl
      obtain ⟨ad, PA, QA, PB, QB, e, h0, h1, h2, h3, h4, h5, h6, h7, hlA, hgA, hlB, hgB⟩ := at_T27 HR0.out i hi0 hlt
      obtain ⟨x, hx⟩ : ∃ x, x = rd_T27 l0 i := ⟨_, rfl⟩
      have HXI := Aside0.mk (show l0[i.toNat]? = some x by rw [hx, rd_T27, List.getD_eq_getElem?_getD, List.getElem?_eq_getElem (by omega), Option.getD_some])
      rw [← hx] at h0 h1 h2 h3 h4 h5 h6 h7 hlA hgA hlB hgB
      cases e
      replace h0 := (HB.out.cell (World.block_lt_of_cell? w _ h0)).trans h0
      replace h1 := (HB.out.cell (World.block_lt_of_cell? w _ h1)).trans h1
      replace h2 := (HB.out.cell (World.block_lt_of_cell? w _ h2)).trans h2
      replace h3 := (HB.out.cell (World.block_lt_of_cell? w _ h3)).trans h3
      replace h4 := (HB.out.cell (World.block_lt_of_cell? w _ h4)).trans h4
      replace h5 := (HB.out.cell (World.block_lt_of_cell? w _ h5)).trans h5
      replace h6 := (HB.out.cell (World.block_lt_of_cell? w _ h6)).trans h6
      replace h7 := (HB.out.cell (World.block_lt_of_cell? w _ h7)).trans h7
      have HLA := Aside0.mk hlA
      have HGA := Aside0.mk hgA
      have HLB := Aside0.mk hlB
      have HGBB := Aside0.mk hgB
      clear hx hlA hgA hlB hgB
      have hokx := HOK.out x (List.mem_of_getElem? HXI.out)
      unfold leave_frames.okE at hokx
      have HOKX := Aside0.mk hokx
      clear hokx
      have hni : i < (n : Int) := by have := HNN.out; omega
      obtain ⟨ce, hcl, hMr, hcc, hfr⟩ := Kd.R_elem HR.out ([] : List Value) i hi0 hni
      have HCE := Aside0.mk (show ce = ys.getD i.toNat [] from hMr.1)
      have HCX := Aside0.mk (show xs[i.toNat]? = some ce by rw [← HK.out i.toNat (by omega), hMr.1, List.getD_eq_getElem?_getD, List.getElem?_eq_getElem (by have := HYL.out; omega), Option.getD_some])
      obtain ⟨KA, KC, KB, KD, hce, _⟩ := k27_open (HXF.out i.toNat x ce HXI.out HCX.out)
      subst hce
      have HCL := Aside0.mk hcl
      have HCC := Aside0.mk hcc
      have HFR := Aside0.mk hfr
      clear hcl hcc hfr hMr
      have hi0' := eq_true hi0
      have hni' := eq_true hni
      have hlt' := eq_true hlt
      go_wp2_with (first | ((with_reducible refine gate_dst (N := 5) rfl ?_); (try (refine gate_guard (by rfl) ?_; dsimp only)); refine box_event ?hg (N := 5) ?hd (cs := #[.int .i64 0, .int .i64 0, .int .i64 0, .int .i64 0, .int .i64 0, .int .i64 0, .slice none 0 0, .slice none 0 0]) (t := 27) ?hr ?_; (case hd => rfl); (case hg => rfl); (case hr => first | (go_simp; done) | (go_simp; rfl)); intro gp hgp wp hbox hb; have GP := Aside0.mk (show w.heap.size ≤ gp by rw [hgp]; exact HB.out.size); have GN := Aside0.mk (show g ≠ gp by have := Kd.R_lt HR.out g rfl; omega); have GW := Aside0.mk (show wr.heap.size ≤ gp by omega); have HB2 := Aside0.mk (below_step HB.out hb); have HK2 := Aside0.mk (Kept.of_below hb (fun _ => False)); have HR2 := Aside0.mk (Kd.R_below HR.out hb); have BP := Aside0.mk hbox; have hp0 : wp.cell? ⟨gp, 0, none⟩ = some (.int .i64 0) := (blk_cell BP.out 0).trans rfl; have hpf0 := blk_frozen BP.out 0; have hp1 : wp.cell? ⟨gp, 1, none⟩ = some (.int .i64 0) := (blk_cell BP.out 1).trans rfl; have hpf1 := blk_frozen BP.out 1; have hp2 : wp.cell? ⟨gp, 2, none⟩ = some (.int .i64 0) := (blk_cell BP.out 2).trans rfl; have hpf2 := blk_frozen BP.out 2; have hp3 : wp.cell? ⟨gp, 3, none⟩ = some (.int .i64 0) := (blk_cell BP.out 3).trans rfl; have hpf3 := blk_frozen BP.out 3; have hp4 : wp.cell? ⟨gp, 4, none⟩ = some (.int .i64 0) := (blk_cell BP.out 4).trans rfl; have hpf4 := blk_frozen BP.out 4; have hp5 : wp.cell? ⟨gp, 5, none⟩ = some (.int .i64 0) := (blk_cell BP.out 5).trans rfl; have hpf5 := blk_frozen BP.out 5; have hp6 : wp.cell? ⟨gp, 6, none⟩ = some (.slice none 0 0) := (blk_cell BP.out 6).trans rfl; have hpf6 := blk_frozen BP.out 6; have hp7 : wp.cell? ⟨gp, 7, none⟩ = some (.slice none 0 0) := (blk_cell BP.out 7).trans rfl; have hpf7 := blk_frozen BP.out 7; clear hgp hbox hb) | ((with_reducible refine gate_store (t := 27) (p := 5) rfl ?_); refine store_event (t := 27) (p := 5) (v := .tmp 14) (w1 := ((((((((wp.setCell ⟨gp, 0, none⟩ (.int .i64 x.f0)).setCell ⟨gp, 1, none⟩ (.int .i64 x.f1)).setCell ⟨gp, 2, none⟩ (.int .i64 x.f2)).setCell ⟨gp, 3, none⟩ (.int .i64 x.f3)).setCell ⟨gp, 4, none⟩ (.int .i64 x.f4.f0)).setCell ⟨gp, 5, none⟩ (.int .i64 x.f4.f1)).setCell ⟨gp, 6, none⟩ (.slice PA x.f5.length QA)).setCell ⟨gp, 7, none⟩ (.slice PB x.f6.length QB))) ?hg ?ho ?hn ?hr ?_; (case ho => rfl); (case hg => rfl); (case hn => rfl); (case hr => first | (go_simp; done) | (go_simp; rfl)); intro w3 hw; have HB3 : Aside0 (Below w.heap.size w w3) := ⟨by rw [hw]; exact (below_set (below_set (below_set (below_set (below_set (below_set (below_set (below_set HB2.out GP.out (g := gp) (j := 0) (v := .int .i64 x.f0)) GP.out (g := gp) (j := 1) (v := .int .i64 x.f1)) GP.out (g := gp) (j := 2) (v := .int .i64 x.f2)) GP.out (g := gp) (j := 3) (v := .int .i64 x.f3)) GP.out (g := gp) (j := 4) (v := .int .i64 x.f4.f0)) GP.out (g := gp) (j := 5) (v := .int .i64 x.f4.f1)) GP.out (g := gp) (j := 6) (v := .slice PA x.f5.length QA)) GP.out (g := gp) (j := 7) (v := .slice PB x.f6.length QB))⟩; have BP3 : Aside0 (w3.heap[gp]? = some (.cells #[.int .i64 x.f0, .int .i64 x.f1, .int .i64 x.f2, .int .i64 x.f3, .int .i64 x.f4.f0, .int .i64 x.f4.f1, .slice PA x.f5.length QA, .slice PB x.f6.length QB] 27 (0, 0))) := ⟨by rw [hw]; exact (blk_put (blk_put (blk_put (blk_put (blk_put (blk_put (blk_put (blk_put BP.out 0 (.int .i64 x.f0) rfl) 1 (.int .i64 x.f1) rfl) 2 (.int .i64 x.f2) rfl) 3 (.int .i64 x.f3) rfl) 4 (.int .i64 x.f4.f0) rfl) 5 (.int .i64 x.f4.f1) rfl) 6 (.slice PA x.f5.length QA) rfl) 7 (.slice PB x.f6.length QB) rfl)⟩; have HR3 : Aside0 (Kd.R (Kd.raw 8) 27 w3 w.heap.size (fun _ => True) (.slice (some ⟨g, 0, none⟩) n c2) ys) := ⟨by rw [hw]; exact (YtlojkphocbbjdaaW.Bas.R_apart rfl (YtlojkphocbbjdaaW.Bas.R_apart rfl (YtlojkphocbbjdaaW.Bas.R_apart rfl (YtlojkphocbbjdaaW.Bas.R_apart rfl (YtlojkphocbbjdaaW.Bas.R_apart rfl (YtlojkphocbbjdaaW.Bas.R_apart rfl (YtlojkphocbbjdaaW.Bas.R_apart rfl (YtlojkphocbbjdaaW.Bas.R_apart rfl HR2.out GN.out 0 (.int .i64 x.f0)) GN.out 1 (.int .i64 x.f1)) GN.out 2 (.int .i64 x.f2)) GN.out 3 (.int .i64 x.f3)) GN.out 4 (.int .i64 x.f4.f0)) GN.out 5 (.int .i64 x.f4.f1)) GN.out 6 (.slice PA x.f5.length QA)) GN.out 7 (.slice PB x.f6.length QB))⟩; have HK3 : Aside0 (Kept wr w3 (fun _ => False)) := ⟨by rw [hw]; exact (YtlojkphocbbjdaaW.Bas.kept_far (YtlojkphocbbjdaaW.Bas.kept_far (YtlojkphocbbjdaaW.Bas.kept_far (YtlojkphocbbjdaaW.Bas.kept_far (YtlojkphocbbjdaaW.Bas.kept_far (YtlojkphocbbjdaaW.Bas.kept_far (YtlojkphocbbjdaaW.Bas.kept_far (YtlojkphocbbjdaaW.Bas.kept_far HK2.out GW.out 0 (.int .i64 x.f0)) GW.out 1 (.int .i64 x.f1)) GW.out 2 (.int .i64 x.f2)) GW.out 3 (.int .i64 x.f3)) GW.out 4 (.int .i64 x.f4.f0)) GW.out 5 (.int .i64 x.f4.f1)) GW.out 6 (.slice PA x.f5.length QA)) GW.out 7 (.slice PB x.f6.length QB))⟩; have hqA : w3.cell? ⟨gp, 6, none⟩ = some (.slice PA x.f5.length QA) := (blk_cell BP3.out 6).trans rfl; have hqB : w3.cell? ⟨gp, 7, none⟩ = some (.slice PB x.f6.length QB) := (blk_cell BP3.out 7).trans rfl; clear hw hp0 hpf0 hp1 hpf1 hp2 hpf2 hp3 hpf3 hp4 hpf4 hp5 hpf5 hp6 hpf6 hp7 hpf7 h0 h1 h2 h3 h4 h5 h6 h7))
      have HGA3 := Aside0.mk (Kd.C_below (w := w) (w1 := w3) HGA.out HB3.out)
      have HGB3 := Aside0.mk (Kd.C_below (w := w) (w1 := w3) HGBB.out HB3.out)
      have hqAd : w3.drew.cell? ⟨gp, 6, none⟩ = some (.slice PA x.f5.length QA) := hqA
      have hqBd : w3.drew.cell? ⟨gp, 7, none⟩ = some (.slice PB x.f6.length QB) := hqB
      have HB3d := Aside0.mk (below_drew HB3.out)
      have HK3d := Aside0.mk (Kept.drew HK3.out)
      have HR3d := Aside0.mk (Kd.R_drew HR3.out)
      have HGA3d := Aside0.mk (Kd.C_drew HGA3.out)
      have HGB3d := Aside0.mk (Kd.C_drew HGB3.out)
      go_region_held3 (fun w' => w'.cell? ⟨gp, 6, none⟩ = some (.slice PA x.f5.length QA) ∧ w'.cell? ⟨gp, 7, none⟩ = some (.slice PB x.f6.length QB)) (first | go_keep | exact ⟨hKA5, hKB5⟩ | exact ⟨hKA, hKB⟩)
        (first | (go_at_call 73; with_reducible refine (api_Val_73.calls PA QA x.f5 x.f5 _ ?s1 ?s2 ?s3).mono ?_; (case s1 => exact HGA3d.out); (case s2 => exact HLA.out); (case s3 => exact (by unfold api_Val_73.f; rw [if_pos HOKX.out.1])); rintro e w4 ⟨v4, rfl, hr4, hbK⟩; have HB4 := Aside0.mk (below_step HB3d.out hbK); have HR4 := Aside0.mk (Kd.R_below HR3d.out hbK); have HV4 := Aside0.mk hr4; have HK4 := Aside0.mk (Kept.below HK3d.out hbK); have HGB4 := Aside0.mk (Kd.C_below HGB3d.out hbK); have hKA : w4.cell? ⟨gp, 6, none⟩ = some (.slice PA x.f5.length QA) := (hbK.cell (p := ⟨gp, 6, none⟩) (World.block_lt_of_cell? _ _ hqAd)).trans hqAd; have hKB : w4.cell? ⟨gp, 7, none⟩ = some (.slice PB x.f6.length QB) := (hbK.cell (p := ⟨gp, 7, none⟩) (World.block_lt_of_cell? _ _ hqBd)).trans hqBd; obtain ⟨A4, n4, c4, rfl⟩ : ∃ A4 n4 c4, v4 = .slice A4 n4 c4 := (let ⟨A_, c_, h_⟩ := Kd.R_slice hr4; ⟨A_, _, c_, h_⟩); clear hr4 hbK) | (go_at_call 74; with_reducible refine (api_Try.calls PB QB x.f6 x.f6 _ ?t1 ?t2 ?t3).mono ?_; (case t1 => exact HGB4.out); (case t2 => exact HLB.out); (case t3 => exact (by unfold api_Try.f; rw [if_pos HOKX.out.2])); rintro e w5 ⟨v5, rfl, hr5, hbK⟩; have HB5 := Aside0.mk (below_step HB4.out hbK); have HR5 := Aside0.mk (Kd.R_below HR4.out hbK); have HK5 := Aside0.mk (Kept.below HK4.out hbK); have HV5 := Aside0.mk hr5; have HV4b := Aside0.mk (Kd.R_below HV4.out hbK); have hKA5 : w5.cell? ⟨gp, 6, none⟩ = some (.slice PA x.f5.length QA) := (hbK.cell (p := ⟨gp, 6, none⟩) (World.block_lt_of_cell? _ _ hKA)).trans hKA; have hKB5 : w5.cell? ⟨gp, 7, none⟩ = some (.slice PB x.f6.length QB) := (hbK.cell (p := ⟨gp, 7, none⟩) (World.block_lt_of_cell? _ _ hKB)).trans hKB; obtain ⟨A5, n5, c5, rfl⟩ : ∃ A5 n5 c5, v5 = .slice A5 n5 c5 := (let ⟨A_, c_, h_⟩ := Kd.R_slice hr5; ⟨A_, _, c_, h_⟩); obtain ⟨ce5, hM5, hcl5, hcc5, hfr5⟩ := YtlojkphocbbjdaaW.Bas.raw_elem HR5.out i (of_eq_true hi0') (of_eq_true hni'); have hM6 := hM5.trans HCE.out.symm; subst hM6; have hng : ¬ (g = gp) := GN.out; have hng2 : ¬ (gp = g) := Ne.symm GN.out; have hsA : w5.cell? ⟨g, i.toNat * 8 + 6, none⟩ = some (.slice KA x.f5.length KC) := hcc5 6 _ rfl; have hsB : w5.cell? ⟨g, i.toNat * 8 + 7, none⟩ = some (.slice KB x.f6.length KD) := hcc5 7 _ rfl; have hfA : w5.frozen? ⟨g, i.toNat * 8 + 6, none⟩ = false := hfr5 6; have hfB : w5.frozen? ⟨g, i.toNat * 8 + 7, none⟩ = false := hfr5 7; have HCL5 := Aside0.mk hcl5; have HCC5 := Aside0.mk hcc5; clear hr5 hbK hcl5 hM5 hcc5 hfr5))
      all_goals
        have HSEG := Aside0.mk (Kd.R_seg HR5.out i (of_eq_true hi0') (of_eq_true hni') (seg := [.slice A4 n4 c4, .slice A5 n5 c5]) (j := 6) HCL5.out HCC5.out (show 6 + 2 ≤ 8 from by decide) (x' := [.int .i64 x.f0, .int .i64 x.f1, .int .i64 x.f2, .int .i64 x.f3, .int .i64 x.f4.f0, .int .i64 x.f4.f1, .slice A4 n4 c4, .slice A5 n5 c5]) (show (Kd.raw 8).M w5 w.heap.size (fun _ => False) [.int .i64 x.f0, .int .i64 x.f1, .int .i64 x.f2, .int .i64 x.f3, .int .i64 x.f4.f0, .int .i64 x.f4.f1, .slice A4 n4 c4, .slice A5 n5 c5] [.int .i64 x.f0, .int .i64 x.f1, .int .i64 x.f2, .int .i64 x.f3, .int .i64 x.f4.f0, .int .i64 x.f4.f1, .slice A4 n4 c4, .slice A5 n5 c5] from ⟨rfl, rfl, by simp [Value.oneCell']⟩) (fun _ hk => hk.elim))
        have HXN := Aside0.mk (show k27.M w5 w.heap.size (fun k => k ≠ g) x [.int .i64 x.f0, .int .i64 x.f1, .int .i64 x.f2, .int .i64 x.f3, .int .i64 x.f4.f0, .int .i64 x.f4.f1, .slice A4 n4 c4, .slice A5 n5 c5] from k27_mkM _ _ _ x (Kd.R_lower (Kd.R_mono (Kd.R_bound HV4b.out) (fun k hk e => by have h1 := hk.2.1; have h2 := HB3d.out.size; have h3 := HK3d.out.1; have h4 := Kd.R_lt HR.out g rfl; rw [e] at h1; omega)) HB3d.out.size) (Kd.R_lower (Kd.R_mono (Kd.R_bound HV5.out) (fun k hk e => by have h1 := hk.2.1; have h3 := HK4.out.1; have h4 := Kd.R_lt HR.out g rfl; rw [e] at h1; omega)) HB4.out.size))
        clear hsA hsB hfA hfB hqA hqB hqAd hqBd hKA hKB hKA5 hKB5
        go_wp2
        go_roundw
        case rel =>
          have hki : ∀ k, k ≠ g → ((w5.setCell ⟨g, i.toNat * 8 + 6, none⟩ (.slice A4 n4 c4)).setCell ⟨g, i.toNat * 8 + 6 + 1, none⟩ (.slice A5 n5 c5)).heap[k]? = w5.heap[k]? := fun k hk => (Below.heap_setCell _ _ _ k hk).trans (Below.heap_setCell _ _ _ k hk)
          refine ⟨i + 1, ys.set i.toNat [.int .i64 x.f0, .int .i64 x.f1, .int .i64 x.f2, .int .i64 x.f3, .int .i64 x.f4.f0, .int .i64 x.f4.f1, .slice A4 n4 c4, .slice A5 n5 c5], by first | rw [HW.out] | rfl, ⟨by omega⟩, ⟨by rw [List.length_set]; exact HYL.out⟩, ⟨HSEG.out.1⟩, ⟨fun j y c hj hy hc => ?_⟩, ⟨fun j hj => ?_⟩, ⟨below_set (below_set HB5.out HGB.out) HGB.out⟩⟩
          · by_cases hji : j = i.toNat
            · subst hji
              have hy2 : y = x := Option.some.inj (hy.symm.trans HXI.out)
              have hc2 : c = [.int .i64 x.f0, .int .i64 x.f1, .int .i64 x.f2, .int .i64 x.f3, .int .i64 x.f4.f0, .int .i64 x.f4.f1, .slice A4 n4 c4, .slice A5 n5 c5] := by
                have hlt2 : i.toNat < ys.length := by have := HYL.out; omega
                rw [List.getElem?_set_self hlt2] at hc
                exact (Option.some.inj hc).symm
              rw [hy2, hc2]
              refine k27.M_mono (fun k hk e => hk (by injection e)) (k27.M_step HXN.out (fun k hk _ => hki k hk))
            · rw [List.getElem?_set_ne (fun e => hji e.symm)] at hc
              have hm := HM.out j y c (by omega) hy hc
              exact k27.M_step (k27.M_step hm (fun k _ hlt => HK5.out.2 k hlt (fun h => h))) (fun k hk _ => hki k (fun e => hk (by rw [e]; rfl)))
          · rw [List.getElem?_set_ne (by omega)]
            exact HK.out j (by omega)
        case measure => simp only [intOf]; (try rw [HW.out]); omega
    · have ht : decide (i < (l0.length : Int)) = false := decide_eq_false hlt
      go_wp2
      go_ret
      refine ⟨_, rfl, ?_, HB.out⟩
      rcases Nat.eq_zero_or_pos l0.length with h0 | h0
      · obtain rfl := List.eq_nil_of_length_eq_zero h0
        obtain rfl := List.eq_nil_of_length_eq_zero (HYL.out.trans h0)
        exact Kd.R_mono (show Kd.R k27 27 wr w.heap.size (fun _ => True) (.slice A2 n c2) [] from by obtain ⟨_, inner, ho, hr⟩ := HR.out; exact ⟨fun _ _ => trivial, inner, ho, ⟨hr.1, fun j p hp => by simp at hp⟩⟩) (fun _ _ => trivial)
      · obtain ⟨g, cp, hv, _⟩ := Kd.R_form HR.out (by have := HYL.out; omega)
        obtain ⟨rfl, rfl⟩ : A2 = some ⟨g, 0, none⟩ ∧ c2 = cp := by injection hv with a b c; exact ⟨a, c⟩
        exact leave_frames_done HR.out HYL.out (fun j x c hx hc => k27.M_mono (fun k hk e => hk (by rw [e]; rfl)) (HM.out j x c (by have := (List.getElem?_eq_some_iff.1 hx).1; omega) hx hc))

/-! ### leave_own: function 82 -/
theorem leave_own_raw (A0 : Option Addr) (c0 : Nat) (xs : List (List Value)) (w : World) (hr0 : Kd.C (Kd.raw 4) w A0 xs.length xs) (hn : xs.length < 2199023255552) :
    Calls Try.prog 130 #[.slice A0 xs.length c0] w fun e w' => ∃ v0_ : Value, e = .returned v0_ ∧ Kd.R (Kd.raw 4) 61 w' w.heap.size (fun _ => True) v0_ xs ∧ Below w.heap.size w w' := by
  have HR0 := Aside0.mk hr0
  have HL := Aside0.mk hn
  clear hr0 hn
  have q22 : ∀ (w : World) (a : Option Addr) (n c : Nat), (binOp .eql 55 (.slice a n c) (.slice none 0 0)).run Try.prog w = .ok (.bool a.isNone) w := fun w a n c => Lib.run_eql_slice_nil w _ _ a n c 0 0 Try.underlying55
  rcases A0 with _ | ad
  · obtain ⟨rfl, _⟩ := YtlojkphocbbjdaaW.Bas.nil_of_none HR0.out
    go_enter Try.func130, Try.ntmps130
    go_wp2
    go_ret
    exact ⟨_, rfl, Kd.R_nil _ _ _ _ _, Below.refl _ _⟩
  · go_enter Try.func130, Try.ntmps130
    go_wp2_with (at_builtin; refine Kd.R_append_rows (Kd.raw 4) (Rr := (Kd.raw 4).K (w.alloc (.cells #[] 61))) (w0 := w) w.heap.size rfl (.tmp 5) (.tmp 6) 55 61 (.agg #[(.int .i64 0), (.int .i64 0), (.slice none 0 0), (.slice none 0 0)]) 64 rfl Try.underlying55 info61 rfl (by decide) (by omega) (.slice (some ⟨w.heap.size, 0, none⟩) 0 0) [] xs (some ad) xs.length c0 (fun _ => True) (fun k => k < w.heap.size) rfl rfl ?aE ?aR ?aM ?aO (fun _ _ => trivial) ?aB ?aS ?aL ?_; (case aE => exact YtlojkphocbbjdaaW.Bas.R_empty _ _ _ _ trivial); (case aR => exact Kd.C_alloc HR0.out _); (case aM => exact fun x cs h => h); (case aO => exact (fun k hk => ⟨trivial, by simp [Value.ownBlock]; omega⟩)); (case aB => exact below_alloc (Below.refl _ _) _); (case aS => simp); (case aL => have := HL.out; simp; omega); intro v1 w1 ho hb hg hat; rw [List.nil_append] at ho; have HO := Aside0.mk ho; have HB := Aside0.mk hb; clear ho hb hg hat)
    go_ret
    exact ⟨_, rfl, HO.out, HB.out⟩
def leave_own.okE (x : S61) : Prop := x.f2.length < 8796093022208 ∧ x.f3.length < 1466015503701 ∧ ∀ y ∈ x.f3, leave_frames.okE y
instance (x : S61) : Decidable (leave_own.okE x) := by unfold leave_own.okE; infer_instance
def leave_own.f (l0 : List S61) : Option (List S61) := if l0.length < 2199023255552 ∧ ∀ x ∈ l0, leave_own.okE x then some l0 else none
theorem leave_own_done {w : World} {base g n cap : Nat} {ys : List (List Value)} {l : List S61} (hR : Kd.R (Kd.raw 4) 61 w base (fun _ => True) (.slice (some ⟨g, 0, none⟩) n cap) ys) (hl : ys.length = l.length)
    (hM : ∀ (j : Nat) (x : S61) (c : List Value), l[j]? = some x → ys[j]? = some c → k61.M w base (fun k => k ≠ g) x c) : Kd.R k61 61 w base (fun _ => True) (.slice (some ⟨g, 0, none⟩) n cap) l := by
  obtain ⟨_, inner, ho, hr⟩ := hR
  refine ⟨fun _ _ => trivial, inner, ?_, ?_⟩
  · rw [hl] at ho; exact ho
  · refine ⟨by rw [hr.1, hl]; rfl, fun j x hj => ?_⟩
    have hlt : j < ys.length := by rw [hl]; exact (List.getElem?_eq_some_iff.1 hj).1
    have h1 := hr.2 j ys[j] (List.getElem?_eq_getElem hlt)
    rw [show (inner.drop (j * k61.sz)).take k61.sz = ys[j] from h1.1]
    exact k61.M_mono (fun k hk => ⟨trivial, fun e => hk (by injection e)⟩) (hM j x ys[j] hj (List.getElem?_eq_getElem hlt))
set_option maxHeartbeats 8000000 in
set_option maxRecDepth 100000 in
theorem leave_own.calls (A0 : Option Addr) (c0 : Nat) (l0 : List S61) (r : List S61) (w : World) (hr0 : Kd.C k61 w A0 l0.length l0) (hc0 : l0.length ≤ c0) (h : leave_own.f l0 = some r) :
    Calls Try.prog 82 #[.slice A0 l0.length c0] w fun e w' => ∃ v0_ : Value, e = .returned v0_ ∧ Kd.R k61 61 w' w.heap.size (fun _ => True) v0_ r ∧ Below w.heap.size w w' := by
  unfold leave_own.f at h
  split at h
  case isFalse => cases h
  rename_i hok
  obtain rfl := Option.some.inj h
  obtain ⟨xs, hxl, hxr, hxf⟩ := Kd.reads_raw hr0 (fun x c hk => ⟨k61.K_len hk, k61.K_one hk⟩)
  have HCL := Aside0.mk (leave_own_raw A0 c0 xs w (by rw [hxl]; exact hxr) (by rw [hxl]; exact hok.1))
  rw [hxl] at HCL
  have HR0 := Aside0.mk hr0
  have HC0 := Aside0.mk hc0
  have HXL := Aside0.mk hxl
  have HXF := Aside0.mk hxf
  have HOK := Aside0.mk hok.2
  have HN := Aside0.mk hr0.2.1
  clear h hxl hxr hxf hok hr0 hc0
  go_enter Try.func82, Try.ntmps82
  go_wp2_with (go_at_call 130; refine HCL.out.mono ?_; rintro e w2 ⟨v2, rfl, hr2, hb2⟩; have HB2 := Aside0.mk hb2; have HR2 := Aside0.mk hr2; clear hr2 hb2; obtain ⟨A2, c2, rfl⟩ := Kd.R_slice HR2.out)
  obtain ⟨n, hn⟩ : ∃ n, n = l0.length := ⟨_, rfl⟩
  have HNN := Aside0.mk hn
  rw [show xs.length = n by rw [HXL.out, hn]] at HR2 ⊢
  clear hn
  go_loopw [10] (fun v10 wr => ∃ (i : Int) (ys : List (List Value)), v10 = .int .i64 i ∧ Aside0 (0 ≤ i ∧ i ≤ l0.length) ∧ Aside0 (ys.length = l0.length) ∧ Aside0 (Kd.R (Kd.raw 4) 61 wr w.heap.size (fun _ => True) (.slice A2 n c2) ys) ∧ Aside0 (∀ (j : Nat) (x : S61) (c : List Value), (j : Int) < i → l0[j]? = some x → ys[j]? = some c → k61.M wr w.heap.size (fun k => some k ≠ (Value.slice A2 n c2).ownBlock) x c) ∧ Aside0 (∀ j : Nat, i ≤ (j : Int) → ys[j]? = xs[j]?) ∧ Aside0 (Below w.heap.size w wr)) (fun v10 _ => l0.length - (intOf v10).toNat)
  case atStart => exact ⟨0, xs, rfl, ⟨by omega⟩, HXL, HR2, ⟨fun j x c hj => by omega⟩, ⟨fun _ _ => rfl⟩, HB2⟩
  case round =>
    clear HR2 HB2 HCL
    obtain ⟨i, ys, rfl, Hi, HYL, HR, HM, HK, HB⟩ := hrel
    have hi0 : 0 ≤ i := Hi.out.1
    by_cases hlt : i < (l0.length : Int)
    · have ht : decide (i < (l0.length : Int)) = true := decide_eq_true hlt
      have HW := Aside0.mk (show wrap64 (i + 1) = i + 1 by have := HN.out; unfold wrap64; omega)
      obtain ⟨g, cp, hv, hgb, hgl, _⟩ := Kd.R_form HR.out (by have := HYL.out; omega)
      obtain ⟨rfl, rfl⟩ : A2 = some ⟨g, 0, none⟩ ∧ c2 = cp := by injection hv with a b c; exact ⟨a, c⟩
      have HGB := Aside0.mk hgb
      clear hv hgb hgl
      obtain ⟨ad, PA, QA, PB, QB, e, h0, h1, h2, h3, hlA, hgA, hlB, hgB⟩ := at_T61 HR0.out i hi0 hlt
      obtain ⟨x, hx⟩ : ∃ x, x = rd_T61 l0 i := ⟨_, rfl⟩
      have HXI := Aside0.mk (show l0[i.toNat]? = some x by rw [hx, rd_T61, List.getD_eq_getElem?_getD, List.getElem?_eq_getElem (by omega), Option.getD_some])
      rw [← hx] at h0 h1 h2 h3 hlA hgA hlB hgB
      cases e
      replace h0 := (HB.out.cell (World.block_lt_of_cell? w _ h0)).trans h0
      replace h1 := (HB.out.cell (World.block_lt_of_cell? w _ h1)).trans h1
      replace h2 := (HB.out.cell (World.block_lt_of_cell? w _ h2)).trans h2
      replace h3 := (HB.out.cell (World.block_lt_of_cell? w _ h3)).trans h3
      have HLA := Aside0.mk hlA
      have HGA := Aside0.mk hgA
      have HLB := Aside0.mk hlB
      have HGBB := Aside0.mk hgB
      clear hx hlA hgA hlB hgB
      have hokx := HOK.out x (List.mem_of_getElem? HXI.out)
      unfold leave_own.okE at hokx
      have HOKX := Aside0.mk hokx
      clear hokx
      have hni : i < (n : Int) := by have := HNN.out; omega
      obtain ⟨ce, hcl, hMr, hcc, hfr⟩ := Kd.R_elem HR.out ([] : List Value) i hi0 hni
      have HCE := Aside0.mk (show ce = ys.getD i.toNat [] from hMr.1)
      have HCX := Aside0.mk (show xs[i.toNat]? = some ce by rw [← HK.out i.toNat (by omega), hMr.1, List.getD_eq_getElem?_getD, List.getElem?_eq_getElem (by have := HYL.out; omega), Option.getD_some])
      obtain ⟨KA, KC, KB, KD, hce, _⟩ := k61_open (HXF.out i.toNat x ce HXI.out HCX.out)
      subst hce
      have HCL := Aside0.mk hcl
      have HCC := Aside0.mk hcc
      have HFR := Aside0.mk hfr
      clear hcl hcc hfr hMr
      have hi0' := eq_true hi0
      have hni' := eq_true hni
      have hlt' := eq_true hlt
      go_wp2_with (first | ((with_reducible refine gate_dst (N := 5) rfl ?_); (try (refine gate_guard (by rfl) ?_; dsimp only)); refine box_event ?hg (N := 5) ?hd (cs := #[.int .i64 0, .int .i64 0, .slice none 0 0, .slice none 0 0]) (t := 61) ?hr ?_; (case hd => rfl); (case hg => rfl); (case hr => first | (go_simp; done) | (go_simp; rfl)); intro gp hgp wp hbox hb; have GP := Aside0.mk (show w.heap.size ≤ gp by rw [hgp]; exact HB.out.size); have GN := Aside0.mk (show g ≠ gp by have := Kd.R_lt HR.out g rfl; omega); have GW := Aside0.mk (show wr.heap.size ≤ gp by omega); have HB2 := Aside0.mk (below_step HB.out hb); have HK2 := Aside0.mk (Kept.of_below hb (fun _ => False)); have HR2 := Aside0.mk (Kd.R_below HR.out hb); have BP := Aside0.mk hbox; have hp0 : wp.cell? ⟨gp, 0, none⟩ = some (.int .i64 0) := (blk_cell BP.out 0).trans rfl; have hpf0 := blk_frozen BP.out 0; have hp1 : wp.cell? ⟨gp, 1, none⟩ = some (.int .i64 0) := (blk_cell BP.out 1).trans rfl; have hpf1 := blk_frozen BP.out 1; have hp2 : wp.cell? ⟨gp, 2, none⟩ = some (.slice none 0 0) := (blk_cell BP.out 2).trans rfl; have hpf2 := blk_frozen BP.out 2; have hp3 : wp.cell? ⟨gp, 3, none⟩ = some (.slice none 0 0) := (blk_cell BP.out 3).trans rfl; have hpf3 := blk_frozen BP.out 3; clear hgp hbox hb) | ((with_reducible refine gate_store (t := 61) (p := 5) rfl ?_); refine store_event (t := 61) (p := 5) (v := .tmp 14) (w1 := ((((wp.setCell ⟨gp, 0, none⟩ (.int .i64 x.f0)).setCell ⟨gp, 1, none⟩ (.int .i64 x.f1)).setCell ⟨gp, 2, none⟩ (.slice PA x.f2.length QA)).setCell ⟨gp, 3, none⟩ (.slice PB x.f3.length QB))) ?hg ?ho ?hn ?hr ?_; (case ho => rfl); (case hg => rfl); (case hn => rfl); (case hr => first | (go_simp; done) | (go_simp; rfl)); intro w3 hw; have HB3 : Aside0 (Below w.heap.size w w3) := ⟨by rw [hw]; exact (below_set (below_set (below_set (below_set HB2.out GP.out (g := gp) (j := 0) (v := .int .i64 x.f0)) GP.out (g := gp) (j := 1) (v := .int .i64 x.f1)) GP.out (g := gp) (j := 2) (v := .slice PA x.f2.length QA)) GP.out (g := gp) (j := 3) (v := .slice PB x.f3.length QB))⟩; have BP3 : Aside0 (w3.heap[gp]? = some (.cells #[.int .i64 x.f0, .int .i64 x.f1, .slice PA x.f2.length QA, .slice PB x.f3.length QB] 61 (0, 0))) := ⟨by rw [hw]; exact (blk_put (blk_put (blk_put (blk_put BP.out 0 (.int .i64 x.f0) rfl) 1 (.int .i64 x.f1) rfl) 2 (.slice PA x.f2.length QA) rfl) 3 (.slice PB x.f3.length QB) rfl)⟩; have HR3 : Aside0 (Kd.R (Kd.raw 4) 61 w3 w.heap.size (fun _ => True) (.slice (some ⟨g, 0, none⟩) n c2) ys) := ⟨by rw [hw]; exact (YtlojkphocbbjdaaW.Bas.R_apart rfl (YtlojkphocbbjdaaW.Bas.R_apart rfl (YtlojkphocbbjdaaW.Bas.R_apart rfl (YtlojkphocbbjdaaW.Bas.R_apart rfl HR2.out GN.out 0 (.int .i64 x.f0)) GN.out 1 (.int .i64 x.f1)) GN.out 2 (.slice PA x.f2.length QA)) GN.out 3 (.slice PB x.f3.length QB))⟩; have HK3 : Aside0 (Kept wr w3 (fun _ => False)) := ⟨by rw [hw]; exact (YtlojkphocbbjdaaW.Bas.kept_far (YtlojkphocbbjdaaW.Bas.kept_far (YtlojkphocbbjdaaW.Bas.kept_far (YtlojkphocbbjdaaW.Bas.kept_far HK2.out GW.out 0 (.int .i64 x.f0)) GW.out 1 (.int .i64 x.f1)) GW.out 2 (.slice PA x.f2.length QA)) GW.out 3 (.slice PB x.f3.length QB))⟩; have hqA : w3.cell? ⟨gp, 2, none⟩ = some (.slice PA x.f2.length QA) := (blk_cell BP3.out 2).trans rfl; have hqB : w3.cell? ⟨gp, 3, none⟩ = some (.slice PB x.f3.length QB) := (blk_cell BP3.out 3).trans rfl; clear hw hp0 hpf0 hp1 hpf1 hp2 hpf2 hp3 hpf3 h0 h1 h2 h3))
      have HGA3 := Aside0.mk (Kd.C_below (w := w) (w1 := w3) HGA.out HB3.out)
      have HGB3 := Aside0.mk (Kd.C_below (w := w) (w1 := w3) HGBB.out HB3.out)
      have hqAd : w3.drew.cell? ⟨gp, 2, none⟩ = some (.slice PA x.f2.length QA) := hqA
      have hqBd : w3.drew.cell? ⟨gp, 3, none⟩ = some (.slice PB x.f3.length QB) := hqB
      have HB3d := Aside0.mk (below_drew HB3.out)
      have HK3d := Aside0.mk (Kept.drew HK3.out)
      have HR3d := Aside0.mk (Kd.R_drew HR3.out)
      have HGA3d := Aside0.mk (Kd.C_drew HGA3.out)
      have HGB3d := Aside0.mk (Kd.C_drew HGB3.out)
      go_region_held3 (fun w' => w'.cell? ⟨gp, 2, none⟩ = some (.slice PA x.f2.length QA) ∧ w'.cell? ⟨gp, 3, none⟩ = some (.slice PB x.f3.length QB)) (first | go_keep | exact ⟨hKA5, hKB5⟩ | exact ⟨hKA, hKB⟩)
        (first | (go_at_call 73; with_reducible refine (api_Val_73.calls PA QA x.f2 x.f2 _ ?s1 ?s2 ?s3).mono ?_; (case s1 => exact HGA3d.out); (case s2 => exact HLA.out); (case s3 => exact (by unfold api_Val_73.f; rw [if_pos HOKX.out.1])); rintro e w4 ⟨v4, rfl, hr4, hbK⟩; have HB4 := Aside0.mk (below_step HB3d.out hbK); have HR4 := Aside0.mk (Kd.R_below HR3d.out hbK); have HV4 := Aside0.mk hr4; have HK4 := Aside0.mk (Kept.below HK3d.out hbK); have HGB4 := Aside0.mk (Kd.C_below HGB3d.out hbK); have hKA : w4.cell? ⟨gp, 2, none⟩ = some (.slice PA x.f2.length QA) := (hbK.cell (p := ⟨gp, 2, none⟩) (World.block_lt_of_cell? _ _ hqAd)).trans hqAd; have hKB : w4.cell? ⟨gp, 3, none⟩ = some (.slice PB x.f3.length QB) := (hbK.cell (p := ⟨gp, 3, none⟩) (World.block_lt_of_cell? _ _ hqBd)).trans hqBd; obtain ⟨A4, n4, c4, rfl⟩ : ∃ A4 n4 c4, v4 = .slice A4 n4 c4 := (let ⟨A_, c_, h_⟩ := Kd.R_slice hr4; ⟨A_, _, c_, h_⟩); clear hr4 hbK) | (go_at_call 131; with_reducible refine (leave_frames.calls PB QB x.f3 x.f3 _ ?t1 ?t2 ?t3).mono ?_; (case t1 => exact HGB4.out); (case t2 => exact HLB.out); (case t3 => exact (by unfold leave_frames.f; rw [if_pos HOKX.out.2])); rintro e w5 ⟨v5, rfl, hr5, hbK⟩; have HB5 := Aside0.mk (below_step HB4.out hbK); have HR5 := Aside0.mk (Kd.R_below HR4.out hbK); have HK5 := Aside0.mk (Kept.below HK4.out hbK); have HV5 := Aside0.mk hr5; have HV4b := Aside0.mk (Kd.R_below HV4.out hbK); have hKA5 : w5.cell? ⟨gp, 2, none⟩ = some (.slice PA x.f2.length QA) := (hbK.cell (p := ⟨gp, 2, none⟩) (World.block_lt_of_cell? _ _ hKA)).trans hKA; have hKB5 : w5.cell? ⟨gp, 3, none⟩ = some (.slice PB x.f3.length QB) := (hbK.cell (p := ⟨gp, 3, none⟩) (World.block_lt_of_cell? _ _ hKB)).trans hKB; obtain ⟨A5, n5, c5, rfl⟩ : ∃ A5 n5 c5, v5 = .slice A5 n5 c5 := (let ⟨A_, c_, h_⟩ := Kd.R_slice hr5; ⟨A_, _, c_, h_⟩); obtain ⟨ce5, hM5, hcl5, hcc5, hfr5⟩ := YtlojkphocbbjdaaW.Bas.raw_elem HR5.out i (of_eq_true hi0') (of_eq_true hni'); have hM6 := hM5.trans HCE.out.symm; subst hM6; have hng : ¬ (g = gp) := GN.out; have hng2 : ¬ (gp = g) := Ne.symm GN.out; have hsA : w5.cell? ⟨g, i.toNat * 4 + 2, none⟩ = some (.slice KA x.f2.length KC) := hcc5 2 _ rfl; have hsB : w5.cell? ⟨g, i.toNat * 4 + 3, none⟩ = some (.slice KB x.f3.length KD) := hcc5 3 _ rfl; have hfA : w5.frozen? ⟨g, i.toNat * 4 + 2, none⟩ = false := hfr5 2; have hfB : w5.frozen? ⟨g, i.toNat * 4 + 3, none⟩ = false := hfr5 3; have HCL5 := Aside0.mk hcl5; have HCC5 := Aside0.mk hcc5; clear hr5 hbK hcl5 hM5 hcc5 hfr5))
      all_goals
        have HSEG := Aside0.mk (Kd.R_seg HR5.out i (of_eq_true hi0') (of_eq_true hni') (seg := [.slice A4 n4 c4, .slice A5 n5 c5]) (j := 2) HCL5.out HCC5.out (show 2 + 2 ≤ 4 from by decide) (x' := [.int .i64 x.f0, .int .i64 x.f1, .slice A4 n4 c4, .slice A5 n5 c5]) (show (Kd.raw 4).M w5 w.heap.size (fun _ => False) [.int .i64 x.f0, .int .i64 x.f1, .slice A4 n4 c4, .slice A5 n5 c5] [.int .i64 x.f0, .int .i64 x.f1, .slice A4 n4 c4, .slice A5 n5 c5] from ⟨rfl, rfl, by simp [Value.oneCell']⟩) (fun _ hk => hk.elim))
        have HXN := Aside0.mk (show k61.M w5 w.heap.size (fun k => k ≠ g) x [.int .i64 x.f0, .int .i64 x.f1, .slice A4 n4 c4, .slice A5 n5 c5] from k61_mkM _ _ _ x (Kd.R_lower (Kd.R_mono (Kd.R_bound HV4b.out) (fun k hk e => by have h1 := hk.2.1; have h2 := HB3d.out.size; have h3 := HK3d.out.1; have h4 := Kd.R_lt HR.out g rfl; rw [e] at h1; omega)) HB3d.out.size) (Kd.R_lower (Kd.R_mono (Kd.R_bound HV5.out) (fun k hk e => by have h1 := hk.2.1; have h3 := HK4.out.1; have h4 := Kd.R_lt HR.out g rfl; rw [e] at h1; omega)) HB4.out.size))
        clear hsA hsB hfA hfB hqA hqB hqAd hqBd hKA hKB hKA5 hKB5
        go_wp2
        go_roundw
        case rel =>
          have hki : ∀ k, k ≠ g → ((w5.setCell ⟨g, i.toNat * 4 + 2, none⟩ (.slice A4 n4 c4)).setCell ⟨g, i.toNat * 4 + 2 + 1, none⟩ (.slice A5 n5 c5)).heap[k]? = w5.heap[k]? := fun k hk => (Below.heap_setCell _ _ _ k hk).trans (Below.heap_setCell _ _ _ k hk)
          refine ⟨i + 1, ys.set i.toNat [.int .i64 x.f0, .int .i64 x.f1, .slice A4 n4 c4, .slice A5 n5 c5], by first | rw [HW.out] | rfl, ⟨by omega⟩, ⟨by rw [List.length_set]; exact HYL.out⟩, ⟨HSEG.out.1⟩, ⟨fun j y c hj hy hc => ?_⟩, ⟨fun j hj => ?_⟩, ⟨below_set (below_set HB5.out HGB.out) HGB.out⟩⟩
          · by_cases hji : j = i.toNat
            · subst hji
              have hy2 : y = x := Option.some.inj (hy.symm.trans HXI.out)
              have hc2 : c = [.int .i64 x.f0, .int .i64 x.f1, .slice A4 n4 c4, .slice A5 n5 c5] := by
                have hlt2 : i.toNat < ys.length := by have := HYL.out; omega
                rw [List.getElem?_set_self hlt2] at hc
                exact (Option.some.inj hc).symm
              rw [hy2, hc2]
              refine k61.M_mono (fun k hk e => hk (by injection e)) (k61.M_step HXN.out (fun k hk _ => hki k hk))
            · rw [List.getElem?_set_ne (fun e => hji e.symm)] at hc
              have hm := HM.out j y c (by omega) hy hc
              exact k61.M_step (k61.M_step hm (fun k _ hlt => HK5.out.2 k hlt (fun h => h))) (fun k hk _ => hki k (fun e => hk (by rw [e]; rfl)))
          · rw [List.getElem?_set_ne (by omega)]
            exact HK.out j (by omega)
        case measure => simp only [intOf]; (try rw [HW.out]); omega
    · have ht : decide (i < (l0.length : Int)) = false := decide_eq_false hlt
      go_wp2
      go_ret
      refine ⟨_, rfl, ?_, HB.out⟩
      rcases Nat.eq_zero_or_pos l0.length with h0 | h0
      · obtain rfl := List.eq_nil_of_length_eq_zero h0
        obtain rfl := List.eq_nil_of_length_eq_zero (HYL.out.trans h0)
        exact Kd.R_mono (show Kd.R k61 61 wr w.heap.size (fun _ => True) (.slice A2 n c2) [] from by obtain ⟨_, inner, ho, hr⟩ := HR.out; exact ⟨fun _ _ => trivial, inner, ho, ⟨hr.1, fun j p hp => by simp at hp⟩⟩) (fun _ _ => trivial)
      · obtain ⟨g, cp, hv, _⟩ := Kd.R_form HR.out (by have := HYL.out; omega)
        obtain ⟨rfl, rfl⟩ : A2 = some ⟨g, 0, none⟩ ∧ c2 = cp := by injection hv with a b c; exact ⟨a, c⟩
        exact leave_own_done HR.out HYL.out (fun j x c hx hc => k61.M_mono (fun k hk e => hk (by rw [e]; rfl)) (HM.out j x c (by have := (List.getElem?_eq_some_iff.1 hx).1; omega) hx hc))

end Go.Proofs.Ytlojkphocbbjdaa.PLeaveCells
