-- Printed for this claim by a program of this session (inj.py), beside the kit's print. Not trusted: Lean checks it.
import Derived.Test.YtlojkphocbbjdabPEndsTellx0
import Derived.Test.YtlojkphocbbjdabPEndsTellx1
namespace Go.Proofs.Ytlojkphocbbjdab.PEndsTell
open Go.RowKit Go.Proofs.YtlojkphocbbjdabW.PrintWords Go.Proofs.YtlojkphocbbjdabW.PrintLast Go.Proofs.YtlojkphocbbjdabW.PrintMore
attribute [local go_sem] max2_int min2_int max_two min_two max_three min_three max_four min_four   -- for this text's walks alone
set_option linter.unusedVariables false
set_option linter.unusedSimpArgs false

/-! ### weak_Check: function 179 -/
mutual
def weak_Check.j0 : Nat → Int → Bool → List (List Int) → List Int → Option (Int)
  | 0, _, _, _, _ => none
  | k + 1, x3, x20, x104000, x104001 => if x20 = true then (some 2) else (weak_Check.l0 k x3 x104000 (x104000.length : Int) 0 x104000 x104001)
def weak_Check.l0 : Nat → Int → List (List Int) → Int → Int → List (List Int) → List Int → Option (Int)
  | 0, _, _, _, _, _, _ => none
  | k + 1, x3, x22, x23, x24, x104000, x104001 => if x24 < x23 then (if 0 ≤ x24 then (if x24 < (x22.length : Int) then (if ((rd_L1 x22 x24).length : Int) > 10 then (some 2) else (weak_Check.l0 k x3 x22 x23 (wrap64 (x24 + 1)) x104000 x104001)) else (none)) else (none)) else ((some (([x104001] : List (List Int)) : List (List Int))).bind fun y105 => (if y105.length + x104000.length < 5864062014805 then ((some (y105 ++ x104000 : List (List Int))).bind fun y108 => (weak_Check.l1 k x3 y108 (y108.length : Int) 0)) else (none)))
def weak_Check.l1 : Nat → Int → List (List Int) → Int → Int → Option (Int)
  | 0, _, _, _, _ => none
  | k + 1, x3, x37, x38, x39 => if x39 < x38 then (if 0 ≤ x39 then (if x39 < (x37.length : Int) then (weak_Check.l2 k x3 x37 x38 x39 (rd_L1 x37 x39) ((rd_L1 x37 x39).length : Int) 0) else (none)) else (none)) else (some 0)
def weak_Check.l2 : Nat → Int → List (List Int) → Int → Int → List Int → Int → Int → Option (Int)
  | 0, _, _, _, _, _, _, _ => none
  | k + 1, x3, x37, x38, x39, x43, x44, x45 => if x45 < x44 then (if 0 ≤ x45 then (if x45 < (x43.length : Int) then ((weak_in.f (rd x43 x45) x3).bind fun t113 => (if t113 = true then (weak_Check.l2 k x3 x37 x38 x39 x43 x44 (wrap64 (x45 + 1))) else (some 3))) else (none)) else (none)) else (weak_Check.l1 k x3 x37 x38 (wrap64 (x39 + 1)))
end
def weak_Check.f (k : Nat) (l0_0 : List (List Int)) (l0_1 : List Int) : Option (Int) := if (l0_0.length : Int) > 100 then (weak_Check.j0 k (l0_0.length : Int) true l0_0 l0_1) else (weak_Check.j0 k (l0_0.length : Int) (decide ((l0_1.length : Int) > 100)) l0_0 l0_1)
set_option maxHeartbeats 8000000 in
set_option maxRecDepth 100000 in
theorem weak_Check.calls (k : Nat) (P0_0_ : Nat → Prop) (A0_0 : Option Addr) (c0_0 : Nat) (l0_0 : List (List Int)) (P0_1_ : Nat → Prop) (A0_1 : Option Addr) (c0_1 : Nat) (l0_1 : List Int) (r : Int) (w : World) (hs0_0 : Kd.V (Kd.slice 3 (Kd.int .i64)) 36 w w.heap.size (fun k_ => P0_0_ k_) (.slice A0_0 l0_0.length c0_0) l0_0) (hs0_1 : Kd.V (Kd.int .i64) 3 w w.heap.size (fun k_ => P0_1_ k_) (.slice A0_1 l0_1.length c0_1) l0_1) (h : weak_Check.f k l0_0 l0_1 = some r) :
    Calls Try.prog 179 #[.agg #[.slice A0_0 l0_0.length c0_0, .slice A0_1 l0_1.length c0_1]] w fun e w' => e = .returned (.int .i64 r) ∧ Below w.heap.size w w' := by
  have hu41 := Try.underlying41
  have HO0_0 := Aside0.mk (show Kd.V (Kd.slice 3 (Kd.int .i64)) 36 w w.heap.size (fun k_ => ((P0_0_ k_ ∨ P0_1_ k_) ∨ w.heap.size ≤ k_)) (.slice A0_0 l0_0.length c0_0) l0_0 from Kd.V_mono hs0_0 (fun k_ hk => .inl (.inl hk)))
  have HO0_1 := Aside0.mk (show Kd.V (Kd.int .i64) 3 w w.heap.size (fun k_ => ((P0_0_ k_ ∨ P0_1_ k_) ∨ w.heap.size ≤ k_)) (.slice A0_1 l0_1.length c0_1) l0_1 from Kd.V_mono hs0_1 (fun k_ hk => .inl (.inr hk)))
  have HB := Aside0.mk (Below.refl w.heap.size w)
  have H : (if (l0_0.length : Int) > 100 then (weak_Check.j0 k (l0_0.length : Int) true l0_0 l0_1) else (weak_Check.j0 k (l0_0.length : Int) (decide ((l0_1.length : Int) > 100)) l0_0 l0_1)) = some r := h
  clear h
  have HC2 := Aside0.mk H
  clear H
  go_enter Try.func179, Try.ntmps179
  go_upto_region 2 with (first | ((with_reducible refine gate_dst (N := 1) rfl ?_); (try (refine gate_guard (by rfl) ?_; dsimp only)); refine box_event ?hg (N := 1) ?hd (cs := #[.slice A0_0 l0_0.length c0_0, .slice A0_1 l0_1.length c0_1]) (t := 41) ?hr ?_; (case hd => rfl); (case hg => rfl); (case hr => first | (go_simp; done) | (go_simp; rfl)); intro gb103 hg w3 hbox hb; have n0_ := Aside0.mk (Kd.V_below (Kd.V_elderB (by (with_reducible repeat (first | apply Kd.V_alloc | apply Kd.V_drewN | apply Kd.V_drew)); exact HO0_0.out) gb103 (Nat.le_of_eq hg.symm)) hb); have n1_ := Aside0.mk (Kd.V_below (Kd.V_elderB (by (with_reducible repeat (first | apply Kd.V_alloc | apply Kd.V_drewN | apply Kd.V_drew)); exact HO0_1.out) gb103 (Nat.le_of_eq hg.symm)) hb); have n2_ := Aside0.mk (below_step (by repeat (first | (with_reducible first | exact HB.out | apply below_alloc | apply pw_below_drewN | apply below_drew1) | exact HB.out)) hb); have n3_ := Aside0.mk (hbox); have n4_ := Aside0.mk ((by rw [hg]; exact (below_size (by repeat (first | (with_reducible first | exact HB.out | apply below_alloc | apply pw_below_drewN | apply below_drew1) | exact HB.out))) : w.heap.size ≤ gb103)); have n5_ := Aside0.mk ((by rw [hg]; exact (below_size (by repeat (first | (with_reducible first | exact HB.out | apply below_alloc | apply pw_below_drewN | apply below_drew1) | exact HB.out))) : w.heap.size ≤ gb103)); clear HO0_0; clear HO0_1; clear HB; have HO0_0 := n0_; have HO0_1 := n1_; have HB := n2_; have BK103 := n3_; have GW103 := n4_; have GE103 := n5_; clear n0_ n1_ n2_ n3_ n4_ n5_; clear hb hbox hg; have hcz4_0 : w3.cell? ⟨gb103, 0, none⟩ = some (.slice A0_0 l0_0.length c0_0) := (blk_cell BK103.out 0).trans rfl; have hcz4_1 : w3.cell? ⟨gb103, 1, none⟩ = some (.slice A0_1 l0_1.length c0_1) := (blk_cell BK103.out 1).trans rfl; have hfz4_0 := blk_frozen BK103.out 0; have hfz4_1 := blk_frozen BK103.out 1))
  (try simp only [Act.put, List.setIfInBounds_toArray, List.set_cons_zero, List.set_cons_succ])
  go_cut [20] (fun v20 wc => ∃ (kq : Nat) (x20_1 : Bool), v20 = .bool x20_1 ∧ Aside0 (weak_Check.j0 kq (l0_0.length : Int) x20_1 l0_0 l0_1 = some r) ∧ Aside0 (kq ≤ k) ∧ Aside0 (Kd.V (Kd.slice 3 (Kd.int .i64)) 36 wc w.heap.size (fun k_ => ((P0_0_ k_ ∨ P0_1_ k_) ∨ w.heap.size ≤ k_) ∧ k_ ≠ gb103) (.slice A0_0 l0_0.length c0_0) l0_0) ∧ Aside0 (Kd.V (Kd.int .i64) 3 wc w.heap.size (fun k_ => ((P0_0_ k_ ∨ P0_1_ k_) ∨ w.heap.size ≤ k_) ∧ k_ ≠ gb103) (.slice A0_1 l0_1.length c0_1) l0_1) ∧ Aside0 (wc.heap[gb103]? = some (.cells #[(.slice A0_0 l0_0.length c0_0), (.slice A0_1 l0_1.length c0_1)] 41 (0, 0))) ∧ Aside0 (Below w.heap.size w wc))
  case first =>
    have H := HC2.out
    clear HC2
    by_cases c5 : (l0_0.length : Int) > 100
    · rw [if_pos c5] at H
      have c5b0 : decide (100 < (l0_0.length : Int)) = true := decide_eq_true c5
      have c5b1 : decide (100 < l0_0.length) = true := decide_eq_true (by omega)
      clear c5
      (first | rw [c5b0] | (simp only [i64_w, i32_w]; rw [c5b0]) | skip)
      have H' := Aside0.mk H
      clear H
      go_wp2
      go_meet
      case rel => exact ⟨_, (true), (by first | rfl | (simp; done) | (simp [*]; done)), H', ⟨by first | omega | exact Nat.le_refl _⟩, ⟨by (with_reducible repeat (first | apply Kd.V_alloc | apply Kd.V_drewN | apply Kd.V_drew)); exact HO0_0.out⟩, ⟨by (with_reducible repeat (first | apply Kd.V_alloc | apply Kd.V_drewN | apply Kd.V_drew)); exact HO0_1.out⟩, ⟨by (with_reducible repeat (first | refine blk_drewN ?_ _ | refine blk_drew ?_ | refine blk_alloc ?_ _)); exact BK103.out⟩, ⟨by repeat (first | (with_reducible first | exact HB.out | apply below_alloc | apply pw_below_drewN | apply below_drew1 | refine below_set ?_ GE103.out) | exact HB.out)⟩⟩
    · rw [if_neg c5] at H
      have c5b0 : decide (100 < (l0_0.length : Int)) = false := decide_eq_false c5
      have c5b1 : decide (100 < l0_0.length) = false := decide_eq_false (by omega)
      clear c5
      (first | rw [c5b0] | (simp only [i64_w, i32_w]; rw [c5b0]) | skip)
      have H' := Aside0.mk H
      clear H
      have hcz6_0 : w3.cell? ⟨gb103, 0, none⟩ = some (.slice A0_0 l0_0.length c0_0) := (blk_cell BK103.out 0).trans rfl
      have hcz6_1 : w3.cell? ⟨gb103, 1, none⟩ = some (.slice A0_1 l0_1.length c0_1) := (blk_cell BK103.out 1).trans rfl
      have hfz6_0 := blk_frozen BK103.out 0
      have hfz6_1 := blk_frozen BK103.out 1
      go_wp2
      go_meet
      case rel => exact ⟨_, (decide ((l0_1.length : Int) > 100)), (by first | rfl | (simp; done) | (simp [*]; done)), H', ⟨by first | omega | exact Nat.le_refl _⟩, ⟨by (with_reducible repeat (first | apply Kd.V_alloc | apply Kd.V_drewN | apply Kd.V_drew)); exact HO0_0.out⟩, ⟨by (with_reducible repeat (first | apply Kd.V_alloc | apply Kd.V_drewN | apply Kd.V_drew)); exact HO0_1.out⟩, ⟨by (with_reducible repeat (first | refine blk_drewN ?_ _ | refine blk_drew ?_ | refine blk_alloc ?_ _)); exact BK103.out⟩, ⟨by repeat (first | (with_reducible first | exact HB.out | apply below_alloc | apply pw_below_drewN | apply below_drew1 | refine below_set ?_ GE103.out) | exact HB.out)⟩⟩
  case rest =>
    clear HC2
    try clear c1
    try clear p2
    try clear c5
    try clear c5b0
    try clear c5b1
    try clear hcz4_0
    try clear hcz4_1
    try clear hcz6_0
    try clear hcz6_1
    try clear hfz4_0
    try clear hfz4_1
    try clear hfz6_0
    try clear hfz6_1
    obtain ⟨kq, x20_1, rfl, HA, HJ1, HO_104000, HO_104001, BK103, HB⟩ := hcut
    cases kq with
    | zero => exact absurd HA.out (by simp [weak_Check.j0])
    | succ kj1 =>
      have H := HA.out
      clear HA
      simp only [weak_Check.j0] at H
      by_cases c7 : x20_1 = true
      · subst c7
        have H1 : (some 2) = some r := by rw [if_pos rfl] at H; exact H
        clear H
        have H := H1
        clear H1
        obtain rfl := Option.some.inj H
        go_wp2
        go_ret
        exact ⟨by first | rfl | (simp [errW_none, errW_some] <;> rfl) | (simp [*, errW_none, errW_some] <;> rfl), by repeat (first | (with_reducible first | exact HB.out | apply below_alloc | apply pw_below_drewN | apply below_drew1 | refine below_set ?_ GE103.out) | exact HB.out)⟩
      · replace c7 := Bool.eq_false_iff.mpr c7
        subst c7
        have H1 : (weak_Check.l0 kj1 (l0_0.length : Int) l0_0 (l0_0.length : Int) 0 l0_0 l0_1) = some r := by rw [if_neg (show ¬ (false = true) by decide)] at H; exact H
        clear H
        have H := H1
        clear H1
        have H' := Aside0.mk H
        clear H
        have hcz8_0 : wc.cell? ⟨gb103, 0, none⟩ = some (.slice A0_0 l0_0.length c0_0) := (blk_cell BK103.out 0).trans rfl
        have hcz8_1 : wc.cell? ⟨gb103, 1, none⟩ = some (.slice A0_1 l0_1.length c0_1) := (blk_cell BK103.out 1).trans rfl
        have hfz8_0 := blk_frozen BK103.out 0
        have hfz8_1 := blk_frozen BK103.out 1
        go_wp2
        go_loopg [24] kj1 (fun kq v24 w' => ∃ (x24_2 : Int), v24 = .int .i64 x24_2 ∧ Aside0 (weak_Check.l0 kq (l0_0.length : Int) l0_0 (l0_0.length : Int) x24_2 l0_0 l0_1 = some r) ∧ Aside0 (kq ≤ kj1) ∧ Aside0 (Kd.V (Kd.slice 3 (Kd.int .i64)) 36 w' w.heap.size (fun k_ => ((P0_0_ k_ ∨ P0_1_ k_) ∨ w.heap.size ≤ k_) ∧ k_ ≠ gb103) (.slice A0_0 l0_0.length c0_0) l0_0) ∧ Aside0 (Kd.V (Kd.slice 3 (Kd.int .i64)) 36 w' w.heap.size (fun k_ => ((P0_0_ k_ ∨ P0_1_ k_) ∨ w.heap.size ≤ k_) ∧ k_ ≠ gb103) (.slice A0_0 l0_0.length c0_0) l0_0) ∧ Aside0 (Kd.V (Kd.int .i64) 3 w' w.heap.size (fun k_ => ((P0_0_ k_ ∨ P0_1_ k_) ∨ w.heap.size ≤ k_) ∧ k_ ≠ gb103) (.slice A0_1 l0_1.length c0_1) l0_1) ∧ Aside0 (w'.heap[gb103]? = some (.cells #[(.slice A0_0 l0_0.length c0_0), (.slice A0_1 l0_1.length c0_1)] 41 (0, 0))) ∧ Aside0 (Below w.heap.size w w'))
        case atStart => exact ⟨(0), (by first | rfl | (simp; done) | (simp [*]; done)), H', ⟨Nat.le_refl _⟩, ⟨by (with_reducible repeat (first | apply Kd.V_alloc | apply Kd.V_drewN | apply Kd.V_drew)); exact HO_104000.out⟩, ⟨by (with_reducible repeat (first | apply Kd.V_alloc | apply Kd.V_drewN | apply Kd.V_drew)); exact HO_104000.out⟩, ⟨by (with_reducible repeat (first | apply Kd.V_alloc | apply Kd.V_drewN | apply Kd.V_drew)); exact HO_104001.out⟩, ⟨by (with_reducible repeat (first | refine blk_drewN ?_ _ | refine blk_drew ?_ | refine blk_alloc ?_ _)); exact BK103.out⟩, ⟨by repeat (first | (with_reducible first | exact HB.out | apply below_alloc | apply pw_below_drewN | apply below_drew1 | refine below_set ?_ GE103.out) | exact HB.out)⟩⟩
        case round =>
          clear H'
          try clear c1
          try clear p2
          try clear c5
          try clear c5b0
          try clear c5b1
          try clear c7
          try clear hcz4_0
          try clear hcz4_1
          try clear hcz6_0
          try clear hcz6_1
          try clear hcz8_0
          try clear hcz8_1
          try clear hfz4_0
          try clear hfz4_1
          try clear hfz6_0
          try clear hfz6_1
          try clear hfz8_0
          try clear hfz8_1
          try clear p2
          obtain ⟨x24_2, rfl, HA, HK2, HO_22, HO_104000, HO_104001, BK103, HB⟩ := hrel
          cases gk with
          | zero => exact absurd HA.out (by simp [weak_Check.l0])
          | succ k2 =>
            have H := HA.out
            clear HA
            simp only [weak_Check.l0] at H
            by_cases c9 : x24_2 < (l0_0.length : Int)
            · rw [if_pos c9] at H
              have c9b0 : decide (x24_2 < (l0_0.length : Int)) = true := decide_eq_true c9
              clear c9
              by_cases c10 : 0 ≤ x24_2
              · rw [if_pos c10] at H
                have c10b0 : decide (0 ≤ x24_2) = true := decide_eq_true c10
                clear c10
                by_cases c11 : x24_2 < (l0_0.length : Int)
                · rw [if_pos c11] at H
                  have c11b0 : decide (x24_2 < (l0_0.length : Int)) = true := decide_eq_true c11
                  clear c11
                  by_cases c12 : ((rd_L1 l0_0 x24_2).length : Int) > 10
                  · rw [if_pos c12] at H
                    have c12b0 : decide (10 < ((rd_L1 l0_0 x24_2).length : Int)) = true := decide_eq_true c12
                    have c12b1 : decide (10 < (rd_L1 l0_0 x24_2).length) = true := decide_eq_true (by omega)
                    clear c12
                    obtain rfl := Option.some.inj H
                    have p104 : 0 ≤ (x24_2 : Int) := of_decide_eq_true (by first | (with_reducible assumption) | assumption)
                    have q104 : x24_2 < (l0_0.length : Int) := of_decide_eq_true (by first | (with_reducible assumption) | assumption)
                    obtain ⟨ad104, A104_0, c104_0, e104, hx104_0, hl104_0, hi104_0⟩ := at_L1 (Kd.V_reads' HO_22.out).2.2 x24_2 p104 q104
                    cases e104
                    obtain ⟨ce104, hce104, hMe104, hcc104⟩ := Kd.V_get HO_22.out [] x24_2 p104 (by first | exact q104 | exact of_decide_eq_true (by first | (with_reducible assumption) | assumption) | (have e_ := (Kd.V_reads' HO_22.out).1; omega))
                    obtain ⟨ua104_0, uc104_0, rfl, ul104_0, ge104_0⟩ := Kd.FK_slice_open hMe104
                    have hv104_0 := hcc104 0 _ rfl
                    rw [Nat.add_zero, show ((Kd.slice 3 (Kd.int .i64))).sz = 1 from rfl, Nat.mul_one] at hv104_0
                    replace hv104_0 := Option.some.inj (hv104_0.symm.trans hx104_0)
                    injection hv104_0 with hva_ hvn_ hvc_
                    rw [hva_] at ge104_0
                    rw [hvc_] at ul104_0
                    have HL104_0 := Aside0.mk (show Kd.V (Kd.int .i64) 3 _ w.heap.size _ _ (rd_L1 l0_0 x24_2) from Kd.V_mk ul104_0 ge104_0)
                    clear hva_ hvn_ hvc_ ge104_0 ul104_0
                    clear hcc104 hce104
                    have HR104_0 := Aside0.mk hi104_0
                    have HC104_0 := Aside0.mk hl104_0
                    clear hi104_0 hl104_0
                    replace p104 := eq_true p104
                    replace q104 := eq_true q104
                    go_wp2
                    go_ret
                    exact ⟨by first | rfl | (simp [errW_none, errW_some] <;> rfl) | (simp [*, errW_none, errW_some] <;> rfl), by repeat (first | (with_reducible first | exact HB.out | apply below_alloc | apply pw_below_drewN | apply below_drew1 | refine below_set ?_ GE103.out) | exact HB.out)⟩
                  · rw [if_neg c12] at H
                    have c12b0 : decide (10 < ((rd_L1 l0_0 x24_2).length : Int)) = false := decide_eq_false c12
                    have c12b1 : decide (10 < (rd_L1 l0_0 x24_2).length) = false := decide_eq_false (by omega)
                    clear c12
                    have H' := Aside0.mk H
                    clear H
                    have p104 : 0 ≤ (x24_2 : Int) := of_decide_eq_true (by first | (with_reducible assumption) | assumption)
                    have q104 : x24_2 < (l0_0.length : Int) := of_decide_eq_true (by first | (with_reducible assumption) | assumption)
                    obtain ⟨ad104, A104_0, c104_0, e104, hx104_0, hl104_0, hi104_0⟩ := at_L1 (Kd.V_reads' HO_22.out).2.2 x24_2 p104 q104
                    cases e104
                    obtain ⟨ce104, hce104, hMe104, hcc104⟩ := Kd.V_get HO_22.out [] x24_2 p104 (by first | exact q104 | exact of_decide_eq_true (by first | (with_reducible assumption) | assumption) | (have e_ := (Kd.V_reads' HO_22.out).1; omega))
                    obtain ⟨ua104_0, uc104_0, rfl, ul104_0, ge104_0⟩ := Kd.FK_slice_open hMe104
                    have hv104_0 := hcc104 0 _ rfl
                    rw [Nat.add_zero, show ((Kd.slice 3 (Kd.int .i64))).sz = 1 from rfl, Nat.mul_one] at hv104_0
                    replace hv104_0 := Option.some.inj (hv104_0.symm.trans hx104_0)
                    injection hv104_0 with hva_ hvn_ hvc_
                    rw [hva_] at ge104_0
                    rw [hvc_] at ul104_0
                    have HL104_0 := Aside0.mk (show Kd.V (Kd.int .i64) 3 _ w.heap.size _ _ (rd_L1 l0_0 x24_2) from Kd.V_mk ul104_0 ge104_0)
                    clear hva_ hvn_ hvc_ ge104_0 ul104_0
                    clear hcc104 hce104
                    have HR104_0 := Aside0.mk hi104_0
                    have HC104_0 := Aside0.mk hl104_0
                    clear hi104_0 hl104_0
                    replace p104 := eq_true p104
                    replace q104 := eq_true q104
                    go_wp2
                    go_roundg k2
                    case measure => have := HJ1.out; have := HK2.out; omega
                    case rel => exact ⟨(wrap64 (x24_2 + 1)), (by first | rfl | (simp; done) | (simp [*]; done)), H', ⟨by have := HJ1.out; have := HK2.out; omega⟩, ⟨by (with_reducible repeat (first | apply Kd.V_alloc | apply Kd.V_drewN | apply Kd.V_drew)); exact HO_22.out⟩, ⟨by (with_reducible repeat (first | apply Kd.V_alloc | apply Kd.V_drewN | apply Kd.V_drew)); exact HO_104000.out⟩, ⟨by (with_reducible repeat (first | apply Kd.V_alloc | apply Kd.V_drewN | apply Kd.V_drew)); exact HO_104001.out⟩, ⟨by (with_reducible repeat (first | refine blk_drewN ?_ _ | refine blk_drew ?_ | refine blk_alloc ?_ _)); exact BK103.out⟩, ⟨by repeat (first | (with_reducible first | exact HB.out | apply below_alloc | apply pw_below_drewN | apply below_drew1 | refine below_set ?_ GE103.out) | exact HB.out)⟩⟩
                · rw [if_neg c11] at H
                  exact absurd H (by simp)
              · rw [if_neg c10] at H
                exact absurd H (by simp)
            · rw [if_neg c9] at H
              have c9b0 : decide (x24_2 < (l0_0.length : Int)) = false := decide_eq_false c9
              clear c9
              obtain ⟨y105, hy105⟩ : ∃ y_ : List (List Int), y_ = (([l0_1] : List (List Int))) := ⟨_, rfl⟩
              replace H : (if y105.length + l0_0.length < 5864062014805 then ((some (y105 ++ l0_0 : List (List Int))).bind fun y108 => (weak_Check.l1 k2 (l0_0.length : Int) y108 (y108.length : Int) 0)) else (none)) = some r := by first | (rw [hy105]; with_reducible exact H) | (have H2_ := (Option.bind_some _ _).symm.trans H; rw [hy105]; with_reducible exact H2_) | (have H2_ := (Option.bind_some _ _).symm.trans H; with_reducible exact H2_) | with_reducible exact H | (rw [hy105]; exact H) | exact H
              have Ny105 := Aside0.mk hy105
              clear hy105
              by_cases c13 : y105.length + l0_0.length < 5864062014805
              · rw [if_pos c13] at H
                have LMc13 := Aside0.mk c13
                clear c13
                obtain ⟨y108, hy108⟩ : ∃ y_ : List (List Int), y_ = (y105 ++ l0_0) := ⟨_, rfl⟩
                replace H : (weak_Check.l1 k2 (l0_0.length : Int) y108 (y108.length : Int) 0) = some r := by first | (rw [hy108]; with_reducible exact H) | (have H2_ := (Option.bind_some _ _).symm.trans H; rw [hy108]; with_reducible exact H2_) | (have H2_ := (Option.bind_some _ _).symm.trans H; with_reducible exact H2_) | with_reducible exact H | (rw [hy108]; exact H) | exact H
                have Ny108 := Aside0.mk hy108
                clear hy108
                have H' := Aside0.mk H
                clear H
                have hcz14_0 : wr.cell? ⟨gb103, 0, none⟩ = some (.slice A0_0 l0_0.length c0_0) := (blk_cell BK103.out 0).trans rfl
                have hcz14_1 : wr.cell? ⟨gb103, 1, none⟩ = some (.slice A0_1 l0_1.length c0_1) := (blk_cell BK103.out 1).trans rfl
                have hfz14_0 := blk_frozen BK103.out 0
                have hfz14_1 := blk_frozen BK103.out 1
                go_wp2_with (first | ((with_reducible refine gate_dst (N := 34) rfl ?_); (try (refine gate_guard (by rfl) ?_; dsimp only)); refine Kd.N_lit (Kd.slice 3 (Kd.int .i64)) _ 36 ?hg (N' := 34) ?hd (xs := ([l0_1] : List (List Int))) (inner := [.slice A0_1 l0_1.length c0_1]) (ok := (fun k_ => ((P0_0_ k_ ∨ P0_1_ k_) ∨ w.heap.size ≤ k_) ∧ k_ ≠ gb103)) (okp := (fun k_ => ((P0_0_ k_ ∨ P0_1_ k_) ∨ w.heap.size ≤ k_) ∧ k_ ≠ gb103)) ?hr ?hp (fun _ hk => hk) ((show ∀ k_, wr.heap.size ≤ k_ → (fun k_ => ((P0_0_ k_ ∨ P0_1_ k_) ∨ w.heap.size ≤ k_) ∧ k_ ≠ gb103) k_ from fun k_ hk => ⟨(.inr (Nat.le_trans (below_size (by repeat (first | (with_reducible first | exact HB.out | apply below_alloc | apply pw_below_drewN | apply below_drew1 | refine below_set ?_ GE103.out) | exact HB.out))) hk)), Kd.freshB (g := gb103) (o := .cells #[.slice A0_0 l0_0.length c0_0, .slice A0_1 l0_1.length c0_1] 41 (0, 0)) (by (with_reducible repeat (first | refine blk_drewN ?_ _ | refine blk_drew ?_ | refine blk_alloc ?_ _)); exact BK103.out) k_ hk⟩) _ (Nat.le_refl _)) (Below.refl _ _) (Nat.le_refl _) (by simp) ?_; (case hd => rfl); (case hg => rfl); (case hr => first | (go_simp; done) | (go_simp; rfl)); (case hp => exact (Reps.one (show Kd.FK (Kd.slice 3 (Kd.int .i64)) _ _ l0_1 [.slice A0_1 l0_1.length c0_1] from (Kd.FK_slice_mk (Kd.V_reads' (Kd.V_mono (ok' := (fun k_ => ((P0_0_ k_ ∨ P0_1_ k_) ∨ w.heap.size ≤ k_) ∧ k_ ≠ gb103)) (HO_104001.out) (fun k_ hk => ⟨hk.1, hk.2⟩))).2.1 (Kd.V_F (Kd.V_mono (ok' := (fun k_ => ((P0_0_ k_ ∨ P0_1_ k_) ∨ w.heap.size ≤ k_) ∧ k_ ≠ gb103)) (HO_104001.out) (fun k_ hk => ⟨hk.1, hk.2⟩))))) (Reps.none _ _))); intro v106 w15 ho16 hb hg_ hnew_; clear hg_ hnew_; (first | rw [← Ny105.out] at ho16 | (simp only [Int.reduceToNat] at ho16; rw [← Ny105.out] at ho16)); have n0_ := Aside0.mk (Kd.V_elder' (by (with_reducible repeat (first | apply Kd.V_alloc | apply Kd.V_drewN | apply Kd.V_drew)); exact HO_22.out) (Kd.N_base ho16) hb); have n1_ := Aside0.mk (Kd.V_elder' (by (with_reducible repeat (first | apply Kd.V_alloc | apply Kd.V_drewN | apply Kd.V_drew)); exact HO_104000.out) (Kd.N_base ho16) hb); have n2_ := Aside0.mk (Kd.V_elder' (by (with_reducible repeat (first | apply Kd.V_alloc | apply Kd.V_drewN | apply Kd.V_drew)); exact HO_104001.out) (Kd.N_base ho16) hb); have n3_ := Aside0.mk (Kd.N_lower ho16 (below_size (by repeat (first | (with_reducible first | exact HB.out | apply below_alloc | apply pw_below_drewN | apply below_drew1 | refine below_set ?_ GE103.out) | exact HB.out)))); have n4_ := Aside0.mk (blk_below (g := gb103) (o := .cells #[.slice A0_0 l0_0.length c0_0, .slice A0_1 l0_1.length c0_1] 41 (0, 0)) (by (with_reducible repeat (first | refine blk_drewN ?_ _ | refine blk_drew ?_ | refine blk_alloc ?_ _)); exact BK103.out) hb); have n5_ := Aside0.mk (below_step (by repeat (first | (with_reducible first | exact HB.out | apply below_alloc | apply pw_below_drewN | apply below_drew1 | refine below_set ?_ GE103.out) | exact HB.out)) hb); clear HO_22; clear HO_104000; clear HO_104001; clear BK103; clear HB; have HO_22 := n0_; have HO_104000 := n1_; have HO_104001 := n2_; have HO107 := n3_; have BK103 := n4_; have HB := n5_; clear n0_ n1_ n2_ n3_ n4_ n5_; clear hb ho16; have hcz17_0 : w15.cell? ⟨gb103, 0, none⟩ = some (.slice A0_0 l0_0.length c0_0) := (blk_cell BK103.out 0).trans rfl; have hcz17_1 : w15.cell? ⟨gb103, 1, none⟩ = some (.slice A0_1 l0_1.length c0_1) := (blk_cell BK103.out 1).trans rfl; have hfz17_0 := blk_frozen BK103.out 0; have hfz17_1 := blk_frozen BK103.out 1) | ((with_reducible refine gate_builtin (b := .append) (xs := #[.tmp 34, .tmp 36]) rfl ?_); (try (refine gate_guard (by rfl) ?_; dsimp only)); at_builtin; refine Kd.N_append_rows (Kd.slice 3 (Kd.int .i64)) (w0 := w) w.heap.size rfl (.tmp 34) (.tmp 36) 39 36 (.slice none 0 0) 24 rfl Try.underlying39 info36 rfl (by decide) (by omega) v106 y105 l0_0 _ _ _ (fun k_ => ((P0_0_ k_ ∨ P0_1_ k_) ∨ w.heap.size ≤ k_) ∧ k_ ≠ gb103) (fun k_ => ((fun k_ => ((P0_0_ k_ ∨ P0_1_ k_) ∨ w.heap.size ≤ k_) ∧ k_ ≠ gb103)) k_ ∧ some k_ ≠ (v106 : Value).ownBlock) rfl rfl ?aO ?aR (fun _ hk => hk) ?aF ?aB ?aS ?aL ?_; (case aR => exact (by skip; exact Kd.V_F (Kd.V_mono (ok' := (fun k_ => ((fun k_ => ((P0_0_ k_ ∨ P0_1_ k_) ∨ w.heap.size ≤ k_) ∧ k_ ≠ gb103)) k_ ∧ some k_ ≠ (v106 : Value).ownBlock)) (HO_104000.out) (fun k_ hk => ⟨⟨hk.1.1, hk.1.2⟩, hk.2⟩)))); (case aB => exact (by repeat (first | (with_reducible first | exact HB.out | apply below_alloc | apply pw_below_drewN | apply below_drew1 | refine below_set ?_ GE103.out) | exact HB.out))); (case aF => exact (fun k_ hk => ⟨(.inr (Nat.le_trans (below_size (by repeat (first | (with_reducible first | exact HB.out | apply below_alloc | apply pw_below_drewN | apply below_drew1 | refine below_set ?_ GE103.out) | exact HB.out))) hk)), Kd.freshB (g := gb103) (o := .cells #[.slice A0_0 l0_0.length c0_0, .slice A0_1 l0_1.length c0_1] 41 (0, 0)) (by (with_reducible repeat (first | refine blk_drewN ?_ _ | refine blk_drew ?_ | refine blk_alloc ?_ _)); exact BK103.out) k_ hk⟩)); (case aO => exact (by (with_reducible repeat (first | apply Kd.N_alloc | apply Kd.N_drewN | apply Kd.N_drew)); exact HO107.out)); (case aS => exact (below_size (by repeat (first | (with_reducible first | exact HB.out | apply below_alloc | apply pw_below_drewN | apply below_drew1 | refine below_set ?_ GE103.out) | exact HB.out)))); (case aL => have := LMc13.out; omega); intro v109 w18 ho hb hg hat; rw [← Ny108.out] at ho; have n0_ := Aside0.mk (Kd.V_afterv (ok := (fun k_ => ((P0_0_ k_ ∨ P0_1_ k_) ∨ w.heap.size ≤ k_) ∧ k_ ≠ gb103)) (by (with_reducible repeat (first | apply Kd.V_alloc | apply Kd.V_drewN | apply Kd.V_drew)); exact HO_22.out) hg hat); have n1_ := Aside0.mk (Kd.V_afterv (ok := (fun k_ => ((P0_0_ k_ ∨ P0_1_ k_) ∨ w.heap.size ≤ k_) ∧ k_ ≠ gb103)) (by (with_reducible repeat (first | apply Kd.V_alloc | apply Kd.V_drewN | apply Kd.V_drew)); exact HO_104000.out) hg hat); have n2_ := Aside0.mk (Kd.V_afterv (ok := (fun k_ => ((P0_0_ k_ ∨ P0_1_ k_) ∨ w.heap.size ≤ k_) ∧ k_ ≠ gb103)) (by (with_reducible repeat (first | apply Kd.V_alloc | apply Kd.V_drewN | apply Kd.V_drew)); exact HO_104001.out) hg hat); have n3_ := Aside0.mk (blk_grown (g := gb103) (o := .cells #[.slice A0_0 l0_0.length c0_0, .slice A0_1 l0_1.length c0_1] 41 (0, 0)) (by (with_reducible repeat (first | refine blk_drewN ?_ _ | refine blk_drew ?_ | refine blk_alloc ?_ _)); exact BK103.out) hg (Kd.N_ne HO107.out BK103.out (by decide))); have n4_ := Aside0.mk (hb); have n5_ := Aside0.mk (ho); clear HO_22; clear HO_104000; clear HO_104001; clear BK103; clear HB; clear HO107; have HO_22 := n0_; have HO_104000 := n1_; have HO_104001 := n2_; have BK103 := n3_; have HB := n4_; have HO110 := n5_; clear n0_ n1_ n2_ n3_ n4_ n5_; clear ho hb hg hat; obtain ⟨Ao19, co19, eo19⟩ := Kd.N_slice HO110.out; subst eo19))
                go_loopg [39] k2 (fun kq v39 w' => ∃ (x39_3 : Int), v39 = .int .i64 x39_3 ∧ Aside0 (weak_Check.l1 kq (l0_0.length : Int) y108 (y108.length : Int) x39_3 = some r) ∧ Aside0 (kq ≤ k2) ∧ Aside0 (Kd.N (Kd.slice 3 (Kd.int .i64)) 36 w' w.heap.size (fun k_ => ((P0_0_ k_ ∨ P0_1_ k_) ∨ w.heap.size ≤ k_) ∧ k_ ≠ gb103) (.slice Ao19 y108.length co19) y108) ∧ Aside0 (Kd.V (Kd.slice 3 (Kd.int .i64)) 36 w' w.heap.size (fun k_ => ((P0_0_ k_ ∨ P0_1_ k_) ∨ w.heap.size ≤ k_) ∧ some k_ ≠ ((.slice Ao19 y108.length co19) : Value).ownBlock ∧ k_ ≠ gb103) (.slice A0_0 l0_0.length c0_0) l0_0) ∧ Aside0 (Kd.V (Kd.int .i64) 3 w' w.heap.size (fun k_ => ((P0_0_ k_ ∨ P0_1_ k_) ∨ w.heap.size ≤ k_) ∧ some k_ ≠ ((.slice Ao19 y108.length co19) : Value).ownBlock ∧ k_ ≠ gb103) (.slice A0_1 l0_1.length c0_1) l0_1) ∧ Aside0 (w'.heap[gb103]? = some (.cells #[(.slice A0_0 l0_0.length c0_0), (.slice A0_1 l0_1.length c0_1)] 41 (0, 0))) ∧ Aside0 (Below w.heap.size w w'))
                case atStart => exact ⟨(0), (by first | rfl | (simp; done) | (simp [*]; done)), H', ⟨Nat.le_refl _⟩, ⟨by (with_reducible repeat (first | apply Kd.N_alloc | apply Kd.N_drewN | apply Kd.N_drew)); exact HO110.out⟩, ⟨by (with_reducible repeat (first | apply Kd.V_alloc | apply Kd.V_drewN | apply Kd.V_drew)); exact Kd.V_mono HO_104000.out (fun _ hk => ⟨hk.1.1, ⟨hk.2, hk.1.2⟩⟩)⟩, ⟨by (with_reducible repeat (first | apply Kd.V_alloc | apply Kd.V_drewN | apply Kd.V_drew)); exact Kd.V_mono HO_104001.out (fun _ hk => ⟨hk.1.1, ⟨hk.2, hk.1.2⟩⟩)⟩, ⟨by (with_reducible repeat (first | refine blk_drewN ?_ _ | refine blk_drew ?_ | refine blk_alloc ?_ _)); exact BK103.out⟩, ⟨by repeat (first | (with_reducible first | exact HB.out | apply below_alloc | apply pw_below_drewN | apply below_drew1 | refine below_set ?_ GE103.out) | exact HB.out)⟩⟩
                case round =>
                  clear H'
                  try clear c1
                  try clear p1
                  try clear q1
                  try clear hx1
                  try clear p2
                  try clear c5
                  try clear c5b0
                  try clear c5b1
                  try clear p6
                  try clear c7
                  try clear c9
                  try clear c9b0
                  try clear c10
                  try clear c10b0
                  try clear p10
                  try clear q10
                  try clear hx10
                  try clear c11
                  try clear c11b0
                  try clear c12
                  try clear c12b0
                  try clear c12b1
                  try clear c13
                  try clear c17
                  try clear hcz14_0
                  try clear hcz14_1
                  try clear hcz17_0
                  try clear hcz17_1
                  try clear hcz4_0
                  try clear hcz4_1
                  try clear hcz6_0
                  try clear hcz6_1
                  try clear hcz8_0
                  try clear hcz8_1
                  try clear hfz14_0
                  try clear hfz14_1
                  try clear hfz17_0
                  try clear hfz17_1
                  try clear hfz4_0
                  try clear hfz4_1
                  try clear hfz6_0
                  try clear hfz6_1
                  try clear hfz8_0
                  try clear hfz8_1
                  try clear hx104_0
                  try clear p104
                  try clear p2
                  try clear q104
                  obtain ⟨x39_3, rfl, HA, HK3, HO_37, HO_104000, HO_104001, BK103, HB⟩ := hrel
                  cases gk with
                  | zero => exact absurd HA.out (by simp [weak_Check.l1])
                  | succ k3 =>
                    have H := HA.out
                    clear HA
                    simp only [weak_Check.l1] at H
                    by_cases c20 : x39_3 < (y108.length : Int)
                    · rw [if_pos c20] at H
                      have c20b0 : decide (x39_3 < (y108.length : Int)) = true := decide_eq_true c20
                      clear c20
                      by_cases c21 : 0 ≤ x39_3
                      · rw [if_pos c21] at H
                        have c21b0 : decide (0 ≤ x39_3) = true := decide_eq_true c21
                        clear c21
                        by_cases c22 : x39_3 < (y108.length : Int)
                        · rw [if_pos c22] at H
                          have c22b0 : decide (x39_3 < (y108.length : Int)) = true := decide_eq_true c22
                          clear c22
                          have H' := Aside0.mk H
                          clear H
                          have p111 : 0 ≤ (x39_3 : Int) := of_decide_eq_true (by first | (with_reducible assumption) | assumption)
                          have q111 : x39_3 < (y108.length : Int) := of_decide_eq_true (by first | (with_reducible assumption) | assumption)
                          obtain ⟨ad111, A111_0, c111_0, e111, hx111_0, hl111_0, hi111_0⟩ := at_L1 (Kd.N_reads' HO_37.out).2.2 x39_3 p111 q111
                          cases e111
                          obtain ⟨ce111, hce111, hMe111, hcc111⟩ := Kd.N_get HO_37.out [] x39_3 p111 (by first | exact q111 | exact of_decide_eq_true (by first | (with_reducible assumption) | assumption) | (have e_ := (Kd.N_reads' HO_37.out).1; omega))
                          obtain ⟨ua111_0, uc111_0, rfl, ul111_0, ge111_0⟩ := Kd.FK_slice_open hMe111
                          have hv111_0 := hcc111 0 _ rfl
                          rw [Nat.add_zero, show ((Kd.slice 3 (Kd.int .i64))).sz = 1 from rfl, Nat.mul_one] at hv111_0
                          replace hv111_0 := Option.some.inj (hv111_0.symm.trans hx111_0)
                          injection hv111_0 with hva_ hvn_ hvc_
                          rw [hva_] at ge111_0
                          rw [hvc_] at ul111_0
                          have HL111_0 := Aside0.mk (show Kd.V (Kd.int .i64) 3 _ w.heap.size _ _ (rd_L1 y108 x39_3) from Kd.V_mk ul111_0 ge111_0)
                          clear hva_ hvn_ hvc_ ge111_0 ul111_0
                          clear hcc111 hce111
                          have HR111_0 := Aside0.mk hi111_0
                          have HC111_0 := Aside0.mk hl111_0
                          clear hi111_0 hl111_0
                          replace p111 := eq_true p111
                          replace q111 := eq_true q111
                          go_wp2
                          go_loopg [45] k3 (fun kq v45 w' => ∃ (x45_4 : Int), v45 = .int .i64 x45_4 ∧ Aside0 (weak_Check.l2 kq (l0_0.length : Int) y108 (y108.length : Int) x39_3 (rd_L1 y108 x39_3) ((rd_L1 y108 x39_3).length : Int) x45_4 = some r) ∧ Aside0 (kq ≤ k3) ∧ Aside0 (Kd.N (Kd.slice 3 (Kd.int .i64)) 36 w' w.heap.size (fun k_ => ((P0_0_ k_ ∨ P0_1_ k_) ∨ w.heap.size ≤ k_) ∧ k_ ≠ gb103) (.slice (some ad111) y108.length co19) y108) ∧ Aside0 (Kd.V (Kd.slice 3 (Kd.int .i64)) 36 w' w.heap.size (fun k_ => ((P0_0_ k_ ∨ P0_1_ k_) ∨ w.heap.size ≤ k_) ∧ some k_ ≠ ((.slice (some ad111) y108.length co19) : Value).ownBlock ∧ k_ ≠ gb103) (.slice A0_0 l0_0.length c0_0) l0_0) ∧ Aside0 (Kd.V (Kd.int .i64) 3 w' w.heap.size (fun k_ => ((P0_0_ k_ ∨ P0_1_ k_) ∨ w.heap.size ≤ k_) ∧ some k_ ≠ ((.slice (some ad111) y108.length co19) : Value).ownBlock ∧ k_ ≠ gb103) (.slice A0_1 l0_1.length c0_1) l0_1) ∧ Aside0 (w'.heap[gb103]? = some (.cells #[(.slice A0_0 l0_0.length c0_0), (.slice A0_1 l0_1.length c0_1)] 41 (0, 0))) ∧ Aside0 (Kd.C (Kd.int .i64) w' A111_0 (rd_L1 y108 x39_3).length (rd_L1 y108 x39_3)) ∧ Aside0 (Below w.heap.size w w'))
                          case atStart => exact ⟨(0), (by first | rfl | (simp; done) | (simp [*]; done)), H', ⟨Nat.le_refl _⟩, ⟨by (with_reducible repeat (first | apply Kd.N_alloc | apply Kd.N_drewN | apply Kd.N_drew)); exact HO_37.out⟩, ⟨by (with_reducible repeat (first | apply Kd.V_alloc | apply Kd.V_drewN | apply Kd.V_drew)); exact HO_104000.out⟩, ⟨by (with_reducible repeat (first | apply Kd.V_alloc | apply Kd.V_drewN | apply Kd.V_drew)); exact HO_104001.out⟩, ⟨by (with_reducible repeat (first | refine blk_drewN ?_ _ | refine blk_drew ?_ | refine blk_alloc ?_ _)); exact BK103.out⟩, ⟨by repeat (first | (with_reducible exact HR111_0.out) | (with_reducible refine Kd.C_alloc ?_ _) | (with_reducible refine Kd.C_drewN ?_ _) | (with_reducible refine Kd.C_drew ?_) | exact HR111_0.out)⟩, ⟨by repeat (first | (with_reducible first | exact HB.out | apply below_alloc | apply pw_below_drewN | apply below_drew1 | refine below_set ?_ GE103.out) | exact HB.out)⟩⟩
                          case round =>
                            clear H'
                            try clear c1
                            try clear p1
                            try clear q1
                            try clear hx1
                            try clear c2
                            try clear p2
                            try clear c5
                            try clear c5b0
                            try clear c5b1
                            try clear p6
                            try clear c7
                            try clear c9
                            try clear c9b0
                            try clear c10
                            try clear c10b0
                            try clear p10
                            try clear q10
                            try clear hx10
                            try clear c11
                            try clear c11b0
                            try clear p11
                            try clear q11
                            try clear hx11
                            try clear c12
                            try clear c12b0
                            try clear c12b1
                            try clear c13
                            try clear c17
                            try clear c20
                            try clear c20b0
                            try clear c21
                            try clear c21b0
                            try clear c22
                            try clear c22b0
                            try clear hcz14_0
                            try clear hcz14_1
                            try clear hcz17_0
                            try clear hcz17_1
                            try clear hcz4_0
                            try clear hcz4_1
                            try clear hcz6_0
                            try clear hcz6_1
                            try clear hcz8_0
                            try clear hcz8_1
                            try clear hfz14_0
                            try clear hfz14_1
                            try clear hfz17_0
                            try clear hfz17_1
                            try clear hfz4_0
                            try clear hfz4_1
                            try clear hfz6_0
                            try clear hfz6_1
                            try clear hfz8_0
                            try clear hfz8_1
                            try clear hx104_0
                            try clear hx111_0
                            try clear p1
                            try clear p10
                            try clear p104
                            try clear p111
                            try clear p2
                            try clear p6
                            try clear q1
                            try clear q10
                            try clear q104
                            try clear q111
                            obtain ⟨x45_4, rfl, HA, HK4, HO_37, HO_104000, HO_104001, BK103, HR111_0, HB⟩ := hrel
                            cases gk with
                            | zero => exact absurd HA.out (by simp [weak_Check.l2])
                            | succ k4 =>
                              have H := HA.out
                              clear HA
                              simp only [weak_Check.l2] at H
                              by_cases c23 : x45_4 < ((rd_L1 y108 x39_3).length : Int)
                              · rw [if_pos c23] at H
                                have c23b0 : decide (x45_4 < ((rd_L1 y108 x39_3).length : Int)) = true := decide_eq_true c23
                                clear c23
                                by_cases c24 : 0 ≤ x45_4
                                · rw [if_pos c24] at H
                                  have c24b0 : decide (0 ≤ x45_4) = true := decide_eq_true c24
                                  clear c24
                                  by_cases c25 : x45_4 < ((rd_L1 y108 x39_3).length : Int)
                                  · rw [if_pos c25] at H
                                    have c25b0 : decide (x45_4 < ((rd_L1 y108 x39_3).length : Int)) = true := decide_eq_true c25
                                    clear c25
                                    replace H := Option.bind_eq_some_iff.mp H
                                    obtain ⟨t113, A260, H⟩ := H
                                    replace H : (if t113 = true then (weak_Check.l2 k4 (l0_0.length : Int) y108 (y108.length : Int) x39_3 (rd_L1 y108 x39_3) ((rd_L1 y108 x39_3).length : Int) (wrap64 (x45_4 + 1))) else (some 3)) = some r := H
                                    have A26 := Aside0.mk A260
                                    clear A260
                                    by_cases c27 : t113 = true
                                    · subst c27
                                      have H1 : (weak_Check.l2 k4 (l0_0.length : Int) y108 (y108.length : Int) x39_3 (rd_L1 y108 x39_3) ((rd_L1 y108 x39_3).length : Int) (wrap64 (x45_4 + 1))) = some r := by rw [if_pos rfl] at H; exact H
                                      clear H
                                      have H := H1
                                      clear H1
                                      have H' := Aside0.mk H
                                      clear H
                                      have p112 : 0 ≤ (x45_4 : Int) := of_decide_eq_true (by first | (with_reducible assumption) | assumption)
                                      have q112 : x45_4 < ((rd_L1 y108 x39_3).length : Int) := of_decide_eq_true (by first | (with_reducible assumption) | assumption)
                                      obtain ⟨ad112, e112, hx112_0⟩ := Kd.at_int HR111_0.out x45_4 p112 q112
                                      cases e112
                                      try replace hx112_0 := (HB.out.cell (World.block_lt_of_cell? w _ hx112_0)).trans hx112_0
                                      replace p112 := eq_true p112
                                      replace q112 := eq_true q112
                                      go_wp2_with (first | ((with_reducible refine gate_callee (f := 213) rfl ?_); refine goesL_ (some 51) rfl rfl Try.func213 (by kernel_rfl) rfl #[.int .i64 (rd (rd_L1 y108 x39_3) x45_4), .int .i64 (l0_0.length : Int)] rfl (by (try simp only [List.map_toArray, List.map_cons, List.map_nil]); first | done | rfl | (simp only [List.length_drop, List.length_take]; rfl)) ?_; (with_reducible refine (weak_in.calls (rd (rd_L1 y108 x39_3) x45_4) (l0_0.length : Int) true _ A26.out).mono ?_); rintro e w' ⟨rfl, ⟨nd, rfl⟩⟩; refine ⟨_, rfl, ?_⟩))
                                      go_roundg k4
                                      case measure => have := HJ1.out; have := HK2.out; have := HK3.out; have := HK4.out; omega
                                      case rel => exact ⟨(wrap64 (x45_4 + 1)), (by first | rfl | (simp; done) | (simp [*]; done)), H', ⟨by have := HJ1.out; have := HK2.out; have := HK3.out; have := HK4.out; omega⟩, ⟨by (with_reducible repeat (first | apply Kd.N_alloc | apply Kd.N_drewN | apply Kd.N_drew)); exact HO_37.out⟩, ⟨by (with_reducible repeat (first | apply Kd.V_alloc | apply Kd.V_drewN | apply Kd.V_drew)); exact HO_104000.out⟩, ⟨by (with_reducible repeat (first | apply Kd.V_alloc | apply Kd.V_drewN | apply Kd.V_drew)); exact HO_104001.out⟩, ⟨by (with_reducible repeat (first | refine blk_drewN ?_ _ | refine blk_drew ?_ | refine blk_alloc ?_ _)); exact BK103.out⟩, ⟨by repeat (first | (with_reducible exact HR111_0.out) | (with_reducible refine Kd.C_alloc ?_ _) | (with_reducible refine Kd.C_drewN ?_ _) | (with_reducible refine Kd.C_drew ?_) | exact HR111_0.out)⟩, ⟨by repeat (first | (with_reducible first | exact HB.out | apply below_alloc | apply pw_below_drewN | apply below_drew1 | refine below_set ?_ GE103.out) | exact HB.out)⟩⟩
                                    · replace c27 := Bool.eq_false_iff.mpr c27
                                      subst c27
                                      have H1 : (some 3) = some r := by rw [if_neg (show ¬ (false = true) by decide)] at H; exact H
                                      clear H
                                      have H := H1
                                      clear H1
                                      obtain rfl := Option.some.inj H
                                      have p112 : 0 ≤ (x45_4 : Int) := of_decide_eq_true (by first | (with_reducible assumption) | assumption)
                                      have q112 : x45_4 < ((rd_L1 y108 x39_3).length : Int) := of_decide_eq_true (by first | (with_reducible assumption) | assumption)
                                      obtain ⟨ad112, e112, hx112_0⟩ := Kd.at_int HR111_0.out x45_4 p112 q112
                                      cases e112
                                      try replace hx112_0 := (HB.out.cell (World.block_lt_of_cell? w _ hx112_0)).trans hx112_0
                                      replace p112 := eq_true p112
                                      replace q112 := eq_true q112
                                      go_wp2_with (first | ((with_reducible refine gate_callee (f := 213) rfl ?_); refine goesL_ (some 51) rfl rfl Try.func213 (by kernel_rfl) rfl #[.int .i64 (rd (rd_L1 y108 x39_3) x45_4), .int .i64 (l0_0.length : Int)] rfl (by (try simp only [List.map_toArray, List.map_cons, List.map_nil]); first | done | rfl | (simp only [List.length_drop, List.length_take]; rfl)) ?_; (with_reducible refine (weak_in.calls (rd (rd_L1 y108 x39_3) x45_4) (l0_0.length : Int) false _ A26.out).mono ?_); rintro e w' ⟨rfl, ⟨nd, rfl⟩⟩; refine ⟨_, rfl, ?_⟩))
                                      go_ret
                                      exact ⟨by first | rfl | (simp [errW_none, errW_some] <;> rfl) | (simp [*, errW_none, errW_some] <;> rfl), by repeat (first | (with_reducible first | exact HB.out | apply below_alloc | apply pw_below_drewN | apply below_drew1 | refine below_set ?_ GE103.out) | exact HB.out)⟩
                                  · rw [if_neg c25] at H
                                    exact absurd H (by simp)
                                · rw [if_neg c24] at H
                                  exact absurd H (by simp)
                              · rw [if_neg c23] at H
                                have c23b0 : decide (x45_4 < ((rd_L1 y108 x39_3).length : Int)) = false := decide_eq_false c23
                                clear c23
                                have H' := Aside0.mk H
                                clear H
                                go_wp2
                                go_roundg k4
                                case measure => have := HJ1.out; have := HK2.out; have := HK3.out; have := HK4.out; omega
                                case rel => exact ⟨(wrap64 (x39_3 + 1)), (by first | rfl | (simp; done) | (simp [*]; done)), H', ⟨by have := HJ1.out; have := HK2.out; have := HK3.out; have := HK4.out; omega⟩, ⟨by (with_reducible repeat (first | apply Kd.N_alloc | apply Kd.N_drewN | apply Kd.N_drew)); exact HO_37.out⟩, ⟨by (with_reducible repeat (first | apply Kd.V_alloc | apply Kd.V_drewN | apply Kd.V_drew)); exact HO_104000.out⟩, ⟨by (with_reducible repeat (first | apply Kd.V_alloc | apply Kd.V_drewN | apply Kd.V_drew)); exact HO_104001.out⟩, ⟨by (with_reducible repeat (first | refine blk_drewN ?_ _ | refine blk_drew ?_ | refine blk_alloc ?_ _)); exact BK103.out⟩, ⟨by repeat (first | (with_reducible first | exact HB.out | apply below_alloc | apply pw_below_drewN | apply below_drew1 | refine below_set ?_ GE103.out) | exact HB.out)⟩⟩
                        · rw [if_neg c22] at H
                          exact absurd H (by simp)
                      · rw [if_neg c21] at H
                        exact absurd H (by simp)
                    · rw [if_neg c20] at H
                      have c20b0 : decide (x39_3 < (y108.length : Int)) = false := decide_eq_false c20
                      clear c20
                      obtain rfl := Option.some.inj H
                      go_wp2
                      go_ret
                      exact ⟨by first | rfl | (simp [errW_none, errW_some] <;> rfl) | (simp [*, errW_none, errW_some] <;> rfl), by repeat (first | (with_reducible first | exact HB.out | apply below_alloc | apply pw_below_drewN | apply below_drew1 | refine below_set ?_ GE103.out) | exact HB.out)⟩
              · rw [if_neg c13] at H
                exact absurd H (by simp)

-- NOT PRINTED: function 180 (ends_due_1)

-- slices_Compact_int_int: by the shelf, or with its function

/-! ### ends_due: function 121 -/
section
open Go.Maps Go.Proofs.YtlojkphocbbjdabW.Sep Go.Proofs.YtlojkphocbbjdabW.Mapw Go.Proofs.YtlojkphocbbjdabW.Reg
def ends_due.T15 : Bool × List (List Nat × List Nat) := (true, [([], []), ([0], [0]), ([], []), ([1, 1, 0, 1], [1]), ([2, 3, 0, 1, 2, 3], [2]), ([4, 0, 1, 2, 3, 4], [])])
def ends_due.B15 : List Nat := [0, 1, 0, 3, 15, 31]
theorem ends_due.tab15 : rtab .any (opsOf Try.f121 15) = ends_due.T15 := by kernel_rfl
theorem ends_due.bits15 : waitsOk ends_due.T15.2 ends_due.B15 = true := by kernel_rfl
theorem del_st {w0 w : World} {L : List Asn} {v : Value} {l0 : List Int} (cid : Nat) (cap : Array Value) (p : Int → Bool) (h : St w0 w (rowA w0.heap.size (Kd.int .i64) 3 v l0 :: L)) (hn : l0.length < 4611686018427387904)
    (hcf : ∀ (args : Array Value) (W : World), Sem.run Try.prog (callFunc cid args) W = .ok (.enter cid args) W)
    (hf : ∀ (x : Int) (W : World), x ∈ l0 → St w0 W L → Calls Try.prog cid (#[.int .i64 x] ++ cap) W fun e w' => e = .returned (.bool (p x)) ∧ Below W.heap.size W w') :
    Calls Try.prog 80 #[v, .func (.func cid) #[] cap] w fun e w' => ∃ v1, e = .returned v1 ∧ St w0 w' (rowA w0.heap.size (Kd.int .i64) 3 v1 (l0.filter (fun x => !p x)) :: L) := by
  obtain ⟨A, c, rfl⟩ := Kd.R_slice (h.row 0 rfl)
  obtain ⟨G, hr, hs⟩ := h.turned
  refine (slices_DeleteFunc_int_int.walk w0 G A l0.length c l0 cid cap p w hr h.below hn hcf (fun x W hx hB hk => hf x W hx (h.away hB hk))).mono ?_
  rintro e w' ⟨m, rfl, hr', hB, hk⟩
  exact ⟨_, rfl, hs _ _ _ hr' hB hk⟩
set_option maxHeartbeats 2000000 in
theorem due1_walk (W : World) (gn : Nat) (s : List Bool) (A4 : Option Addr) (c4 : Nat) (x : Int) (hb : W.cell? ⟨gn, 0, none⟩ = some (.slice A4 s.length c4)) (hC : Kd.C Kd.bool W A4 s.length s) (h0 : 0 ≤ x) (h1 : x < (s.length : Int)) :
    Calls Try.prog 180 #[.int .i64 x, .pointer (some ⟨gn, 0, none⟩)] W fun e w' => e = .returned (.bool (rdOf false s x)) ∧ Below W.heap.size W w' := by
  obtain ⟨ad, e, hk⟩ := Kd.at_bool hC x h0 h1
  cases e
  clear hC
  generalize rdOf false s x = b at *
  go_enter Try.func180, Try.ntmps180
  go_wp2
  go_ret
  exact ⟨rfl, Below.refl _ _⟩
def dueOk (n : Int) : List Int → Bool
  | [] => true
  | x :: l => decide (0 ≤ x ∧ x < n) && dueOk n l
theorem dueOk_mem {n : Int} : ∀ {l : List Int}, dueOk n l = true → ∀ x ∈ l, 0 ≤ x ∧ x < n
  | [], _, x, hx => by cases hx
  | y :: l, h, x, hx => by
    simp only [dueOk, Bool.and_eq_true, decide_eq_true_eq] at h
    rcases List.mem_cons.1 hx with rfl | hx
    · exact h.1
    · exact dueOk_mem h.2 x hx
def dueL (s : List Bool) (l : List Int) : List Int := Lib.compact ((l.filter (fun x => !(rdOf false s x))).mergeSort fun x y => decide (x ≤ y))
def ends_due.f (k : Nat) (l0_0 : List (List Int)) (l0_1 : List (Int)) (l1 : List (Int)) : Option (List Int × List Bool × Int) := (weak_Check.f k l0_0 l0_1).bind fun e => if e = 0 then (if 100 < l1.length then some ([], [], 2) else if dueOk l0_0.length l1 = true then ((weak_From.f k l0_0 l0_1 l0_1).bind fun s => if s.length = l0_0.length then some (dueL s l1, s, 0) else none) else some ([], [], 3)) else some ([], [], e)
set_option maxHeartbeats 4000000 in
set_option maxRecDepth 100000 in
theorem ends_due.calls (k : Nat) (A0_0 : Option Addr) (c0_0 : Nat) (l0_0 : List (List Int)) (A0_1 : Option Addr) (c0_1 : Nat) (l0_1 : List (Int)) (A1 : Option Addr) (c1 : Nat) (l1 : List (Int)) (r1 : List Int) (r2 : List Bool) (r3 : Int) (w : World) (hr0_0 : Kd.C (Kd.slice 3 (Kd.int .i64)) w A0_0 l0_0.length l0_0) (hc0_0 : l0_0.length ≤ c0_0) (hr0_1 : Kd.C (Kd.int .i64) w A0_1 l0_1.length l0_1) (hc0_1 : l0_1.length ≤ c0_1) (hr1 : Kd.C (Kd.int .i64) w A1 l1.length l1) (hc1 : l1.length ≤ c1) (h : ends_due.f k l0_0 l0_1 l1 = some (r1, r2, r3)) :
    Calls Try.prog 121 #[.agg #[.slice A0_0 l0_0.length c0_0, .slice A0_1 l0_1.length c0_1], .slice A1 l1.length c1] w fun e w' => ∃ v0_ v1_ : Value, e = .returned (.tuple #[v0_, v1_, .int .i64 r3]) ∧ Kd.R (Kd.int .i64) 3 w' w.heap.size (fun _ => True) v0_ r1 ∧ Kd.R Kd.bool 4 w' w.heap.size (fun _ => True) v1_ r2 ∧ Below w.heap.size w w' := by
  unfold ends_due.f at h
  have HR0_0 := Aside0.mk hr0_0
  have HC0_0 := Aside0.mk hc0_0
  have HR0_1 := Aside0.mk hr0_1
  have HC0_1 := Aside0.mk hc0_1
  have HR1 := Aside0.mk hr1
  have HC1 := Aside0.mk hc1
  have HS0 := Aside0.mk (St.nil (Below.refl w.heap.size w))
  clear hr0_0 hc0_0 hr0_1 hc0_1 hr1 hc1
  obtain ⟨e0, hck, h⟩ := Option.bind_eq_some_iff.1 h
  have HCK := Aside0.mk hck
  clear hck
  by_cases he : e0 = 0
  case neg =>
    rw [if_neg he] at h
    simp only [Option.some.injEq, Prod.mk.injEq] at h
    obtain ⟨rfl, rfl, rfl⟩ := h
    have hne : (e0 != 0) = true := bne_iff_ne.mpr he
    clear he
    go_enter Try.func121, Try.ntmps121
    go_wp2_with (first | ((with_reducible refine gate_dst (N := 2) rfl ?_); (try (refine gate_guard (by rfl) ?_; dsimp only)); refine box_event ?hg (N := 2) ?hd (cs := #[.slice A0_0 l0_0.length c0_0, .slice A0_1 l0_1.length c0_1]) (t := 41) ?hr ?_; (case hd => rfl); (case hg => rfl); (case hr => first | (go_simp; done) | (go_simp; rfl)); intro gh hg_ w1_ hx_ hb_; have HS2_ := Aside0.mk (HS0.out.box hg_ hx_ hb_); have c3_ : w1_.cell? ⟨gh, 0, none⟩ = some (.slice A0_0 l0_0.length c0_0) := (HS2_.out.cell 0 rfl 0).trans rfl; have c4_ : w1_.cell? ⟨gh, 1, none⟩ = some (.slice A0_1 l0_1.length c0_1) := (HS2_.out.cell 0 rfl 1).trans rfl; clear hg_ hx_ hb_  HS0) | (go_at_call 179; refine (weak_Check.calls k (fun k_ => k_ < w.heap.size) A0_0 c0_0 l0_0 (fun k_ => k_ < w.heap.size) A0_1 c0_1 l0_1 e0 _ (Kd.V_mk HC0_0.out (Kd.F_step (Kd.C_F (Kd.heap_slice _ (Kd.heap_int .i64)) HR0_0.out) (fun k_ hk _ => HS2_.out.below.block k_ hk))) (Kd.V_mk HC0_1.out (Kd.F_step (Kd.C_F (Kd.heap_int .i64) HR0_1.out) (fun k_ hk _ => HS2_.out.below.block k_ hk))) HCK.out).mono ?_; rintro e_ w5_ ⟨rfl, hb_⟩; have HS6_ := Aside0.mk (HS2_.out.call hb_); clear hb_; clear c3_ c4_ HS2_))
    go_ret3
    exact ⟨_, _, rfl, Kd.R_nil _ _ _ _ _, Kd.R_nil _ _ _ _ _, HS6_.out.below⟩
  subst he
  rw [if_pos rfl] at h
  by_cases c1 : 100 < l1.length
  · rw [if_pos c1] at h
    simp only [Option.some.injEq, Prod.mk.injEq] at h
    obtain ⟨rfl, rfl, rfl⟩ := h
    have hb2 : decide ((100 : Int) < (l1.length : Int)) = true := decide_eq_true (by omega)
    clear c1
    go_enter Try.func121, Try.ntmps121
    go_wp2_with (first | ((with_reducible refine gate_dst (N := 2) rfl ?_); (try (refine gate_guard (by rfl) ?_; dsimp only)); refine box_event ?hg (N := 2) ?hd (cs := #[.slice A0_0 l0_0.length c0_0, .slice A0_1 l0_1.length c0_1]) (t := 41) ?hr ?_; (case hd => rfl); (case hg => rfl); (case hr => first | (go_simp; done) | (go_simp; rfl)); intro gh hg_ w7_ hx_ hb_; have HS8_ := Aside0.mk (HS0.out.box hg_ hx_ hb_); have c9_ : w7_.cell? ⟨gh, 0, none⟩ = some (.slice A0_0 l0_0.length c0_0) := (HS8_.out.cell 0 rfl 0).trans rfl; have c10_ : w7_.cell? ⟨gh, 1, none⟩ = some (.slice A0_1 l0_1.length c0_1) := (HS8_.out.cell 0 rfl 1).trans rfl; clear hg_ hx_ hb_  HS0) | (go_at_call 179; refine (weak_Check.calls k (fun k_ => k_ < w.heap.size) A0_0 c0_0 l0_0 (fun k_ => k_ < w.heap.size) A0_1 c0_1 l0_1 0 _ (Kd.V_mk HC0_0.out (Kd.F_step (Kd.C_F (Kd.heap_slice _ (Kd.heap_int .i64)) HR0_0.out) (fun k_ hk _ => HS8_.out.below.block k_ hk))) (Kd.V_mk HC0_1.out (Kd.F_step (Kd.C_F (Kd.heap_int .i64) HR0_1.out) (fun k_ hk _ => HS8_.out.below.block k_ hk))) HCK.out).mono ?_; rintro e_ w11_ ⟨rfl, hb_⟩; have HS12_ := Aside0.mk (HS8_.out.call hb_); clear hb_; clear c9_ c10_ HS8_))
    go_ret3
    exact ⟨_, _, rfl, Kd.R_nil _ _ _ _ _, Kd.R_nil _ _ _ _ _, HS12_.out.below⟩
  rw [if_neg c1] at h
  have hb2 : decide ((100 : Int) < (l1.length : Int)) = false := decide_eq_false (by omega)
  have HN1 := Aside0.mk (show l1.length < 4611686018427387904 by omega)
  have HL1 := Aside0.mk (show l1.length ≤ 100 by omega)
  have HX0 := Aside0.mk (show dueOk l0_0.length (l1.drop (0 : Int).toNat) = dueOk l0_0.length l1 from rfl)
  have HH := Aside0.mk h
  clear c1 h
  go_enter Try.func121, Try.ntmps121
  go_wp2_with (first | ((with_reducible refine gate_dst (N := 2) rfl ?_); (try (refine gate_guard (by rfl) ?_; dsimp only)); refine box_event ?hg (N := 2) ?hd (cs := #[.slice A0_0 l0_0.length c0_0, .slice A0_1 l0_1.length c0_1]) (t := 41) ?hr ?_; (case hd => rfl); (case hg => rfl); (case hr => first | (go_simp; done) | (go_simp; rfl)); intro gh hg_ w7_ hx_ hb_; have HS8_ := Aside0.mk (HS0.out.box hg_ hx_ hb_); have c9_ : w7_.cell? ⟨gh, 0, none⟩ = some (.slice A0_0 l0_0.length c0_0) := (HS8_.out.cell 0 rfl 0).trans rfl; have c10_ : w7_.cell? ⟨gh, 1, none⟩ = some (.slice A0_1 l0_1.length c0_1) := (HS8_.out.cell 0 rfl 1).trans rfl; clear hg_ hx_ hb_  HS0) | (go_at_call 179; refine (weak_Check.calls k (fun k_ => k_ < w.heap.size) A0_0 c0_0 l0_0 (fun k_ => k_ < w.heap.size) A0_1 c0_1 l0_1 0 _ (Kd.V_mk HC0_0.out (Kd.F_step (Kd.C_F (Kd.heap_slice _ (Kd.heap_int .i64)) HR0_0.out) (fun k_ hk _ => HS8_.out.below.block k_ hk))) (Kd.V_mk HC0_1.out (Kd.F_step (Kd.C_F (Kd.heap_int .i64) HR0_1.out) (fun k_ hk _ => HS8_.out.below.block k_ hk))) HCK.out).mono ?_; rintro e_ w11_ ⟨rfl, hb_⟩; have HS12_ := Aside0.mk (HS8_.out.call hb_); clear hb_; clear c9_ c10_ HS8_))
  skip
  go_loopw [22] (fun v22 wr => ∃ i : Int, v22 = .int .i64 i ∧ Aside0 (0 ≤ i ∧ i ≤ l1.length) ∧ Aside0 (dueOk l0_0.length (l1.drop i.toNat) = dueOk l0_0.length l1) ∧ Aside0 (St w wr ((blkA gh #[.slice A0_0 l0_0.length c0_0, .slice A0_1 l0_1.length c0_1] 41) :: []))) (fun v22 _ => l1.length - (intOf v22).toNat)
  case atStart => exact ⟨0, rfl, ⟨by omega⟩, HX0, HS12_⟩
  case round =>
    clear HS12_ HX0
    obtain ⟨i, rfl, Hi, HX, HSr⟩ := hrel
    have hi0 : 0 ≤ i := Hi.out.1
    by_cases hlt : i < (l1.length : Int)
    · have ht : decide (i < (l1.length : Int)) = true := decide_eq_true hlt
      have HW := Aside0.mk (show wrap64 (i + 1) = i + 1 by have := HL1.out; unfold wrap64; omega)
      have hd : l1.drop i.toNat = rd l1 i :: l1.drop (i + 1).toNat := by
        rw [List.drop_eq_getElem_cons (by omega), show (i + 1).toNat = i.toNat + 1 by omega]
        congr 1
        rw [rd, List.getD_eq_getElem?_getD, List.getElem?_eq_getElem (by omega), Option.getD_some]
      have hx := HX.out
      rw [hd, dueOk] at hx
      clear hd HX
      obtain ⟨ad, e, hk⟩ := Kd.at_int HR1.out i hi0 hlt
      cases e
      generalize rd l1 i = x at *
      replace hk := (HSr.out.below.cell (World.block_lt_of_cell? w _ hk)).trans hk
      have cx_ : wr.cell? ⟨gh, 0, none⟩ = some (.slice A0_0 l0_0.length c0_0) := (HSr.out.cell 0 rfl 0).trans rfl
      by_cases c2 : 0 ≤ x
      case neg =>
        rw [show decide (0 ≤ x ∧ x < (l0_0.length : Int)) = false from decide_eq_false (by omega)] at hx
        have h := HH.out
        rw [← hx, Bool.false_and, if_neg (by decide)] at h
        simp only [Option.some.injEq, Prod.mk.injEq] at h
        obtain ⟨rfl, rfl, rfl⟩ := h
        have hc2 : decide (x < 0) = true := decide_eq_true (by omega)
        clear hx HH c2
        go_wp2
        go_ret3
        exact ⟨_, _, rfl, Kd.R_nil _ _ _ _ _, Kd.R_nil _ _ _ _ _, HSr.out.below⟩
      have hc2 : decide (x < 0) = false := decide_eq_false (by omega)
      by_cases c3 : x < (l0_0.length : Int)
      case neg =>
        rw [show decide (0 ≤ x ∧ x < (l0_0.length : Int)) = false from decide_eq_false (by omega)] at hx
        have h := HH.out
        rw [← hx, Bool.false_and, if_neg (by decide)] at h
        simp only [Option.some.injEq, Prod.mk.injEq] at h
        obtain ⟨rfl, rfl, rfl⟩ := h
        have hc3 : decide ((l0_0.length : Int) ≤ x) = true := decide_eq_true (by omega)
        clear hx HH c2 c3
        go_wp2
        go_ret3
        exact ⟨_, _, rfl, Kd.R_nil _ _ _ _ _, Kd.R_nil _ _ _ _ _, HSr.out.below⟩
      have hc3 : decide ((l0_0.length : Int) ≤ x) = false := decide_eq_false (by omega)
      rw [show decide (0 ≤ x ∧ x < (l0_0.length : Int)) = true from decide_eq_true ⟨c2, c3⟩, Bool.true_and] at hx
      have HX4 := Aside0.mk hx
      clear hx c2 c3
      go_wp2
      go_roundw
      case rel => exact ⟨i + 1, by first | rw [HW.out] | rfl, ⟨by omega⟩, HX4, HSr⟩
      case measure => simp only [intOf]; (try rw [HW.out]); omega
    · have ht : decide (i < (l1.length : Int)) = false := decide_eq_false hlt
      have hx := HX.out
      rw [List.drop_eq_nil_of_le (by omega), dueOk] at hx
      have h := HH.out
      rw [← hx, if_pos rfl] at h
      obtain ⟨s, hfr, h⟩ := Option.bind_eq_some_iff.1 h
      have HFR := Aside0.mk hfr
      split at h
      case isFalse => cases h
      rename_i hsl
      simp only [Option.some.injEq, Prod.mk.injEq] at h
      obtain ⟨rfl, rfl, rfl⟩ := h
      have HIN := Aside0.mk (show ∀ x ∈ l1, 0 ≤ x ∧ x < (s.length : Int) by rw [hsl]; exact dueOk_mem hx.symm)
      have HCL := Aside0.mk (show slices_Clone_int_int.f l1 = some l1 by unfold slices_Clone_int_int.f; rw [if_pos (by have := HL1.out; omega)])
      have HN2 := Aside0.mk (show (l1.filter (fun x => !(rdOf false s x))).length < 4611686018427387904 from Nat.lt_of_le_of_lt (List.length_filter_le _ _) HN1.out)
      have HN3 := Aside0.mk (show ((l1.filter (fun x => !(rdOf false s x))).mergeSort fun x y => decide (x ≤ y)).length < 4611686018427387904 by rw [List.length_mergeSort]; exact HN2.out)
      have cx_ : wr.cell? ⟨gh, 0, none⟩ = some (.slice A0_0 l0_0.length c0_0) := (HSr.out.cell 0 rfl 0).trans rfl
      have cy_ : wr.cell? ⟨gh, 1, none⟩ = some (.slice A0_1 l0_1.length c0_1) := (HSr.out.cell 0 rfl 1).trans rfl
      clear hx HX HH hfr hsl hlt Hi hi0
      go_wp2_with (first | (go_at_call 122; refine (weak_From.calls k A0_0 c0_0 l0_0 A0_1 c0_1 l0_1 A0_1 c0_1 l0_1 s _ (Kd.C_below HR0_0.out HSr.out.below) HC0_0.out (Kd.C_below HR0_1.out HSr.out.below) HC0_1.out (Kd.C_below HR0_1.out HSr.out.below) HC0_1.out HFR.out).mono ?_; rintro e_ w13_ ⟨v4, rfl, ho_, hb_⟩; obtain ⟨A4, c4, rfl⟩ := Kd.R_slice ho_; have HS14_ := Aside0.mk (HSr.out.mrow hb_ ho_); clear ho_ hb_; clear HSr) | ((with_reducible refine gate_dst (N := 10) rfl ?_); (try (refine gate_guard (by rfl) ?_; dsimp only)); refine box_event ?hg (N := 10) ?hd (cs := #[.slice none 0 0]) (t := 149) ?hr ?_; (case hd => rfl); (case hg => rfl); (case hr => first | (go_simp; done) | (go_simp; rfl)); intro gn hg_ w15_ hx_ hb_; have HS16_ := Aside0.mk (HS14_.out.box hg_ hx_ hb_); have c17_ : w15_.cell? ⟨gn, 0, none⟩ = some (.slice none 0 0) := (HS16_.out.cell 0 rfl 0).trans rfl; have f18_ : w15_.frozen? ⟨gn, 0, none⟩ = false := HS16_.out.frz 0 rfl 0; clear hg_ hx_ hb_  HS14_) | ((with_reducible refine gate_store (t := 149) (p := 10) rfl ?_); refine store_event (t := 149) (p := 10) (v := .tmp 39) (w1 := (w15_.setCell ⟨gn, 0, none⟩ (.slice A4 s.length c4))) ?hg ?ho ?hn ?hr ?_; (case ho => rfl); (case hg => rfl); (case hn => rfl); (case hr => first | (go_simp; done) | (go_simp; rfl)); intro w19_ hw_; have HS20_ : Aside0 (St w w19_ ((blkA gn #[.slice A4 s.length c4] 149) :: (rowA w.heap.size Kd.bool 4 (.slice A4 s.length c4) s) :: (blkA gh #[.slice A0_0 l0_0.length c0_0, .slice A0_1 l0_1.length c0_1] 41) :: [])) := ⟨by rw [hw_]; exact (HS16_.out.put 0 rfl 0 (.slice A4 s.length c4) rfl)⟩; clear hw_ c17_ f18_ HS16_) | (go_at_call 81; refine (slices_Clone_int_int.calls A1 c1 l1 l1 _ (Kd.C_below HR1.out HS20_.out.below) HC1.out HCL.out).mono ?_; rintro e_ w21_ ⟨v5, rfl, ho_, hb_⟩; have HS22_ := Aside0.mk (HS20_.out.mrow hb_ ho_); clear ho_ hb_; clear HS20_) | (go_at_call 80; refine (del_st 180 #[.pointer (some ⟨gn, 0, none⟩)] (fun x => rdOf false s x) HS22_.out HN1.out (fun _ _ => by rfl) (fun x W hx hS => due1_walk W gn s A4 c4 x ((hS.cell 0 rfl 0).trans rfl) (Kd.R_reads' (hS.row 1 rfl)).2.2 (HIN.out x hx).1 (HIN.out x hx).2)).mono ?_; rintro e_ w23_ ⟨v6, rfl, hs_⟩; have HS24_ := Aside0.mk (hs_); clear hs_; clear HS22_) | (go_at_call 139; refine (sort_st HS24_.out HN2.out).mono ?_; rintro e_ w25_ ⟨rfl, hs_⟩; have HS26_ := Aside0.mk (hs_); clear hs_; clear HS24_))
      have HF_ := Aside0.mk HS26_.out.drew
      refine st_ (fun w' => St w w' ((blkA gn #[.slice A4 s.length c4] 149) :: (rowA w.heap.size Kd.bool 4 (.slice A4 s.length c4) s) :: (blkA gh #[.slice A0_0 l0_0.length c0_0, .slice A0_1 l0_1.length c0_1] 41) :: [])) ends_due.tab15 ends_due.bits15 ((HF_.out).drop 0 rfl) (fun HT_ HW_ hHeld => ?_)
      clear HS26_
      generalize w25_.drew = w27_ at hHeld HF_ ⊢
      refine pu_ (v := ?_) (a' := ?_) HT_.out 0 (some 46) ?_ ?_ ?_; rotate_left 2; (intro w'; go_simp; with_reducible rfl); (simp only [Act.put, List.setIfInBounds_toArray, List.set_cons_zero, List.set_cons_succ, i64_w, i32_w]; rfl)
      refine tk_ (v := ?_) (a' := ?_) HT_.out HW_.out hHeld 2 (some 48) ?_ ?_ ?_; rotate_left 2; (intro w' hS; have s0 : w'.cell? ⟨gn, 0, none⟩ = some _ := hS.cell 0 rfl 0; go_simp; with_reducible rfl); (simp only [Act.put, List.setIfInBounds_toArray, List.set_cons_zero, List.set_cons_succ, i64_w, i32_w]; rfl)
      refine on_ HT_.out 1 (some 47) (fun K hK => ?_)
      refine goes_ Try.func181 (by kernel_rfl) rfl #[v6] (by rfl) rfl rfl (by simp only [List.map_toArray, List.map_cons, List.map_nil]; rfl) ?_
      with_reducible refine (compact_st HF_.out HN3.out).mono ?_
      rintro e_ w30_ ⟨v7, rfl, hs_⟩
      refine ⟨_, rfl, ?_⟩
      have HS31_ := Aside0.mk hs_
      clear hs_ HF_
      try clear hHeld
      refine hK.out _ _ ((HS31_.out).drop 0 rfl) (fun hHeld => ?_)
      clear hK K
      refine norm_ (a' := ?_) ?_ ?_; rotate_left; (show Act.put _ (some 47) _ = _; simp only [Act.put, List.setIfInBounds_toArray, List.set_cons_zero, List.set_cons_succ, i64_w, i32_w]; rfl)
      refine pu_ (v := ?_) (a' := ?_) HT_.out 3 (some 4) ?_ ?_ ?_; rotate_left 2; (intro w'; go_simp; with_reducible rfl); (simp only [Act.put, List.setIfInBounds_toArray, List.set_cons_zero, List.set_cons_succ, i64_w, i32_w]; rfl)
      refine pu_ (v := ?_) (a' := ?_) HT_.out 4 (some 5) ?_ ?_ ?_; rotate_left 2; (intro w'; go_simp; with_reducible rfl); (simp only [Act.put, List.setIfInBounds_toArray, List.set_cons_zero, List.set_cons_succ, i64_w, i32_w]; rfl)
      refine pu_ (v := ?_) (a' := ?_) HT_.out 5 (some 6) ?_ ?_ ?_; rotate_left 2; (intro w'; go_simp; with_reducible rfl); (simp only [Act.put, List.setIfInBounds_toArray, List.set_cons_zero, List.set_cons_succ, i64_w, i32_w]; rfl)
      refine dn_ HT_.out ?_
      clear hHeld HT_ HW_
      go_wp2
      go_ret3
      exact ⟨_, _, rfl, HS31_.out.row 0 rfl, HS31_.out.row 2 rfl, HS31_.out.below⟩
end

end Go.Proofs.Ytlojkphocbbjdab.PEndsTell
