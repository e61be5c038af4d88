-- Printed for this claim by a program of this session (inj.py), beside the kit's print. Not trusted: Lean checks it.
import Derived.Test.YtlojkphocbbjdabPEndsTellx0
import Derived.Test.YtlojkphocbbjdabPEndsTellx5
namespace Go.Proofs.Ytlojkphocbbjdab.PEndsTell
open Go.RowKit Go.Proofs.YtlojkphocbbjdabW.PrintWords Go.Proofs.YtlojkphocbbjdabW.PrintLast Go.Proofs.YtlojkphocbbjdabW.PrintMore
attribute [local go_sem] max2_int min2_int max_two min_two max_three min_three max_four min_four   -- for this text's walks alone
set_option linter.unusedVariables false
set_option linter.unusedSimpArgs false

/-! ### backstitchref3_Due: function 55 -/
mutual
def backstitchref3_Due.l0 : Nat → List Bool → List Bool → List Int → Int → Int → List (List Int) → List Int → Option (List Int × List Int)
  | 0, _, _, _, _, _, _, _ => none
  | k + 1, x6, x7, x20, x21, x22, x184000, x184001 => if x22 < x21 then (if 0 ≤ x22 then (if x22 < (x20.length : Int) then (if 0 ≤ (rd x20 x22) then (if (rd x20 x22) < (x6.length : Int) then (if (rd x20 x22) < (x7.length : Int) then (backstitchref3_Due.l0 k x6 (x7.set ((rd x20 x22) : Int).toNat (!(rdOf false x6 (rd x20 x22)))) x20 x21 (wrap64 (x22 + 1)) x184000 x184001) else (none)) else (none)) else (none)) else (none)) else (none)) else ((backstitchref3_Rising.f k x7).bind fun t193 => ((backstitchref3_From.f k x184000 x184001 t193 ([] : List (S236))).bind fun t196 => (backstitchref3_Due.l1 k x6 x7 t196 (t196.length : Int) 0)))
def backstitchref3_Due.l1 : Nat → List Bool → List Bool → List Bool → Int → Int → Option (List Int × List Int)
  | 0, _, _, _, _, _ => none
  | k + 1, x6, x7, x10, x40, x41 => if x41 < x40 then (if 0 ≤ x41 then (if x41 < (x10.length : Int) then (if rdOf false x10 x41 = true then (if x41 < (x6.length : Int) then (backstitchref3_Due.l1 k x6 x7 (x10.set (x41 : Int).toNat (!(rdOf false x6 x41))) x40 (wrap64 (x41 + 1))) else (none)) else (backstitchref3_Due.l1 k x6 x7 (x10.set (x41 : Int).toNat false) x40 (wrap64 (x41 + 1)))) else (none)) else (none)) else ((backstitchref3_Rising.f k x7).bind fun t203 => ((backstitchref3_Rising.f k x10).bind fun t206 => (some (t203, t206))))
end
def backstitchref3_Due.f (k : Nat) (l0_0 : List (List Int)) (l0_1 : List Int) (l1 : List Int) : Option (List Int × List Int) := (backstitchref3_From.f k l0_0 l0_1 l0_1 ([] : List (S236))).bind fun t184 => (if 0 ≤ (l0_0.length : Int) then (if ((l0_0.length : Int) : Int).toNat ≤ 281474976710656 then (backstitchref3_Due.l0 k t184 (List.replicate ((l0_0.length : Int) : Int).toNat false) l1 (l1.length : Int) 0 l0_0 l0_1) else (none)) else (none))
set_option maxHeartbeats 8000000 in
set_option maxRecDepth 100000 in
theorem backstitchref3_Due.calls (k : Nat) (A0_0 : Option Addr) (c0_0 : Nat) (l0_0 : List (List Int)) (A0_1 : Option Addr) (c0_1 : Nat) (l0_1 : List Int) (A1 : Option Addr) (c1 : Nat) (l1 : List Int) (r1 : List Int) (r2 : List Int) (w : World) (hr0_0 : Kd.C (Kd.slice 3 (Kd.int .i64)) w A0_0 l0_0.length l0_0) (hc0_0 : l0_0.length ≤ c0_0) (hr0_1 : Kd.C (Kd.int .i64) w A0_1 l0_1.length l0_1) (hc0_1 : l0_1.length ≤ c0_1) (hr1 : Kd.C (Kd.int .i64) w A1 l1.length l1) (hc1 : l1.length ≤ c1) (h : backstitchref3_Due.f k l0_0 l0_1 l1 = some (r1, r2)) :
    Calls Try.prog 55 #[.agg #[.slice A0_0 l0_0.length c0_0, .slice A0_1 l0_1.length c0_1], .slice A1 l1.length c1] w fun e w' => ∃ v0_ v1_ : Value, e = .returned (.tuple #[v0_, v1_]) ∧ Kd.R (Kd.int .i64) 3 w' w.heap.size (fun k_ => some k_ ≠ (v1_ : Value).ownBlock) v0_ r1 ∧ Kd.R (Kd.int .i64) 3 w' w.heap.size (fun k_ => some k_ ≠ (v0_ : Value).ownBlock) v1_ r2 ∧ Below w.heap.size w w' := by
  have hu41 := Try.underlying41
  have HR0_0 := Aside0.mk hr0_0
  have HC0_0 := Aside0.mk hc0_0
  clear hr0_0 hc0_0
  have HR0_1 := Aside0.mk hr0_1
  have HC0_1 := Aside0.mk hc0_1
  clear hr0_1 hc0_1
  have HR1 := Aside0.mk hr1
  have HC1 := Aside0.mk hc1
  clear hr1 hc1
  have HB := Aside0.mk (Below.refl w.heap.size w)
  have H : ((backstitchref3_From.f k l0_0 l0_1 l0_1 ([] : List (S236))).bind fun t184 => (if 0 ≤ (l0_0.length : Int) then (if ((l0_0.length : Int) : Int).toNat ≤ 281474976710656 then (backstitchref3_Due.l0 k t184 (List.replicate ((l0_0.length : Int) : Int).toNat false) l1 (l1.length : Int) 0 l0_0 l0_1) else (none)) else (none))) = some (r1, r2) := h
  clear h
  replace H := Option.bind_eq_some_iff.mp H
  obtain ⟨t184, A30, H⟩ := H
  replace H : (if 0 ≤ (l0_0.length : Int) then (if ((l0_0.length : Int) : Int).toNat ≤ 281474976710656 then (backstitchref3_Due.l0 k t184 (List.replicate ((l0_0.length : Int) : Int).toNat false) l1 (l1.length : Int) 0 l0_0 l0_1) else (none)) else (none)) = some (r1, r2) := H
  have A3 := Aside0.mk A30
  clear A30
  by_cases c4 : 0 ≤ (l0_0.length : Int)
  · rw [if_pos c4] at H
    have c4b0 := eq_true c4
    have c4b1 : decide (0 ≤ (l0_0.length : Int)) = true := decide_eq_true c4
    clear c4
    by_cases c5 : ((l0_0.length : Int) : Int).toNat ≤ 281474976710656
    · rw [if_pos c5] at H
      have c5b0 := eq_true c5
      have c5b1 : decide (((l0_0.length : Int) : Int).toNat ≤ 281474976710656) = true := decide_eq_true c5
      clear c5
      obtain ⟨y187, hy187⟩ : ∃ y_ : List Bool, y_ = (List.replicate ((l0_0.length : Int) : Int).toNat false) := ⟨_, rfl⟩
      replace H : (backstitchref3_Due.l0 k t184 y187 l1 (l1.length : Int) 0 l0_0 l0_1) = some (r1, r2) := by first | (rw [hy187]; with_reducible exact H) | (have H2_ := (Option.bind_some _ _).symm.trans H; rw [hy187]; with_reducible exact H2_) | (have H2_ := (Option.bind_some _ _).symm.trans H; with_reducible exact H2_) | with_reducible exact H | (rw [hy187]; exact H) | exact H
      have Ny187 := Aside0.mk hy187
      clear hy187
      have H' := Aside0.mk H
      clear H
      go_enter Try.func55, Try.ntmps55
      go_wp2_with (first | ((with_reducible refine gate_dst (N := 2) rfl ?_); refine box_event ?hg (N := 2) ?hd (cs := #[.slice A0_0 l0_0.length c0_0, .slice A0_1 l0_1.length c0_1]) (t := 41) ?hr ?_; (case hd => rfl); (case hg => rfl); (case hr => first | (go_simp; done) | (go_simp; rfl)); intro gb183 hg w6 hbox hb; have n0_ := Aside0.mk (below_step (by repeat (first | (with_reducible first | exact HB.out | apply below_alloc | apply pw_below_drewN | apply below_drew1) | exact HB.out)) hb); have n1_ := Aside0.mk (hbox); have n2_ := Aside0.mk ((by rw [hg]; exact (below_size (by repeat (first | (with_reducible first | exact HB.out | apply below_alloc | apply pw_below_drewN | apply below_drew1) | exact HB.out))) : w.heap.size ≤ gb183)); have n3_ := Aside0.mk ((by rw [hg]; exact (below_size (by repeat (first | (with_reducible first | exact HB.out | apply below_alloc | apply pw_below_drewN | apply below_drew1) | exact HB.out))) : w.heap.size ≤ gb183)); clear HB; have HB := n0_; have BK183 := n1_; have GW183 := n2_; have GE183 := n3_; clear n0_ n1_ n2_ n3_; clear hb hbox hg; have hcz7_0 : w6.cell? ⟨gb183, 0, none⟩ = some (.slice A0_0 l0_0.length c0_0) := (blk_cell BK183.out 0).trans rfl; have hcz7_1 : w6.cell? ⟨gb183, 1, none⟩ = some (.slice A0_1 l0_1.length c0_1) := (blk_cell BK183.out 1).trans rfl; have hfz7_0 := blk_frozen BK183.out 0; have hfz7_1 := blk_frozen BK183.out 1) | ((with_reducible refine gate_callee (f := 129) rfl ?_); refine goesL_ (some 15) rfl rfl Try.func129 (by kernel_rfl) rfl #[.agg #[.slice A0_0 l0_0.length c0_0, .slice A0_1 l0_1.length c0_1], .slice A0_1 l0_1.length c0_1, .slice none 0 0] rfl (by (try simp only [List.map_toArray, List.map_cons, List.map_nil]); first | done | rfl | (simp only [List.length_drop, List.length_take]; rfl)) ?_; (refine (backstitchref3_From.calls k _ _ l0_0 _ _ l0_1 _ _ l0_1 _ _ ([] : List (S236)) t184 _ ?side1 ?side2 ?side3 ?side4 ?side5 ?side6 ?side7 ?side8 A3.out).mono ?_); (case side1 => repeat (first | exact (Kd.C_below HR0_0.out HB.out) | (with_reducible refine Kd.C_alloc ?_ _) | (with_reducible refine Kd.C_drewN ?_ _) | (with_reducible refine Kd.C_drew ?_))); (case side2 => exact HC0_0.out); (case side3 => repeat (first | exact (Kd.C_below HR0_1.out HB.out) | (with_reducible refine Kd.C_alloc ?_ _) | (with_reducible refine Kd.C_drewN ?_ _) | (with_reducible refine Kd.C_drew ?_))); (case side4 => exact HC0_1.out); (case side5 => repeat (first | exact (Kd.C_below HR0_1.out HB.out) | (with_reducible refine Kd.C_alloc ?_ _) | (with_reducible refine Kd.C_drewN ?_ _) | (with_reducible refine Kd.C_drew ?_))); (case side6 => exact HC0_1.out); (case side7 => exact Kd.C_nil _ _); (case side8 => exact Nat.le_refl _); rintro e w8 ⟨v185, rfl, ho0, hb⟩; refine ⟨_, rfl, ?_⟩; have n0_ := Aside0.mk (Kd.R_lower ho0 (below_size (by repeat (first | (with_reducible first | exact HB.out | apply below_alloc | apply pw_below_drewN | apply below_drew1 | refine below_set ?_ GE183.out) | exact HB.out)))); have n1_ := Aside0.mk (blk_below (g := gb183) (o := .cells #[.slice A0_0 l0_0.length c0_0, .slice A0_1 l0_1.length c0_1] 41 (0, 0)) (by (with_reducible repeat (first | refine blk_drewN ?_ _ | refine blk_drew ?_ | refine blk_alloc ?_ _)); exact BK183.out) hb); have n2_ := Aside0.mk (below_step (by repeat (first | (with_reducible first | exact HB.out | apply below_alloc | apply pw_below_drewN | apply below_drew1 | refine below_set ?_ GE183.out) | exact HB.out)) hb); clear BK183; clear HB; have HO186 := n0_; have BK183 := n1_; have HB := n2_; clear n0_ n1_ n2_; (try clear hb); (try clear hb2); (try clear hk); (try clear hi); (try clear ho0); have hcz9_0 : w8.cell? ⟨gb183, 0, none⟩ = some (.slice A0_0 l0_0.length c0_0) := (blk_cell BK183.out 0).trans rfl; have hcz9_1 : w8.cell? ⟨gb183, 1, none⟩ = some (.slice A0_1 l0_1.length c0_1) := (blk_cell BK183.out 1).trans rfl; have hfz9_0 := blk_frozen BK183.out 0; have hfz9_1 := blk_frozen BK183.out 1) | ((with_reducible refine gate_dst (N := 19) rfl ?_); refine Kd.R_make Kd.bool _ 4 rfl (N := 19) rfl 149 _ _ rfl (l0_0.length : Int) rfl rfl Try.underlying149 (.bool false) 1 info4 rfl (by decide) (by omega) false (ok := fun _ => True) (okp := fun _ => True) rfl (fun _ hk => hk) trivial (of_decide_eq_true (by first | (with_reducible assumption) | assumption)) (Nat.le_trans (Nat.mul_le_mul_right _ (of_decide_eq_true (by first | (with_reducible assumption) | assumption) : (l0_0.length : Int).toNat ≤ 281474976710656)) (by omega)) (Below.refl _ _) (Nat.le_refl _) ?_; intro v188 w10 ho11 hb hg_ hnew_; clear hg_ hnew_; (first | rw [← Ny187.out] at ho11 | (simp only [Int.reduceToNat] at ho11; rw [← Ny187.out] at ho11)); have n0_ := Aside0.mk (Kd.R_elder' (by (with_reducible repeat (first | apply Kd.R_alloc | apply Kd.R_drewN | apply Kd.R_drew)); exact HO186.out) (Kd.R_base ho11) hb); have n1_ := Aside0.mk (Kd.R_lower (Kd.R_new' ho11 (Kd.R_lt (by (with_reducible repeat (first | apply Kd.R_alloc | apply Kd.R_drewN | apply Kd.R_drew)); exact HO186.out))) (below_size (by repeat (first | (with_reducible first | exact HB.out | apply below_alloc | apply pw_below_drewN | apply below_drew1 | refine below_set ?_ GE183.out) | exact HB.out)))); have n2_ := Aside0.mk (blk_below (g := gb183) (o := .cells #[.slice A0_0 l0_0.length c0_0, .slice A0_1 l0_1.length c0_1] 41 (0, 0)) (by (with_reducible repeat (first | refine blk_drewN ?_ _ | refine blk_drew ?_ | refine blk_alloc ?_ _)); exact BK183.out) hb); have n3_ := Aside0.mk (below_step (by repeat (first | (with_reducible first | exact HB.out | apply below_alloc | apply pw_below_drewN | apply below_drew1 | refine below_set ?_ GE183.out) | exact HB.out)) hb); clear HO186; clear BK183; clear HB; have HO186 := n0_; have HO189 := n1_; have BK183 := n2_; have HB := n3_; clear n0_ n1_ n2_ n3_; clear hb ho11))
      go_loopg [22] k (fun kq v22 w' => ∃ (x7_1 : List Bool) (x22_1 : Int), v22 = .int .i64 x22_1 ∧ Aside0 (backstitchref3_Due.l0 kq t184 x7_1 l1 (l1.length : Int) x22_1 l0_0 l0_1 = some (r1, r2)) ∧ Aside0 (kq ≤ k) ∧ Aside0 (Kd.R Kd.bool 4 w' w.heap.size (fun k_ => some k_ ≠ (v188 : Value).ownBlock) v185 t184) ∧ Aside0 (Kd.R Kd.bool 4 w' w.heap.size (fun k_ => some k_ ≠ (v185 : Value).ownBlock) v188 x7_1) ∧ Aside0 (w'.heap[gb183]? = some (.cells #[(.slice A0_0 l0_0.length c0_0), (.slice A0_1 l0_1.length c0_1)] 41 (0, 0))) ∧ Aside0 (Below w.heap.size w w'))
      case atStart => exact ⟨(y187), (0), (by first | rfl | (simp; done) | (simp [*]; done)), H', ⟨Nat.le_refl _⟩, ⟨by (with_reducible repeat (first | apply Kd.R_alloc | apply Kd.R_drewN | apply Kd.R_drew)); exact Kd.R_mono HO186.out (fun _ hk => hk.2)⟩, ⟨by (with_reducible repeat (first | apply Kd.R_alloc | apply Kd.R_drewN | apply Kd.R_drew)); exact Kd.R_mono HO189.out (fun _ hk => hk.2)⟩, ⟨by (with_reducible repeat (first | refine blk_drewN ?_ _ | refine blk_drew ?_ | refine blk_alloc ?_ _)); exact BK183.out⟩, ⟨by repeat (first | (with_reducible first | exact HB.out | apply below_alloc | apply pw_below_drewN | apply below_drew1 | refine below_set ?_ GE183.out) | exact HB.out)⟩⟩
      case round =>
        clear H'
        try clear c1
        try clear p2
        try clear c4
        try clear c4b0
        try clear c4b1
        try clear c5
        try clear c5b0
        try clear c5b1
        try clear hcz7_0
        try clear hcz7_1
        try clear hcz9_0
        try clear hcz9_1
        try clear hfz7_0
        try clear hfz7_1
        try clear hfz9_0
        try clear hfz9_1
        obtain ⟨x7_1, x22_1, rfl, HA, HK1, HO_6, HO_7, BK183, HB⟩ := hrel
        cases gk with
        | zero => exact absurd HA.out (by simp [backstitchref3_Due.l0])
        | succ k1 =>
          have H := HA.out
          clear HA
          simp only [backstitchref3_Due.l0] at H
          by_cases c12 : x22_1 < (l1.length : Int)
          · rw [if_pos c12] at H
            have c12b0 : decide (x22_1 < (l1.length : Int)) = true := decide_eq_true c12
            clear c12
            by_cases c13 : 0 ≤ x22_1
            · rw [if_pos c13] at H
              have c13b0 : decide (0 ≤ x22_1) = true := decide_eq_true c13
              clear c13
              by_cases c14 : x22_1 < (l1.length : Int)
              · rw [if_pos c14] at H
                have c14b0 : decide (x22_1 < (l1.length : Int)) = true := decide_eq_true c14
                clear c14
                by_cases c15 : 0 ≤ (rd l1 x22_1)
                · rw [if_pos c15] at H
                  have c15b0 : decide (0 ≤ (rd l1 x22_1)) = true := decide_eq_true c15
                  clear c15
                  by_cases c16 : (rd l1 x22_1) < (t184.length : Int)
                  · rw [if_pos c16] at H
                    have c16b0 : decide ((rd l1 x22_1) < (t184.length : Int)) = true := decide_eq_true c16
                    clear c16
                    by_cases c17 : (rd l1 x22_1) < (x7_1.length : Int)
                    · rw [if_pos c17] at H
                      have c17b0 : decide ((rd l1 x22_1) < (x7_1.length : Int)) = true := decide_eq_true c17
                      clear c17
                      obtain ⟨y192, hy192⟩ : ∃ y_ : List Bool, y_ = (x7_1.set ((rd l1 x22_1) : Int).toNat (!(rdOf false t184 (rd l1 x22_1)))) := ⟨_, rfl⟩
                      replace H : (backstitchref3_Due.l0 k1 t184 y192 l1 (l1.length : Int) (wrap64 (x22_1 + 1)) l0_0 l0_1) = some (r1, r2) := by first | (rw [hy192]; with_reducible exact H) | (have H2_ := (Option.bind_some _ _).symm.trans H; rw [hy192]; with_reducible exact H2_) | (have H2_ := (Option.bind_some _ _).symm.trans H; with_reducible exact H2_) | with_reducible exact H | (rw [hy192]; exact H) | exact H
                      have Ny192 := Aside0.mk hy192
                      clear hy192
                      have H' := Aside0.mk H
                      clear H
                      have p190 : 0 ≤ (x22_1 : Int) := of_decide_eq_true (by first | (with_reducible assumption) | assumption)
                      have q190 : x22_1 < (l1.length : Int) := of_decide_eq_true (by first | (with_reducible assumption) | assumption)
                      obtain ⟨ad190, e190, hx190_0⟩ := Kd.at_int HR1.out x22_1 p190 q190
                      cases e190
                      try replace hx190_0 := (HB.out.cell (World.block_lt_of_cell? w _ hx190_0)).trans hx190_0
                      replace p190 := eq_true p190
                      replace q190 := eq_true q190
                      obtain ⟨Ao19, co19, eo19⟩ := Kd.R_slice HO_6.out
                      subst eo19
                      have p191 : 0 ≤ ((rd l1 x22_1) : Int) := of_decide_eq_true (by first | (with_reducible assumption) | assumption)
                      have q191 : (rd l1 x22_1) < (t184.length : Int) := of_decide_eq_true (by first | (with_reducible assumption) | assumption)
                      obtain ⟨ad191, e191, hx191_0⟩ := Kd.at_bool (Kd.R_reads' HO_6.out).2.2 (rd l1 x22_1) p191 q191
                      cases e191
                      replace p191 := eq_true p191
                      replace q191 := eq_true q191
                      have p18 : 0 ≤ ((rd l1 x22_1) : Int) := of_decide_eq_true (by first | (with_reducible assumption) | assumption)
                      have q18 : ((rd l1 x22_1) : Int) < ((x7_1.length : Int) : Int) := of_decide_eq_true (by first | (with_reducible assumption) | assumption)
                      obtain ⟨go18, co18, eo18, gb18, gl18, cl18, HG18⟩ := Kd.R_form HO_7.out (by omega)
                      (first | cases eo18 | (injection eo18 with ea_ en_ ec_; (first | subst ea_ | (injection ea_ with ea_; subst ea_)); subst ec_; clear en_))
                      have GB18 := Aside0.mk gb18
                      have GG18 := Aside0.mk HG18
                      clear gb18 gl18 HG18
                      obtain ⟨hx18_0, hf18_0⟩ := Kd.R_celln false HO_7.out ((rd l1 x22_1) : Int) p18 q18
                      replace p18 := eq_true p18
                      replace q18 := eq_true q18
                      have HP20 := Kd.R_putg HO_7.out ((rd l1 x22_1) : Int) (!(rdOf false t184 (rd l1 x22_1)))
                      go_wp2_with (first | ((with_reducible refine gate_store (t := 4) (p := 33) rfl ?_); refine store_event (t := 4) (p := 33) (v := ?vo_w21) (w1 := (wr.setCell ⟨go18, ((rd l1 x22_1) : Int).toNat, none⟩ (.bool (!(rdOf false t184 (rd l1 x22_1)))))) ?hg ?ho ?hn ?hr ?_; (case ho => rfl); (case hg => rfl); (case hn => rfl); (case hr => first | (go_simp; done) | (go_simp; rfl)); intro w21 hw; have hg : wr.grownBy w21 (some go18) := (by rw [hw]; exact HP20.2); have hp_ : Kd.R Kd.bool 4 w21 w.heap.size (fun k_ => some k_ ≠ (.slice (some ad191) t184.length co19 : Value).ownBlock) (.slice (some ⟨go18, 0, none⟩) x7_1.length co18) y192 := (by rw [hw, Ny192.out]; exact HP20.1); clear HP20; have n0_ := Aside0.mk (Kd.R_after (v := (.slice (some ⟨go18, 0, none⟩) x7_1.length co18)) (v1 := (.slice (some ⟨go18, 0, none⟩) x7_1.length co18)) (ok := (fun _ => True)) (by (with_reducible repeat (first | apply Kd.R_alloc | apply Kd.R_drewN | apply Kd.R_drew)); exact Kd.R_mono HO_6.out (fun _ hk => ⟨trivial, hk⟩)) hg (.inl rfl)); have n1_ := Aside0.mk (hp_); have n2_ := Aside0.mk (blk_grown (g := gb183) (o := .cells #[.slice A0_0 l0_0.length c0_0, .slice A0_1 l0_1.length c0_1] 41 (0, 0)) (by (with_reducible repeat (first | refine blk_drewN ?_ _ | refine blk_drew ?_ | refine blk_alloc ?_ _)); exact BK183.out) hg (Kd.R_ne HO_7.out BK183.out (by decide))); have n3_ := Aside0.mk ((by rw [hw]; exact below_set (HB.out) GB18.out : Below w.heap.size w w21)); clear HO_6; clear HO_7; clear BK183; clear HB; have HO_6 := n0_; have HO_7 := n1_; have BK183 := n2_; have HB := n3_; clear n0_ n1_ n2_ n3_; clear hg hw hp_))
                      go_roundg k1
                      case measure => have := HK1.out; omega
                      case rel => exact ⟨(y192), (wrap64 (x22_1 + 1)), (by first | rfl | (simp; done) | (simp [*]; done)), H', ⟨by have := HK1.out; omega⟩, ⟨by (with_reducible repeat (first | apply Kd.R_alloc | apply Kd.R_drewN | apply Kd.R_drew)); exact Kd.R_mono HO_6.out (fun _ hk => hk.2)⟩, ⟨by (with_reducible repeat (first | apply Kd.R_alloc | apply Kd.R_drewN | apply Kd.R_drew)); exact HO_7.out⟩, ⟨by (with_reducible repeat (first | refine blk_drewN ?_ _ | refine blk_drew ?_ | refine blk_alloc ?_ _)); exact BK183.out⟩, ⟨by repeat (first | (with_reducible first | exact HB.out | apply below_alloc | apply pw_below_drewN | apply below_drew1 | refine below_set ?_ GE183.out) | exact HB.out)⟩⟩
                    · rw [if_neg c17] at H
                      exact absurd H (by simp)
                  · rw [if_neg c16] at H
                    exact absurd H (by simp)
                · rw [if_neg c15] at H
                  exact absurd H (by simp)
              · rw [if_neg c14] at H
                exact absurd H (by simp)
            · rw [if_neg c13] at H
              exact absurd H (by simp)
          · rw [if_neg c12] at H
            have c12b0 : decide (x22_1 < (l1.length : Int)) = false := decide_eq_false c12
            clear c12
            replace H := Option.bind_eq_some_iff.mp H
            obtain ⟨t193, A220, H⟩ := H
            replace H : ((backstitchref3_From.f k1 l0_0 l0_1 t193 ([] : List (S236))).bind fun t196 => (backstitchref3_Due.l1 k1 t184 x7_1 t196 (t196.length : Int) 0)) = some (r1, r2) := H
            have A22 := Aside0.mk A220
            clear A220
            replace H := Option.bind_eq_some_iff.mp H
            obtain ⟨t196, A230, H⟩ := H
            replace H : (backstitchref3_Due.l1 k1 t184 x7_1 t196 (t196.length : Int) 0) = some (r1, r2) := H
            have A23 := Aside0.mk A230
            clear A230
            have H' := Aside0.mk H
            clear H
            try go_wp2
            have n0_ := Aside0.mk (Kd.R_drew HO_6.out)
            have n1_ := Aside0.mk (Kd.R_drew HO_7.out)
            have n2_ := Aside0.mk (blk_drew BK183.out)
            have n3_ := Aside0.mk (below_drew1 HB.out)
            clear HO_6
            clear HO_7
            clear BK183
            clear HB
            have HO_6 := n0_
            have HO_7 := n1_
            have BK183 := n2_
            have HB := n3_
            clear n0_ n1_ n2_ n3_
            obtain ⟨Ao25, co25, eo25⟩ := Kd.R_slice HO_7.out
            (first | subst eo25 | (injection eo25 with f1_ f2_ f3_; have f4_ := f1_.symm; have f5_ := f3_.symm; clear f1_ f2_ f3_; subst f4_; subst f5_))
            refine start_ (n := 5) (S := fun w' => w'.cell? ⟨gb183, 0, none⟩ = some (.slice A0_0 l0_0.length c0_0) ∧ w'.cell? ⟨gb183, 1, none⟩ = some (.slice A0_1 l0_1.length c0_1)) (ds := []) #[false, false, false, false, false] (by kernel_rfl) rfl rfl ⟨(blk_cell BK183.out 0).trans rfl, (blk_cell BK183.out 1).trans rfl⟩ (fun hHeld => ?_)
            generalize wr.drew = w24 at HO_6 HO_7 BK183 HB hHeld ⊢
            refine pure_ (i := 1) (N := some 36) (v := ?_) (a' := ?_) #[false, true, false, false, false] rfl rfl (by kernel_rfl) (fun _ _ _ h => h) (Or.inl ⟨by rfl, ?_⟩) ?_ ?_
            rotate_left
            · intro w'
              go_simp
              with_reducible rfl
            rotate_left
            · simp only [Act.put, List.setIfInBounds_toArray, List.set_cons_zero, List.set_cons_succ, i64_w, i32_w]
              rfl
            refine take_ (i := 0) (N := some 35) (v := ?_) (a' := ?_) #[true, true, false, false, false] rfl rfl (by kernel_rfl) (fun _ _ _ h => h) (Or.inl ⟨by rfl, ?_⟩) hHeld ?_ ?_
            rotate_left
            · rintro w' ⟨s0, s1⟩
              go_simp
              with_reducible rfl
            rotate_left
            · simp only [Act.put, List.setIfInBounds_toArray, List.set_cons_zero, List.set_cons_succ, i64_w, i32_w]
              rfl
            refine one_ (i := 2) (N := some 37) #[true, true, true, false, false] rfl rfl (by kernel_rfl) (by decide) (fun K hK => ?_)
            refine goes_ Try.func130 (by kernel_rfl) rfl #[.slice Ao25 x7_1.length co25] (by rfl) rfl rfl (by (try simp only [List.map_toArray, List.map_cons, List.map_nil]); first | done | rfl | (simp only [List.length_drop, List.length_take]; rfl)) ?_
            with_reducible refine (backstitchref3_Rising.calls k1 _ _ x7_1 t193 _ ?side1 ?side2 A22.out).mono ?_
            (case side1 => repeat (first | exact (Kd.R_reads' HO_7.out).2.2 | (with_reducible refine Kd.C_alloc ?_ _) | (with_reducible refine Kd.C_drewN ?_ _) | (with_reducible refine Kd.C_drew ?_)))
            (case side2 => exact (Kd.R_reads' HO_7.out).2.1)
            rintro e w26 ⟨v194, rfl, ho0, hb⟩
            refine ⟨_, rfl, ?_⟩
            have n0_ := Aside0.mk (Kd.R_below (by (with_reducible repeat (first | apply Kd.R_alloc | apply Kd.R_drewN | apply Kd.R_drew)); exact HO_6.out) hb)
            have n1_ := Aside0.mk (Kd.R_below (by (with_reducible repeat (first | apply Kd.R_alloc | apply Kd.R_drewN | apply Kd.R_drew)); exact HO_7.out) hb)
            have n2_ := Aside0.mk (Kd.R_lower ho0 (below_size (by repeat (first | (with_reducible first | exact HB.out | apply below_alloc | apply pw_below_drewN | apply below_drew1 | refine below_set ?_ GE183.out) | exact HB.out))))
            have n3_ := Aside0.mk (blk_below (g := gb183) (o := .cells #[.slice A0_0 l0_0.length c0_0, .slice A0_1 l0_1.length c0_1] 41 (0, 0)) (by (with_reducible repeat (first | refine blk_drewN ?_ _ | refine blk_drew ?_ | refine blk_alloc ?_ _)); exact BK183.out) hb)
            have n4_ := Aside0.mk (below_step (by repeat (first | (with_reducible first | exact HB.out | apply below_alloc | apply pw_below_drewN | apply below_drew1 | refine below_set ?_ GE183.out) | exact HB.out)) hb)
            clear HO_6
            clear HO_7
            clear BK183
            clear HB
            have HO_6 := n0_
            have HO_7 := n1_
            have HO195 := n2_
            have BK183 := n3_
            have HB := n4_
            clear n0_ n1_ n2_ n3_ n4_
            (try clear hb)
            (try clear hb2)
            (try clear hk)
            (try clear hi)
            (try clear ho0)
            obtain ⟨Ao27, co27, eo27⟩ := Kd.R_slice HO195.out
            (first | subst eo27 | (injection eo27 with f1_ f2_ f3_; have f4_ := f1_.symm; have f5_ := f3_.symm; clear f1_ f2_ f3_; subst f4_; subst f5_))
            refine hK.out _ _ ⟨(blk_cell BK183.out 0).trans rfl, (blk_cell BK183.out 1).trans rfl⟩ (fun hHeld => ?_)
            clear hK K
            refine norm_ (a' := ?_) ?_ ?_
            rotate_left
            · show Act.put _ (some 37) _ = _
              simp only [Act.put, List.setIfInBounds_toArray, List.set_cons_zero, List.set_cons_succ, i64_w, i32_w]
              rfl
            refine one_ (i := 3) (N := some 38) #[true, true, true, true, false] rfl rfl (by kernel_rfl) (by decide) (fun K hK => ?_)
            refine goes_ Try.func129 (by kernel_rfl) rfl #[.agg #[.slice A0_0 l0_0.length c0_0, .slice A0_1 l0_1.length c0_1], .slice Ao27 t193.length co27, .slice none 0 0] (by rfl) rfl rfl (by (try simp only [List.map_toArray, List.map_cons, List.map_nil]); first | done | rfl | (simp only [List.length_drop, List.length_take]; rfl)) ?_
            refine (backstitchref3_From.calls k1 _ _ l0_0 _ _ l0_1 _ _ t193 _ _ ([] : List (S236)) t196 _ ?side1 ?side2 ?side3 ?side4 ?side5 ?side6 ?side7 ?side8 A23.out).mono ?_
            (case side1 => repeat (first | exact (Kd.C_below HR0_0.out HB.out) | (with_reducible refine Kd.C_alloc ?_ _) | (with_reducible refine Kd.C_drewN ?_ _) | (with_reducible refine Kd.C_drew ?_)))
            (case side2 => exact HC0_0.out)
            (case side3 => repeat (first | exact (Kd.C_below HR0_1.out HB.out) | (with_reducible refine Kd.C_alloc ?_ _) | (with_reducible refine Kd.C_drewN ?_ _) | (with_reducible refine Kd.C_drew ?_)))
            (case side4 => exact HC0_1.out)
            (case side5 => repeat (first | exact (Kd.R_reads' HO195.out).2.2 | (with_reducible refine Kd.C_alloc ?_ _) | (with_reducible refine Kd.C_drewN ?_ _) | (with_reducible refine Kd.C_drew ?_)))
            (case side6 => exact (Kd.R_reads' HO195.out).2.1)
            (case side7 => exact Kd.C_nil _ _)
            (case side8 => exact Nat.le_refl _)
            rintro e w28 ⟨v197, rfl, ho0, hb⟩
            refine ⟨_, rfl, ?_⟩
            have n0_ := Aside0.mk (Kd.R_elder' (by (with_reducible repeat (first | apply Kd.R_alloc | apply Kd.R_drewN | apply Kd.R_drew)); exact HO_6.out) (Kd.R_base ho0) hb)
            have n1_ := Aside0.mk (Kd.R_elder' (by (with_reducible repeat (first | apply Kd.R_alloc | apply Kd.R_drewN | apply Kd.R_drew)); exact HO_7.out) (Kd.R_base ho0) hb)
            have n2_ := Aside0.mk (Kd.R_below (by (with_reducible repeat (first | apply Kd.R_alloc | apply Kd.R_drewN | apply Kd.R_drew)); exact HO195.out) hb)
            have n3_ := Aside0.mk (Kd.R_lower (Kd.R_new' (Kd.R_new' ho0 (Kd.R_lt (by (with_reducible repeat (first | apply Kd.R_alloc | apply Kd.R_drewN | apply Kd.R_drew)); exact HO_6.out))) (Kd.R_lt (by (with_reducible repeat (first | apply Kd.R_alloc | apply Kd.R_drewN | apply Kd.R_drew)); exact HO_7.out))) (below_size (by repeat (first | (with_reducible first | exact HB.out | apply below_alloc | apply pw_below_drewN | apply below_drew1 | refine below_set ?_ GE183.out) | exact HB.out))))
            have n4_ := Aside0.mk (blk_below (g := gb183) (o := .cells #[.slice A0_0 l0_0.length c0_0, .slice A0_1 l0_1.length c0_1] 41 (0, 0)) (by (with_reducible repeat (first | refine blk_drewN ?_ _ | refine blk_drew ?_ | refine blk_alloc ?_ _)); exact BK183.out) hb)
            have n5_ := Aside0.mk (below_step (by repeat (first | (with_reducible first | exact HB.out | apply below_alloc | apply pw_below_drewN | apply below_drew1 | refine below_set ?_ GE183.out) | exact HB.out)) hb)
            clear HO_6
            clear HO_7
            clear HO195
            clear BK183
            clear HB
            have HO_6 := n0_
            have HO_7 := n1_
            have HO195 := n2_
            have HO198 := n3_
            have BK183 := n4_
            have HB := n5_
            clear n0_ n1_ n2_ n3_ n4_ n5_
            (try clear hb)
            (try clear hb2)
            (try clear hk)
            (try clear hi)
            (try clear ho0)
            refine hK.out _ _ ⟨(blk_cell BK183.out 0).trans rfl, (blk_cell BK183.out 1).trans rfl⟩ (fun hHeld => ?_)
            clear hK K
            refine norm_ (a' := ?_) ?_ ?_
            rotate_left
            · show Act.put _ (some 38) _ = _
              simp only [Act.put, List.setIfInBounds_toArray, List.set_cons_zero, List.set_cons_succ, i64_w, i32_w]
              rfl
            refine pure_ (i := 4) (N := some 10) (v := ?_) (a' := ?_) #[true, true, true, true, true] rfl rfl (by kernel_rfl) (fun _ _ _ h => h) (Or.inl ⟨by rfl, ?_⟩) ?_ ?_
            rotate_left
            · intro w'
              go_simp
              with_reducible rfl
            rotate_left
            · simp only [Act.put, List.setIfInBounds_toArray, List.set_cons_zero, List.set_cons_succ, i64_w, i32_w]
              rfl
            refine done_ (by kernel_rfl) ?_
            obtain ⟨Ao29, co29, eo29⟩ := Kd.R_slice HO198.out
            subst eo29
            try go_wp2
            go_loopg [41] k1 (fun kq v41 w' => ∃ (x10_2 : List Bool) (x41_2 : Int), v41 = .int .i64 x41_2 ∧ Aside0 (backstitchref3_Due.l1 kq t184 x7_1 x10_2 (t196.length : Int) x41_2 = some (r1, r2)) ∧ Aside0 (kq ≤ k1) ∧ Aside0 (Kd.R Kd.bool 4 w' w.heap.size (fun k_ => some k_ ≠ ((.slice Ao25 x7_1.length co25) : Value).ownBlock ∧ some k_ ≠ ((.slice Ao29 t196.length co29) : Value).ownBlock) v185 t184) ∧ Aside0 (Kd.R Kd.bool 4 w' w.heap.size (fun k_ => some k_ ≠ (v185 : Value).ownBlock ∧ some k_ ≠ ((.slice Ao29 t196.length co29) : Value).ownBlock) (.slice Ao25 x7_1.length co25) x7_1) ∧ Aside0 (Kd.R Kd.bool 4 w' w.heap.size (fun k_ => some k_ ≠ (v185 : Value).ownBlock ∧ some k_ ≠ ((.slice Ao25 x7_1.length co25) : Value).ownBlock) (.slice Ao29 t196.length co29) x10_2) ∧ Aside0 (w'.heap[gb183]? = some (.cells #[(.slice A0_0 l0_0.length c0_0), (.slice A0_1 l0_1.length c0_1)] 41 (0, 0))) ∧ Aside0 (Below w.heap.size w w'))
            case atStart => exact ⟨(t196), (0), (by first | rfl | (simp; done) | (simp [*]; done)), H', ⟨Nat.le_refl _⟩, ⟨by (with_reducible repeat (first | apply Kd.R_alloc | apply Kd.R_drewN | apply Kd.R_drew)); exact HO_6.out⟩, ⟨by (with_reducible repeat (first | apply Kd.R_alloc | apply Kd.R_drewN | apply Kd.R_drew)); exact HO_7.out⟩, ⟨by (with_reducible repeat (first | apply Kd.R_alloc | apply Kd.R_drewN | apply Kd.R_drew)); exact Kd.R_mono HO198.out (fun _ hk => ⟨hk.1.2, hk.2⟩)⟩, ⟨by (with_reducible repeat (first | refine blk_drewN ?_ _ | refine blk_drew ?_ | refine blk_alloc ?_ _)); exact BK183.out⟩, ⟨by repeat (first | (with_reducible first | exact HB.out | apply below_alloc | apply pw_below_drewN | apply below_drew1 | refine below_set ?_ GE183.out) | exact HB.out)⟩⟩
            case round =>
              clear H'
              try clear c1
              try clear p1
              try clear q1
              try clear hx1
              try clear p2
              try clear c4
              try clear c4b0
              try clear c4b1
              try clear c5
              try clear c5b0
              try clear c5b1
              try clear p6
              try clear c12
              try clear c12b0
              try clear c13
              try clear c13b0
              try clear c14
              try clear c14b0
              try clear c15
              try clear c15b0
              try clear c16
              try clear c16b0
              try clear c17
              try clear c17b0
              try clear p18
              try clear q18
              try clear hx18
              try clear hf18
              try clear p19
              try clear q19
              try clear hx19
              try clear hcz7_0
              try clear hcz7_1
              try clear hcz9_0
              try clear hcz9_1
              try clear hfz7_0
              try clear hfz7_1
              try clear hfz9_0
              try clear hfz9_1
              try clear hx18_0
              try clear hx190_0
              try clear hx191_0
              try clear p18
              try clear p190
              try clear p191
              try clear p2
              try clear q18
              try clear q190
              try clear q191
              obtain ⟨x10_2, x41_2, rfl, HA, HK2, HO_6, HO_7, HO_10, BK183, HB⟩ := hrel
              have hl10_2 := (Kd.R_reads' HO_10.out).1
              rw [hl10_2] at HO_10
              (try simp only [hl10_2])
              (try simp only [hl10_2] at BK183)
              (try simp only [hl10_2] at HO_6)
              (try simp only [hl10_2] at HO_7)
              cases gk with
              | zero => exact absurd HA.out (by simp [backstitchref3_Due.l1])
              | succ k2 =>
                have H := HA.out
                clear HA
                simp only [backstitchref3_Due.l1] at H
                by_cases c30 : x41_2 < (t196.length : Int)
                · rw [if_pos c30] at H
                  have c30b0 : decide (x41_2 < (t196.length : Int)) = true := decide_eq_true c30
                  clear c30
                  by_cases c31 : 0 ≤ x41_2
                  · rw [if_pos c31] at H
                    have c31b0 : decide (0 ≤ x41_2) = true := decide_eq_true c31
                    clear c31
                    by_cases c32 : x41_2 < (x10_2.length : Int)
                    · rw [if_pos c32] at H
                      have c32b0 : decide (x41_2 < (x10_2.length : Int)) = true := decide_eq_true c32
                      clear c32
                      obtain ⟨bq33, hbq33⟩ : ∃ b_ : Bool, b_ = (rdOf false x10_2 x41_2) := ⟨_, rfl⟩
                      replace H : (if bq33 = true then (if x41_2 < (t184.length : Int) then (backstitchref3_Due.l1 k2 t184 x7_1 (x10_2.set (x41_2 : Int).toNat (!(rdOf false t184 x41_2))) (t196.length : Int) (wrap64 (x41_2 + 1))) else (none)) else (backstitchref3_Due.l1 k2 t184 x7_1 (x10_2.set (x41_2 : Int).toNat false) (t196.length : Int) (wrap64 (x41_2 + 1)))) = some (r1, r2) := by rw [← hbq33] at H; exact H
                      have Nbq33 := Aside0.mk hbq33
                      clear hbq33
                      by_cases c34 : bq33 = true
                      · subst c34
                        have H1 : (if x41_2 < (t184.length : Int) then (backstitchref3_Due.l1 k2 t184 x7_1 (x10_2.set (x41_2 : Int).toNat (!(rdOf false t184 x41_2))) (t196.length : Int) (wrap64 (x41_2 + 1))) else (none)) = some (r1, r2) := by rw [if_pos rfl] at H; exact H
                        clear H
                        have H := H1
                        clear H1
                        by_cases c35 : x41_2 < (t184.length : Int)
                        · rw [if_pos c35] at H
                          have c35b0 : decide (x41_2 < (t184.length : Int)) = true := decide_eq_true c35
                          clear c35
                          obtain ⟨y201, hy201⟩ : ∃ y_ : List Bool, y_ = (x10_2.set (x41_2 : Int).toNat (!(rdOf false t184 x41_2))) := ⟨_, rfl⟩
                          replace H : (backstitchref3_Due.l1 k2 t184 x7_1 y201 (t196.length : Int) (wrap64 (x41_2 + 1))) = some (r1, r2) := by first | (rw [hy201]; with_reducible exact H) | (have H2_ := (Option.bind_some _ _).symm.trans H; rw [hy201]; with_reducible exact H2_) | (have H2_ := (Option.bind_some _ _).symm.trans H; with_reducible exact H2_) | with_reducible exact H | (rw [hy201]; exact H) | exact H
                          have Ny201 := Aside0.mk hy201
                          clear hy201
                          have H' := Aside0.mk H
                          clear H
                          have p199 : 0 ≤ (x41_2 : Int) := of_decide_eq_true (by first | (with_reducible assumption) | assumption)
                          have q199 : x41_2 < (x10_2.length : Int) := of_decide_eq_true (by first | (with_reducible assumption) | assumption)
                          obtain ⟨ad199, e199, hx199_0⟩ := Kd.at_bool (Kd.R_reads' HO_10.out).2.2 x41_2 p199 q199
                          (try rw [← Nbq33.out] at hx199_0)
                          cases e199
                          replace p199 := eq_true p199
                          replace q199 := eq_true q199
                          obtain ⟨Ao37, co37, eo37⟩ := Kd.R_slice HO_6.out
                          subst eo37
                          have p200 : 0 ≤ (x41_2 : Int) := of_decide_eq_true (by first | (with_reducible assumption) | assumption)
                          have q200 : x41_2 < (t184.length : Int) := of_decide_eq_true (by first | (with_reducible assumption) | assumption)
                          obtain ⟨ad200, e200, hx200_0⟩ := Kd.at_bool (Kd.R_reads' HO_6.out).2.2 x41_2 p200 q200
                          (try rw [← Nbq33.out] at hx200_0)
                          cases e200
                          replace p200 := eq_true p200
                          replace q200 := eq_true q200
                          have p36 : 0 ≤ (x41_2 : Int) := of_decide_eq_true (by first | (with_reducible assumption) | assumption)
                          have q36 : (x41_2 : Int) < ((x10_2.length : Int) : Int) := of_decide_eq_true (by first | (with_reducible assumption) | assumption)
                          obtain ⟨go36, co36, eo36, gb36, gl36, cl36, HG36⟩ := Kd.R_form HO_10.out (by omega)
                          (first | cases eo36 | (injection eo36 with ea_ en_ ec_; (first | subst ea_ | (injection ea_ with ea_; subst ea_)); subst ec_; clear en_))
                          have GB36 := Aside0.mk gb36
                          have GG36 := Aside0.mk HG36
                          clear gb36 gl36 HG36
                          (first | simp only [add_plain] at hx199_0 | skip)
                          obtain ⟨hx36_0, hf36_0⟩ := Kd.R_celln false HO_10.out (x41_2 : Int) p36 q36
                          replace p36 := eq_true p36
                          replace q36 := eq_true q36
                          have HP38 := Kd.R_putg HO_10.out (x41_2 : Int) (!(rdOf false t184 x41_2))
                          go_wp2_with (first | ((with_reducible refine gate_store (t := 4) (p := 57) rfl ?_); refine store_event (t := 4) (p := 57) (v := ?vo_w39) (w1 := (wr.setCell ⟨go36, (x41_2 : Int).toNat, none⟩ (.bool (!(rdOf false t184 x41_2))))) ?hg ?ho ?hn ?hr ?_; (case ho => rfl); (case hg => rfl); (case hn => rfl); (case hr => first | (go_simp; done) | (go_simp; rfl)); intro w39 hw; have hg : wr.grownBy w39 (some go36) := (by rw [hw]; exact HP38.2); have hp_ : Kd.R Kd.bool 4 w39 w.heap.size (fun k_ => some k_ ≠ (.slice (some ad200) t184.length co37 : Value).ownBlock ∧ some k_ ≠ (.slice Ao25 x7_1.length co25 : Value).ownBlock) (.slice (some ⟨go36, 0, none⟩) x10_2.length co29) y201 := (by rw [hw, Ny201.out]; exact HP38.1); clear HP38; have n0_ := Aside0.mk (Kd.R_after (v := (.slice (some ⟨go36, 0, none⟩) x10_2.length co29)) (v1 := (.slice (some ⟨go36, 0, none⟩) x10_2.length co29)) (ok := (fun k_ => some k_ ≠ (.slice Ao25 x7_1.length co25 : Value).ownBlock)) (by (with_reducible repeat (first | apply Kd.R_alloc | apply Kd.R_drewN | apply Kd.R_drew)); exact HO_6.out) hg (.inl rfl)); have n1_ := Aside0.mk (Kd.R_after (v := (.slice (some ⟨go36, 0, none⟩) x10_2.length co29)) (v1 := (.slice (some ⟨go36, 0, none⟩) x10_2.length co29)) (ok := (fun k_ => some k_ ≠ (.slice (some ad200) t184.length co37 : Value).ownBlock)) (by (with_reducible repeat (first | apply Kd.R_alloc | apply Kd.R_drewN | apply Kd.R_drew)); exact HO_7.out) hg (.inl rfl)); have n2_ := Aside0.mk (hp_); have n3_ := Aside0.mk (blk_grown (g := gb183) (o := .cells #[.slice A0_0 l0_0.length c0_0, .slice A0_1 l0_1.length c0_1] 41 (0, 0)) (by (with_reducible repeat (first | refine blk_drewN ?_ _ | refine blk_drew ?_ | refine blk_alloc ?_ _)); exact BK183.out) hg (Kd.R_ne HO_10.out BK183.out (by decide))); have n4_ := Aside0.mk ((by rw [hw]; exact below_set (HB.out) GB36.out : Below w.heap.size w w39)); clear HO_6; clear HO_7; clear HO_10; clear BK183; clear HB; have HO_6 := n0_; have HO_7 := n1_; have HO_10 := n2_; have BK183 := n3_; have HB := n4_; clear n0_ n1_ n2_ n3_ n4_; clear hg hw hp_))
                          (try simp only [← hl10_2])
                          go_roundg k2
                          case measure => have := HK1.out; have := HK2.out; omega
                          case rel => exact ⟨(y201), (wrap64 (x41_2 + 1)), (by first | rfl | (simp; done) | (simp [*]; done)), H', ⟨by have := HK1.out; have := HK2.out; omega⟩, ⟨by (try simp only [hl10_2]); (with_reducible repeat (first | apply Kd.R_alloc | apply Kd.R_drewN | apply Kd.R_drew)); exact HO_6.out⟩, ⟨by (try simp only [hl10_2]); (with_reducible repeat (first | apply Kd.R_alloc | apply Kd.R_drewN | apply Kd.R_drew)); exact HO_7.out⟩, ⟨by (try simp only [hl10_2]); (with_reducible repeat (first | apply Kd.R_alloc | apply Kd.R_drewN | apply Kd.R_drew)); exact HO_10.out⟩, ⟨by (try simp only [hl10_2]); (with_reducible repeat (first | refine blk_drewN ?_ _ | refine blk_drew ?_ | refine blk_alloc ?_ _)); exact BK183.out⟩, ⟨by repeat (first | (with_reducible first | exact HB.out | apply below_alloc | apply pw_below_drewN | apply below_drew1 | refine below_set ?_ GE183.out) | exact HB.out)⟩⟩
                        · rw [if_neg c35] at H
                          exact absurd H (by simp)
                      · replace c34 := Bool.eq_false_iff.mpr c34
                        subst c34
                        have H1 : (backstitchref3_Due.l1 k2 t184 x7_1 (x10_2.set (x41_2 : Int).toNat false) (t196.length : Int) (wrap64 (x41_2 + 1))) = some (r1, r2) := by rw [if_neg (show ¬ (false = true) by decide)] at H; exact H
                        clear H
                        have H := H1
                        clear H1
                        obtain ⟨y202, hy202⟩ : ∃ y_ : List Bool, y_ = (x10_2.set (x41_2 : Int).toNat false) := ⟨_, rfl⟩
                        replace H : (backstitchref3_Due.l1 k2 t184 x7_1 y202 (t196.length : Int) (wrap64 (x41_2 + 1))) = some (r1, r2) := by first | (rw [hy202]; with_reducible exact H) | (have H2_ := (Option.bind_some _ _).symm.trans H; rw [hy202]; with_reducible exact H2_) | (have H2_ := (Option.bind_some _ _).symm.trans H; with_reducible exact H2_) | with_reducible exact H | (rw [hy202]; exact H) | exact H
                        have Ny202 := Aside0.mk hy202
                        clear hy202
                        have H' := Aside0.mk H
                        clear H
                        have p199 : 0 ≤ (x41_2 : Int) := of_decide_eq_true (by first | (with_reducible assumption) | assumption)
                        have q199 : x41_2 < (x10_2.length : Int) := of_decide_eq_true (by first | (with_reducible assumption) | assumption)
                        obtain ⟨ad199, e199, hx199_0⟩ := Kd.at_bool (Kd.R_reads' HO_10.out).2.2 x41_2 p199 q199
                        (try rw [← Nbq33.out] at hx199_0)
                        cases e199
                        replace p199 := eq_true p199
                        replace q199 := eq_true q199
                        have p40 : 0 ≤ (x41_2 : Int) := of_decide_eq_true (by first | (with_reducible assumption) | assumption)
                        have q40 : (x41_2 : Int) < ((x10_2.length : Int) : Int) := of_decide_eq_true (by first | (with_reducible assumption) | assumption)
                        obtain ⟨go40, co40, eo40, gb40, gl40, cl40, HG40⟩ := Kd.R_form HO_10.out (by omega)
                        (first | cases eo40 | (injection eo40 with ea_ en_ ec_; (first | subst ea_ | (injection ea_ with ea_; subst ea_)); subst ec_; clear en_))
                        have GB40 := Aside0.mk gb40
                        have GG40 := Aside0.mk HG40
                        clear gb40 gl40 HG40
                        (first | simp only [add_plain] at hx199_0 | skip)
                        obtain ⟨hx40_0, hf40_0⟩ := Kd.R_celln false HO_10.out (x41_2 : Int) p40 q40
                        replace p40 := eq_true p40
                        replace q40 := eq_true q40
                        have HP41 := Kd.R_putg HO_10.out (x41_2 : Int) false
                        go_wp2_with (first | ((with_reducible refine gate_store (t := 4) (p := 57) rfl ?_); refine store_event (t := 4) (p := 57) (v := ?vo_w42) (w1 := (wr.setCell ⟨go40, (x41_2 : Int).toNat, none⟩ (.bool false))) ?hg ?ho ?hn ?hr ?_; (case ho => rfl); (case hg => rfl); (case hn => rfl); (case hr => first | (go_simp; done) | (go_simp; rfl)); intro w42 hw; have hg : wr.grownBy w42 (some go40) := (by rw [hw]; exact HP41.2); have hp_ : Kd.R Kd.bool 4 w42 w.heap.size (fun k_ => some k_ ≠ (v185 : Value).ownBlock ∧ some k_ ≠ (.slice Ao25 x7_1.length co25 : Value).ownBlock) (.slice (some ⟨go40, 0, none⟩) x10_2.length co29) y202 := (by rw [hw, Ny202.out]; exact HP41.1); clear HP41; have n0_ := Aside0.mk (Kd.R_after (v := (.slice (some ⟨go40, 0, none⟩) x10_2.length co29)) (v1 := (.slice (some ⟨go40, 0, none⟩) x10_2.length co29)) (ok := (fun k_ => some k_ ≠ (.slice Ao25 x7_1.length co25 : Value).ownBlock)) (by (with_reducible repeat (first | apply Kd.R_alloc | apply Kd.R_drewN | apply Kd.R_drew)); exact HO_6.out) hg (.inl rfl)); have n1_ := Aside0.mk (Kd.R_after (v := (.slice (some ⟨go40, 0, none⟩) x10_2.length co29)) (v1 := (.slice (some ⟨go40, 0, none⟩) x10_2.length co29)) (ok := (fun k_ => some k_ ≠ (v185 : Value).ownBlock)) (by (with_reducible repeat (first | apply Kd.R_alloc | apply Kd.R_drewN | apply Kd.R_drew)); exact HO_7.out) hg (.inl rfl)); have n2_ := Aside0.mk (hp_); have n3_ := Aside0.mk (blk_grown (g := gb183) (o := .cells #[.slice A0_0 l0_0.length c0_0, .slice A0_1 l0_1.length c0_1] 41 (0, 0)) (by (with_reducible repeat (first | refine blk_drewN ?_ _ | refine blk_drew ?_ | refine blk_alloc ?_ _)); exact BK183.out) hg (Kd.R_ne HO_10.out BK183.out (by decide))); have n4_ := Aside0.mk ((by rw [hw]; exact below_set (HB.out) GB40.out : Below w.heap.size w w42)); clear HO_6; clear HO_7; clear HO_10; clear BK183; clear HB; have HO_6 := n0_; have HO_7 := n1_; have HO_10 := n2_; have BK183 := n3_; have HB := n4_; clear n0_ n1_ n2_ n3_ n4_; clear hg hw hp_))
                        (try simp only [← hl10_2])
                        go_roundg k2
                        case measure => have := HK1.out; have := HK2.out; omega
                        case rel => exact ⟨(y202), (wrap64 (x41_2 + 1)), (by first | rfl | (simp; done) | (simp [*]; done)), H', ⟨by have := HK1.out; have := HK2.out; omega⟩, ⟨by (try simp only [hl10_2]); (with_reducible repeat (first | apply Kd.R_alloc | apply Kd.R_drewN | apply Kd.R_drew)); exact HO_6.out⟩, ⟨by (try simp only [hl10_2]); (with_reducible repeat (first | apply Kd.R_alloc | apply Kd.R_drewN | apply Kd.R_drew)); exact HO_7.out⟩, ⟨by (try simp only [hl10_2]); (with_reducible repeat (first | apply Kd.R_alloc | apply Kd.R_drewN | apply Kd.R_drew)); exact HO_10.out⟩, ⟨by (try simp only [hl10_2]); (with_reducible repeat (first | refine blk_drewN ?_ _ | refine blk_drew ?_ | refine blk_alloc ?_ _)); exact BK183.out⟩, ⟨by repeat (first | (with_reducible first | exact HB.out | apply below_alloc | apply pw_below_drewN | apply below_drew1 | refine below_set ?_ GE183.out) | exact HB.out)⟩⟩
                    · rw [if_neg c32] at H
                      exact absurd H (by simp)
                  · rw [if_neg c31] at H
                    exact absurd H (by simp)
                · rw [if_neg c30] at H
                  have c30b0 : decide (x41_2 < (t196.length : Int)) = false := decide_eq_false c30
                  (try have c30b9 : decide (x41_2 < (x10_2.length : Int)) = false := (by rw [← hl10_2]; exact c30b0))
                  clear c30
                  replace H := Option.bind_eq_some_iff.mp H
                  obtain ⟨t203, A430, H⟩ := H
                  replace H : ((backstitchref3_Rising.f k2 x10_2).bind fun t206 => (some (t203, t206))) = some (r1, r2) := H
                  have A43 := Aside0.mk A430
                  clear A430
                  replace H := Option.bind_eq_some_iff.mp H
                  obtain ⟨t206, A440, H⟩ := H
                  replace H : (some (t203, t206)) = some (r1, r2) := H
                  have A44 := Aside0.mk A440
                  clear A440
                  simp only [Option.some.injEq, Prod.mk.injEq] at H
                  obtain ⟨rfl, rfl⟩ := H
                  go_wp2_with (first | ((with_reducible refine gate_callee (f := 130) rfl ?_); refine goesL_ (some 60) rfl rfl Try.func130 (by kernel_rfl) rfl #[.slice Ao25 x7_1.length co25] rfl (by (try simp only [List.map_toArray, List.map_cons, List.map_nil]); first | done | rfl | (simp only [List.length_drop, List.length_take]; rfl)) ?_; (with_reducible refine (backstitchref3_Rising.calls k2 _ _ x7_1 t203 _ ?side1 ?side2 A43.out).mono ?_); (case side1 => repeat (first | exact (Kd.R_reads' HO_7.out).2.2 | (with_reducible refine Kd.C_alloc ?_ _) | (with_reducible refine Kd.C_drewN ?_ _) | (with_reducible refine Kd.C_drew ?_))); (case side2 => exact (Kd.R_reads' HO_7.out).2.1); rintro e w45 ⟨v204, rfl, ho0, hb⟩; refine ⟨_, rfl, ?_⟩; have n0_ := Aside0.mk (Kd.R_below (by (with_reducible repeat (first | apply Kd.R_alloc | apply Kd.R_drewN | apply Kd.R_drew)); exact HO_6.out) hb); have n1_ := Aside0.mk (Kd.R_below (by (with_reducible repeat (first | apply Kd.R_alloc | apply Kd.R_drewN | apply Kd.R_drew)); exact HO_7.out) hb); have n2_ := Aside0.mk (Kd.R_below (by (with_reducible repeat (first | apply Kd.R_alloc | apply Kd.R_drewN | apply Kd.R_drew)); exact HO_10.out) hb); have n3_ := Aside0.mk (Kd.R_lower ho0 (below_size (by repeat (first | (with_reducible first | exact HB.out | apply below_alloc | apply pw_below_drewN | apply below_drew1 | refine below_set ?_ GE183.out) | exact HB.out)))); have n4_ := Aside0.mk (blk_below (g := gb183) (o := .cells #[.slice A0_0 l0_0.length c0_0, .slice A0_1 l0_1.length c0_1] 41 (0, 0)) (by (with_reducible repeat (first | refine blk_drewN ?_ _ | refine blk_drew ?_ | refine blk_alloc ?_ _)); exact BK183.out) hb); have n5_ := Aside0.mk (below_step (by repeat (first | (with_reducible first | exact HB.out | apply below_alloc | apply pw_below_drewN | apply below_drew1 | refine below_set ?_ GE183.out) | exact HB.out)) hb); clear HO_6; clear HO_7; clear HO_10; clear BK183; clear HB; have HO_6 := n0_; have HO_7 := n1_; have HO_10 := n2_; have HO205 := n3_; have BK183 := n4_; have HB := n5_; clear n0_ n1_ n2_ n3_ n4_ n5_; (try clear hb); (try clear hb2); (try clear hk); (try clear hi); (try clear ho0)) | ((with_reducible refine gate_callee (f := 130) rfl ?_); refine goesL_ (some 62) rfl rfl Try.func130 (by kernel_rfl) rfl #[.slice Ao29 x10_2.length co29] rfl (by (try simp only [List.map_toArray, List.map_cons, List.map_nil]); first | done | rfl | (simp only [List.length_drop, List.length_take]; rfl)) ?_; (with_reducible refine (backstitchref3_Rising.calls k2 _ _ x10_2 t206 _ ?side1 ?side2 A44.out).mono ?_); (case side1 => repeat (first | exact (Kd.R_reads' HO_10.out).2.2 | (with_reducible refine Kd.C_alloc ?_ _) | (with_reducible refine Kd.C_drewN ?_ _) | (with_reducible refine Kd.C_drew ?_))); (case side2 => exact (Kd.R_reads' HO_10.out).2.1); rintro e w46 ⟨v207, rfl, ho0, hb⟩; refine ⟨_, rfl, ?_⟩; have n0_ := Aside0.mk (Kd.R_below (by (with_reducible repeat (first | apply Kd.R_alloc | apply Kd.R_drewN | apply Kd.R_drew)); exact HO_6.out) hb); have n1_ := Aside0.mk (Kd.R_below (by (with_reducible repeat (first | apply Kd.R_alloc | apply Kd.R_drewN | apply Kd.R_drew)); exact HO_7.out) hb); have n2_ := Aside0.mk (Kd.R_below (by (with_reducible repeat (first | apply Kd.R_alloc | apply Kd.R_drewN | apply Kd.R_drew)); exact HO_10.out) hb); have n3_ := Aside0.mk (Kd.R_elder' (by (with_reducible repeat (first | apply Kd.R_alloc | apply Kd.R_drewN | apply Kd.R_drew)); exact HO205.out) (Kd.R_base ho0) hb); have n4_ := Aside0.mk (Kd.R_lower (Kd.R_new' ho0 (Kd.R_lt (by (with_reducible repeat (first | apply Kd.R_alloc | apply Kd.R_drewN | apply Kd.R_drew)); exact HO205.out))) (below_size (by repeat (first | (with_reducible first | exact HB.out | apply below_alloc | apply pw_below_drewN | apply below_drew1 | refine below_set ?_ GE183.out) | exact HB.out)))); have n5_ := Aside0.mk (blk_below (g := gb183) (o := .cells #[.slice A0_0 l0_0.length c0_0, .slice A0_1 l0_1.length c0_1] 41 (0, 0)) (by (with_reducible repeat (first | refine blk_drewN ?_ _ | refine blk_drew ?_ | refine blk_alloc ?_ _)); exact BK183.out) hb); have n6_ := Aside0.mk (below_step (by repeat (first | (with_reducible first | exact HB.out | apply below_alloc | apply pw_below_drewN | apply below_drew1 | refine below_set ?_ GE183.out) | exact HB.out)) hb); clear HO_6; clear HO_7; clear HO_10; clear HO205; clear BK183; clear HB; have HO_6 := n0_; have HO_7 := n1_; have HO_10 := n2_; have HO205 := n3_; have HO208 := n4_; have BK183 := n5_; have HB := n6_; clear n0_ n1_ n2_ n3_ n4_ n5_ n6_; (try clear hb); (try clear hb2); (try clear hk); (try clear hi); (try clear ho0)))
                  go_ret2
                  exact ⟨_, _, by first | rfl | (simp [errW_none, errW_some] <;> rfl) | (simp [*, errW_none, errW_some] <;> rfl), by (with_reducible repeat (first | apply Kd.R_alloc | apply Kd.R_drewN | apply Kd.R_drew)); exact Kd.R_mono HO205.out (fun _ hk => hk.2), by (with_reducible repeat (first | apply Kd.R_alloc | apply Kd.R_drewN | apply Kd.R_drew)); exact Kd.R_mono HO208.out (fun _ hk => hk.2), by repeat (first | (with_reducible first | exact HB.out | apply below_alloc | apply pw_below_drewN | apply below_drew1 | refine below_set ?_ GE183.out) | exact HB.out)⟩
    · rw [if_neg c5] at H
      exact absurd H (by simp)
  · rw [if_neg c4] at H
    exact absurd H (by simp)

/-! ### backstitchref3_Rounds: function 56 -/
section
open Go.Maps Go.Proofs.YtlojkphocbbjdabW.Sep Go.Proofs.YtlojkphocbbjdabW.Mapw Go.Proofs.YtlojkphocbbjdabW.Reg
def backstitchref3_Rounds.T12 : Bool × List (List Nat × List Nat) := (true, [([], []), ([0], [0]), ([1], [1]), ([1], [1]), ([2, 3, 1], [1, 2, 3]), ([4, 1, 1], [1, 4]), ([5], [5]), ([5], [5]), ([7, 5], [5, 7]), ([5], [5]), ([8, 9, 5], [5, 8, 9]), ([10, 5], [5, 10]), ([6, 11, 5, 5], [5, 6, 11]), ([5], [5]), ([12, 13, 5], [5, 12, 13]), ([14, 5], [5, 14]), ([5, 15, 1], [1, 5, 15]), ([1, 16], [1, 16]), ([17, 12, 0, 1, 2, 3, 4, 5, 6, 7, 8, 9, 10, 11, 12, 13, 14, 15, 16, 17], [0, 17])])
def backstitchref3_Rounds.B12 : List Nat := [0, 1, 3, 3, 15, 31, 63, 63, 191, 63, 959, 1983, 4095, 63, 16383, 32767, 65535, 131071, 262143]
theorem backstitchref3_Rounds.tab12 : rtab .any (opsOf Try.f56 12) = backstitchref3_Rounds.T12 := by kernel_rfl
theorem backstitchref3_Rounds.bits12 : waitsOk backstitchref3_Rounds.T12.2 backstitchref3_Rounds.B12 = true := by kernel_rfl
def hadR (k : Nat) (l0 : List (List Int)) (rt : List Int) (n : Int) : List Int → Bool → Option Bool
  | [], b => some b
  | j :: o, b => if b = true then hadR k l0 rt n o true else if j = n then hadR k l0 rt n o false else if 0 ≤ j ∧ j < (l0.length : Int) then (backstitchref3_From.f k l0 rt (l0.getD j.toNat []) ([] : List S236)).bind fun s => if 0 ≤ n ∧ n < (s.length : Int) then hadR k l0 rt n o (rdOf false s n) else none else none
def splitR (k : Nat) (l0 : List (List Int)) (rt : List Int) (left : List Int) : List Int → List Int → List Int → Option (List Int × List Int)
  | [], now, next => some (now, next)
  | n :: o, now, next => (hadR k l0 rt n left false).bind fun b => if b = true then splitR k l0 rt left o now (next ++ [n]) else splitR k l0 rt left o (now ++ [n]) next
def roundsR (K : Nat) (l0 : List (List Int)) (rt : List Int) : Nat → List Int → List (List Int) → Option (List (List Int))
  | 0, _, _ => none
  | k + 1, left, out => if left.length = 0 then some out else if left.length ≤ 1000 ∧ out.length ≤ 1000 then (splitR K l0 rt left left [] []).bind fun q => if q.1.length = 0 then roundsR K l0 rt k [] (out ++ [left]) else roundsR K l0 rt k q.2 (out ++ [q.1]) else none
def backstitchref3_Rounds.f (k : Nat) (l0_0 : List (List Int)) (l0_1 : List (Int)) (l1 : List (Int)) : Option (List (List Int)) := (backstitchref3_Due.f k l0_0 l0_1 l1).bind fun q => roundsR k l0_0 l0_1 k q.1 []
set_option maxHeartbeats 8000000 in
set_option maxRecDepth 100000 in
theorem backstitchref3_Rounds.calls (k : Nat) (A0_0 : Option Addr) (c0_0 : Nat) (l0_0 : List (List Int)) (A0_1 : Option Addr) (c0_1 : Nat) (l0_1 : List (Int)) (A1 : Option Addr) (c1 : Nat) (l1 : List (Int)) (r : List (List Int)) (w : World) (hr0_0 : Kd.C (Kd.slice 3 (Kd.int .i64)) w A0_0 l0_0.length l0_0) (hc0_0 : l0_0.length ≤ c0_0) (hr0_1 : Kd.C (Kd.int .i64) w A0_1 l0_1.length l0_1) (hc0_1 : l0_1.length ≤ c0_1) (hr1 : Kd.C (Kd.int .i64) w A1 l1.length l1) (hc1 : l1.length ≤ c1) (h : backstitchref3_Rounds.f k l0_0 l0_1 l1 = some r) :
    Calls Try.prog 56 #[.agg #[.slice A0_0 l0_0.length c0_0, .slice A0_1 l0_1.length c0_1], .slice A1 l1.length c1] w fun e w' => ∃ v0_ : Value, e = .returned v0_ ∧ Kd.N (Kd.slice 3 (Kd.int .i64)) 36 w' w.heap.size (fun k_ => (w.heap.size ≤ k_)) v0_ r ∧ Below w.heap.size w w' := by
  unfold backstitchref3_Rounds.f at h
  have HR0_0 := Aside0.mk hr0_0
  have HC0_0 := Aside0.mk hc0_0
  have HR0_1 := Aside0.mk hr0_1
  have HC0_1 := Aside0.mk hc0_1
  have HR1 := Aside0.mk hr1
  have HC1 := Aside0.mk hc1
  have HS0 := Aside0.mk (St.nil (Below.refl w.heap.size w))
  clear hr0_0 hc0_0 hr0_1 hc0_1 hr1 hc1
  obtain ⟨⟨q1, q2⟩, hdue, h⟩ := Option.bind_eq_some_iff.1 h
  have HDUE := Aside0.mk hdue
  have HY0 := Aside0.mk (show roundsR k l0_0 l0_1 k q1 [] = some r from h)
  clear hdue h
  go_enter Try.func56, Try.ntmps56
  go_wp2_with (first | ((with_reducible refine gate_dst (N := 2) rfl ?_); (try (refine gate_guard (by rfl) ?_; dsimp only)); refine box_event ?hg (N := 2) ?hd (cs := #[.slice A0_0 l0_0.length c0_0, .slice A0_1 l0_1.length c0_1]) (t := 41) ?hr ?_; (case hd => rfl); (case hg => rfl); (case hr => first | (go_simp; done) | (go_simp; rfl)); intro gh hg_ w123_ hx_ hb_; have HS124_ := Aside0.mk (HS0.out.box hg_ hx_ hb_); have c125_ : w123_.cell? ⟨gh, 0, none⟩ = some (.slice A0_0 l0_0.length c0_0) := (HS124_.out.cell 0 rfl 0).trans rfl; have c126_ : w123_.cell? ⟨gh, 1, none⟩ = some (.slice A0_1 l0_1.length c0_1) := (HS124_.out.cell 0 rfl 1).trans rfl; clear hg_ hx_ hb_  HS0) | (go_at_call 55; refine (backstitchref3_Due.calls k A0_0 c0_0 l0_0 A0_1 c0_1 l0_1 A1 c1 l1 q1 q2 _ (Kd.C_below HR0_0.out HS124_.out.below) HC0_0.out (Kd.C_below HR0_1.out HS124_.out.below) HC0_1.out (Kd.C_below HR1.out HS124_.out.below) HC1.out HDUE.out).mono ?_; rintro e_ w127_ ⟨v6_, v7_, rfl, ho_, ho2_, hb_⟩; obtain ⟨A6, c6, rfl⟩ := Kd.R_slice ho_; have HS128_ := Aside0.mk (HS124_.out.mrow hb_ ho_); clear ho_ ho2_ hb_; clear c125_ c126_ HS124_))
  have HSr := Aside0.mk (((((HS128_.out.nN (Kd.slice 3 (Kd.int .i64)) 36 (Kd.int .i64))).front 2 rfl).front 1 rfl).front 2 rfl)
  clear HS128_
  go_loopg [5, 7] k (fun kq v5 v7 wr => ∃ (Al : Option Addr) (cl : Nat) (left : List Int) (Ao : Option Addr) (co : Nat) (out : List (List Int)), v5 = .slice Al left.length cl ∧ v7 = .slice Ao out.length co ∧ Aside0 (roundsR k l0_0 l0_1 kq left out = some r) ∧ Aside0 (St w wr ((rowA w.heap.size (Kd.int .i64) 3 (.slice Al left.length cl) left) :: (nA w.heap.size (Kd.slice 3 (Kd.int .i64)) 36 (.slice Ao out.length co) out (Kd.int .i64) ([] : List (Option Addr × List Int))) :: (blkA gh #[.slice A0_0 l0_0.length c0_0, .slice A0_1 l0_1.length c0_1] 41) :: [])))
  case atStart => exact ⟨_, _, q1, none, 0, [], rfl, rfl, HY0, HSr⟩
  case round =>
    clear HSr HY0
    obtain ⟨Al, cl, left, Ao, co, out, rfl, rfl, HX, HSr⟩ := hrel
    cases gk with
    | zero => exact absurd HX.out (by simp [roundsR])
    | succ k1 =>
      have hx := HX.out
      rw [roundsR] at hx
      clear HX
      by_cases h0 : left.length = 0
      · rw [if_pos h0] at hx
        obtain rfl := Option.some.inj hx
        have hb0 : decide (0 < left.length) = false := decide_eq_false (by omega)
        have hb1 : decide ((0 : Int) < (left.length : Int)) = false := decide_eq_false (by omega)
        clear hx h0
        go_wp2
        go_ret
        exact ⟨_, rfl, HSr.out.nrowN 1 rfl, HSr.out.below⟩
      rw [if_neg h0] at hx
      split at hx
      case isFalse => cases hx
      rename_i hb
      obtain ⟨hl1, hlo⟩ := hb
      have hb0 : decide (0 < left.length) = true := decide_eq_true (by omega)
      have hb1 : decide ((0 : Int) < (left.length : Int)) = true := decide_eq_true (by omega)
      have HLS := Aside0.mk hl1
      have HLO := Aside0.mk hlo
      obtain ⟨⟨p1, p2⟩, hsp, hx⟩ := Option.bind_eq_some_iff.1 hx
      have HX := Aside0.mk (show (if p1.length = 0 then roundsR k l0_0 l0_1 k1 [] (out ++ [left]) else roundsR k l0_0 l0_1 k1 p2 (out ++ [p1])) = some r from hx)
      have HP0 := Aside0.mk (show splitR k l0_0 l0_1 left (left.drop (0 : Int).toNat) [] [] = some (p1, p2) from hsp)
      have HSb := Aside0.mk (((HSr.out.nrow (Kd.int .i64) 3).nrow (Kd.int .i64) 3))
      clear hx hsp hl1 hlo h0 HSr
      go_wp2
      go_loopw [26, 8, 9] (fun v26 v8 v9 wr => ∃ (i : Int) (An : Option Addr) (cn : Nat) (now : List Int) (Ax : Option Addr) (cx : Nat) (next : List Int), v26 = .int .i64 i ∧ v8 = .slice An now.length cn ∧ v9 = .slice Ax next.length cx ∧ Aside0 (0 ≤ i ∧ i ≤ left.length ∧ now.length ≤ i.toNat ∧ next.length ≤ i.toNat) ∧ Aside0 (splitR k l0_0 l0_1 left (left.drop i.toNat) now next = some (p1, p2)) ∧ Aside0 (St w wr ((rowA w.heap.size (Kd.int .i64) 3 (.slice An now.length cn) now) :: (rowA w.heap.size (Kd.int .i64) 3 (.slice Ax next.length cx) next) :: (rowA w.heap.size (Kd.int .i64) 3 (.slice Al left.length cl) left) :: (nA w.heap.size (Kd.slice 3 (Kd.int .i64)) 36 (.slice Ao out.length co) out (Kd.int .i64) ([] : List (Option Addr × List Int))) :: (blkA gh #[.slice A0_0 l0_0.length c0_0, .slice A0_1 l0_1.length c0_1] 41) :: []))) (fun v26 _ _ _ => left.length - (intOf v26).toNat)
      case atStart => exact ⟨0, none, 0, [], none, 0, [], rfl, rfl, rfl, ⟨by simp⟩, HP0, HSb⟩
      case round =>
        clear HSb HP0
        obtain ⟨i, An, cn, now, Ax, cx, next, rfl, rfl, rfl, Hi, HP, HSr⟩ := hrel
        have hi0 : 0 ≤ i := Hi.out.1
        by_cases hlt : i < (left.length : Int)
        · have ht : decide (i < (left.length : Int)) = true := decide_eq_true hlt
          have HW := Aside0.mk (show wrap64 (i + 1) = i + 1 by have := HLS.out; unfold wrap64; omega)
          have hd : left.drop i.toNat = rd left i :: left.drop (i + 1).toNat := by
            rw [List.drop_eq_getElem_cons (by omega), show (i + 1).toNat = i.toNat + 1 by omega]
            congr 1
            rw [rd, List.getD_eq_getElem?_getD, List.getElem?_eq_getElem (by omega), Option.getD_some]
          have hx := HP.out
          rw [hd, splitR] at hx
          clear hd HP
          obtain ⟨adl, e, hk⟩ := Kd.at_int (Kd.R_reads' (HSr.out.row 2 rfl)).2.2 i hi0 hlt
          cases e
          generalize rd left i = n at *
          obtain ⟨b1, hhad, hx⟩ := Option.bind_eq_some_iff.1 hx
          have HX4 := Aside0.mk hx
          have HJ0 := Aside0.mk (show hadR k l0_0 l0_1 n (left.drop (0 : Int).toNat) false = some b1 from hhad)
          clear hx hhad
          go_wp2
          clear hk
          go_loopw [32, 12] (fun v32 v12 wr => ∃ (j : Int) (b : Bool), v32 = .int .i64 j ∧ v12 = .bool b ∧ Aside0 (0 ≤ j ∧ j ≤ left.length) ∧ Aside0 (hadR k l0_0 l0_1 n (left.drop j.toNat) b = some b1) ∧ Aside0 (St w wr ((rowA w.heap.size (Kd.int .i64) 3 (.slice An now.length cn) now) :: (rowA w.heap.size (Kd.int .i64) 3 (.slice Ax next.length cx) next) :: (rowA w.heap.size (Kd.int .i64) 3 (.slice (some adl) left.length cl) left) :: (nA w.heap.size (Kd.slice 3 (Kd.int .i64)) 36 (.slice Ao out.length co) out (Kd.int .i64) ([] : List (Option Addr × List Int))) :: (blkA gh #[.slice A0_0 l0_0.length c0_0, .slice A0_1 l0_1.length c0_1] 41) :: []))) (fun v32 _ _ => left.length - (intOf v32).toNat)
          case atStart => exact ⟨0, false, rfl, rfl, ⟨by omega⟩, HJ0, HSr⟩
          case round =>
            clear HSr HJ0
            obtain ⟨j, b, rfl, rfl, Hj, HJ, HSj⟩ := hrel
            have hj0 : 0 ≤ j := Hj.out.1
            by_cases hjt : j < (left.length : Int)
            · have ht2 : decide (j < (left.length : Int)) = true := decide_eq_true hjt
              have HW2 := Aside0.mk (show wrap64 (j + 1) = j + 1 by have := HLS.out; unfold wrap64; omega)
              have hd : left.drop j.toNat = rd left j :: left.drop (j + 1).toNat := by
                rw [List.drop_eq_getElem_cons (by omega), show (j + 1).toNat = j.toNat + 1 by omega]
                congr 1
                rw [rd, List.getD_eq_getElem?_getD, List.getElem?_eq_getElem (by omega), Option.getD_some]
              have hx := HJ.out
              rw [hd, hadR] at hx
              clear hd HJ
              obtain ⟨adl2, e, hk⟩ := Kd.at_int (Kd.R_reads' (HSj.out.row 2 rfl)).2.2 j hj0 hjt
              cases e
              have hiq := j
              obtain ⟨jv, hjv⟩ : ∃ jv, jv = rd left j := ⟨_, rfl⟩
              rw [← hjv] at hk hx
              clear hjv hiq
              rcases b with _ | _
              · rw [if_neg (by simp)] at hx
                by_cases c1 : jv = n
                · rw [if_pos c1] at hx
                  have HX5 := Aside0.mk hx
                  have hc1 : (jv != n) = false := bne_eq_false_iff_eq.mpr c1
                  clear hx c1
                  go_wp2
                  have HSd := Aside0.mk (HSj.out.nrow Kd.bool 4)
                  clear HSj
                  have HF_ := Aside0.mk HSd.out.drew
                  refine st_ (fun w' => St w w' ((rowA w.heap.size (Kd.int .i64) 3 (.slice An now.length cn) now) :: (rowA w.heap.size (Kd.int .i64) 3 (.slice Ax next.length cx) next) :: (rowA w.heap.size (Kd.int .i64) 3 (.slice (some adl) left.length cl) left) :: (nA w.heap.size (Kd.slice 3 (Kd.int .i64)) 36 (.slice Ao out.length co) out (Kd.int .i64) ([] : List (Option Addr × List Int))) :: (blkA gh #[.slice A0_0 l0_0.length c0_0, .slice A0_1 l0_1.length c0_1] 41) :: [])) backstitchref3_Rounds.tab12 backstitchref3_Rounds.bits12 ((HF_.out).drop 0 rfl) (fun HT_ HW_ hHeld => ?_)
                  clear HSd
                  generalize wr.drew = w130_ at hHeld HF_ ⊢
                  refine pu_ (v := ?_) (a' := ?_) HT_.out 0 (some 36) ?_ ?_ ?_; rotate_left 2; (intro w'; go_simp; with_reducible rfl); (simp only [Act.put, List.setIfInBounds_toArray, List.set_cons_zero, List.set_cons_succ, i64_w, i32_w]; rfl)
                  refine pu_ (v := ?_) (a' := ?_) HT_.out 1 (some 37) ?_ ?_ ?_; rotate_left 2; (intro w'; go_simp; with_reducible rfl); (simp only [Act.put, List.setIfInBounds_toArray, List.set_cons_zero, List.set_cons_succ, i64_w, i32_w]; rfl)
                  refine pu_ (v := ?_) (a' := ?_) HT_.out 2 (some 38) ?_ ?_ ?_; rotate_left 2; (intro w'; go_simp; with_reducible rfl); (simp only [Act.put, List.setIfInBounds_toArray, List.set_cons_zero, List.set_cons_succ, i64_w, i32_w]; rfl)
                  refine pu_ (v := ?_) (a' := ?_) HT_.out 3 (some 39) ?_ ?_ ?_; rotate_left 2; (intro w'; go_simp; with_reducible rfl); (simp only [Act.put, List.setIfInBounds_toArray, List.set_cons_zero, List.set_cons_succ, i64_w, i32_w]; rfl)
                  refine pu_ (v := ?_) (a' := ?_) HT_.out 4 (some 40) ?_ ?_ ?_; rotate_left 2; (intro w'; go_simp; with_reducible rfl); (simp only [Act.put, List.setIfInBounds_toArray, List.set_cons_zero, List.set_cons_succ, i64_w, i32_w]; rfl)
                  refine pu_ (v := ?_) (a' := ?_) HT_.out 5 (some 41) ?_ ?_ ?_; rotate_left 2; (intro w'; go_simp; with_reducible rfl); (simp only [Act.put, List.setIfInBounds_toArray, List.set_cons_zero, List.set_cons_succ, i64_w, i32_w]; rfl)
                  refine un_ (a' := ?_) HT_.out 6 (some 42) ?_ ?_; rotate_left; (simp only [Act.put, List.setIfInBounds_toArray, List.set_cons_zero, List.set_cons_succ, i64_w, i32_w]; rfl)
                  refine un_ (a' := ?_) HT_.out 7 (some 43) ?_ ?_; rotate_left; (simp only [Act.put, List.setIfInBounds_toArray, List.set_cons_zero, List.set_cons_succ, i64_w, i32_w]; rfl)
                  refine un_ (a' := ?_) HT_.out 8 (some 44) ?_ ?_; rotate_left; (simp only [Act.put, List.setIfInBounds_toArray, List.set_cons_zero, List.set_cons_succ, i64_w, i32_w]; rfl)
                  refine un_ (a' := ?_) HT_.out 9 (some 45) ?_ ?_; rotate_left; (simp only [Act.put, List.setIfInBounds_toArray, List.set_cons_zero, List.set_cons_succ, i64_w, i32_w]; rfl)
                  refine un_ (a' := ?_) HT_.out 10 (some 46) ?_ ?_; rotate_left; (simp only [Act.put, List.setIfInBounds_toArray, List.set_cons_zero, List.set_cons_succ, i64_w, i32_w]; rfl)
                  refine un_ (a' := ?_) HT_.out 11 (some 47) ?_ ?_; rotate_left; (simp only [Act.put, List.setIfInBounds_toArray, List.set_cons_zero, List.set_cons_succ, i64_w, i32_w]; rfl)
                  refine un_ (a' := ?_) HT_.out 12 (some 48) ?_ ?_; rotate_left; (simp only [Act.put, List.setIfInBounds_toArray, List.set_cons_zero, List.set_cons_succ, i64_w, i32_w]; rfl)
                  refine un_ (a' := ?_) HT_.out 13 (some 49) ?_ ?_; rotate_left; (simp only [Act.put, List.setIfInBounds_toArray, List.set_cons_zero, List.set_cons_succ, i64_w, i32_w]; rfl)
                  refine un_ (a' := ?_) HT_.out 14 (some 50) ?_ ?_; rotate_left; (simp only [Act.put, List.setIfInBounds_toArray, List.set_cons_zero, List.set_cons_succ, i64_w, i32_w]; rfl)
                  refine un_ (a' := ?_) HT_.out 15 (some 51) ?_ ?_; rotate_left; (simp only [Act.put, List.setIfInBounds_toArray, List.set_cons_zero, List.set_cons_succ, i64_w, i32_w]; rfl)
                  refine pu_ (v := ?_) (a' := ?_) HT_.out 16 (some 52) ?_ ?_ ?_; rotate_left 2; (intro w'; go_simp; with_reducible rfl); (simp only [Act.put, List.setIfInBounds_toArray, List.set_cons_zero, List.set_cons_succ, i64_w, i32_w]; rfl)
                  refine pu_ (v := ?_) (a' := ?_) HT_.out 17 (some 53) ?_ ?_ ?_; rotate_left 2; (intro w'; go_simp; with_reducible rfl); (simp only [Act.put, List.setIfInBounds_toArray, List.set_cons_zero, List.set_cons_succ, i64_w, i32_w]; rfl)
                  refine pu_ (v := ?_) (a' := ?_) HT_.out 18 (some 12) ?_ ?_ ?_; rotate_left 2; (intro w'; go_simp; with_reducible rfl); (simp only [Act.put, List.setIfInBounds_toArray, List.set_cons_zero, List.set_cons_succ, i64_w, i32_w]; rfl)
                  refine dn_ HT_.out ?_
                  clear hHeld HT_ HW_
                  go_wp2
                  go_roundw
                  case rel => exact ⟨j + 1, false, by first | rw [HW2.out] | rfl, rfl, ⟨by omega⟩, HX5, ⟨HF_.out.tail⟩⟩
                  case measure => simp only [intOf]; (try rw [HW2.out]); omega
                · rw [if_neg c1] at hx
                  have hc1 : (jv != n) = true := bne_iff_ne.mpr c1
                  split at hx
                  case isFalse => cases hx
                  rename_i hb
                  obtain ⟨j0, j1⟩ := hb
                  obtain ⟨s, hfr, hx⟩ := Option.bind_eq_some_iff.1 hx
                  split at hx
                  case isFalse => cases hx
                  rename_i hb
                  have N0 := Aside0.mk hb.1
                  have N1 := Aside0.mk hb.2
                  have HX5 := Aside0.mk hx
                  obtain ⟨adh, Ai, ci, e, hkx, hli, hci⟩ := at_row HR0_0.out jv j0 j1
                  cases e
                  generalize l0_0.getD jv.toNat [] = lx at *
                  have HFR := Aside0.mk hfr
                  have HKX := Aside0.mk hkx
                  have HLI := Aside0.mk hli
                  have HCI := Aside0.mk hci
                  clear hx hfr hkx hli hci hb c1
                  go_wp2
                  have HSd := Aside0.mk (HSj.out.nrow Kd.bool 4)
                  clear HSj
                  have HF_ := Aside0.mk HSd.out.drew
                  refine st_ (fun w' => St w w' ((rowA w.heap.size (Kd.int .i64) 3 (.slice An now.length cn) now) :: (rowA w.heap.size (Kd.int .i64) 3 (.slice Ax next.length cx) next) :: (rowA w.heap.size (Kd.int .i64) 3 (.slice (some adl) left.length cl) left) :: (nA w.heap.size (Kd.slice 3 (Kd.int .i64)) 36 (.slice Ao out.length co) out (Kd.int .i64) ([] : List (Option Addr × List Int))) :: (blkA gh #[.slice (some adh) l0_0.length c0_0, .slice A0_1 l0_1.length c0_1] 41) :: [])) backstitchref3_Rounds.tab12 backstitchref3_Rounds.bits12 ((HF_.out).drop 0 rfl) (fun HT_ HW_ hHeld => ?_)
                  clear HSd
                  generalize wr.drew = w131_ at hHeld HF_ ⊢
                  refine pu_ (v := ?_) (a' := ?_) HT_.out 0 (some 36) ?_ ?_ ?_; rotate_left 2; (intro w'; go_simp; with_reducible rfl); (simp only [Act.put, List.setIfInBounds_toArray, List.set_cons_zero, List.set_cons_succ, i64_w, i32_w]; rfl)
                  refine pu_ (v := ?_) (a' := ?_) HT_.out 1 (some 37) ?_ ?_ ?_; rotate_left 2; (intro w'; go_simp; with_reducible rfl); (simp only [Act.put, List.setIfInBounds_toArray, List.set_cons_zero, List.set_cons_succ, i64_w, i32_w]; rfl)
                  refine pu_ (v := ?_) (a' := ?_) HT_.out 2 (some 38) ?_ ?_ ?_; rotate_left 2; (intro w'; go_simp; with_reducible rfl); (simp only [Act.put, List.setIfInBounds_toArray, List.set_cons_zero, List.set_cons_succ, i64_w, i32_w]; rfl)
                  refine pu_ (v := ?_) (a' := ?_) HT_.out 3 (some 39) ?_ ?_ ?_; rotate_left 2; (intro w'; go_simp; with_reducible rfl); (simp only [Act.put, List.setIfInBounds_toArray, List.set_cons_zero, List.set_cons_succ, i64_w, i32_w]; rfl)
                  refine pu_ (v := ?_) (a' := ?_) HT_.out 4 (some 40) ?_ ?_ ?_; rotate_left 2; (intro w'; go_simp; with_reducible rfl); (simp only [Act.put, List.setIfInBounds_toArray, List.set_cons_zero, List.set_cons_succ, i64_w, i32_w]; rfl)
                  refine pu_ (v := ?_) (a' := ?_) HT_.out 5 (some 41) ?_ ?_ ?_; rotate_left 2; (intro w'; go_simp; with_reducible rfl); (simp only [Act.put, List.setIfInBounds_toArray, List.set_cons_zero, List.set_cons_succ, i64_w, i32_w]; rfl)
                  refine pu_ (v := ?_) (a' := ?_) HT_.out 7 (some 43) ?_ ?_ ?_; rotate_left 2; (intro w'; go_simp; with_reducible rfl); (simp only [Act.put, List.setIfInBounds_toArray, List.set_cons_zero, List.set_cons_succ, i64_w, i32_w]; rfl)
                  refine pu_ (v := ?_) (a' := ?_) HT_.out 9 (some 45) ?_ ?_ ?_; rotate_left 2; (intro w'; go_simp; with_reducible rfl); (simp only [Act.put, List.setIfInBounds_toArray, List.set_cons_zero, List.set_cons_succ, i64_w, i32_w]; rfl)
                  refine pu_ (v := ?_) (a' := ?_) HT_.out 13 (some 49) ?_ ?_ ?_; rotate_left 2; (intro w'; go_simp; with_reducible rfl); (simp only [Act.put, List.setIfInBounds_toArray, List.set_cons_zero, List.set_cons_succ, i64_w, i32_w]; rfl)
                  refine tk_ (v := ?_) (a' := ?_) HT_.out HW_.out hHeld 6 (some 42) ?_ ?_ ?_; rotate_left 2; (intro w' hS; have s0 : w'.cell? ⟨gh, 0, none⟩ = some _ := hS.cell 4 rfl 0; have s1 : w'.cell? ⟨gh, 1, none⟩ = some _ := hS.cell 4 rfl 1; go_simp; with_reducible rfl); (simp only [Act.put, List.setIfInBounds_toArray, List.set_cons_zero, List.set_cons_succ, i64_w, i32_w]; rfl)
                  refine tk_ (v := ?_) (a' := ?_) HT_.out HW_.out hHeld 8 (some 44) ?_ ?_ ?_; rotate_left 2; (intro w' hS; have s0 : w'.cell? ⟨gh, 0, none⟩ = some _ := hS.cell 4 rfl 0; go_simp; with_reducible rfl); (simp only [Act.put, List.setIfInBounds_toArray, List.set_cons_zero, List.set_cons_succ, i64_w, i32_w]; rfl)
                  refine pu_ (v := ?_) (a' := ?_) HT_.out 10 (some 46) ?_ ?_ ?_; rotate_left 2; (intro w'; go_simp; with_reducible rfl); (simp only [Act.put, List.setIfInBounds_toArray, List.set_cons_zero, List.set_cons_succ, i64_w, i32_w]; rfl)
                  refine tk_ (v := ?_) (a' := ?_) HT_.out HW_.out hHeld 11 (some 47) ?_ ?_ ?_; rotate_left 2; (intro w' hS; have s0 : w'.cell? (adh.add jv.toNat) = some (.slice Ai lx.length ci) := (hS.below.cell (World.block_lt_of_cell? w _ HKX.out)).trans HKX.out; go_simp; with_reducible rfl); (simp only [Act.put, List.setIfInBounds_toArray, List.set_cons_zero, List.set_cons_succ, i64_w, i32_w]; rfl)
                  refine on_ HT_.out 12 (some 48) (fun K hK => ?_)
                  refine goes_ Try.func129 (by kernel_rfl) rfl #[.agg #[.slice (some adh) l0_0.length c0_0, .slice A0_1 l0_1.length c0_1], .slice Ai lx.length ci, .slice none 0 0] (by rfl) rfl rfl (by simp only [List.map_toArray, List.map_cons, List.map_nil]; rfl) ?_
                  with_reducible refine ((show Calls Try.prog 129 #[.agg #[.slice (some adh) l0_0.length c0_0, .slice A0_1 l0_1.length c0_1], .slice Ai lx.length ci, .slice none 0 0] _ _ from backstitchref3_From.calls k _ _ l0_0 A0_1 c0_1 l0_1 Ai ci lx none 0 ([] : List S236) s _ (Kd.C_below HR0_0.out HF_.out.below) HC0_0.out (Kd.C_below HR0_1.out HF_.out.below) HC0_1.out (Kd.C_below HCI.out HF_.out.below) HLI.out (Kd.C_nil _ _) (Nat.le_refl _) HFR.out)).mono ?_
                  rintro e_ w134_ ⟨v9_, rfl, ho_, hb_⟩
                  refine ⟨_, rfl, ?_⟩
                  obtain ⟨A9, c9, rfl⟩ := Kd.R_slice ho_
                  obtain ⟨ad9, e9_, hk9_⟩ := Kd.at_bool (Kd.R_reads' ho_).2.2 n N0.out N1.out
                  cases e9_
                  have n0_ := N0.out
                  have n1_ := N1.out
                  have HS135_ := Aside0.mk (HF_.out.tail.mrow hb_ ho_)
                  clear ho_ hb_ HF_
                  try clear hHeld
                  refine hK.out _ _ ((HS135_.out).drop 0 rfl) (fun hHeld => ?_)
                  clear hK K
                  refine norm_ (a' := ?_) ?_ ?_; rotate_left; (show Act.put _ (some 48) _ = _; simp only [Act.put, List.setIfInBounds_toArray, List.set_cons_zero, List.set_cons_succ, i64_w, i32_w]; rfl)
                  refine pu_ (v := ?_) (a' := ?_) HT_.out 14 (some 50) ?_ ?_ ?_; rotate_left 2; (intro w'; go_simp; with_reducible rfl); (simp only [Act.put, List.setIfInBounds_toArray, List.set_cons_zero, List.set_cons_succ, i64_w, i32_w]; rfl)
                  refine on_ HT_.out 15 (some 51) (fun K hK => ?_)
                  refine value_ (v := .bool (rdOf false s n)) (w1 := w134_) (by rfl) rfl ?hru_ ?_; (case hru_ => (go_simp; first | done | rfl))
                  clear hk9_ n0_ n1_
                  try clear hHeld
                  refine hK.out _ _ ((HS135_.out).drop 0 rfl) (fun hHeld => ?_)
                  clear hK K
                  refine norm_ (a' := ?_) ?_ ?_; rotate_left; (show Act.put _ (some 51) _ = _; simp only [Act.put, List.setIfInBounds_toArray, List.set_cons_zero, List.set_cons_succ, i64_w, i32_w]; rfl)
                  refine pu_ (v := ?_) (a' := ?_) HT_.out 16 (some 52) ?_ ?_ ?_; rotate_left 2; (intro w'; go_simp; with_reducible rfl); (simp only [Act.put, List.setIfInBounds_toArray, List.set_cons_zero, List.set_cons_succ, i64_w, i32_w]; rfl)
                  refine pu_ (v := ?_) (a' := ?_) HT_.out 17 (some 53) ?_ ?_ ?_; rotate_left 2; (intro w'; go_simp; with_reducible rfl); (simp only [Act.put, List.setIfInBounds_toArray, List.set_cons_zero, List.set_cons_succ, i64_w, i32_w]; rfl)
                  refine pu_ (v := ?_) (a' := ?_) HT_.out 18 (some 12) ?_ ?_ ?_; rotate_left 2; (intro w'; go_simp; with_reducible rfl); (simp only [Act.put, List.setIfInBounds_toArray, List.set_cons_zero, List.set_cons_succ, i64_w, i32_w]; rfl)
                  refine dn_ HT_.out ?_
                  clear hHeld HT_ HW_
                  go_wp2
                  go_roundw
                  case rel => exact ⟨j + 1, _, by first | rw [HW2.out] | rfl, rfl, ⟨by omega⟩, HX5, ⟨HS135_.out.tail⟩⟩
                  case measure => simp only [intOf]; (try rw [HW2.out]); omega
              · rw [if_pos rfl] at hx
                have HX5 := Aside0.mk hx
                clear hx
                go_wp2
                have HSd := Aside0.mk (HSj.out.nrow Kd.bool 4)
                clear HSj
                have HF_ := Aside0.mk HSd.out.drew
                refine st_ (fun w' => St w w' ((rowA w.heap.size (Kd.int .i64) 3 (.slice An now.length cn) now) :: (rowA w.heap.size (Kd.int .i64) 3 (.slice Ax next.length cx) next) :: (rowA w.heap.size (Kd.int .i64) 3 (.slice (some adl) left.length cl) left) :: (nA w.heap.size (Kd.slice 3 (Kd.int .i64)) 36 (.slice Ao out.length co) out (Kd.int .i64) ([] : List (Option Addr × List Int))) :: (blkA gh #[.slice A0_0 l0_0.length c0_0, .slice A0_1 l0_1.length c0_1] 41) :: [])) backstitchref3_Rounds.tab12 backstitchref3_Rounds.bits12 ((HF_.out).drop 0 rfl) (fun HT_ HW_ hHeld => ?_)
                clear HSd
                generalize wr.drew = w129_ at hHeld HF_ ⊢
                refine pu_ (v := ?_) (a' := ?_) HT_.out 0 (some 36) ?_ ?_ ?_; rotate_left 2; (intro w'; go_simp; with_reducible rfl); (simp only [Act.put, List.setIfInBounds_toArray, List.set_cons_zero, List.set_cons_succ, i64_w, i32_w]; rfl)
                refine pu_ (v := ?_) (a' := ?_) HT_.out 1 (some 37) ?_ ?_ ?_; rotate_left 2; (intro w'; go_simp; with_reducible rfl); (simp only [Act.put, List.setIfInBounds_toArray, List.set_cons_zero, List.set_cons_succ, i64_w, i32_w]; rfl)
                refine un_ (a' := ?_) HT_.out 2 (some 38) ?_ ?_; rotate_left; (simp only [Act.put, List.setIfInBounds_toArray, List.set_cons_zero, List.set_cons_succ, i64_w, i32_w]; rfl)
                refine un_ (a' := ?_) HT_.out 3 (some 39) ?_ ?_; rotate_left; (simp only [Act.put, List.setIfInBounds_toArray, List.set_cons_zero, List.set_cons_succ, i64_w, i32_w]; rfl)
                refine un_ (a' := ?_) HT_.out 4 (some 40) ?_ ?_; rotate_left; (simp only [Act.put, List.setIfInBounds_toArray, List.set_cons_zero, List.set_cons_succ, i64_w, i32_w]; rfl)
                refine un_ (a' := ?_) HT_.out 5 (some 41) ?_ ?_; rotate_left; (simp only [Act.put, List.setIfInBounds_toArray, List.set_cons_zero, List.set_cons_succ, i64_w, i32_w]; rfl)
                refine un_ (a' := ?_) HT_.out 6 (some 42) ?_ ?_; rotate_left; (simp only [Act.put, List.setIfInBounds_toArray, List.set_cons_zero, List.set_cons_succ, i64_w, i32_w]; rfl)
                refine un_ (a' := ?_) HT_.out 7 (some 43) ?_ ?_; rotate_left; (simp only [Act.put, List.setIfInBounds_toArray, List.set_cons_zero, List.set_cons_succ, i64_w, i32_w]; rfl)
                refine un_ (a' := ?_) HT_.out 8 (some 44) ?_ ?_; rotate_left; (simp only [Act.put, List.setIfInBounds_toArray, List.set_cons_zero, List.set_cons_succ, i64_w, i32_w]; rfl)
                refine un_ (a' := ?_) HT_.out 9 (some 45) ?_ ?_; rotate_left; (simp only [Act.put, List.setIfInBounds_toArray, List.set_cons_zero, List.set_cons_succ, i64_w, i32_w]; rfl)
                refine un_ (a' := ?_) HT_.out 10 (some 46) ?_ ?_; rotate_left; (simp only [Act.put, List.setIfInBounds_toArray, List.set_cons_zero, List.set_cons_succ, i64_w, i32_w]; rfl)
                refine un_ (a' := ?_) HT_.out 11 (some 47) ?_ ?_; rotate_left; (simp only [Act.put, List.setIfInBounds_toArray, List.set_cons_zero, List.set_cons_succ, i64_w, i32_w]; rfl)
                refine un_ (a' := ?_) HT_.out 12 (some 48) ?_ ?_; rotate_left; (simp only [Act.put, List.setIfInBounds_toArray, List.set_cons_zero, List.set_cons_succ, i64_w, i32_w]; rfl)
                refine un_ (a' := ?_) HT_.out 13 (some 49) ?_ ?_; rotate_left; (simp only [Act.put, List.setIfInBounds_toArray, List.set_cons_zero, List.set_cons_succ, i64_w, i32_w]; rfl)
                refine un_ (a' := ?_) HT_.out 14 (some 50) ?_ ?_; rotate_left; (simp only [Act.put, List.setIfInBounds_toArray, List.set_cons_zero, List.set_cons_succ, i64_w, i32_w]; rfl)
                refine un_ (a' := ?_) HT_.out 15 (some 51) ?_ ?_; rotate_left; (simp only [Act.put, List.setIfInBounds_toArray, List.set_cons_zero, List.set_cons_succ, i64_w, i32_w]; rfl)
                refine un_ (a' := ?_) HT_.out 16 (some 52) ?_ ?_; rotate_left; (simp only [Act.put, List.setIfInBounds_toArray, List.set_cons_zero, List.set_cons_succ, i64_w, i32_w]; rfl)
                refine pu_ (v := ?_) (a' := ?_) HT_.out 17 (some 53) ?_ ?_ ?_; rotate_left 2; (intro w'; go_simp; with_reducible rfl); (simp only [Act.put, List.setIfInBounds_toArray, List.set_cons_zero, List.set_cons_succ, i64_w, i32_w]; rfl)
                refine pu_ (v := ?_) (a' := ?_) HT_.out 18 (some 12) ?_ ?_ ?_; rotate_left 2; (intro w'; go_simp; with_reducible rfl); (simp only [Act.put, List.setIfInBounds_toArray, List.set_cons_zero, List.set_cons_succ, i64_w, i32_w]; rfl)
                refine dn_ HT_.out ?_
                clear hHeld HT_ HW_
                go_wp2
                go_roundw
                case rel => exact ⟨j + 1, true, by first | rw [HW2.out] | rfl, rfl, ⟨by omega⟩, HX5, ⟨HF_.out.tail⟩⟩
                case measure => simp only [intOf]; (try rw [HW2.out]); omega
            · have ht2 : decide (j < (left.length : Int)) = false := decide_eq_false hjt
              have hx := HJ.out
              rw [List.drop_eq_nil_of_le (by omega), hadR] at hx
              obtain rfl := Option.some.inj hx
              have HSz := HSj
              clear hx HJ HSj
              rcases b with _ | _
              · have HX5 := Aside0.mk (show splitR k l0_0 l0_1 left (left.drop (i + 1).toNat) (now ++ [n]) next = some (p1, p2) from HX4.out)
                clear HX4
                go_wp2_with (first | ((with_reducible refine gate_builtin (b := .append) (xs := #[.tmp 60, .tmp 62]) rfl ?_); (try (refine gate_guard (by rfl) ?_; dsimp only)); at_builtin; obtain ⟨ok_, hf_, hr_, hs_⟩ := (HSz.out).app 0 rfl; refine Kd.R_append (Kd.int .i64) (w0 := w) w.heap.size rfl (.tmp 60) (.tmp 62) 36 3 (.int .i64 0) 8 rfl Try.underlying36 info3 rfl (by decide) (by omega) (.slice An now.length cn) now (n) [.int .i64 n] ok_ (fun _ => False) rfl rfl rfl (fun _ hk => hk.elim) hf_ hr_ (HSz.out).below (HSz.out).size ?aL ?_; (case aL => have := HLS.out; have := Hi.out; omega); intro Ap146_ w144_ ho_ hb_ hg_ hat_; have HS145_ := Aside0.mk (hs_ _ _ _ ho_ hb_ hg_); have hN_ := Kd.R_slice ho_; obtain ⟨A147_, c149_, rfl⟩ := hN_; clear ho_ hb_ hg_ hat_ hf_ hr_ hs_  HSz))
                go_roundw
                case rel => exact ⟨i + 1, A147_, c149_, _, _, _, _, by first | rw [HW.out] | rfl, by first | rfl | simp, rfl, ⟨by have := Hi.out; simp; omega⟩, HX5, HS145_⟩
                case measure => simp only [intOf]; (try rw [HW.out]); omega
              · have HX5 := Aside0.mk (show splitR k l0_0 l0_1 left (left.drop (i + 1).toNat) now (next ++ [n]) = some (p1, p2) from HX4.out)
                clear HX4
                go_wp2_with (first | ((with_reducible refine gate_builtin (b := .append) (xs := #[.tmp 56, .tmp 58]) rfl ?_); (try (refine gate_guard (by rfl) ?_; dsimp only)); at_builtin; obtain ⟨ok_, hf_, hr_, hs_⟩ := (HSz.out).app 1 rfl; refine Kd.R_append (Kd.int .i64) (w0 := w) w.heap.size rfl (.tmp 56) (.tmp 58) 36 3 (.int .i64 0) 8 rfl Try.underlying36 info3 rfl (by decide) (by omega) (.slice Ax next.length cx) next (n) [.int .i64 n] ok_ (fun _ => False) rfl rfl rfl (fun _ hk => hk.elim) hf_ hr_ (HSz.out).below (HSz.out).size ?aL ?_; (case aL => have := HLS.out; have := Hi.out; omega); intro Ap140_ w138_ ho_ hb_ hg_ hat_; have HS139_ := Aside0.mk (hs_ _ _ _ ho_ hb_ hg_); have hN_ := Kd.R_slice ho_; obtain ⟨A141_, c143_, rfl⟩ := hN_; clear ho_ hb_ hg_ hat_ hf_ hr_ hs_  HSz))
                go_roundw
                case rel => exact ⟨i + 1, _, _, _, A141_, c143_, _, by first | rw [HW.out] | rfl, rfl, by first | rfl | simp, ⟨by have := Hi.out; simp; omega⟩, HX5, HS139_⟩
                case measure => simp only [intOf]; (try rw [HW.out]); omega
        · have ht : decide (i < (left.length : Int)) = false := decide_eq_false hlt
          have hx := HP.out
          rw [List.drop_eq_nil_of_le (by omega), splitR] at hx
          obtain ⟨rfl, rfl⟩ := Prod.mk.inj (Option.some.inj hx)
          have HSz := HSr
          clear hx HP HSr
          have hx := HX.out
          clear HX
          by_cases h9 : now.length = 0
          · rw [if_pos h9] at hx
            have HX4 := Aside0.mk hx
            have hn0 : ((now.length : Int) == 0) = true := beq_iff_eq.mpr (by omega)
            have hn1 : (now.length == 0) = true := beq_iff_eq.mpr h9
            clear hx h9
            go_wp2_with (first | ((with_reducible refine gate_builtin (b := .append) (xs := #[.tmp 69, .tmp 71]) rfl ?_); (try (refine gate_guard (by rfl) ?_; dsimp only)); at_builtin; have hT_ := ((HSz.out).drop 0 rfl).drop 0 rfl; obtain ⟨ok_, okp_, hf_, hn_, hfk_, hok_, hs_⟩ := hT_.napp (Kd.R_reads' (hT_.row 0 rfl)).2.1; refine Kd.N_append (Kd.slice 3 (Kd.int .i64)) (w0 := w) w.heap.size rfl (.tmp 69) (.tmp 71) 39 36 (.slice none 0 0) 24 rfl Try.underlying39 info36 rfl (by decide) (by omega) (.slice Ao out.length co) out left [.slice Al left.length cl] ok_ okp_ rfl rfl hfk_ hok_ hf_ hn_ HSz.out.below HSz.out.size ?aL ?_; (case aL => have := HLO.out; omega); intro v1_ w150_ hr_ hb_ hg_ hat_; obtain ⟨Ap, cp, rfl⟩ := Kd.N_slice hr_; have HS151_ : Aside0 (St w w150_ ((nA w.heap.size (Kd.slice 3 (Kd.int .i64)) 36 (.slice Ap (out ++ [left]).length cp) (out ++ [left]) (Kd.int .i64) ([] : List (Option Addr × List Int))) :: (blkA gh #[.slice A0_0 l0_0.length c0_0, .slice A0_1 l0_1.length c0_1] 41) :: [])) := ⟨(hs_ _ _ _ hr_ hb_ hg_).nless (by simp)⟩; clear hT_ ok_ okp_ hf_ hn_ hfk_ hok_ hs_ hr_ hb_ hg_ hat_ HSz))
            go_roundg k1
            case rel => exact ⟨none, 0, [], Ap, cp, _, rfl, by first | rfl | simp, HX4, ⟨(HS151_.out.nrow (Kd.int .i64) 3)⟩⟩
            case measure => omega
          · rw [if_neg h9] at hx
            have HX4 := Aside0.mk hx
            have hn0 : ((now.length : Int) == 0) = false := beq_eq_false_iff_ne.mpr (by omega)
            have hn1 : (now.length == 0) = false := beq_eq_false_iff_ne.mpr h9
            clear hx h9
            go_wp2_with (first | ((with_reducible refine gate_builtin (b := .append) (xs := #[.tmp 69, .tmp 71]) rfl ?_); (try (refine gate_guard (by rfl) ?_; dsimp only)); at_builtin; have hT_ := (((((HSz.out).drop 2 rfl).front 3 rfl).front 2 rfl).front 3 rfl).front 3 rfl; obtain ⟨ok_, okp_, hf_, hn_, hfk_, hok_, hs_⟩ := hT_.napp (Kd.R_reads' (hT_.row 0 rfl)).2.1; refine Kd.N_append (Kd.slice 3 (Kd.int .i64)) (w0 := w) w.heap.size rfl (.tmp 69) (.tmp 71) 39 36 (.slice none 0 0) 24 rfl Try.underlying39 info36 rfl (by decide) (by omega) (.slice Ao out.length co) out now [.slice An now.length cn] ok_ okp_ rfl rfl hfk_ hok_ hf_ hn_ HSz.out.below HSz.out.size ?aL ?_; (case aL => have := HLO.out; omega); intro v1_ w152_ hr_ hb_ hg_ hat_; obtain ⟨Ap, cp, rfl⟩ := Kd.N_slice hr_; have HS153_ : Aside0 (St w w152_ ((nA w.heap.size (Kd.slice 3 (Kd.int .i64)) 36 (.slice Ap (out ++ [now]).length cp) (out ++ [now]) (Kd.int .i64) ([] : List (Option Addr × List Int))) :: (rowA w.heap.size (Kd.int .i64) 3 (.slice Ax next.length cx) next) :: (blkA gh #[.slice A0_0 l0_0.length c0_0, .slice A0_1 l0_1.length c0_1] 41) :: [])) := ⟨(hs_ _ _ _ hr_ hb_ hg_).nless (by simp)⟩; clear hT_ ok_ okp_ hf_ hn_ hfk_ hok_ hs_ hr_ hb_ hg_ hat_ HSz))
            go_roundg k1
            case rel => exact ⟨Ax, cx, _, Ap, cp, _, rfl, by first | rfl | simp, HX4, ⟨(HS153_.out).front 1 rfl⟩⟩
            case measure => omega
end

end Go.Proofs.Ytlojkphocbbjdab.PEndsTell
