-- Printed for this claim by a program of this session (inj.py), beside the kit's print. Not trusted: Lean checks it.
import Derived.Test.YtlojkphocbbjdaaPLiveTellsx0
import Derived.Test.YtlojkphocbbjdaaPLiveTellsx5
namespace Go.Proofs.Ytlojkphocbbjdaa.PLiveTells
open Go.RowKit Go.Proofs.YtlojkphocbbjdaaW.PrintWords Go.Proofs.YtlojkphocbbjdaaW.PrintLast Go.Proofs.YtlojkphocbbjdaaW.PrintMore
open Go.Proofs.YtlojkphocbbjdaaW.PrintWords renaming blk_frozen → bA, pw_below_drewN → bB, blk_cell → bC, below_drew1 → bD, below_alloc → bE, below_set → bG, blk_drewN → bH, blk_alloc → bI, blk_drew → bJ, below_step → bK, below_size → bL, blk_below → bM, gate_dst → bN, box_event → bO
open Go.Proofs.YtlojkphocbbjdaaW.PrintLast renaming i64_w → bP, i32_w → bQ
open Go.Proofs.YtlojkphocbbjdaaW.PrintMore renaming min_three → bR, max_three → bS, min_four → bT, min2_int → bU, max_four → bV, max2_int → bW, min_two → bX, max_two → bY
open Bool renaming true → hQ, false → hR
attribute [local go_sem] bW bU bY bX bS bR bV bT   -- for this text's walks alone
set_option linter.unusedVariables false
set_option linter.unusedSimpArgs false

/-! ### backstitchref3_valuesMay: function 114 -/
def backstitchref3_valuesMay.l0 : Nat → Int → List Int → Int → Int → Int → Int → Int → List (S181) → List (S31) → Int → Int → List (S38) → List (S63) → Int → Int → List (S38) → List (S63) → Option (Bool)
 | 0, _, _, _, _, _, _, _, _, _, _, _, _, _, _, _, _, _ => none
 | k + 1, x2, x9, x10, x11, x141000, x141001, x141002, x141003, x141004, x141005, x141006, x141007, x141008, x141009, x141010, x141011, x141012 => if x11 < x10 then (if 0 ≤ x11 then (if x11 < (x9.length : Int) then (if (rd x9 x11) < 0 then (some false) else (if (rd x9 x11) ≥ x2 then (some false) else (if 0 ≤ (rd x9 x11) then (if (rd x9 x11) < (x141003.length : Int) then ((backstitchref3_Tells.f k ((rd_T181 x141003 (rd x9 x11)).f0)).bind fun t143 => (if t143 = true then (backstitchref3_valuesMay.l0 k x2 x9 x10 (wrap64 (x11 + 1)) x141000 x141001 x141002 x141003 x141004 x141005 x141006 x141007 x141008 x141009 x141010 x141011 x141012) else (some false))) else (none)) else (none)))) else (none)) else (none)) else (some true)
def backstitchref3_valuesMay.f (k : Nat) (a0_0 : Int) (a0_1 : Int) (a0_2 : Int) (l0_3 : List (S181)) (l0_4 : List (S31)) (a0_5 : Int) (a0_6 : Int) (l0_7 : List (S38)) (l0_8 : List (S63)) (a0_9 : Int) (a0_10 : Int) (l0_11 : List (S38)) (l0_12 : List (S63)) (l1 : List Int) (a2 : Int) : Option (Bool) := backstitchref3_valuesMay.l0 k a2 l1 (l1.length : Int) 0 a0_0 a0_1 a0_2 l0_3 l0_4 a0_5 a0_6 l0_7 l0_8 a0_9 a0_10 l0_11 l0_12
theorem backstitchref3_valuesMay.mono_l : ∀ k, (∀ y0 y1 y2 y3 y4 y5 y6 y7 y8 y9 y10 y11 y12 y13 y14 y15 y16, LeO (backstitchref3_valuesMay.l0 k y0 y1 y2 y3 y4 y5 y6 y7 y8 y9 y10 y11 y12 y13 y14 y15 y16) (backstitchref3_valuesMay.l0 (k + 1) y0 y1 y2 y3 y4 y5 y6 y7 y8 y9 y10 y11 y12 y13 y14 y15 y16))
 | 0 => fun _ _ _ _ _ _ _ _ _ _ _ _ _ _ _ _ _ r h => by simp [backstitchref3_valuesMay.l0] at h
 | k + 1 => by
  have ih0 := backstitchref3_valuesMay.mono_l k
  ·intro y0 y1 y2 y3 y4 y5 y6 y7 y8 y9 y10 y11 y12 y13 y14 y15 y16
   unfold backstitchref3_valuesMay.l0
   repeat' first
   | (with_reducible exact ih0 _ _ _ _ _ _ _ _ _ _ _ _ _ _ _ _ _)
   | (with_reducible exact backstitchref3_Tells.mono _ _)
   | (with_reducible exact LeO.refl _)
   | (with_reducible exact LeO.none _)
   | (with_reducible refine LeO.ite ?_ ?_)
   | (with_reducible refine LeO.bind ?_ (fun _ => ?_))
   | exact ih0 _ _ _ _ _ _ _ _ _ _ _ _ _ _ _ _ _
   | exact backstitchref3_Tells.mono _ _
   | exact LeO.none _
   | refine LeO.ite ?_ ?_
   | refine LeO.bind ?_ (fun _ => ?_)
theorem backstitchref3_valuesMay.mono : ∀ a0 a1 a2 a3 a4 a5 a6 a7 a8 a9 a10 a11 a12 a13 a14 k, LeO (backstitchref3_valuesMay.f k a0 a1 a2 a3 a4 a5 a6 a7 a8 a9 a10 a11 a12 a13 a14) (backstitchref3_valuesMay.f (k + 1) a0 a1 a2 a3 a4 a5 a6 a7 a8 a9 a10 a11 a12 a13 a14) := by
 intro a0 a1 a2 a3 a4 a5 a6 a7 a8 a9 a10 a11 a12 a13 a14 k
 have ih0 := backstitchref3_valuesMay.mono_l k
 unfold backstitchref3_valuesMay.f
 repeat' first
   | (with_reducible exact ih0 _ _ _ _ _ _ _ _ _ _ _ _ _ _ _ _ _)
   | (with_reducible exact backstitchref3_Tells.mono _ _)
   | (with_reducible exact LeO.refl _)
   | (with_reducible exact LeO.none _)
   | (with_reducible refine LeO.ite ?_ ?_)
   | (with_reducible refine LeO.bind ?_ (fun _ => ?_))
   | exact ih0 _ _ _ _ _ _ _ _ _ _ _ _ _ _ _ _ _
   | exact backstitchref3_Tells.mono _ _
   | exact LeO.none _
   | refine LeO.ite ?_ ?_
   | refine LeO.bind ?_ (fun _ => ?_)
set_option maxHeartbeats 8000000 in
set_option maxRecDepth 100000 in
theorem backstitchref3_valuesMay.calls (k : Nat) (a0_0 : Int) (a0_1 : Int) (a0_2 : Int) (A0_3 : Option Addr) (c0_3 : Nat) (l0_3 : List (S181)) (A0_4 : Option Addr) (c0_4 : Nat) (l0_4 : List (S31)) (a0_5 : Int) (a0_6 : Int) (A0_7 : Option Addr) (c0_7 : Nat) (l0_7 : List (S38)) (A0_8 : Option Addr) (c0_8 : Nat) (l0_8 : List (S63)) (a0_9 : Int) (a0_10 : Int) (A0_11 : Option Addr) (c0_11 : Nat) (l0_11 : List (S38)) (A0_12 : Option Addr) (c0_12 : Nat) (l0_12 : List (S63)) (A1 : Option Addr) (c1 : Nat) (l1 : List Int) (a2 : Int) (r : Bool) (w : World) (hr0_3 : Kd.C k181 w A0_3 l0_3.length l0_3) (hc0_3 : l0_3.length ≤ c0_3) (hr0_4 : Kd.C k31 w A0_4 l0_4.length l0_4) (hc0_4 : l0_4.length ≤ c0_4) (hr0_7 : Kd.C k38 w A0_7 l0_7.length l0_7) (hc0_7 : l0_7.length ≤ c0_7) (hr0_8 : Kd.C k63 w A0_8 l0_8.length l0_8) (hc0_8 : l0_8.length ≤ c0_8) (hr0_11 : Kd.C k38 w A0_11 l0_11.length l0_11) (hc0_11 : l0_11.length ≤ c0_11) (hr0_12 : Kd.C k63 w A0_12 l0_12.length l0_12) (hc0_12 : l0_12.length ≤ c0_12) (hr1 : Kd.C (Kd.int .i64) w A1 l1.length l1) (hc1 : l1.length ≤ c1) (h : backstitchref3_valuesMay.f k a0_0 a0_1 a0_2 l0_3 l0_4 a0_5 a0_6 l0_7 l0_8 a0_9 a0_10 l0_11 l0_12 l1 a2 = some r) :
  Calls Try.prog 114 #[.agg #[.int .i64 a0_0, .int .i64 a0_1, .int .i64 a0_2, .slice A0_3 l0_3.length c0_3, .slice A0_4 l0_4.length c0_4, .int .i64 a0_5, .int .i64 a0_6, .slice A0_7 l0_7.length c0_7, .slice A0_8 l0_8.length c0_8, .int .i64 a0_9, .int .i64 a0_10, .slice A0_11 l0_11.length c0_11, .slice A0_12 l0_12.length c0_12], .slice A1 l1.length c1, .int .i64 a2] w fun e w' => e = .returned (.bool r) ∧ Below w.heap.size w w' := by
 have hu123 := Try.underlying123
 have HR0_3 := Aside0.mk hr0_3
 have HC0_3 := Aside0.mk hc0_3
 clear hr0_3 hc0_3
 have HR0_4 := Aside0.mk hr0_4
 have HC0_4 := Aside0.mk hc0_4
 clear hr0_4 hc0_4
 have HR0_7 := Aside0.mk hr0_7
 have HC0_7 := Aside0.mk hc0_7
 clear hr0_7 hc0_7
 have HR0_8 := Aside0.mk hr0_8
 have HC0_8 := Aside0.mk hc0_8
 clear hr0_8 hc0_8
 have HR0_11 := Aside0.mk hr0_11
 have HC0_11 := Aside0.mk hc0_11
 clear hr0_11 hc0_11
 have HR0_12 := Aside0.mk hr0_12
 have HC0_12 := Aside0.mk hc0_12
 clear hr0_12 hc0_12
 have HR1 := Aside0.mk hr1
 have HC1 := Aside0.mk hc1
 clear hr1 hc1
 have HB := Aside0.mk (Below.refl w.heap.size w)
 have H : (backstitchref3_valuesMay.l0 k a2 l1 (l1.length : Int) 0 a0_0 a0_1 a0_2 l0_3 l0_4 a0_5 a0_6 l0_7 l0_8 a0_9 a0_10 l0_11 l0_12) = some r := h
 clear h
 have H' := Aside0.mk H
 clear H
 go_enter Try.func114, Try.ntmps114
 go_wp2_with (first | ((with_reducible refine bN (N := 3) rfl ?_); refine bO ?hg (N := 3) ?hd (cs := #[.int .i64 a0_0, .int .i64 a0_1, .int .i64 a0_2, .slice A0_3 l0_3.length c0_3, .slice A0_4 l0_4.length c0_4, .int .i64 a0_5, .int .i64 a0_6, .slice A0_7 l0_7.length c0_7, .slice A0_8 l0_8.length c0_8, .int .i64 a0_9, .int .i64 a0_10, .slice A0_11 l0_11.length c0_11, .slice A0_12 l0_12.length c0_12]) (t := 123) ?hr ?_; (case hd => rfl); (case hg => rfl); (case hr => first | (go_simp; done) | (go_simp; rfl)); intro gb140 hg w4 hbox hb; have n0_ := Aside0.mk (bK (by repeat (first | (with_reducible first | exact HB.out | apply bE | apply bB | apply bD) | exact HB.out)) hb); have n1_ := Aside0.mk (hbox); have n2_ := Aside0.mk ((by rw [hg]; exact (bL (by repeat (first | (with_reducible first | exact HB.out | apply bE | apply bB | apply bD) | exact HB.out))) : w.heap.size ≤ gb140)); have n3_ := Aside0.mk ((by rw [hg]; exact (bL (by repeat (first | (with_reducible first | exact HB.out | apply bE | apply bB | apply bD) | exact HB.out))) : w.heap.size ≤ gb140)); clear HB; have HB := n0_; have BK140 := n1_; have GW140 := n2_; have GE140 := n3_; clear n0_ n1_ n2_ n3_; clear hb hbox hg))
 go_loopg [11] k (fun kq v11 w' => ∃ (x11_1 : Int), v11 = .int .i64 x11_1 ∧ Aside0 (backstitchref3_valuesMay.l0 kq a2 l1 (l1.length : Int) x11_1 a0_0 a0_1 a0_2 l0_3 l0_4 a0_5 a0_6 l0_7 l0_8 a0_9 a0_10 l0_11 l0_12 = some r) ∧ Aside0 (kq ≤ k) ∧ Aside0 (w'.heap[gb140]? = some (.cells #[.int .i64 a0_0, .int .i64 a0_1, .int .i64 a0_2, (.slice A0_3 l0_3.length c0_3), (.slice A0_4 l0_4.length c0_4), .int .i64 a0_5, .int .i64 a0_6, (.slice A0_7 l0_7.length c0_7), (.slice A0_8 l0_8.length c0_8), .int .i64 a0_9, .int .i64 a0_10, (.slice A0_11 l0_11.length c0_11), (.slice A0_12 l0_12.length c0_12)] 123 (0, 0))) ∧ Aside0 (Below w.heap.size w w'))
 case atStart => exact ⟨(0), (by first | rfl | (simp; done) | (simp [*]; done)), H', ⟨Nat.le_refl _⟩, ⟨by (with_reducible repeat (first | refine bH ?_ _ | refine bJ ?_ | refine bI ?_ _)); exact BK140.out⟩, ⟨by repeat (first | (with_reducible first | exact HB.out | apply bE | apply bB | apply bD | refine bG ?_ GE140.out) | exact HB.out)⟩⟩
 case round =>
  clear H'
  try clear c1
  try clear p2
  obtain ⟨x11_1, rfl, HA, HK1, BK140, HB⟩ := hrel
  cases gk with
  | zero => exact absurd HA.out (by simp [backstitchref3_valuesMay.l0])
  | succ k1 =>
   have H := HA.out
   clear HA
   simp only [backstitchref3_valuesMay.l0] at H
   by_cases c5 : x11_1 < (l1.length : Int)
   rotate_left
   ·rw [if_neg c5] at H
    have c5b0 : decide (x11_1 < (l1.length : Int)) = false := decide_eq_false c5
    clear c5
    obtain rfl := Option.some.inj H
    go_wp2
    go_ret
    exact ⟨by first | rfl | (simp <;> rfl) | (simp [*] <;> rfl), by repeat (first | (with_reducible first | exact HB.out | apply bE | apply bB | apply bD | refine bG ?_ GE140.out) | exact HB.out)⟩
   rw [if_pos c5] at H
   have c5b0 : decide (x11_1 < (l1.length : Int)) = true := decide_eq_true c5
   clear c5
   by_cases c6 : 0 ≤ x11_1
   rotate_left
   ·rw [if_neg c6] at H
    exact absurd H (by simp)
   rw [if_pos c6] at H
   have c6b0 : decide (0 ≤ x11_1) = true := decide_eq_true c6
   clear c6
   by_cases c7 : x11_1 < (l1.length : Int)
   rotate_left
   ·rw [if_neg c7] at H
    exact absurd H (by simp)
   rw [if_pos c7] at H
   have c7b0 : decide (x11_1 < (l1.length : Int)) = true := decide_eq_true c7
   clear c7
   by_cases c8 : (rd l1 x11_1) < 0
   ·rw [if_pos c8] at H
    have c8b0 : decide ((rd l1 x11_1) < 0) = true := decide_eq_true c8
    clear c8
    obtain rfl := Option.some.inj H
    have p141 : 0 ≤ (x11_1 : Int) := of_decide_eq_true (by first | (with_reducible assumption) | assumption)
    have q141 : x11_1 < (l1.length : Int) := of_decide_eq_true (by first | (with_reducible assumption) | assumption)
    obtain ⟨ad141, e141, hx141_0⟩ := Kd.at_int HR1.out x11_1 p141 q141
    cases e141
    try replace hx141_0 := (HB.out.cell (World.block_lt_of_cell? w _ hx141_0)).trans hx141_0
    replace p141 := eq_true p141
    replace q141 := eq_true q141
    go_wp2
    go_ret
    exact ⟨by first | rfl | (simp <;> rfl) | (simp [*] <;> rfl), by repeat (first | (with_reducible first | exact HB.out | apply bE | apply bB | apply bD | refine bG ?_ GE140.out) | exact HB.out)⟩
   rw [if_neg c8] at H
   have c8b0 : decide ((rd l1 x11_1) < 0) = false := decide_eq_false c8
   clear c8
   by_cases c9 : (rd l1 x11_1) ≥ a2
   ·rw [if_pos c9] at H
    have c9b0 : decide (a2 ≤ (rd l1 x11_1)) = true := decide_eq_true c9
    clear c9
    obtain rfl := Option.some.inj H
    have p141 : 0 ≤ (x11_1 : Int) := of_decide_eq_true (by first | (with_reducible assumption) | assumption)
    have q141 : x11_1 < (l1.length : Int) := of_decide_eq_true (by first | (with_reducible assumption) | assumption)
    obtain ⟨ad141, e141, hx141_0⟩ := Kd.at_int HR1.out x11_1 p141 q141
    cases e141
    try replace hx141_0 := (HB.out.cell (World.block_lt_of_cell? w _ hx141_0)).trans hx141_0
    replace p141 := eq_true p141
    replace q141 := eq_true q141
    go_wp2
    go_ret
    exact ⟨by first | rfl | (simp <;> rfl) | (simp [*] <;> rfl), by repeat (first | (with_reducible first | exact HB.out | apply bE | apply bB | apply bD | refine bG ?_ GE140.out) | exact HB.out)⟩
   rw [if_neg c9] at H
   have c9b0 : decide (a2 ≤ (rd l1 x11_1)) = false := decide_eq_false c9
   clear c9
   by_cases c10 : 0 ≤ (rd l1 x11_1)
   rotate_left
   ·rw [if_neg c10] at H
    exact absurd H (by simp)
   rw [if_pos c10] at H
   have c10b0 : decide (0 ≤ (rd l1 x11_1)) = true := decide_eq_true c10
   clear c10
   by_cases c11 : (rd l1 x11_1) < (l0_3.length : Int)
   rotate_left
   ·rw [if_neg c11] at H
    exact absurd H (by simp)
   rw [if_pos c11] at H
   have c11b0 : decide ((rd l1 x11_1) < (l0_3.length : Int)) = true := decide_eq_true c11
   clear c11
   replace H := Option.bind_eq_some_iff.mp H
   obtain ⟨t143, A120, H⟩ := H
   replace H : (if t143 = true then (backstitchref3_valuesMay.l0 k1 a2 l1 (l1.length : Int) (wrap64 (x11_1 + 1)) a0_0 a0_1 a0_2 l0_3 l0_4 a0_5 a0_6 l0_7 l0_8 a0_9 a0_10 l0_11 l0_12) else (some false)) = some r := H
   have A12 := Aside0.mk A120
   clear A120
   by_cases c13 : t143 = true
   rotate_left
   ·replace c13 := Bool.eq_false_iff.mpr c13
    subst c13
    have H1 : (some false) = some r := by rw [if_neg (show ¬ (false = true) by decide)] at H; exact H
    clear H
    have H := H1
    clear H1
    obtain rfl := Option.some.inj H
    have p141 : 0 ≤ (x11_1 : Int) := of_decide_eq_true (by first | (with_reducible assumption) | assumption)
    have q141 : x11_1 < (l1.length : Int) := of_decide_eq_true (by first | (with_reducible assumption) | assumption)
    obtain ⟨ad141, e141, hx141_0⟩ := Kd.at_int HR1.out x11_1 p141 q141
    cases e141
    try replace hx141_0 := (HB.out.cell (World.block_lt_of_cell? w _ hx141_0)).trans hx141_0
    replace p141 := eq_true p141
    replace q141 := eq_true q141
    have hcz16_0 : wr.cell? ⟨gb140, 0, none⟩ = some (.int .i64 a0_0) := (bC BK140.out 0).trans rfl
    have hcz16_1 : wr.cell? ⟨gb140, 1, none⟩ = some (.int .i64 a0_1) := (bC BK140.out 1).trans rfl
    have hcz16_2 : wr.cell? ⟨gb140, 2, none⟩ = some (.int .i64 a0_2) := (bC BK140.out 2).trans rfl
    have hcz16_3 : wr.cell? ⟨gb140, 3, none⟩ = some (.slice A0_3 l0_3.length c0_3) := (bC BK140.out 3).trans rfl
    have hcz16_4 : wr.cell? ⟨gb140, 4, none⟩ = some (.slice A0_4 l0_4.length c0_4) := (bC BK140.out 4).trans rfl
    have hcz16_5 : wr.cell? ⟨gb140, 5, none⟩ = some (.int .i64 a0_5) := (bC BK140.out 5).trans rfl
    have hcz16_6 : wr.cell? ⟨gb140, 6, none⟩ = some (.int .i64 a0_6) := (bC BK140.out 6).trans rfl
    have hcz16_7 : wr.cell? ⟨gb140, 7, none⟩ = some (.slice A0_7 l0_7.length c0_7) := (bC BK140.out 7).trans rfl
    have hcz16_8 : wr.cell? ⟨gb140, 8, none⟩ = some (.slice A0_8 l0_8.length c0_8) := (bC BK140.out 8).trans rfl
    have hcz16_9 : wr.cell? ⟨gb140, 9, none⟩ = some (.int .i64 a0_9) := (bC BK140.out 9).trans rfl
    have hcz16_10 : wr.cell? ⟨gb140, 10, none⟩ = some (.int .i64 a0_10) := (bC BK140.out 10).trans rfl
    have hcz16_11 : wr.cell? ⟨gb140, 11, none⟩ = some (.slice A0_11 l0_11.length c0_11) := (bC BK140.out 11).trans rfl
    have hcz16_12 : wr.cell? ⟨gb140, 12, none⟩ = some (.slice A0_12 l0_12.length c0_12) := (bC BK140.out 12).trans rfl
    have hfz16_0 := bA BK140.out 0
    have hfz16_1 := bA BK140.out 1
    have hfz16_2 := bA BK140.out 2
    have hfz16_3 := bA BK140.out 3
    have hfz16_4 := bA BK140.out 4
    have hfz16_5 := bA BK140.out 5
    have hfz16_6 := bA BK140.out 6
    have hfz16_7 := bA BK140.out 7
    have hfz16_8 := bA BK140.out 8
    have hfz16_9 := bA BK140.out 9
    have hfz16_10 := bA BK140.out 10
    have hfz16_11 := bA BK140.out 11
    have hfz16_12 := bA BK140.out 12
    have p142 : 0 ≤ ((rd l1 x11_1) : Int) := of_decide_eq_true (by first | (with_reducible assumption) | assumption)
    have q142 : (rd l1 x11_1) < (l0_3.length : Int) := of_decide_eq_true (by first | (with_reducible assumption) | assumption)
    obtain ⟨ad142, e142, hx142_0, hx142_1, hx142_2, hx142_3, hx142_4, hx142_5, hx142_6, hx142_7⟩ := at_T181 HR0_3.out (rd l1 x11_1) p142 q142
    cases e142
    try replace hx142_0 := (HB.out.cell (World.block_lt_of_cell? w _ hx142_0)).trans hx142_0
    try replace hx142_1 := (HB.out.cell (World.block_lt_of_cell? w _ hx142_1)).trans hx142_1
    try replace hx142_2 := (HB.out.cell (World.block_lt_of_cell? w _ hx142_2)).trans hx142_2
    try replace hx142_3 := (HB.out.cell (World.block_lt_of_cell? w _ hx142_3)).trans hx142_3
    try replace hx142_4 := (HB.out.cell (World.block_lt_of_cell? w _ hx142_4)).trans hx142_4
    try replace hx142_5 := (HB.out.cell (World.block_lt_of_cell? w _ hx142_5)).trans hx142_5
    try replace hx142_6 := (HB.out.cell (World.block_lt_of_cell? w _ hx142_6)).trans hx142_6
    try replace hx142_7 := (HB.out.cell (World.block_lt_of_cell? w _ hx142_7)).trans hx142_7
    replace p142 := eq_true p142
    replace q142 := eq_true q142
    go_wp2_with (first | (go_at_call 151; (with_reducible refine (backstitchref3_Tells.calls k1 ((rd_T181 l0_3 (rd l1 x11_1)).f0) false _ A12.out).mono ?_); rintro e w17 ⟨rfl, hb⟩; have n0_ := Aside0.mk (bM (g := gb140) (o := .cells #[.int .i64 a0_0, .int .i64 a0_1, .int .i64 a0_2, .slice (some ad142) l0_3.length c0_3, .slice A0_4 l0_4.length c0_4, .int .i64 a0_5, .int .i64 a0_6, .slice A0_7 l0_7.length c0_7, .slice A0_8 l0_8.length c0_8, .int .i64 a0_9, .int .i64 a0_10, .slice A0_11 l0_11.length c0_11, .slice A0_12 l0_12.length c0_12] 123 (0, 0)) (by (with_reducible repeat (first | refine bH ?_ _ | refine bJ ?_ | refine bI ?_ _)); exact BK140.out) hb); have n1_ := Aside0.mk (bK (by repeat (first | (with_reducible first | exact HB.out | apply bE | apply bB | apply bD | refine bG ?_ GE140.out) | exact HB.out)) hb); clear BK140; clear HB; have BK140 := n0_; have HB := n1_; clear n0_ n1_; (try clear hb); (try clear hb2); (try clear hk); (try clear hi)))
    go_ret
    exact ⟨by first | rfl | (simp <;> rfl) | (simp [*] <;> rfl), by repeat (first | (with_reducible first | exact HB.out | apply bE | apply bB | apply bD | refine bG ?_ GE140.out) | exact HB.out)⟩
   subst c13
   have H1 : (backstitchref3_valuesMay.l0 k1 a2 l1 (l1.length : Int) (wrap64 (x11_1 + 1)) a0_0 a0_1 a0_2 l0_3 l0_4 a0_5 a0_6 l0_7 l0_8 a0_9 a0_10 l0_11 l0_12) = some r := by rw [if_pos rfl] at H; exact H
   clear H
   have H := H1
   clear H1
   have H' := Aside0.mk H
   clear H
   have p141 : 0 ≤ (x11_1 : Int) := of_decide_eq_true (by first | (with_reducible assumption) | assumption)
   have q141 : x11_1 < (l1.length : Int) := of_decide_eq_true (by first | (with_reducible assumption) | assumption)
   obtain ⟨ad141, e141, hx141_0⟩ := Kd.at_int HR1.out x11_1 p141 q141
   cases e141
   try replace hx141_0 := (HB.out.cell (World.block_lt_of_cell? w _ hx141_0)).trans hx141_0
   replace p141 := eq_true p141
   replace q141 := eq_true q141
   have hcz14_0 : wr.cell? ⟨gb140, 0, none⟩ = some (.int .i64 a0_0) := (bC BK140.out 0).trans rfl
   have hcz14_1 : wr.cell? ⟨gb140, 1, none⟩ = some (.int .i64 a0_1) := (bC BK140.out 1).trans rfl
   have hcz14_2 : wr.cell? ⟨gb140, 2, none⟩ = some (.int .i64 a0_2) := (bC BK140.out 2).trans rfl
   have hcz14_3 : wr.cell? ⟨gb140, 3, none⟩ = some (.slice A0_3 l0_3.length c0_3) := (bC BK140.out 3).trans rfl
   have hcz14_4 : wr.cell? ⟨gb140, 4, none⟩ = some (.slice A0_4 l0_4.length c0_4) := (bC BK140.out 4).trans rfl
   have hcz14_5 : wr.cell? ⟨gb140, 5, none⟩ = some (.int .i64 a0_5) := (bC BK140.out 5).trans rfl
   have hcz14_6 : wr.cell? ⟨gb140, 6, none⟩ = some (.int .i64 a0_6) := (bC BK140.out 6).trans rfl
   have hcz14_7 : wr.cell? ⟨gb140, 7, none⟩ = some (.slice A0_7 l0_7.length c0_7) := (bC BK140.out 7).trans rfl
   have hcz14_8 : wr.cell? ⟨gb140, 8, none⟩ = some (.slice A0_8 l0_8.length c0_8) := (bC BK140.out 8).trans rfl
   have hcz14_9 : wr.cell? ⟨gb140, 9, none⟩ = some (.int .i64 a0_9) := (bC BK140.out 9).trans rfl
   have hcz14_10 : wr.cell? ⟨gb140, 10, none⟩ = some (.int .i64 a0_10) := (bC BK140.out 10).trans rfl
   have hcz14_11 : wr.cell? ⟨gb140, 11, none⟩ = some (.slice A0_11 l0_11.length c0_11) := (bC BK140.out 11).trans rfl
   have hcz14_12 : wr.cell? ⟨gb140, 12, none⟩ = some (.slice A0_12 l0_12.length c0_12) := (bC BK140.out 12).trans rfl
   have hfz14_0 := bA BK140.out 0
   have hfz14_1 := bA BK140.out 1
   have hfz14_2 := bA BK140.out 2
   have hfz14_3 := bA BK140.out 3
   have hfz14_4 := bA BK140.out 4
   have hfz14_5 := bA BK140.out 5
   have hfz14_6 := bA BK140.out 6
   have hfz14_7 := bA BK140.out 7
   have hfz14_8 := bA BK140.out 8
   have hfz14_9 := bA BK140.out 9
   have hfz14_10 := bA BK140.out 10
   have hfz14_11 := bA BK140.out 11
   have hfz14_12 := bA BK140.out 12
   have p142 : 0 ≤ ((rd l1 x11_1) : Int) := of_decide_eq_true (by first | (with_reducible assumption) | assumption)
   have q142 : (rd l1 x11_1) < (l0_3.length : Int) := of_decide_eq_true (by first | (with_reducible assumption) | assumption)
   obtain ⟨ad142, e142, hx142_0, hx142_1, hx142_2, hx142_3, hx142_4, hx142_5, hx142_6, hx142_7⟩ := at_T181 HR0_3.out (rd l1 x11_1) p142 q142
   cases e142
   try replace hx142_0 := (HB.out.cell (World.block_lt_of_cell? w _ hx142_0)).trans hx142_0
   try replace hx142_1 := (HB.out.cell (World.block_lt_of_cell? w _ hx142_1)).trans hx142_1
   try replace hx142_2 := (HB.out.cell (World.block_lt_of_cell? w _ hx142_2)).trans hx142_2
   try replace hx142_3 := (HB.out.cell (World.block_lt_of_cell? w _ hx142_3)).trans hx142_3
   try replace hx142_4 := (HB.out.cell (World.block_lt_of_cell? w _ hx142_4)).trans hx142_4
   try replace hx142_5 := (HB.out.cell (World.block_lt_of_cell? w _ hx142_5)).trans hx142_5
   try replace hx142_6 := (HB.out.cell (World.block_lt_of_cell? w _ hx142_6)).trans hx142_6
   try replace hx142_7 := (HB.out.cell (World.block_lt_of_cell? w _ hx142_7)).trans hx142_7
   replace p142 := eq_true p142
   replace q142 := eq_true q142
   go_wp2_with (first | (go_at_call 151; (with_reducible refine (backstitchref3_Tells.calls k1 ((rd_T181 l0_3 (rd l1 x11_1)).f0) true _ A12.out).mono ?_); rintro e w15 ⟨rfl, hb⟩; have n0_ := Aside0.mk (bM (g := gb140) (o := .cells #[.int .i64 a0_0, .int .i64 a0_1, .int .i64 a0_2, .slice (some ad142) l0_3.length c0_3, .slice A0_4 l0_4.length c0_4, .int .i64 a0_5, .int .i64 a0_6, .slice A0_7 l0_7.length c0_7, .slice A0_8 l0_8.length c0_8, .int .i64 a0_9, .int .i64 a0_10, .slice A0_11 l0_11.length c0_11, .slice A0_12 l0_12.length c0_12] 123 (0, 0)) (by (with_reducible repeat (first | refine bH ?_ _ | refine bJ ?_ | refine bI ?_ _)); exact BK140.out) hb); have n1_ := Aside0.mk (bK (by repeat (first | (with_reducible first | exact HB.out | apply bE | apply bB | apply bD | refine bG ?_ GE140.out) | exact HB.out)) hb); clear BK140; clear HB; have BK140 := n0_; have HB := n1_; clear n0_ n1_; (try clear hb); (try clear hb2); (try clear hk); (try clear hi)))
   go_roundg k1
   case measure => have := HK1.out; omega
   case rel => exact ⟨(wrap64 (x11_1 + 1)), (by first | rfl | (simp; done) | (simp [*]; done)), H', ⟨by have := HK1.out; omega⟩, ⟨by (with_reducible repeat (first | refine bH ?_ _ | refine bJ ?_ | refine bI ?_ _)); exact BK140.out⟩, ⟨by repeat (first | (with_reducible first | exact HB.out | apply bE | apply bB | apply bD | refine bG ?_ GE140.out) | exact HB.out)⟩⟩

/-! ### backstitchref3_Asks: function 115 -/
mutual
def backstitchref3_Asks.j0 : Nat → Int → Bool → Int → Int → Int → Int → Int → Int → Int → Int → Option (List Int)
 | 0, _, _, _, _, _, _, _, _, _, _ => none
 | k + 1, x4, x5, x145000, x145001, x145002, x145003, x145004, x145005, x145006, x145007 => if x5 = true then (some (([x145001] : List Int))) else (if x4 = 7 then (backstitchref3_Asks.j1 k x4 (x4 == 7) x145000 x145001 x145002 x145003 x145004 x145005 x145006 x145007) else (if x4 = 11 then (backstitchref3_Asks.j1 k x4 (x4 == 11) x145000 x145001 x145002 x145003 x145004 x145005 x145006 x145007) else (if x4 = 12 then (backstitchref3_Asks.j1 k x4 (x4 == 12) x145000 x145001 x145002 x145003 x145004 x145005 x145006 x145007) else (if x4 = 13 then (backstitchref3_Asks.j1 k x4 (x4 == 13) x145000 x145001 x145002 x145003 x145004 x145005 x145006 x145007) else (backstitchref3_Asks.j1 k x4 (x4 == 17) x145000 x145001 x145002 x145003 x145004 x145005 x145006 x145007)))))
def backstitchref3_Asks.j1 : Nat → Int → Bool → Int → Int → Int → Int → Int → Int → Int → Int → Option (List Int)
 | 0, _, _, _, _, _, _, _, _, _, _ => none
 | k + 1, x4, x16, x145000, x145001, x145002, x145003, x145004, x145005, x145006, x145007 => if x16 = true then (some (([x145001, x145002] : List Int))) else (if x4 = 14 then (some (([x145001, x145002, x145003] : List Int))) else (some ([] : List Int)))
end
def backstitchref3_Asks.f (k : Nat) (a0_0 : Int) (a0_1 : Int) (a0_2 : Int) (a0_3 : Int) (a0_4 : Int) (a0_5 : Int) (a0_6 : Int) (a0_7 : Int) : Option (List Int) := if a0_0 = 4 then (backstitchref3_Asks.j0 k a0_0 (a0_0 == 4) a0_0 a0_1 a0_2 a0_3 a0_4 a0_5 a0_6 a0_7) else (if a0_0 = 5 then (backstitchref3_Asks.j0 k a0_0 (a0_0 == 5) a0_0 a0_1 a0_2 a0_3 a0_4 a0_5 a0_6 a0_7) else (if a0_0 = 6 then (backstitchref3_Asks.j0 k a0_0 (a0_0 == 6) a0_0 a0_1 a0_2 a0_3 a0_4 a0_5 a0_6 a0_7) else (if a0_0 = 8 then (backstitchref3_Asks.j0 k a0_0 (a0_0 == 8) a0_0 a0_1 a0_2 a0_3 a0_4 a0_5 a0_6 a0_7) else (if a0_0 = 9 then (backstitchref3_Asks.j0 k a0_0 (a0_0 == 9) a0_0 a0_1 a0_2 a0_3 a0_4 a0_5 a0_6 a0_7) else (if a0_0 = 10 then (backstitchref3_Asks.j0 k a0_0 (a0_0 == 10) a0_0 a0_1 a0_2 a0_3 a0_4 a0_5 a0_6 a0_7) else (backstitchref3_Asks.j0 k a0_0 (a0_0 == 15) a0_0 a0_1 a0_2 a0_3 a0_4 a0_5 a0_6 a0_7))))))
theorem backstitchref3_Asks.mono_l : ∀ k, (∀ y0 y1 y2 y3 y4 y5 y6 y7 y8 y9, LeO (backstitchref3_Asks.j0 k y0 y1 y2 y3 y4 y5 y6 y7 y8 y9) (backstitchref3_Asks.j0 (k + 1) y0 y1 y2 y3 y4 y5 y6 y7 y8 y9)) ∧ (∀ y0 y1 y2 y3 y4 y5 y6 y7 y8 y9, LeO (backstitchref3_Asks.j1 k y0 y1 y2 y3 y4 y5 y6 y7 y8 y9) (backstitchref3_Asks.j1 (k + 1) y0 y1 y2 y3 y4 y5 y6 y7 y8 y9))
 | 0 => ⟨fun _ _ _ _ _ _ _ _ _ _ r h => by simp [backstitchref3_Asks.j0] at h, fun _ _ _ _ _ _ _ _ _ _ r h => by simp [backstitchref3_Asks.j1] at h⟩
 | k + 1 => by
  obtain ⟨ih0, ih1⟩ := backstitchref3_Asks.mono_l k
  refine ⟨?_, ?_⟩
  ·intro y0 y1 y2 y3 y4 y5 y6 y7 y8 y9
   unfold backstitchref3_Asks.j0
   repeat' first
   | (with_reducible exact ih0 _ _ _ _ _ _ _ _ _ _)
   | (with_reducible exact ih1 _ _ _ _ _ _ _ _ _ _)
   | (with_reducible exact LeO.refl _)
   | (with_reducible exact LeO.none _)
   | (with_reducible refine LeO.ite ?_ ?_)
   | (with_reducible refine LeO.bind ?_ (fun _ => ?_))
   | exact ih0 _ _ _ _ _ _ _ _ _ _
   | exact ih1 _ _ _ _ _ _ _ _ _ _
   | exact LeO.none _
   | refine LeO.ite ?_ ?_
   | refine LeO.bind ?_ (fun _ => ?_)
  ·intro y0 y1 y2 y3 y4 y5 y6 y7 y8 y9
   unfold backstitchref3_Asks.j1
   repeat' first
   | (with_reducible exact ih0 _ _ _ _ _ _ _ _ _ _)
   | (with_reducible exact ih1 _ _ _ _ _ _ _ _ _ _)
   | (with_reducible exact LeO.refl _)
   | (with_reducible exact LeO.none _)
   | (with_reducible refine LeO.ite ?_ ?_)
   | (with_reducible refine LeO.bind ?_ (fun _ => ?_))
   | exact ih0 _ _ _ _ _ _ _ _ _ _
   | exact ih1 _ _ _ _ _ _ _ _ _ _
   | exact LeO.none _
   | refine LeO.ite ?_ ?_
   | refine LeO.bind ?_ (fun _ => ?_)
theorem backstitchref3_Asks.mono : ∀ a0 a1 a2 a3 a4 a5 a6 a7 k, LeO (backstitchref3_Asks.f k a0 a1 a2 a3 a4 a5 a6 a7) (backstitchref3_Asks.f (k + 1) a0 a1 a2 a3 a4 a5 a6 a7) := by
 intro a0 a1 a2 a3 a4 a5 a6 a7 k
 obtain ⟨ih0, ih1⟩ := backstitchref3_Asks.mono_l k
 unfold backstitchref3_Asks.f
 repeat' first
   | (with_reducible exact ih0 _ _ _ _ _ _ _ _ _ _)
   | (with_reducible exact ih1 _ _ _ _ _ _ _ _ _ _)
   | (with_reducible exact LeO.refl _)
   | (with_reducible exact LeO.none _)
   | (with_reducible refine LeO.ite ?_ ?_)
   | (with_reducible refine LeO.bind ?_ (fun _ => ?_))
   | exact ih0 _ _ _ _ _ _ _ _ _ _
   | exact ih1 _ _ _ _ _ _ _ _ _ _
   | exact LeO.none _
   | refine LeO.ite ?_ ?_
   | refine LeO.bind ?_ (fun _ => ?_)
set_option maxHeartbeats 8000000 in
set_option maxRecDepth 100000 in
theorem backstitchref3_Asks.calls (k : Nat) (a0_0 : Int) (a0_1 : Int) (a0_2 : Int) (a0_3 : Int) (a0_4 : Int) (a0_5 : Int) (a0_6 : Int) (a0_7 : Int) (r : List Int) (w : World) (h : backstitchref3_Asks.f k a0_0 a0_1 a0_2 a0_3 a0_4 a0_5 a0_6 a0_7 = some r) :
  Calls Try.prog 115 #[.agg #[.int .i64 a0_0, .int .i64 a0_1, .int .i64 a0_2, .int .i64 a0_3, .int .i64 a0_4, .int .i64 a0_5, .int .i64 a0_6, .int .i64 a0_7]] w fun e w' => ∃ v0_ : Value, e = .returned (v0_) ∧ Kd.R (Kd.int .i64) 3 w' w.heap.size (fun _ => True) v0_ r ∧ Below w.heap.size w w' := by
 have hu181 := Try.underlying181
 have HB := Aside0.mk (Below.refl w.heap.size w)
 have H : (if a0_0 = 4 then (backstitchref3_Asks.j0 k a0_0 (a0_0 == 4) a0_0 a0_1 a0_2 a0_3 a0_4 a0_5 a0_6 a0_7) else (if a0_0 = 5 then (backstitchref3_Asks.j0 k a0_0 (a0_0 == 5) a0_0 a0_1 a0_2 a0_3 a0_4 a0_5 a0_6 a0_7) else (if a0_0 = 6 then (backstitchref3_Asks.j0 k a0_0 (a0_0 == 6) a0_0 a0_1 a0_2 a0_3 a0_4 a0_5 a0_6 a0_7) else (if a0_0 = 8 then (backstitchref3_Asks.j0 k a0_0 (a0_0 == 8) a0_0 a0_1 a0_2 a0_3 a0_4 a0_5 a0_6 a0_7) else (if a0_0 = 9 then (backstitchref3_Asks.j0 k a0_0 (a0_0 == 9) a0_0 a0_1 a0_2 a0_3 a0_4 a0_5 a0_6 a0_7) else (if a0_0 = 10 then (backstitchref3_Asks.j0 k a0_0 (a0_0 == 10) a0_0 a0_1 a0_2 a0_3 a0_4 a0_5 a0_6 a0_7) else (backstitchref3_Asks.j0 k a0_0 (a0_0 == 15) a0_0 a0_1 a0_2 a0_3 a0_4 a0_5 a0_6 a0_7))))))) = some r := h
 clear h
 have HC2 := Aside0.mk H
 clear H
 go_enter Try.func115, Try.ntmps115
 go_upto_if 5 with (first | ((with_reducible refine bN (N := 1) rfl ?_); refine bO ?hg (N := 1) ?hd (cs := #[.int .i64 a0_0, .int .i64 a0_1, .int .i64 a0_2, .int .i64 a0_3, .int .i64 a0_4, .int .i64 a0_5, .int .i64 a0_6, .int .i64 a0_7]) (t := 181) ?hr ?_; (case hd => rfl); (case hg => rfl); (case hr => first | (go_simp; done) | (go_simp; rfl)); intro gb144 hg w3 hbox hb; have n0_ := Aside0.mk (bK (by repeat (first | (with_reducible first | exact HB.out | apply bE | apply bB | apply bD) | exact HB.out)) hb); have n1_ := Aside0.mk (hbox); have n2_ := Aside0.mk ((by rw [hg]; exact (bL (by repeat (first | (with_reducible first | exact HB.out | apply bE | apply bB | apply bD) | exact HB.out))) : w.heap.size ≤ gb144)); have n3_ := Aside0.mk ((by rw [hg]; exact (bL (by repeat (first | (with_reducible first | exact HB.out | apply bE | apply bB | apply bD) | exact HB.out))) : w.heap.size ≤ gb144)); clear HB; have HB := n0_; have BK144 := n1_; have GW144 := n2_; have GE144 := n3_; clear n0_ n1_ n2_ n3_; clear hb hbox hg; have hcz4_0 : w3.cell? ⟨gb144, 0, none⟩ = some (.int .i64 a0_0) := (bC BK144.out 0).trans rfl; have hcz4_1 : w3.cell? ⟨gb144, 1, none⟩ = some (.int .i64 a0_1) := (bC BK144.out 1).trans rfl; have hcz4_2 : w3.cell? ⟨gb144, 2, none⟩ = some (.int .i64 a0_2) := (bC BK144.out 2).trans rfl; have hcz4_3 : w3.cell? ⟨gb144, 3, none⟩ = some (.int .i64 a0_3) := (bC BK144.out 3).trans rfl; have hcz4_4 : w3.cell? ⟨gb144, 4, none⟩ = some (.int .i64 a0_4) := (bC BK144.out 4).trans rfl; have hcz4_5 : w3.cell? ⟨gb144, 5, none⟩ = some (.int .i64 a0_5) := (bC BK144.out 5).trans rfl; have hcz4_6 : w3.cell? ⟨gb144, 6, none⟩ = some (.int .i64 a0_6) := (bC BK144.out 6).trans rfl; have hcz4_7 : w3.cell? ⟨gb144, 7, none⟩ = some (.int .i64 a0_7) := (bC BK144.out 7).trans rfl; have hfz4_0 := bA BK144.out 0; have hfz4_1 := bA BK144.out 1; have hfz4_2 := bA BK144.out 2; have hfz4_3 := bA BK144.out 3; have hfz4_4 := bA BK144.out 4; have hfz4_5 := bA BK144.out 5; have hfz4_6 := bA BK144.out 6; have hfz4_7 := bA BK144.out 7))
 (try simp only [Act.put, List.setIfInBounds_toArray, List.set_cons_zero, List.set_cons_succ])
 go_cut [5] (fun v5 wc => ∃ (kq : Nat) (x5_1 : Bool), v5 = .bool x5_1 ∧ Aside0 (backstitchref3_Asks.j0 kq a0_0 x5_1 a0_0 a0_1 a0_2 a0_3 a0_4 a0_5 a0_6 a0_7 = some r) ∧ Aside0 (kq ≤ k) ∧ Aside0 (wc.heap[gb144]? = some (.cells #[.int .i64 a0_0, .int .i64 a0_1, .int .i64 a0_2, .int .i64 a0_3, .int .i64 a0_4, .int .i64 a0_5, .int .i64 a0_6, .int .i64 a0_7] 181 (0, 0))) ∧ Aside0 (Below w.heap.size w wc))
 case first =>
  have H := HC2.out
  clear HC2
  by_cases c5 : a0_0 = 4
  ·rw [if_pos c5] at H
   have c5b0 : (a0_0 == 4) = true := beq_iff_eq.mpr c5
   have c5b1 : (a0_0 != 4) = false := bne_eq_false_iff_eq.mpr c5
   clear c5
   (first | rw [c5b0] | (simp only [bP, bQ]; rw [c5b0]) | skip)
   have H' := Aside0.mk H
   clear H
   go_wp2
   go_meet
   case rel => exact ⟨_, ((a0_0 == 4)), (by first | rfl | (simp; done) | (simp [*]; done)), H', ⟨by first | omega | exact Nat.le_refl _⟩, ⟨by (with_reducible repeat (first | refine bH ?_ _ | refine bJ ?_ | refine bI ?_ _)); exact BK144.out⟩, ⟨by repeat (first | (with_reducible first | exact HB.out | apply bE | apply bB | apply bD | refine bG ?_ GE144.out) | exact HB.out)⟩⟩
  ·rw [if_neg c5] at H
   have c5b0 : (a0_0 == 4) = false := beq_eq_false_iff_ne.mpr c5
   have c5b1 : (a0_0 != 4) = true := bne_iff_ne.mpr c5
   (first | rw [c5b0] | (simp only [bP, bQ]; rw [c5b0]) | skip)
   by_cases c6 : a0_0 = 5
   ·rw [if_pos c6] at H
    have c6b0 : (a0_0 == 5) = true := beq_iff_eq.mpr c6
    have c6b1 : (a0_0 != 5) = false := bne_eq_false_iff_eq.mpr c6
    clear c6
    have H' := Aside0.mk H
    clear H
    go_wp2
    go_meet
    case rel => exact ⟨_, ((a0_0 == 5)), (by first | rfl | (simp; done) | (simp [*]; done)), H', ⟨by first | omega | exact Nat.le_refl _⟩, ⟨by (with_reducible repeat (first | refine bH ?_ _ | refine bJ ?_ | refine bI ?_ _)); exact BK144.out⟩, ⟨by repeat (first | (with_reducible first | exact HB.out | apply bE | apply bB | apply bD | refine bG ?_ GE144.out) | exact HB.out)⟩⟩
   rw [if_neg c6] at H
   have c6b0 : (a0_0 == 5) = false := beq_eq_false_iff_ne.mpr c6
   have c6b1 : (a0_0 != 5) = true := bne_iff_ne.mpr c6
   by_cases c7 : a0_0 = 6
   ·rw [if_pos c7] at H
    have c7b0 : (a0_0 == 6) = true := beq_iff_eq.mpr c7
    have c7b1 : (a0_0 != 6) = false := bne_eq_false_iff_eq.mpr c7
    clear c7
    have H' := Aside0.mk H
    clear H
    go_wp2
    go_meet
    case rel => exact ⟨_, ((a0_0 == 6)), (by first | rfl | (simp; done) | (simp [*]; done)), H', ⟨by first | omega | exact Nat.le_refl _⟩, ⟨by (with_reducible repeat (first | refine bH ?_ _ | refine bJ ?_ | refine bI ?_ _)); exact BK144.out⟩, ⟨by repeat (first | (with_reducible first | exact HB.out | apply bE | apply bB | apply bD | refine bG ?_ GE144.out) | exact HB.out)⟩⟩
   rw [if_neg c7] at H
   have c7b0 : (a0_0 == 6) = false := beq_eq_false_iff_ne.mpr c7
   have c7b1 : (a0_0 != 6) = true := bne_iff_ne.mpr c7
   by_cases c8 : a0_0 = 8
   ·rw [if_pos c8] at H
    have c8b0 : (a0_0 == 8) = true := beq_iff_eq.mpr c8
    have c8b1 : (a0_0 != 8) = false := bne_eq_false_iff_eq.mpr c8
    clear c8
    have H' := Aside0.mk H
    clear H
    go_wp2
    go_meet
    case rel => exact ⟨_, ((a0_0 == 8)), (by first | rfl | (simp; done) | (simp [*]; done)), H', ⟨by first | omega | exact Nat.le_refl _⟩, ⟨by (with_reducible repeat (first | refine bH ?_ _ | refine bJ ?_ | refine bI ?_ _)); exact BK144.out⟩, ⟨by repeat (first | (with_reducible first | exact HB.out | apply bE | apply bB | apply bD | refine bG ?_ GE144.out) | exact HB.out)⟩⟩
   rw [if_neg c8] at H
   have c8b0 : (a0_0 == 8) = false := beq_eq_false_iff_ne.mpr c8
   have c8b1 : (a0_0 != 8) = true := bne_iff_ne.mpr c8
   by_cases c9 : a0_0 = 9
   ·rw [if_pos c9] at H
    have c9b0 : (a0_0 == 9) = true := beq_iff_eq.mpr c9
    have c9b1 : (a0_0 != 9) = false := bne_eq_false_iff_eq.mpr c9
    clear c9
    have H' := Aside0.mk H
    clear H
    go_wp2
    go_meet
    case rel => exact ⟨_, ((a0_0 == 9)), (by first | rfl | (simp; done) | (simp [*]; done)), H', ⟨by first | omega | exact Nat.le_refl _⟩, ⟨by (with_reducible repeat (first | refine bH ?_ _ | refine bJ ?_ | refine bI ?_ _)); exact BK144.out⟩, ⟨by repeat (first | (with_reducible first | exact HB.out | apply bE | apply bB | apply bD | refine bG ?_ GE144.out) | exact HB.out)⟩⟩
   rw [if_neg c9] at H
   have c9b0 : (a0_0 == 9) = false := beq_eq_false_iff_ne.mpr c9
   have c9b1 : (a0_0 != 9) = true := bne_iff_ne.mpr c9
   by_cases c10 : a0_0 = 10
   rotate_left
   ·rw [if_neg c10] at H
    have c10b0 : (a0_0 == 10) = false := beq_eq_false_iff_ne.mpr c10
    have c10b1 : (a0_0 != 10) = true := bne_iff_ne.mpr c10
    have H' := Aside0.mk H
    clear H
    go_wp2
    go_meet
    case rel => exact ⟨_, ((a0_0 == 15)), (by first | rfl | (simp; done) | (simp [*]; done)), H', ⟨by first | omega | exact Nat.le_refl _⟩, ⟨by (with_reducible repeat (first | refine bH ?_ _ | refine bJ ?_ | refine bI ?_ _)); exact BK144.out⟩, ⟨by repeat (first | (with_reducible first | exact HB.out | apply bE | apply bB | apply bD | refine bG ?_ GE144.out) | exact HB.out)⟩⟩
   rw [if_pos c10] at H
   have c10b0 : (a0_0 == 10) = true := beq_iff_eq.mpr c10
   have c10b1 : (a0_0 != 10) = false := bne_eq_false_iff_eq.mpr c10
   clear c10
   have H' := Aside0.mk H
   clear H
   go_wp2
   go_meet
   case rel => exact ⟨_, ((a0_0 == 10)), (by first | rfl | (simp; done) | (simp [*]; done)), H', ⟨by first | omega | exact Nat.le_refl _⟩, ⟨by (with_reducible repeat (first | refine bH ?_ _ | refine bJ ?_ | refine bI ?_ _)); exact BK144.out⟩, ⟨by repeat (first | (with_reducible first | exact HB.out | apply bE | apply bB | apply bD | refine bG ?_ GE144.out) | exact HB.out)⟩⟩
 case rest =>
  clear HC2
  try clear c1
  try clear p2
  try clear c5
  try clear c5b0
  try clear c5b1
  try clear c6
  try clear c6b0
  try clear c6b1
  try clear c7
  try clear c7b0
  try clear c7b1
  try clear c8
  try clear c8b0
  try clear c8b1
  try clear c9
  try clear c9b0
  try clear c9b1
  try clear c10
  try clear c10b0
  try clear c10b1
  try clear hcz4_0
  try clear hcz4_1
  try clear hcz4_2
  try clear hcz4_3
  try clear hcz4_4
  try clear hcz4_5
  try clear hcz4_6
  try clear hcz4_7
  try clear hfz4_0
  try clear hfz4_1
  try clear hfz4_2
  try clear hfz4_3
  try clear hfz4_4
  try clear hfz4_5
  try clear hfz4_6
  try clear hfz4_7
  obtain ⟨kq, x5_1, rfl, HA, HJ1, BK144, HB⟩ := hcut
  cases kq with
  | zero => exact absurd HA.out (by simp [backstitchref3_Asks.j0])
  | succ kj1 =>
   have H := HA.out
   clear HA
   simp only [backstitchref3_Asks.j0] at H
   by_cases c11 : x5_1 = true
   ·subst c11
    have H1 : (some (([a0_1] : List Int))) = some r := by rw [if_pos rfl] at H; exact H
    clear H
    have H := H1
    clear H1
    obtain ⟨y145, hy145⟩ : ∃ y_ : List Int, y_ = (([a0_1] : List Int)) := ⟨_, rfl⟩
    replace H : (some y145) = some r := by first | (rw [hy145]; with_reducible exact H) | (have H2_ := (Option.bind_some _ _).symm.trans H; rw [hy145]; with_reducible exact H2_) | (have H2_ := (Option.bind_some _ _).symm.trans H; with_reducible exact H2_) | with_reducible exact H | (rw [hy145]; exact H) | exact H
    have Ny145 := Aside0.mk hy145
    clear hy145
    obtain rfl := Option.some.inj H
    have hcz12_0 : wc.cell? ⟨gb144, 0, none⟩ = some (.int .i64 a0_0) := (bC BK144.out 0).trans rfl
    have hcz12_1 : wc.cell? ⟨gb144, 1, none⟩ = some (.int .i64 a0_1) := (bC BK144.out 1).trans rfl
    have hcz12_2 : wc.cell? ⟨gb144, 2, none⟩ = some (.int .i64 a0_2) := (bC BK144.out 2).trans rfl
    have hcz12_3 : wc.cell? ⟨gb144, 3, none⟩ = some (.int .i64 a0_3) := (bC BK144.out 3).trans rfl
    have hcz12_4 : wc.cell? ⟨gb144, 4, none⟩ = some (.int .i64 a0_4) := (bC BK144.out 4).trans rfl
    have hcz12_5 : wc.cell? ⟨gb144, 5, none⟩ = some (.int .i64 a0_5) := (bC BK144.out 5).trans rfl
    have hcz12_6 : wc.cell? ⟨gb144, 6, none⟩ = some (.int .i64 a0_6) := (bC BK144.out 6).trans rfl
    have hcz12_7 : wc.cell? ⟨gb144, 7, none⟩ = some (.int .i64 a0_7) := (bC BK144.out 7).trans rfl
    have hfz12_0 := bA BK144.out 0
    have hfz12_1 := bA BK144.out 1
    have hfz12_2 := bA BK144.out 2
    have hfz12_3 := bA BK144.out 3
    have hfz12_4 := bA BK144.out 4
    have hfz12_5 := bA BK144.out 5
    have hfz12_6 := bA BK144.out 6
    have hfz12_7 := bA BK144.out 7
    go_wp2_with (first | ((with_reducible refine bN (N := 15) rfl ?_); refine Kd.R_lit (Kd.int .i64) _ 3 ?hg (N := 15) ?hd (xs := ([a0_1] : List Int)) (inner := [.int .i64 a0_1]) (ok := fun _ => True) (okp := fun _ => True) ?hr ?hp (fun _ hk => hk) trivial (Below.refl _ _) (Nat.le_refl _) (by simp) ?_; (case hd => rfl); (case hg => rfl); (case hr => first | (go_simp; done) | (go_simp; rfl)); (case hp => exact (Reps.one (show Kd.M (Kd.int .i64) _ _ _ a0_1 [.int .i64 a0_1] from rfl) (Reps.none _ _))); intro v146 w13 ho14 hb hg_ hnew_; clear hg_ hnew_; (first | rw [← Ny145.out] at ho14 | (simp only [Int.reduceToNat] at ho14; rw [← Ny145.out] at ho14)); have n0_ := Aside0.mk (Kd.R_lower ho14 (bL (by repeat (first | (with_reducible first | exact HB.out | apply bE | apply bB | apply bD | refine bG ?_ GE144.out) | exact HB.out)))); have n1_ := Aside0.mk (bM (g := gb144) (o := .cells #[.int .i64 a0_0, .int .i64 a0_1, .int .i64 a0_2, .int .i64 a0_3, .int .i64 a0_4, .int .i64 a0_5, .int .i64 a0_6, .int .i64 a0_7] 181 (0, 0)) (by (with_reducible repeat (first | refine bH ?_ _ | refine bJ ?_ | refine bI ?_ _)); exact BK144.out) hb); have n2_ := Aside0.mk (bK (by repeat (first | (with_reducible first | exact HB.out | apply bE | apply bB | apply bD | refine bG ?_ GE144.out) | exact HB.out)) hb); clear BK144; clear HB; have HO147 := n0_; have BK144 := n1_; have HB := n2_; clear n0_ n1_ n2_; clear hb ho14))
    go_ret
    exact ⟨_, by first | rfl | (simp <;> rfl) | (simp [*] <;> rfl), by (with_reducible repeat (first | apply Kd.R_alloc | apply Kd.R_drewN | apply Kd.R_drew)); exact HO147.out, by repeat (first | (with_reducible first | exact HB.out | apply bE | apply bB | apply bD | refine bG ?_ GE144.out) | exact HB.out)⟩
   replace c11 := Bool.eq_false_iff.mpr c11
   subst c11
   have H1 : (if a0_0 = 7 then (backstitchref3_Asks.j1 kj1 a0_0 (a0_0 == 7) a0_0 a0_1 a0_2 a0_3 a0_4 a0_5 a0_6 a0_7) else (if a0_0 = 11 then (backstitchref3_Asks.j1 kj1 a0_0 (a0_0 == 11) a0_0 a0_1 a0_2 a0_3 a0_4 a0_5 a0_6 a0_7) else (if a0_0 = 12 then (backstitchref3_Asks.j1 kj1 a0_0 (a0_0 == 12) a0_0 a0_1 a0_2 a0_3 a0_4 a0_5 a0_6 a0_7) else (if a0_0 = 13 then (backstitchref3_Asks.j1 kj1 a0_0 (a0_0 == 13) a0_0 a0_1 a0_2 a0_3 a0_4 a0_5 a0_6 a0_7) else (backstitchref3_Asks.j1 kj1 a0_0 (a0_0 == 17) a0_0 a0_1 a0_2 a0_3 a0_4 a0_5 a0_6 a0_7))))) = some r := by rw [if_neg (show ¬ (false = true) by decide)] at H; exact H
   clear H
   have H := H1
   clear H1
   have HC15 := Aside0.mk H
   clear H
   go_upto_if 16 with (fail)
   go_cut [16] (fun v16 wc => ∃ (kq : Nat) (x16_14 : Bool), v16 = .bool x16_14 ∧ Aside0 (backstitchref3_Asks.j1 kq a0_0 x16_14 a0_0 a0_1 a0_2 a0_3 a0_4 a0_5 a0_6 a0_7 = some r) ∧ Aside0 (kq ≤ kj1) ∧ Aside0 (wc.heap[gb144]? = some (.cells #[.int .i64 a0_0, .int .i64 a0_1, .int .i64 a0_2, .int .i64 a0_3, .int .i64 a0_4, .int .i64 a0_5, .int .i64 a0_6, .int .i64 a0_7] 181 (0, 0))) ∧ Aside0 (Below w.heap.size w wc))
   case first =>
    have H := HC15.out
    clear HC15
    by_cases c16 : a0_0 = 7
    ·rw [if_pos c16] at H
     have c16b0 : (a0_0 == 7) = true := beq_iff_eq.mpr c16
     have c16b1 : (a0_0 != 7) = false := bne_eq_false_iff_eq.mpr c16
     clear c16
     (first | rw [c16b0] | (simp only [bP, bQ]; rw [c16b0]) | skip)
     have H' := Aside0.mk H
     clear H
     go_wp2
     go_meet
     case rel => exact ⟨_, ((a0_0 == 7)), (by first | rfl | (simp; done) | (simp [*]; done)), H', ⟨by have := HJ1.out; first | omega | exact Nat.le_refl _⟩, ⟨by (with_reducible repeat (first | refine bH ?_ _ | refine bJ ?_ | refine bI ?_ _)); exact BK144.out⟩, ⟨by repeat (first | (with_reducible first | exact HB.out | apply bE | apply bB | apply bD | refine bG ?_ GE144.out) | exact HB.out)⟩⟩
    ·rw [if_neg c16] at H
     have c16b0 : (a0_0 == 7) = false := beq_eq_false_iff_ne.mpr c16
     have c16b1 : (a0_0 != 7) = true := bne_iff_ne.mpr c16
     (first | rw [c16b0] | (simp only [bP, bQ]; rw [c16b0]) | skip)
     by_cases c17 : a0_0 = 11
     ·rw [if_pos c17] at H
      have c17b0 : (a0_0 == 11) = true := beq_iff_eq.mpr c17
      have c17b1 : (a0_0 != 11) = false := bne_eq_false_iff_eq.mpr c17
      clear c17
      have H' := Aside0.mk H
      clear H
      go_wp2
      go_meet
      case rel => exact ⟨_, ((a0_0 == 11)), (by first | rfl | (simp; done) | (simp [*]; done)), H', ⟨by have := HJ1.out; first | omega | exact Nat.le_refl _⟩, ⟨by (with_reducible repeat (first | refine bH ?_ _ | refine bJ ?_ | refine bI ?_ _)); exact BK144.out⟩, ⟨by repeat (first | (with_reducible first | exact HB.out | apply bE | apply bB | apply bD | refine bG ?_ GE144.out) | exact HB.out)⟩⟩
     rw [if_neg c17] at H
     have c17b0 : (a0_0 == 11) = false := beq_eq_false_iff_ne.mpr c17
     have c17b1 : (a0_0 != 11) = true := bne_iff_ne.mpr c17
     by_cases c18 : a0_0 = 12
     ·rw [if_pos c18] at H
      have c18b0 : (a0_0 == 12) = true := beq_iff_eq.mpr c18
      have c18b1 : (a0_0 != 12) = false := bne_eq_false_iff_eq.mpr c18
      clear c18
      have H' := Aside0.mk H
      clear H
      go_wp2
      go_meet
      case rel => exact ⟨_, ((a0_0 == 12)), (by first | rfl | (simp; done) | (simp [*]; done)), H', ⟨by have := HJ1.out; first | omega | exact Nat.le_refl _⟩, ⟨by (with_reducible repeat (first | refine bH ?_ _ | refine bJ ?_ | refine bI ?_ _)); exact BK144.out⟩, ⟨by repeat (first | (with_reducible first | exact HB.out | apply bE | apply bB | apply bD | refine bG ?_ GE144.out) | exact HB.out)⟩⟩
     rw [if_neg c18] at H
     have c18b0 : (a0_0 == 12) = false := beq_eq_false_iff_ne.mpr c18
     have c18b1 : (a0_0 != 12) = true := bne_iff_ne.mpr c18
     by_cases c19 : a0_0 = 13
     rotate_left
     ·rw [if_neg c19] at H
      have c19b0 : (a0_0 == 13) = false := beq_eq_false_iff_ne.mpr c19
      have c19b1 : (a0_0 != 13) = true := bne_iff_ne.mpr c19
      have H' := Aside0.mk H
      clear H
      go_wp2
      go_meet
      case rel => exact ⟨_, ((a0_0 == 17)), (by first | rfl | (simp; done) | (simp [*]; done)), H', ⟨by have := HJ1.out; first | omega | exact Nat.le_refl _⟩, ⟨by (with_reducible repeat (first | refine bH ?_ _ | refine bJ ?_ | refine bI ?_ _)); exact BK144.out⟩, ⟨by repeat (first | (with_reducible first | exact HB.out | apply bE | apply bB | apply bD | refine bG ?_ GE144.out) | exact HB.out)⟩⟩
     rw [if_pos c19] at H
     have c19b0 : (a0_0 == 13) = true := beq_iff_eq.mpr c19
     have c19b1 : (a0_0 != 13) = false := bne_eq_false_iff_eq.mpr c19
     clear c19
     have H' := Aside0.mk H
     clear H
     go_wp2
     go_meet
     case rel => exact ⟨_, ((a0_0 == 13)), (by first | rfl | (simp; done) | (simp [*]; done)), H', ⟨by have := HJ1.out; first | omega | exact Nat.le_refl _⟩, ⟨by (with_reducible repeat (first | refine bH ?_ _ | refine bJ ?_ | refine bI ?_ _)); exact BK144.out⟩, ⟨by repeat (first | (with_reducible first | exact HB.out | apply bE | apply bB | apply bD | refine bG ?_ GE144.out) | exact HB.out)⟩⟩
   case rest =>
    clear HC15
    try clear c1
    try clear p2
    try clear c5
    try clear c5b0
    try clear c5b1
    try clear c6
    try clear c6b0
    try clear c6b1
    try clear c7
    try clear c7b0
    try clear c7b1
    try clear c8
    try clear c8b0
    try clear c8b1
    try clear c9
    try clear c9b0
    try clear c9b1
    try clear c10
    try clear c10b0
    try clear c10b1
    try clear c11
    try clear c16
    try clear c16b0
    try clear c16b1
    try clear c17
    try clear c17b0
    try clear c17b1
    try clear c18
    try clear c18b0
    try clear c18b1
    try clear c19
    try clear c19b0
    try clear c19b1
    try clear hcz12_0
    try clear hcz12_1
    try clear hcz12_2
    try clear hcz12_3
    try clear hcz12_4
    try clear hcz12_5
    try clear hcz12_6
    try clear hcz12_7
    try clear hcz4_0
    try clear hcz4_1
    try clear hcz4_2
    try clear hcz4_3
    try clear hcz4_4
    try clear hcz4_5
    try clear hcz4_6
    try clear hcz4_7
    try clear hfz12_0
    try clear hfz12_1
    try clear hfz12_2
    try clear hfz12_3
    try clear hfz12_4
    try clear hfz12_5
    try clear hfz12_6
    try clear hfz12_7
    try clear hfz4_0
    try clear hfz4_1
    try clear hfz4_2
    try clear hfz4_3
    try clear hfz4_4
    try clear hfz4_5
    try clear hfz4_6
    try clear hfz4_7
    try clear p2
    obtain ⟨kq, x16_14, rfl, HA, HJ14, BK144, HB⟩ := hcut
    cases kq with
    | zero => exact absurd HA.out (by simp [backstitchref3_Asks.j1])
    | succ kj14 =>
     have H := HA.out
     clear HA
     simp only [backstitchref3_Asks.j1] at H
     by_cases c20 : x16_14 = true
     ·subst c20
      have H1 : (some (([a0_1, a0_2] : List Int))) = some r := by rw [if_pos rfl] at H; exact H
      clear H
      have H := H1
      clear H1
      obtain ⟨y148, hy148⟩ : ∃ y_ : List Int, y_ = (([a0_1, a0_2] : List Int)) := ⟨_, rfl⟩
      replace H : (some y148) = some r := by first | (rw [hy148]; with_reducible exact H) | (have H2_ := (Option.bind_some _ _).symm.trans H; rw [hy148]; with_reducible exact H2_) | (have H2_ := (Option.bind_some _ _).symm.trans H; with_reducible exact H2_) | with_reducible exact H | (rw [hy148]; exact H) | exact H
      have Ny148 := Aside0.mk hy148
      clear hy148
      obtain rfl := Option.some.inj H
      have hcz21_0 : wc.cell? ⟨gb144, 0, none⟩ = some (.int .i64 a0_0) := (bC BK144.out 0).trans rfl
      have hcz21_1 : wc.cell? ⟨gb144, 1, none⟩ = some (.int .i64 a0_1) := (bC BK144.out 1).trans rfl
      have hcz21_2 : wc.cell? ⟨gb144, 2, none⟩ = some (.int .i64 a0_2) := (bC BK144.out 2).trans rfl
      have hcz21_3 : wc.cell? ⟨gb144, 3, none⟩ = some (.int .i64 a0_3) := (bC BK144.out 3).trans rfl
      have hcz21_4 : wc.cell? ⟨gb144, 4, none⟩ = some (.int .i64 a0_4) := (bC BK144.out 4).trans rfl
      have hcz21_5 : wc.cell? ⟨gb144, 5, none⟩ = some (.int .i64 a0_5) := (bC BK144.out 5).trans rfl
      have hcz21_6 : wc.cell? ⟨gb144, 6, none⟩ = some (.int .i64 a0_6) := (bC BK144.out 6).trans rfl
      have hcz21_7 : wc.cell? ⟨gb144, 7, none⟩ = some (.int .i64 a0_7) := (bC BK144.out 7).trans rfl
      have hfz21_0 := bA BK144.out 0
      have hfz21_1 := bA BK144.out 1
      have hfz21_2 := bA BK144.out 2
      have hfz21_3 := bA BK144.out 3
      have hfz21_4 := bA BK144.out 4
      have hfz21_5 := bA BK144.out 5
      have hfz21_6 := bA BK144.out 6
      have hfz21_7 := bA BK144.out 7
      go_wp2_with (first | ((with_reducible refine bN (N := 26) rfl ?_); refine Kd.R_lit (Kd.int .i64) _ 3 ?hg (N := 26) ?hd (xs := ([a0_1, a0_2] : List Int)) (inner := [.int .i64 a0_1, .int .i64 a0_2]) (ok := fun _ => True) (okp := fun _ => True) ?hr ?hp (fun _ hk => hk) trivial (Below.refl _ _) (Nat.le_refl _) (by simp) ?_; (case hd => rfl); (case hg => rfl); (case hr => first | (go_simp; done) | (go_simp; rfl)); (case hp => exact (Reps.one (show Kd.M (Kd.int .i64) _ _ _ a0_1 [.int .i64 a0_1] from rfl) (Reps.one (show Kd.M (Kd.int .i64) _ _ _ a0_2 [.int .i64 a0_2] from rfl) (Reps.none _ _)))); intro v149 w22 ho23 hb hg_ hnew_; clear hg_ hnew_; (first | rw [← Ny148.out] at ho23 | (simp only [Int.reduceToNat] at ho23; rw [← Ny148.out] at ho23)); have n0_ := Aside0.mk (Kd.R_lower ho23 (bL (by repeat (first | (with_reducible first | exact HB.out | apply bE | apply bB | apply bD | refine bG ?_ GE144.out) | exact HB.out)))); have n1_ := Aside0.mk (bM (g := gb144) (o := .cells #[.int .i64 a0_0, .int .i64 a0_1, .int .i64 a0_2, .int .i64 a0_3, .int .i64 a0_4, .int .i64 a0_5, .int .i64 a0_6, .int .i64 a0_7] 181 (0, 0)) (by (with_reducible repeat (first | refine bH ?_ _ | refine bJ ?_ | refine bI ?_ _)); exact BK144.out) hb); have n2_ := Aside0.mk (bK (by repeat (first | (with_reducible first | exact HB.out | apply bE | apply bB | apply bD | refine bG ?_ GE144.out) | exact HB.out)) hb); clear BK144; clear HB; have HO150 := n0_; have BK144 := n1_; have HB := n2_; clear n0_ n1_ n2_; clear hb ho23))
      go_ret
      exact ⟨_, by first | rfl | (simp <;> rfl) | (simp [*] <;> rfl), by (with_reducible repeat (first | apply Kd.R_alloc | apply Kd.R_drewN | apply Kd.R_drew)); exact HO150.out, by repeat (first | (with_reducible first | exact HB.out | apply bE | apply bB | apply bD | refine bG ?_ GE144.out) | exact HB.out)⟩
     replace c20 := Bool.eq_false_iff.mpr c20
     subst c20
     have H1 : (if a0_0 = 14 then (some (([a0_1, a0_2, a0_3] : List Int))) else (some ([] : List Int))) = some r := by rw [if_neg (show ¬ (false = true) by decide)] at H; exact H
     clear H
     have H := H1
     clear H1
     by_cases c24 : a0_0 = 14
     rotate_left
     ·rw [if_neg c24] at H
      have c24b0 : (a0_0 == 14) = false := beq_eq_false_iff_ne.mpr c24
      have c24b1 : (a0_0 != 14) = true := bne_iff_ne.mpr c24
      obtain rfl := Option.some.inj H
      go_wp2
      go_ret
      exact ⟨_, by first | rfl | (simp <;> rfl) | (simp [*] <;> rfl), by first | exact Kd.R_nil _ _ _ _ _ | exact Kd.N_nil _ _ _ _ _ | exact Kd.V_nil _ _ _ _ _ | exact Kd.Q_nil _ _ _ _ _ | exact Kd.S_nil _ _ _ _ _, by repeat (first | (with_reducible first | exact HB.out | apply bE | apply bB | apply bD | refine bG ?_ GE144.out) | exact HB.out)⟩
     rw [if_pos c24] at H
     have c24b0 : (a0_0 == 14) = true := beq_iff_eq.mpr c24
     have c24b1 : (a0_0 != 14) = false := bne_eq_false_iff_eq.mpr c24
     clear c24
     obtain ⟨y151, hy151⟩ : ∃ y_ : List Int, y_ = (([a0_1, a0_2, a0_3] : List Int)) := ⟨_, rfl⟩
     replace H : (some y151) = some r := by first | (rw [hy151]; with_reducible exact H) | (have H2_ := (Option.bind_some _ _).symm.trans H; rw [hy151]; with_reducible exact H2_) | (have H2_ := (Option.bind_some _ _).symm.trans H; with_reducible exact H2_) | with_reducible exact H | (rw [hy151]; exact H) | exact H
     have Ny151 := Aside0.mk hy151
     clear hy151
     obtain rfl := Option.some.inj H
     have hcz25_0 : wc.cell? ⟨gb144, 0, none⟩ = some (.int .i64 a0_0) := (bC BK144.out 0).trans rfl
     have hcz25_1 : wc.cell? ⟨gb144, 1, none⟩ = some (.int .i64 a0_1) := (bC BK144.out 1).trans rfl
     have hcz25_2 : wc.cell? ⟨gb144, 2, none⟩ = some (.int .i64 a0_2) := (bC BK144.out 2).trans rfl
     have hcz25_3 : wc.cell? ⟨gb144, 3, none⟩ = some (.int .i64 a0_3) := (bC BK144.out 3).trans rfl
     have hcz25_4 : wc.cell? ⟨gb144, 4, none⟩ = some (.int .i64 a0_4) := (bC BK144.out 4).trans rfl
     have hcz25_5 : wc.cell? ⟨gb144, 5, none⟩ = some (.int .i64 a0_5) := (bC BK144.out 5).trans rfl
     have hcz25_6 : wc.cell? ⟨gb144, 6, none⟩ = some (.int .i64 a0_6) := (bC BK144.out 6).trans rfl
     have hcz25_7 : wc.cell? ⟨gb144, 7, none⟩ = some (.int .i64 a0_7) := (bC BK144.out 7).trans rfl
     have hfz25_0 := bA BK144.out 0
     have hfz25_1 := bA BK144.out 1
     have hfz25_2 := bA BK144.out 2
     have hfz25_3 := bA BK144.out 3
     have hfz25_4 := bA BK144.out 4
     have hfz25_5 := bA BK144.out 5
     have hfz25_6 := bA BK144.out 6
     have hfz25_7 := bA BK144.out 7
     go_wp2_with (first | ((with_reducible refine bN (N := 35) rfl ?_); refine Kd.R_lit (Kd.int .i64) _ 3 ?hg (N := 35) ?hd (xs := ([a0_1, a0_2, a0_3] : List Int)) (inner := [.int .i64 a0_1, .int .i64 a0_2, .int .i64 a0_3]) (ok := fun _ => True) (okp := fun _ => True) ?hr ?hp (fun _ hk => hk) trivial (Below.refl _ _) (Nat.le_refl _) (by simp) ?_; (case hd => rfl); (case hg => rfl); (case hr => first | (go_simp; done) | (go_simp; rfl)); (case hp => exact (Reps.one (show Kd.M (Kd.int .i64) _ _ _ a0_1 [.int .i64 a0_1] from rfl) (Reps.one (show Kd.M (Kd.int .i64) _ _ _ a0_2 [.int .i64 a0_2] from rfl) (Reps.one (show Kd.M (Kd.int .i64) _ _ _ a0_3 [.int .i64 a0_3] from rfl) (Reps.none _ _))))); intro v152 w26 ho27 hb hg_ hnew_; clear hg_ hnew_; (first | rw [← Ny151.out] at ho27 | (simp only [Int.reduceToNat] at ho27; rw [← Ny151.out] at ho27)); have n0_ := Aside0.mk (Kd.R_lower ho27 (bL (by repeat (first | (with_reducible first | exact HB.out | apply bE | apply bB | apply bD | refine bG ?_ GE144.out) | exact HB.out)))); have n1_ := Aside0.mk (bM (g := gb144) (o := .cells #[.int .i64 a0_0, .int .i64 a0_1, .int .i64 a0_2, .int .i64 a0_3, .int .i64 a0_4, .int .i64 a0_5, .int .i64 a0_6, .int .i64 a0_7] 181 (0, 0)) (by (with_reducible repeat (first | refine bH ?_ _ | refine bJ ?_ | refine bI ?_ _)); exact BK144.out) hb); have n2_ := Aside0.mk (bK (by repeat (first | (with_reducible first | exact HB.out | apply bE | apply bB | apply bD | refine bG ?_ GE144.out) | exact HB.out)) hb); clear BK144; clear HB; have HO153 := n0_; have BK144 := n1_; have HB := n2_; clear n0_ n1_ n2_; clear hb ho27))
     go_ret
     exact ⟨_, by first | rfl | (simp <;> rfl) | (simp [*] <;> rfl), by (with_reducible repeat (first | apply Kd.R_alloc | apply Kd.R_drewN | apply Kd.R_drew)); exact HO153.out, by repeat (first | (with_reducible first | exact HB.out | apply bE | apply bB | apply bD | refine bG ?_ GE144.out) | exact HB.out)⟩

end Go.Proofs.Ytlojkphocbbjdaa.PLiveTells
