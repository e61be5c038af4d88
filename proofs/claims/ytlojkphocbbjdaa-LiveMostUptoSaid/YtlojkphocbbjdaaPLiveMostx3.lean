-- Printed for this claim by a program of this session (inj.py), beside the kit's print. Not trusted: Lean checks it.
import Derived.Test.YtlojkphocbbjdaaPLiveMostx0
import Derived.Test.YtlojkphocbbjdaaPLiveMostx2
namespace Go.Proofs.Ytlojkphocbbjdaa.PLiveMost
open Go.RowKit Go.Proofs.YtlojkphocbbjdaaW.PrintWords Go.Proofs.YtlojkphocbbjdaaW.PrintLast Go.Proofs.YtlojkphocbbjdaaW.PrintMore
attribute [local go_sem] max2_int min2_int max_two min_two max_three min_three max_four min_four   -- for this text's walks alone
set_option linter.unusedVariables false
set_option linter.unusedSimpArgs false

/-! ### live_all: function 123 -/
section
open Go.Proofs.YtlojkphocbbjdaaW.Sep
def tellsB (op : Int) : Bool := match ir_of.f op with | some q => q.2.2.2.2.1 | none => false
theorem tells_walk (op : Int) (w : World) : Calls Try.prog 157 #[.int .i64 op] w fun e w' => e = .returned (.bool (tellsB op)) ∧ Below w.heap.size w w' := by
  obtain ⟨⟨q1, q2, q3, q4, q5, q6, q7⟩, hq⟩ := ir_of.total op
  have HT := Aside0.mk (show tellsB op = q5 by unfold tellsB; rw [hq])
  have HQ := Aside0.mk hq
  have HS0 := Aside0.mk (St.nil (Below.refl w.heap.size w))
  clear hq
  go_enter Try.func157, Try.ntmps157
  go_wp2_with (first | (go_at_call 153; refine (ir_of.calls op q1 q2 q3 q4 q5 q6 q7 _ HQ.out).mono ?_; rintro e_ w210_ ⟨rfl, hb_⟩; have HS211_ := Aside0.mk (HS0.out.call hb_); clear hb_; clear HS0) | ((with_reducible refine gate_dst (N := 3) rfl ?_); (try (refine gate_guard (by rfl) ?_; dsimp only)); refine box_event ?hg (N := 3) ?hd (cs := #[.int .i64 0, .int .i64 0, .int .i64 0, .bool false, .bool false, .int .i64 0]) (t := 215) ?hr ?_; (case hd => rfl); (case hg => rfl); (case hr => first | (go_simp; done) | (go_simp; rfl)); intro gf hg_ w212_ hx_ hb_; have HS213_ := Aside0.mk (HS211_.out.box hg_ hx_ hb_); have c214_ : w212_.cell? ⟨gf, 0, none⟩ = some (.int .i64 0) := (HS213_.out.cell 0 rfl 0).trans rfl; have c215_ : w212_.cell? ⟨gf, 1, none⟩ = some (.int .i64 0) := (HS213_.out.cell 0 rfl 1).trans rfl; have c216_ : w212_.cell? ⟨gf, 2, none⟩ = some (.int .i64 0) := (HS213_.out.cell 0 rfl 2).trans rfl; have c217_ : w212_.cell? ⟨gf, 3, none⟩ = some (.bool false) := (HS213_.out.cell 0 rfl 3).trans rfl; have c218_ : w212_.cell? ⟨gf, 4, none⟩ = some (.bool false) := (HS213_.out.cell 0 rfl 4).trans rfl; have c219_ : w212_.cell? ⟨gf, 5, none⟩ = some (.int .i64 0) := (HS213_.out.cell 0 rfl 5).trans rfl; have f220_ : w212_.frozen? ⟨gf, 0, none⟩ = false := HS213_.out.frz 0 rfl 0; have f221_ : w212_.frozen? ⟨gf, 1, none⟩ = false := HS213_.out.frz 0 rfl 1; have f222_ : w212_.frozen? ⟨gf, 2, none⟩ = false := HS213_.out.frz 0 rfl 2; have f223_ : w212_.frozen? ⟨gf, 3, none⟩ = false := HS213_.out.frz 0 rfl 3; have f224_ : w212_.frozen? ⟨gf, 4, none⟩ = false := HS213_.out.frz 0 rfl 4; have f225_ : w212_.frozen? ⟨gf, 5, none⟩ = false := HS213_.out.frz 0 rfl 5; clear hg_ hx_ hb_  HS211_) | ((with_reducible refine gate_store (t := 215) (p := 3) rfl ?_); refine store_event (t := 215) (p := 3) (v := .tmp 8) (w1 := ((((((w212_.setCell ⟨gf, 0, none⟩ (.int .i64 q1)).setCell ⟨gf, 1, none⟩ (.int .i64 q2)).setCell ⟨gf, 2, none⟩ (.int .i64 q3)).setCell ⟨gf, 3, none⟩ (.bool q4)).setCell ⟨gf, 4, none⟩ (.bool q5)).setCell ⟨gf, 5, none⟩ (.int .i64 q6))) ?hg ?ho ?hn ?hr ?_; (case ho => rfl); (case hg => rfl); (case hn => rfl); (case hr => first | (go_simp; done) | (go_simp; rfl)); intro w226_ hw_; have HS227_ : Aside0 (St w w226_ ((blkA gf #[.int .i64 q1, .int .i64 q2, .int .i64 q3, .bool q4, .bool q5, .int .i64 q6] 215) :: [])) := ⟨by rw [hw_]; exact ((((((HS213_.out.put 0 rfl 0 (.int .i64 q1) rfl).put 0 rfl 1 (.int .i64 q2) rfl).put 0 rfl 2 (.int .i64 q3) rfl).put 0 rfl 3 (.bool q4) rfl).put 0 rfl 4 (.bool q5) rfl).put 0 rfl 5 (.int .i64 q6) rfl)⟩; have c228_ : w226_.cell? ⟨gf, 4, none⟩ = some (.bool q5) := (HS227_.out.cell 0 rfl 4).trans rfl; clear hw_ c214_ c215_ c216_ c217_ c218_ c219_ f220_ f221_ f222_ f223_ f224_ f225_ HS213_))
  go_ret
  exact ⟨by rw [HT.out]; rfl, HS227_.out.below⟩
def allP (ins : List S181) (at_ v : Int) : Bool := decide (v < 0) || decide (v ≥ at_) || decide (v ≥ ins.length) || !tellsB (rd_T181 ins v).f0
set_option maxHeartbeats 1000000 in
theorem all1_walk (ga gt : Nat) (at_ : Int) (A3 : Option Addr) (c3 : Nat) (ins : List S181) (v : Int) (w : World) (h0 : w.cell? ⟨ga, 0, none⟩ = some (.int .i64 at_)) (h3 : w.cell? ⟨gt, 3, none⟩ = some (.slice A3 ins.length c3)) (hC : Kd.C k181 w A3 ins.length ins) :
    Calls Try.prog 156 #[.int .i64 v, .pointer (some ⟨ga, 0, none⟩), .pointer (some ⟨gt, 0, none⟩)] w fun e w' => e = .returned (.bool (allP ins at_ v)) ∧ Below w.heap.size w w' := by
  have HC := Aside0.mk hC
  clear hC
  by_cases c1 : v < 0
  · have hb1 : decide (v < 0) = true := decide_eq_true c1
    have HP := Aside0.mk (show allP ins at_ v = true by unfold allP; rw [hb1]; rfl)
    clear c1
    go_enter Try.func156, Try.ntmps156
    go_wp2
    go_ret
    exact ⟨by rw [HP.out]; rfl, Below.refl _ _⟩
  have hb1 : decide (v < 0) = false := decide_eq_false c1
  by_cases c2 : v ≥ at_
  · have hb2 : decide (v ≥ at_) = true := decide_eq_true c2
    have hb3 : decide (at_ ≤ v) = true := decide_eq_true c2
    have HP := Aside0.mk (show allP ins at_ v = true by unfold allP; rw [hb1, hb2]; rfl)
    clear c1 c2
    go_enter Try.func156, Try.ntmps156
    go_wp2
    go_ret
    exact ⟨by rw [HP.out]; rfl, Below.refl _ _⟩
  have hb2 : decide (v ≥ at_) = false := decide_eq_false c2
  have hb3 : decide (at_ ≤ v) = false := decide_eq_false c2
  by_cases c3' : v ≥ (ins.length : Int)
  · have hb4 : decide (v ≥ (ins.length : Int)) = true := decide_eq_true c3'
    have hb5 : decide ((ins.length : Int) ≤ v) = true := decide_eq_true c3'
    have HP := Aside0.mk (show allP ins at_ v = true by unfold allP; rw [hb1, hb2, hb4]; rfl)
    clear c1 c2 c3'
    go_enter Try.func156, Try.ntmps156
    go_wp2
    go_ret
    exact ⟨by rw [HP.out]; rfl, Below.refl _ _⟩
  have hb4 : decide (v ≥ (ins.length : Int)) = false := decide_eq_false c3'
  have hb5 : decide ((ins.length : Int) ≤ v) = false := decide_eq_false c3'
  have hv0 : 0 ≤ v := by omega
  have hv1 : v < (ins.length : Int) := by omega
  have HP := Aside0.mk (show allP ins at_ v = !tellsB (rd_T181 ins v).f0 by unfold allP; rw [hb1, hb2, hb4]; rfl)
  obtain ⟨ad, e, hx0, _⟩ := at_T181 HC.out v hv0 hv1
  cases e
  generalize rd_T181 ins v = x at *
  clear c1 c2 c3'
  go_enter Try.func156, Try.ntmps156
  go_wp2_with (first | (go_at_call 157; refine (tells_walk _ w).mono ?_; rintro e_ w2 ⟨rfl, hb_⟩; have HB2 := Aside0.mk hb_; clear hb_))
  go_ret
  exact ⟨by rw [HP.out]; rfl, HB2.out⟩
def live_all.f (a0_0 : Int) (a0_1 : Int) (a0_2 : Int) (l0_3 : List (S181)) (l0_4 : List (S31)) (a0_5 : Int) (a0_6 : Int) (l0_7 : List (S38)) (l0_8 : List (S63)) (a0_9 : Int) (a0_10 : Int) (l0_11 : List (S38)) (l0_12 : List (S63)) (l1 : List (Int)) (a2 : Int) : Option Bool := if l1.length < 4611686018427387904 then some (!l1.any (allP l0_3 a2)) else none
set_option maxHeartbeats 1000000 in
set_option maxRecDepth 100000 in
theorem live_all.calls (a0_0 : Int) (a0_1 : Int) (a0_2 : Int) (A0_3 : Option Addr) (c0_3 : Nat) (l0_3 : List (S181)) (A0_4 : Option Addr) (c0_4 : Nat) (l0_4 : List (S31)) (a0_5 : Int) (a0_6 : Int) (A0_7 : Option Addr) (c0_7 : Nat) (l0_7 : List (S38)) (A0_8 : Option Addr) (c0_8 : Nat) (l0_8 : List (S63)) (a0_9 : Int) (a0_10 : Int) (A0_11 : Option Addr) (c0_11 : Nat) (l0_11 : List (S38)) (A0_12 : Option Addr) (c0_12 : Nat) (l0_12 : List (S63)) (A1 : Option Addr) (c1 : Nat) (l1 : List (Int)) (a2 : Int) (r : Bool) (w : World) (hr0_3 : Kd.C k181 w A0_3 l0_3.length l0_3) (hc0_3 : l0_3.length ≤ c0_3) (hr0_4 : Kd.C k31 w A0_4 l0_4.length l0_4) (hc0_4 : l0_4.length ≤ c0_4) (hr0_7 : Kd.C k38 w A0_7 l0_7.length l0_7) (hc0_7 : l0_7.length ≤ c0_7) (hr0_8 : Kd.C k63 w A0_8 l0_8.length l0_8) (hc0_8 : l0_8.length ≤ c0_8) (hr0_11 : Kd.C k38 w A0_11 l0_11.length l0_11) (hc0_11 : l0_11.length ≤ c0_11) (hr0_12 : Kd.C k63 w A0_12 l0_12.length l0_12) (hc0_12 : l0_12.length ≤ c0_12) (hr1 : Kd.C (Kd.int .i64) w A1 l1.length l1) (hc1 : l1.length ≤ c1) (h : live_all.f a0_0 a0_1 a0_2 l0_3 l0_4 a0_5 a0_6 l0_7 l0_8 a0_9 a0_10 l0_11 l0_12 l1 a2 = some r) :
    Calls Try.prog 123 #[.agg #[.int .i64 a0_0, .int .i64 a0_1, .int .i64 a0_2, .slice A0_3 l0_3.length c0_3, .slice A0_4 l0_4.length c0_4, .int .i64 a0_5, .int .i64 a0_6, .slice A0_7 l0_7.length c0_7, .slice A0_8 l0_8.length c0_8, .int .i64 a0_9, .int .i64 a0_10, .slice A0_11 l0_11.length c0_11, .slice A0_12 l0_12.length c0_12], .slice A1 l1.length c1, .int .i64 a2] w fun e w' => e = .returned (.bool r) ∧ Below w.heap.size w w' := by
  unfold live_all.f at h
  split at h
  case isFalse => cases h
  rename_i hn
  obtain rfl := Option.some.inj h
  have HN := Aside0.mk hn
  have HR1 := Aside0.mk hr1
  have HR3 := Aside0.mk hr0_3
  have HS0 := Aside0.mk (St.nil (Below.refl w.heap.size w))
  clear h hn hr0_3 hc0_3 hr0_4 hc0_4 hr0_7 hc0_7 hr0_8 hc0_8 hr0_11 hc0_11 hr0_12 hc0_12 hr1 hc1
  go_enter Try.func123, Try.ntmps123
  go_wp2_with (first | ((with_reducible refine gate_dst (N := 3) rfl ?_); (try (refine gate_guard (by rfl) ?_; dsimp only)); refine box_event ?hg (N := 3) ?hd (cs := #[.int .i64 a0_0, .int .i64 a0_1, .int .i64 a0_2, .slice A0_3 l0_3.length c0_3, .slice A0_4 l0_4.length c0_4, .int .i64 a0_5, .int .i64 a0_6, .slice A0_7 l0_7.length c0_7, .slice A0_8 l0_8.length c0_8, .int .i64 a0_9, .int .i64 a0_10, .slice A0_11 l0_11.length c0_11, .slice A0_12 l0_12.length c0_12]) (t := 123) ?hr ?_; (case hd => rfl); (case hg => rfl); (case hr => first | (go_simp; done) | (go_simp; rfl)); intro gt hg_ w229_ hx_ hb_; have HS230_ := Aside0.mk (HS0.out.box hg_ hx_ hb_); clear hg_ hx_ hb_  HS0) | ((with_reducible refine gate_dst (N := 5) rfl ?_); (try (refine gate_guard (by rfl) ?_; dsimp only)); refine box_event ?hg (N := 5) ?hd (cs := #[.int .i64 a2]) (t := 3) ?hr ?_; (case hd => rfl); (case hg => rfl); (case hr => first | (go_simp; done) | (go_simp; rfl)); intro ga hg_ w231_ hx_ hb_; have HS232_ := Aside0.mk (HS230_.out.box hg_ hx_ hb_); clear hg_ hx_ hb_  HS230_) | (go_at_call 155; refine (slices_ContainsFunc_int_int.walk A1 c1 l1 156 #[.pointer (some ⟨ga, 0, none⟩), .pointer (some ⟨gt, 0, none⟩)] (allP l0_3 a2) _ (Kd.C_below HR1.out HS232_.out.below) HN.out (fun _ _ => rfl) (fun x W2 _ hW => all1_walk ga gt a2 A0_3 c0_3 l0_3 x W2 ((hW.cell (by have := (HS232_.out.blkN 0 rfl).2; exact this)).trans ((HS232_.out.cell 0 rfl 0).trans rfl)) ((hW.cell (by have := (HS232_.out.blkN 1 rfl).2; exact this)).trans ((HS232_.out.cell 1 rfl 3).trans rfl)) (Kd.C_below (Kd.C_below HR3.out HS232_.out.below) hW))).mono ?_; rintro e_ w233_ ⟨rfl, hb_⟩; have HS234_ := Aside0.mk (HS232_.out.call hb_); clear hb_; clear HS232_))
  go_ret
  exact ⟨rfl, HS234_.out.below⟩
end

/-! ### live_known: function 154 -/
section
open Go.Proofs.YtlojkphocbbjdaaW.Sep
def live_known.f (a0 : Int) : Option Bool := some (decide (1 ≤ a0) && decide (a0 < 20))
theorem live_known.calls (a0 : Int) (r : Bool) (w : World) (h : live_known.f a0 = some r) :
    Calls Try.prog 154 #[.int .i64 a0] w fun e w' => e = .returned (.bool r) ∧ Below w.heap.size w w' := by
  have HR := Aside0.mk (Option.some.inj h)
  clear h
  by_cases c : 1 ≤ a0
  · have hb1 : decide (1 ≤ a0) = true := decide_eq_true c
    have hb2 : decide (a0 ≥ 1) = true := decide_eq_true c
    rcases hb3 : decide (a0 < 20) with _ | _
    all_goals
      have HR2 := HR.out
      rw [hb1, hb3] at HR2
      obtain rfl := HR2
      clear c HR
      go_enter Try.func154, Try.ntmps154
      go_wp2
      go_ret
      exact ⟨rfl, Below.refl _ _⟩
  · have hb1 : decide (1 ≤ a0) = false := decide_eq_false c
    have hb2 : decide (a0 ≥ 1) = false := decide_eq_false c
    have HR2 := HR.out
    rw [hb1] at HR2
    obtain rfl := HR2
    clear c HR
    go_enter Try.func154, Try.ntmps154
    go_wp2
    go_ret
    exact ⟨rfl, Below.refl _ _⟩
end

end Go.Proofs.Ytlojkphocbbjdaa.PLiveMost
