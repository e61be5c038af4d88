-- Printed for this claim by a program of this session (inj.py), beside the kit's print. Not trusted: Lean checks it.
import Derived.Test.YtlojkphocbbjdaaPHaulTellsx0
import Derived.Test.YtlojkphocbbjdaaPHaulTellsx2
import Derived.Test.YtlojkphocbbjdaaPHaulTellsx3
namespace Go.Proofs.Ytlojkphocbbjdaa.PHaulTells
open Go.RowKit Go.Proofs.YtlojkphocbbjdaaW.PrintWords Go.Proofs.YtlojkphocbbjdaaW.PrintLast Go.Proofs.YtlojkphocbbjdaaW.PrintMore
attribute [local go_sem] max2_int min2_int max_two min_two max_three min_three max_four min_four   -- for this text's walks alone
set_option linter.unusedVariables false
set_option linter.unusedSimpArgs false

/-! ### haul_Check: function 57 -/
section
open Go.Maps Go.Proofs.YtlojkphocbbjdaaW.Sep Go.Proofs.YtlojkphocbbjdaaW.Mapw Go.Proofs.YtlojkphocbbjdaaW.Reg
def wfK (x : Int) : Bool := (Lit.int .i64 x).wf
def setF (l : List Int) (a : Int) : Bool := decide (a ∈ l)
theorem setF_nil : setF [] = fun _ => false := funext fun a => by simp [setF]
theorem setF_snoc (l : List Int) (x : Int) : (fun b => decide (b = x) || setF l b) = setF (l ++ [x]) := funext fun b => by
  unfold setF
  by_cases h1 : b = x <;> by_cases h2 : b ∈ l <;> simp [h1, h2]
def haul_Check.ck (k : Nat) (s : Int → Bool) : Int → List Int → Option Bool
  | _, [] => some true
  | i, x :: l => if s i = true then haul_Check.ck k s (i + 1) l else (haul_right.f k s x).bind fun b => if b = true then haul_Check.ck k s (i + 1) l else some false
def haul_Check.cr (k : Nat) (s : Int → Bool) : List Int → Option Bool
  | [] => some true
  | x :: l => (haul_right.f k s x).bind fun b => if b = true then haul_Check.cr k s l else some false
theorem haul_Check.ck_mono (s : Int → Bool) (k : Nat) : ∀ (l : List Int) (i : Int), LeO (haul_Check.ck k s i l) (haul_Check.ck (k + 1) s i l)
  | [], _ => LeO.refl _
  | x :: l, i => LeO.ite (haul_Check.ck_mono s k l _) (LeO.bind (haul_right.mono s x k) (fun _ => LeO.ite (haul_Check.ck_mono s k l _) (LeO.refl _)))
theorem haul_Check.cr_mono (s : Int → Bool) (k : Nat) : ∀ (l : List Int), LeO (haul_Check.cr k s l) (haul_Check.cr (k + 1) s l)
  | [] => LeO.refl _
  | x :: l => LeO.bind (haul_right.mono s x k) (fun _ => LeO.ite (haul_Check.cr_mono s k l) (LeO.refl _))
def haul_Check.e (c : Bool) : Option Int := some (if c = true then 0 else 3)
def haul_Check.g (k : Nat) (s : Int → Bool) (l : List Int) (b : Bool) : Option Int := if b = true then (haul_Check.cr k s l).bind haul_Check.e else some 3
theorem haul_Check.g_mono (s : Int → Bool) (l : List Int) (b : Bool) (k : Nat) : LeO (haul_Check.g k s l b) (haul_Check.g (k + 1) s l b) := LeO.ite (LeO.bind (haul_Check.cr_mono s k l) (fun _ => LeO.refl _)) (LeO.refl _)
def haul_Check.f (k : Nat) (l0_0 : List (Int)) (l0_1 : List (Int)) : Option Int := if 2000 < l0_0.length then some 2 else if 100 < l0_1.length then some 2 else (haul_objects.f k l0_0).bind fun q => if q.2 = true then (if q.1.all wfK = true then (haul_Check.ck k (setF q.1) 0 l0_0).bind (haul_Check.g k (setF q.1) l0_1) else none) else some 3
theorem haul_Check.mono : ∀ l0_0 l0_1 k, LeO (haul_Check.f k l0_0 l0_1) (haul_Check.f (k + 1) l0_0 l0_1) := fun _ _ k => LeO.ite (LeO.refl _) (LeO.ite (LeO.refl _) (LeO.bind (haul_objects.mono _ _) (fun _ => LeO.ite (LeO.ite (LeO.bind (haul_Check.ck_mono _ k _ _) (fun _ => haul_Check.g_mono _ _ _ k)) (LeO.refl _)) (LeO.refl _))))
set_option maxHeartbeats 4000000 in
set_option maxRecDepth 100000 in
theorem haul_Check.calls (k : Nat) (A0_0 : Option Addr) (c0_0 : Nat) (l0_0 : List (Int)) (A0_1 : Option Addr) (c0_1 : Nat) (l0_1 : List (Int)) (r : Int) (w : World) (hr0_0 : Kd.C (Kd.int .u64) w A0_0 l0_0.length l0_0) (hc0_0 : l0_0.length ≤ c0_0) (hr0_1 : Kd.C (Kd.int .u64) w A0_1 l0_1.length l0_1) (hc0_1 : l0_1.length ≤ c0_1) (h : haul_Check.f k l0_0 l0_1 = some r) :
    Calls Try.prog 57 #[.agg #[.slice A0_0 l0_0.length c0_0, .slice A0_1 l0_1.length c0_1]] w fun e w' => e = .returned (.int .i64 r) ∧ Below w.heap.size w w' := by
  unfold haul_Check.f at h
  have HR0 := Aside0.mk hr0_0
  have HC0 := Aside0.mk hc0_0
  have HR1 := Aside0.mk hr0_1
  have HC1 := Aside0.mk hc0_1
  have HS0 := Aside0.mk (St.nil (Below.refl w.heap.size w))
  clear hr0_0 hc0_0 hr0_1 hc0_1
  by_cases c1 : 2000 < l0_0.length
  · rw [if_pos c1] at h
    obtain rfl := Option.some.inj h
    have hb2 : decide ((2000 : Int) < (l0_0.length : Int)) = true := decide_eq_true (by omega)
    clear c1 h
    go_enter Try.func57, Try.ntmps57
    go_wp2_with (first | ((with_reducible refine gate_dst (N := 1) rfl ?_); (try (refine gate_guard (by rfl) ?_; dsimp only)); refine box_event ?hg (N := 1) ?hd (cs := #[.slice A0_0 l0_0.length c0_0, .slice A0_1 l0_1.length c0_1]) (t := 106) ?hr ?_; (case hd => rfl); (case hg => rfl); (case hr => first | (go_simp; done) | (go_simp; rfl)); intro gh hg_ w1_ hx_ hb_; have HS2_ := Aside0.mk (HS0.out.box hg_ hx_ hb_); have c3_ : w1_.cell? ⟨gh, 0, none⟩ = some (.slice A0_0 l0_0.length c0_0) := (HS2_.out.cell 0 rfl 0).trans rfl; clear hg_ hx_ hb_  HS0))
    go_ret
    exact ⟨rfl, HS2_.out.below⟩
  rw [if_neg c1] at h
  have hb2 : decide ((2000 : Int) < (l0_0.length : Int)) = false := decide_eq_false (by omega)
  have HL0 := Aside0.mk (show l0_0.length ≤ 2000 by omega)
  clear c1
  by_cases c2 : 100 < l0_1.length
  · rw [if_pos c2] at h
    obtain rfl := Option.some.inj h
    have hb3 : decide ((100 : Int) < (l0_1.length : Int)) = true := decide_eq_true (by omega)
    clear c2 h
    go_enter Try.func57, Try.ntmps57
    go_wp2_with (first | ((with_reducible refine gate_dst (N := 1) rfl ?_); (try (refine gate_guard (by rfl) ?_; dsimp only)); refine box_event ?hg (N := 1) ?hd (cs := #[.slice A0_0 l0_0.length c0_0, .slice A0_1 l0_1.length c0_1]) (t := 106) ?hr ?_; (case hd => rfl); (case hg => rfl); (case hr => first | (go_simp; done) | (go_simp; rfl)); intro gh hg_ w4_ hx_ hb_; have HS5_ := Aside0.mk (HS0.out.box hg_ hx_ hb_); have c6_ : w4_.cell? ⟨gh, 0, none⟩ = some (.slice A0_0 l0_0.length c0_0) := (HS5_.out.cell 0 rfl 0).trans rfl; have c7_ : w4_.cell? ⟨gh, 1, none⟩ = some (.slice A0_1 l0_1.length c0_1) := (HS5_.out.cell 0 rfl 1).trans rfl; clear hg_ hx_ hb_  HS0))
    go_ret
    exact ⟨rfl, HS5_.out.below⟩
  rw [if_neg c2] at h
  have hb3 : decide ((100 : Int) < (l0_1.length : Int)) = false := decide_eq_false (by omega)
  have HL1 := Aside0.mk (show l0_1.length ≤ 100 by omega)
  clear c2
  obtain ⟨⟨q1, q2⟩, hq, h⟩ := Option.bind_eq_some_iff.1 h
  have HQ := Aside0.mk hq
  clear hq
  rcases q2 with _ | _
  · obtain rfl := Option.some.inj h
    clear h
    go_enter Try.func57, Try.ntmps57
    go_wp2_with (first | ((with_reducible refine gate_dst (N := 1) rfl ?_); (try (refine gate_guard (by rfl) ?_; dsimp only)); refine box_event ?hg (N := 1) ?hd (cs := #[.slice A0_0 l0_0.length c0_0, .slice A0_1 l0_1.length c0_1]) (t := 106) ?hr ?_; (case hd => rfl); (case hg => rfl); (case hr => first | (go_simp; done) | (go_simp; rfl)); intro gh hg_ w8_ hx_ hb_; have HS9_ := Aside0.mk (HS0.out.box hg_ hx_ hb_); have c10_ : w8_.cell? ⟨gh, 0, none⟩ = some (.slice A0_0 l0_0.length c0_0) := (HS9_.out.cell 0 rfl 0).trans rfl; have c11_ : w8_.cell? ⟨gh, 1, none⟩ = some (.slice A0_1 l0_1.length c0_1) := (HS9_.out.cell 0 rfl 1).trans rfl; clear hg_ hx_ hb_  HS0) | (go_at_call 102; refine (haul_objects.calls k A0_0 c0_0 l0_0 q1 false _ (Kd.C_below HR0.out HS9_.out.below) HC0.out HQ.out).mono ?_; rintro e_ w12_ ⟨v4, rfl, ho_, hb_⟩; obtain ⟨A4, c4, rfl⟩ := Kd.R_slice ho_; have HS13_ := Aside0.mk (HS9_.out.mrow hb_ ho_); clear ho_ hb_; clear c10_ c11_ HS9_))
    go_ret
    exact ⟨rfl, HS13_.out.below⟩
  rw [if_pos rfl] at h
  split at h
  case isFalse => cases h
  rename_i hwf
  have HWF := Aside0.mk hwf
  have HX := Aside0.mk (show (haul_Check.ck k (setF q1) 0 (l0_0.drop (0 : Int).toNat)).bind (haul_Check.g k (setF q1) l0_1) = some r from h)
  clear hwf h
  have hmm := @run_makeMap Try.prog
  go_enter Try.func57, Try.ntmps57
  go_wp2_with (first | ((with_reducible refine gate_dst (N := 1) rfl ?_); (try (refine gate_guard (by rfl) ?_; dsimp only)); refine box_event ?hg (N := 1) ?hd (cs := #[.slice A0_0 l0_0.length c0_0, .slice A0_1 l0_1.length c0_1]) (t := 106) ?hr ?_; (case hd => rfl); (case hg => rfl); (case hr => first | (go_simp; done) | (go_simp; rfl)); intro gh hg_ w14_ hx_ hb_; have HS15_ := Aside0.mk (HS0.out.box hg_ hx_ hb_); have c16_ : w14_.cell? ⟨gh, 0, none⟩ = some (.slice A0_0 l0_0.length c0_0) := (HS15_.out.cell 0 rfl 0).trans rfl; have c17_ : w14_.cell? ⟨gh, 1, none⟩ = some (.slice A0_1 l0_1.length c0_1) := (HS15_.out.cell 0 rfl 1).trans rfl; clear hg_ hx_ hb_  HS0) | (go_at_call 102; refine (haul_objects.calls k A0_0 c0_0 l0_0 q1 true _ (Kd.C_below HR0.out HS15_.out.below) HC0.out HQ.out).mono ?_; rintro e_ w18_ ⟨v4, rfl, ho_, hb_⟩; obtain ⟨A4, c4, rfl⟩ := Kd.R_slice ho_; have HS19_ := Aside0.mk (HS15_.out.mrow hb_ ho_); have c20_ : w18_.cell? ⟨gh, 0, none⟩ = some (.slice A0_0 l0_0.length c0_0) := (HS19_.out.cell 1 rfl 0).trans rfl; clear ho_ hb_; clear c16_ c17_ HS15_))
  clear c20_ hmm
  have HSm := Aside0.mk (HS19_.out.setN Try.prog 3)
  have HN := Aside0.mk (Kd.C_max (Kd.R_reads' (HS19_.out.row 0 rfl)).2.2)
  clear HS19_
  generalize w18_.heap.size = gm at *
  go_loopw [35] (fun v35 wr => ∃ (i : Int) (n : Nat) (s : Int → Bool), v35 = .int .i64 i ∧ Aside0 (0 ≤ i ∧ i ≤ q1.length) ∧ Aside0 (n ≤ i.toNat) ∧ Aside0 (s = setF (q1.take i.toNat)) ∧ Aside0 (St w wr ((setA Try.prog 3 gm n s) :: (rowA w.heap.size (Kd.int .i64) 3 (.slice A4 q1.length c4) q1) :: (blkA gh #[.slice A0_0 l0_0.length c0_0, .slice A0_1 l0_1.length c0_1] 106) :: []))) (fun v35 _ => q1.length - (intOf v35).toNat)
  case atStart => exact ⟨0, 0, _, rfl, ⟨by omega⟩, ⟨by omega⟩, ⟨setF_nil.symm⟩, HSm⟩
  case round =>
    clear HSm
    obtain ⟨i, n, s, rfl, Hi, Hn, Hs, HSr⟩ := hrel
    have hi0 : 0 ≤ i := Hi.out.1
    by_cases hlt : i < (q1.length : Int)
    · have ht : decide (i < (q1.length : Int)) = true := decide_eq_true hlt
      have HW := Aside0.mk (show wrap64 (i + 1) = i + 1 by have := HN.out; unfold wrap64; omega)
      obtain ⟨ad, e, hk⟩ := Kd.at_int (Kd.R_reads' (HSr.out.row 1 rfl)).2.2 i hi0 hlt
      cases e
      have hrd : rd q1 i = q1[i.toNat]'(by omega) := by rw [rd, List.getD_eq_getElem?_getD, List.getElem?_eq_getElem (by omega), Option.getD_some]
      have HS2 := Aside0.mk (show (fun b => decide (b = rd q1 i) || s b) = setF (q1.take (i + 1).toNat) by
        rw [Hs.out, show (i + 1).toNat = i.toNat + 1 by omega, List.take_succ_eq_append_getElem (by omega), hrd]
        exact setF_snoc _ _)
      have HK := Aside0.mk (keyOf_int_mk Try.underlying3 (show (Lit.int .i64 (rd q1 i)).wf = true by
        have h1 := List.all_eq_true.1 HWF.out (rd q1 i) (by rw [hrd]; exact List.getElem_mem _)
        exact h1))
      have HNM := Aside0.mk (show n < maxLen by have := HN.out; have := Hn.out; unfold maxLen; omega)
      have HN2 := Aside0.mk (show n + 1 ≤ (i + 1).toNat by have := Hn.out; omega)
      clear hrd Hn Hs
      generalize rd q1 i = x at *
      obtain ⟨D, ho, hh⟩ := HSr.out.setR 0 rfl
      have HO := Aside0.mk ho
      have HH := Aside0.mk hh
      clear ho hh
      go_wp2_with (first | (at_mapUpdate; refine wpList_mapUpdate_own _ rfl _ _ _ 166 rfl 3 167 haul_right.law Try.underlying166 unitElem gm n D rfl HO.out HNM.out _ _ _ rfl rfl HK.out _ [] unitElem_mk ?_; intro w1 ho_ hg_; have HS1 := Aside0.mk (HSr.out.setW 0 rfl ho_ (holds_put HH.out x _ (haul_right.law.key HK.out)) hg_); clear ho_ hg_))
      go_roundw
      case rel => exact ⟨i + 1, n + 1, _, by first | rw [HW.out] | rfl, ⟨by omega⟩, HN2, HS2, HS1⟩
      case measure => simp only [intOf]; (try rw [HW.out]); omega
    · have ht : decide (i < (q1.length : Int)) = false := decide_eq_false hlt
      obtain rfl : s = setF q1 := by rw [Hs.out, List.take_of_length_le (by omega)]
      have cx_ : wr.cell? ⟨gh, 0, none⟩ = some (.slice A0_0 l0_0.length c0_0) := (HSr.out.cell 2 rfl 0).trans rfl
      generalize setF q1 = s at *
      clear Hs Hn Hi hi0 hlt
      go_wp2
      clear cx_ ht
      rename World => wo
      go_loopw [46] (fun v46 wr => ∃ i : Int, v46 = .int .i64 i ∧ Aside0 (0 ≤ i ∧ i ≤ l0_0.length) ∧ Aside0 ((haul_Check.ck k s i (l0_0.drop i.toNat)).bind (haul_Check.g k s l0_1) = some r) ∧ Aside0 (St w wr ((setA Try.prog 3 gm n s) :: (rowA w.heap.size (Kd.int .i64) 3 (.slice A4 q1.length c4) q1) :: (blkA gh #[.slice A0_0 l0_0.length c0_0, .slice A0_1 l0_1.length c0_1] 106) :: []))) (fun v46 _ => l0_0.length - (intOf v46).toNat)
      case atStart => exact ⟨0, rfl, ⟨by omega⟩, HX, HSr⟩
      case round =>
        clear HSr HX
        obtain ⟨i, rfl, Hi, HX, HSr⟩ := hrel
        have hi0 : 0 ≤ i := Hi.out.1
        obtain ⟨D, ho, hh⟩ := HSr.out.setR 0 rfl
        have HO := Aside0.mk ho
        have HH := Aside0.mk hh
        clear ho hh
        by_cases hlt : i < (l0_0.length : Int)
        · have ht : decide (i < (l0_0.length : Int)) = true := decide_eq_true hlt
          have HW := Aside0.mk (show wrap64 (i + 1) = i + 1 by have := HL0.out; unfold wrap64; omega)
          have HK := Aside0.mk (show (Lit.int .i64 i).wf = true from WalkArith.wf_i64 (by have := HL0.out; omega))
          have hd : l0_0.drop i.toNat = rd l0_0 i :: l0_0.drop (i + 1).toNat := by
            rw [List.drop_eq_getElem_cons (by omega), show (i + 1).toNat = i.toNat + 1 by omega]
            congr 1
            rw [rd, List.getD_eq_getElem?_getD, List.getElem?_eq_getElem (by omega), Option.getD_some]
          have hx := HX.out
          rw [hd, haul_Check.ck] at hx
          clear hd HX
          obtain ⟨ad, e, hk⟩ := Kd.at_int HR0.out i hi0 hlt
          cases e
          generalize rd l0_0 i = x at *
          replace hk := (HSr.out.below.cell (World.block_lt_of_cell? w _ hk)).trans hk
          by_cases cs : s i = true
          · rw [if_pos cs] at hx
            have HX4 := Aside0.mk hx
            clear hx
            go_wp2_with (first | (at_lookup; refine wpList_lookup_own_unit _ rfl _ _ 166 rfl 3 167 haul_right.law Try.underlying166 (haul_right.zero _) gm n D rfl HO.out _ _ rfl (keyOf_int_mk Try.underlying3 HK.out) ?_; rw [HH.out.2 i, cs]))
            go_roundw
            case rel => exact ⟨i + 1, by first | rw [HW.out] | rfl, ⟨by omega⟩, HX4, ⟨HSr.out.alloc _⟩⟩
            case measure => simp only [intOf]; (try rw [HW.out]); omega
          · rw [if_neg cs] at hx
            have cs := Bool.eq_false_iff.2 cs
            obtain ⟨b1, hx1, hx2⟩ := Option.bind_eq_some_iff.1 hx
            obtain ⟨b0, hb0, hx3⟩ := Option.bind_eq_some_iff.1 hx1
            have HB0 := Aside0.mk hb0
            clear hx hx1 hb0
            rcases b0 with _ | _
            · obtain rfl := Option.some.inj hx3
              obtain rfl := Option.some.inj hx2
              clear hx2 hx3
              go_wp2_with (first | (at_lookup; refine wpList_lookup_own_unit _ rfl _ _ 166 rfl 3 167 haul_right.law Try.underlying166 (haul_right.zero _) gm n D rfl HO.out _ _ rfl (keyOf_int_mk Try.underlying3 HK.out) ?_; rw [HH.out.2 i, cs]) | (go_at_call 105; refine (haul_right.walk k x gm n s D false _ (own_at HO.out ((below_alloc (Below.refl _ _) _).block gm (own_lt HO.out))) HH.out HB0.out).mono ?_; rintro e_ w6 ⟨rfl, hb_⟩; have HS6 := Aside0.mk ((HSr.out.alloc _).call hb_); clear hb_))
              go_ret
              exact ⟨rfl, HS6.out.below⟩
            · rw [if_pos rfl] at hx3
              have HX4 := Aside0.mk (show (haul_Check.ck k s (i + 1) (l0_0.drop (i + 1).toNat)).bind (haul_Check.g k s l0_1) = some r by rw [hx3]; exact hx2)
              clear hx2 hx3
              go_wp2_with (first | (at_lookup; refine wpList_lookup_own_unit _ rfl _ _ 166 rfl 3 167 haul_right.law Try.underlying166 (haul_right.zero _) gm n D rfl HO.out _ _ rfl (keyOf_int_mk Try.underlying3 HK.out) ?_; rw [HH.out.2 i, cs]) | (go_at_call 105; refine (haul_right.walk k x gm n s D true _ (own_at HO.out ((below_alloc (Below.refl _ _) _).block gm (own_lt HO.out))) HH.out HB0.out).mono ?_; rintro e_ w6 ⟨rfl, hb_⟩; have HS6 := Aside0.mk ((HSr.out.alloc _).call hb_); clear hb_))
              go_roundw
              case rel => exact ⟨i + 1, by first | rw [HW.out] | rfl, ⟨by omega⟩, HX4, HS6⟩
              case measure => simp only [intOf]; (try rw [HW.out]); omega
        · have ht : decide (i < (l0_0.length : Int)) = false := decide_eq_false hlt
          have hx := HX.out
          rw [List.drop_eq_nil_of_le (by omega)] at hx
          have HX4 := Aside0.mk (show (haul_Check.cr k s (l0_1.drop (0 : Int).toNat)).bind haul_Check.e = some r from hx)
          have cx_ : wr.cell? ⟨gh, 1, none⟩ = some (.slice A0_1 l0_1.length c0_1) := (HSr.out.cell 2 rfl 1).trans rfl
          clear hx HX hlt Hi hi0 HO HH D
          go_wp2
          clear cx_ ht
          rename World => wo2
          go_loopw [69] (fun v69 wr => ∃ i : Int, v69 = .int .i64 i ∧ Aside0 (0 ≤ i ∧ i ≤ l0_1.length) ∧ Aside0 ((haul_Check.cr k s (l0_1.drop i.toNat)).bind haul_Check.e = some r) ∧ Aside0 (St w wr ((setA Try.prog 3 gm n s) :: (rowA w.heap.size (Kd.int .i64) 3 (.slice A4 q1.length c4) q1) :: (blkA gh #[.slice A0_0 l0_0.length c0_0, .slice A0_1 l0_1.length c0_1] 106) :: []))) (fun v69 _ => l0_1.length - (intOf v69).toNat)
          case atStart => exact ⟨0, rfl, ⟨by omega⟩, HX4, HSr⟩
          case round =>
            clear HSr HX4
            obtain ⟨i, rfl, Hi, HX, HSr⟩ := hrel
            have hi0 : 0 ≤ i := Hi.out.1
            obtain ⟨D, ho, hh⟩ := HSr.out.setR 0 rfl
            have HO := Aside0.mk ho
            have HH := Aside0.mk hh
            clear ho hh
            by_cases hlt : i < (l0_1.length : Int)
            · have ht : decide (i < (l0_1.length : Int)) = true := decide_eq_true hlt
              have HW := Aside0.mk (show wrap64 (i + 1) = i + 1 by have := HL1.out; unfold wrap64; omega)
              have hd : l0_1.drop i.toNat = rd l0_1 i :: l0_1.drop (i + 1).toNat := by
                rw [List.drop_eq_getElem_cons (by omega), show (i + 1).toNat = i.toNat + 1 by omega]
                congr 1
                rw [rd, List.getD_eq_getElem?_getD, List.getElem?_eq_getElem (by omega), Option.getD_some]
              have hx := HX.out
              rw [hd, haul_Check.cr] at hx
              clear hd HX
              obtain ⟨ad, e, hk⟩ := Kd.at_int HR1.out i hi0 hlt
              cases e
              generalize rd l0_1 i = x at *
              replace hk := (HSr.out.below.cell (World.block_lt_of_cell? w _ hk)).trans hk
              obtain ⟨b1, hx1, hx2⟩ := Option.bind_eq_some_iff.1 hx
              obtain ⟨b0, hb0, hx3⟩ := Option.bind_eq_some_iff.1 hx1
              have HB0 := Aside0.mk hb0
              clear hx hx1 hb0
              rcases b0 with _ | _
              · obtain rfl := Option.some.inj hx3
                obtain rfl := Option.some.inj hx2
                clear hx2 hx3
                go_wp2_with (first | (go_at_call 105; refine (haul_right.walk k x gm n s D false _ HO.out HH.out HB0.out).mono ?_; rintro e_ w6 ⟨rfl, hb_⟩; have HS6 := Aside0.mk (HSr.out.call hb_); clear hb_))
                go_ret
                exact ⟨rfl, HS6.out.below⟩
              · rw [if_pos rfl] at hx3
                have HX4 := Aside0.mk (show (haul_Check.cr k s (l0_1.drop (i + 1).toNat)).bind haul_Check.e = some r by rw [hx3]; exact hx2)
                clear hx2 hx3
                go_wp2_with (first | (go_at_call 105; refine (haul_right.walk k x gm n s D true _ HO.out HH.out HB0.out).mono ?_; rintro e_ w6 ⟨rfl, hb_⟩; have HS6 := Aside0.mk (HSr.out.call hb_); clear hb_))
                go_roundw
                case rel => exact ⟨i + 1, by first | rw [HW.out] | rfl, ⟨by omega⟩, HX4, HS6⟩
                case measure => simp only [intOf]; (try rw [HW.out]); omega
            · have ht : decide (i < (l0_1.length : Int)) = false := decide_eq_false hlt
              have hx := HX.out
              rw [List.drop_eq_nil_of_le (by omega)] at hx
              obtain rfl := Option.some.inj hx
              clear hx HX
              go_wp2
              go_ret
              exact ⟨rfl, HSr.out.below⟩
end

/-! ### haul_collector_moved: function 103 -/
section
open Go.Maps Go.Proofs.YtlojkphocbbjdaaW.Sep Go.Proofs.YtlojkphocbbjdaaW.Mapw Go.Proofs.YtlojkphocbbjdaaW.Reg
def haul_collector_moved.T9 : Bool × List (List Nat × List Nat) := (true, [([], []), ([], []), ([1], [1]), ([2], [2]), ([3], [3]), ([], []), ([5], [5]), ([6], [6]), ([7], [7]), ([], []), ([], []), ([10], [10]), ([], []), ([12], [12]), ([13], [13]), ([14], [14]), ([], []), ([15, 16], [15, 16]), ([17], [17]), ([18], [18]), ([11, 19], [11, 19]), ([8, 9, 20], [8, 9, 20]), ([4, 21, 19], [4, 21]), ([0, 0, 1, 2, 3, 4, 5, 6, 7, 8, 9, 10, 11, 12, 13, 14, 15, 16, 17, 18, 19, 20, 21, 22], [0]), ([23, 0, 1, 2, 3, 4, 5, 6, 7, 8, 9, 10, 11, 12, 13, 14, 15, 16, 17, 18, 19, 20, 21, 22], [23]), ([24, 22, 22, 0, 1, 2, 3, 4, 5, 6, 7, 8, 9, 10, 11, 12, 13, 14, 15, 16, 17, 18, 19, 20, 21, 22], [22, 24])])
def haul_collector_moved.B9 : List Nat := [0, 0, 2, 6, 14, 0, 32, 96, 224, 0, 0, 1024, 0, 4096, 12288, 28672, 0, 126976, 258048, 520192, 1047552, 2097120, 4194302, 8388607, 16777215, 33554431]
theorem haul_collector_moved.tab9 : rtab .any (opsOf Try.f103 9) = haul_collector_moved.T9 := by kernel_rfl
theorem haul_collector_moved.bits9 : waitsOk haul_collector_moved.T9.2 haul_collector_moved.B9 = true := by kernel_rfl
theorem haul_collector_moved.zero (w : World) : (zeroValue 3).run Try.prog w = .ok (.int .i64 0) w := by kernel_rfl
theorem haul_collector_moved.long (a r : Int) (w : World) (h : haul_long.f a = some r) : Calls Try.prog 104 #[.int .u64 a] w fun e w' => e = .returned (.int .i64 r) ∧ Below w.heap.size w w' := (haul_long.calls a r w h).mono fun _ _ h => ⟨h.1, h.2.below⟩
def haul_collector_moved.f (k : Nat) (fr tos : List Int) (told : List S71) (f : Int → Option Int) (x : Int) : Option (Int × List Int × List S71 × (Int → Option Int)) :=
  (haul_place.f k x).bind fun p => if p.2 = true then (if (Lit.int .i64 p.1).wf = true then (match f p.1 with
    | some t => (nanbox_Box.f k 5 t).bind fun b => some (b.1, tos, told, f)
    | none => if 0 ≤ p.1 ∧ p.1 < (fr.length : Int) ∧ p.1 + 1 + rd fr p.1 % 4294967296 ≤ (fr.length : Int) ∧ tos.length + fr.length < 17592186044416 ∧ told.length < 4398046511104 then
        (nanbox_Box.f k 5 tos.length).bind fun b => some (b.1, tos ++ (fr.take (p.1 + 1 + rd fr p.1 % 4294967296).toNat).drop p.1.toNat, told ++ [⟨tos.length, p.1⟩], fun a => if a = p.1 then some (tos.length : Int) else f a) else none) else none) else some (x, tos, told, f)
theorem haul_collector_moved.mono (fr tos : List Int) (told : List S71) (f : Int → Option Int) (x : Int) (k : Nat) : LeO (haul_collector_moved.f k fr tos told f x) (haul_collector_moved.f (k + 1) fr tos told f x) := by
  unfold haul_collector_moved.f
  refine LeO.bind (haul_place.mono _ _) (fun p => LeO.ite (LeO.ite ?_ (LeO.refl _)) (LeO.refl _))
  split
  · exact LeO.bind (nanbox_Box.mono _ _ _) (fun _ => LeO.refl _)
  · exact LeO.ite (LeO.bind (nanbox_Box.mono _ _ _) (fun _ => LeO.refl _)) (LeO.refl _)
set_option maxHeartbeats 8000000 in
set_option maxRecDepth 100000 in
theorem haul_collector_moved.walk (k : Nat) (w0 w : World) (L : List Asn) (g gm : Nat) (Af : Option Addr) (cf : Nat) (fr : List Int) (At : Option Addr) (ct : Nat) (tos : List Int) (Ad : Option Addr) (cd : Nat) (told : List S71) (n : Nat) (f : Int → Option Int) (x r : Int) (tos' : List Int) (told' : List S71) (f' : Int → Option Int)
    (hf : Kd.C (Kd.int .u64) w0 Af fr.length fr) (hfc : fr.length ≤ cf) (hn : n ≤ told.length) (hS : St w0 w ((blkA g #[.slice Af fr.length cf, .slice At tos.length ct, .map (some gm), .slice Ad told.length cd] 164) :: (rowA w0.heap.size (Kd.int .u64) 46 (.slice At tos.length ct) tos) :: (rowA w0.heap.size k71 71 (.slice Ad told.length cd) told) :: (mapA Try.prog 3 3 gm n f) :: L)) (h : haul_collector_moved.f k fr tos told f x = some (r, tos', told', f')) :
    Calls Try.prog 103 #[.pointer (some ⟨g, 0, none⟩), .int .u64 x] w fun e w' => e = .returned (.int .u64 r) ∧ ∃ (At' : Option Addr) (ct' : Nat) (Ad' : Option Addr) (cd' n' : Nat), n' ≤ told'.length ∧ St w0 w' ((blkA g #[.slice Af fr.length cf, .slice At' tos'.length ct', .map (some gm), .slice Ad' told'.length cd'] 164) :: (rowA w0.heap.size (Kd.int .u64) 46 (.slice At' tos'.length ct') tos') :: (rowA w0.heap.size k71 71 (.slice Ad' told'.length cd') told') :: (mapA Try.prog 3 3 gm n' f') :: L) := by
  have HR := Aside0.mk hf
  have HC := Aside0.mk hfc
  have HN := Aside0.mk hn
  have HS0 := Aside0.mk hS
  clear hf hfc hn hS
  unfold haul_collector_moved.f at h
  obtain ⟨⟨p1, p2⟩, hp, h⟩ := Option.bind_eq_some_iff.1 h
  have HP := Aside0.mk hp
  clear hp
  rcases p2 with _ | _
  · simp only [Bool.false_eq_true, if_false, Option.some.injEq, Prod.mk.injEq] at h
    obtain ⟨rfl, rfl, rfl, rfl⟩ := h
    go_enter Try.func103, Try.ntmps103
    go_wp2_with (first | (go_at_call 144; refine (haul_place.calls k x p1 false _ HP.out).mono ?_; rintro e_ w21_ ⟨rfl, hb_⟩; have HS22_ := Aside0.mk (HS0.out.call hb_); clear hb_; clear HS0))
    go_ret
    exact ⟨rfl, _, _, _, _, _, HN.out, HS22_.out⟩
  simp only [if_true] at h
  split at h
  case isFalse => cases h
  rename_i hwf
  have HWF := Aside0.mk hwf
  clear hwf
  split at h
  · rename_i t hft
    have HF := Aside0.mk hft
    clear hft
    obtain ⟨⟨b1, b2⟩, hbx, h⟩ := Option.bind_eq_some_iff.1 h
    have HBX := Aside0.mk hbx
    simp only [Option.some.injEq, Prod.mk.injEq] at h
    obtain ⟨rfl, rfl, rfl, rfl⟩ := h
    clear hbx
    go_enter Try.func103, Try.ntmps103
    go_wp2_with (first | (go_at_call 144; refine (haul_place.calls k x p1 true _ HP.out).mono ?_; rintro e_ w23_ ⟨rfl, hb_⟩; have HS24_ := Aside0.mk (HS0.out.call hb_); have c25_ : w23_.cell? ⟨g, 2, none⟩ = some (.map (some gm)) := (HS24_.out.cell 0 rfl 2).trans rfl; clear hb_; clear HS0; obtain ⟨D, ho_, hrd_⟩ := HS24_.out.mapR 3 rfl; have HO := Aside0.mk ho_; have HRD := Aside0.mk hrd_; clear ho_ hrd_) | (at_lookup; refine wpList_lookup_own_ok_int _ rfl _ _ 162 rfl 3 3 .i64 haul_right.law Try.underlying162 Try.underlying3 (haul_collector_moved.zero _) gm n D rfl HO.out _ _ rfl (keyOf_int_mk Try.underlying3 HWF.out) ?_; intro c hat hwc; obtain rfl : t = c := by { have h1 := hat.symm.trans ((HRD.out.2 p1).2 t HF.out _); injection h1 with h2; injection h2 with _ h3; exact h3.symm }; rw [show Go.Maps.has D (.int .i64 p1) = true by rw [(HRD.out.2 p1).1, HF.out]; rfl]; clear hat hwc) | (go_at_call 22; refine (nanbox_Box.calls k 5 t b1 b2 _ HBX.out).mono ?_; rintro e_ w26_ ⟨rfl, hb_⟩; have HS27_ := Aside0.mk (HS24_.out.call hb_); clear hb_; clear c25_ HS24_))
    go_ret
    exact ⟨rfl, _, _, _, _, _, HN.out, HS27_.out⟩
  rename_i hft
  have HF := Aside0.mk hft
  clear hft
  split at h
  case isFalse => cases h
  rename_i hcs
  obtain ⟨h0, h1, h2, h3, h4⟩ := hcs
  obtain ⟨⟨b1, b2⟩, hbx, h⟩ := Option.bind_eq_some_iff.1 h
  have HBX := Aside0.mk hbx
  clear hbx
  obtain ⟨adf, e, hy⟩ := Kd.at_int HR.out p1 h0 h1
  cases e
  generalize rd fr p1 = y at *
  have HY := Aside0.mk hy
  have HLY := Aside0.mk (show haul_long.f y = some (y % 4294967296) from rfl)
  have hly0 : 0 ≤ y % 4294967296 := Int.emod_nonneg _ (by decide)
  generalize y % 4294967296 = ly at *
  have hmx := Kd.C_max HR.out
  have hW1 : wrap64 (p1 + 1) = p1 + 1 := by unfold wrap64; omega
  have hW2 : wrap64 (p1 + 1 + ly) = p1 + 1 + ly := by unfold wrap64; omega
  obtain ⟨cl, hcl⟩ : ∃ cl, cl = (fr.take (p1 + 1 + ly).toNat).drop p1.toNat := ⟨_, rfl⟩
  have hclen : cl.length = (p1 + 1 + ly).toNat - p1.toNat := by rw [hcl, List.length_drop, List.length_take]; omega
  obtain ⟨B, hB⟩ : ∃ B : Option Addr, B = if cf = p1.toNat then some adf else (some adf).map (·.add (p1.toNat * 1)) := ⟨_, rfl⟩
  obtain ⟨cc, hcc⟩ : ∃ cc : Nat, cc = cf - p1.toNat := ⟨_, rfl⟩
  have HCL := Aside0.mk (show Kd.C (Kd.int .u64) w0 B cl.length cl by
    rw [hB, hcl]
    exact Kd.C_mid HR.out (by omega) (by omega) HC.out)
  obtain ⟨i0, hi, hz⟩ := Option.map_eq_some_iff.1 info46
  have hz1 : i0.size = 1 := by simpa using (Prod.mk.inj (Prod.mk.inj hz).2).1
  have hsl : ∀ W : World, (Instr.slice 74 (.slice (some adf) fr.length cf) (some (.int .i64 p1)) (some (.int .i64 (wrap64 (wrap64 (p1 + 1) + ly)))) none).run Try.prog W = .ok (.slice B cl.length cc) W := fun W => by
    rw [hW1, hW2, cut_mid 74 46 .i64 .i64 Try.underlying74 hi 1 hz1 (some adf) fr.length cf p1 (p1 + 1 + ly) h0 (by omega) (by omega) HC.out W, hclen, hB, hcc]
  have HLL := Aside0.mk (show tos.length + cl.length < 17592186044416 by omega)
  have HLT := Aside0.mk h4
  have HWT := Aside0.mk (show (Lit.int .i64 (tos.length : Int)).wf = true from WalkArith.wf_i64 (by omega))
  have HNM := Aside0.mk (show n < maxLen by have := HN.out; unfold maxLen; omega)
  obtain ⟨tos2, ht2⟩ : ∃ z, z = tos ++ cl := ⟨_, rfl⟩
  have HT2 := Aside0.mk ht2
  rw [← hcl, ← ht2] at h
  clear ht2
  simp only [Option.some.injEq, Prod.mk.injEq] at h
  obtain ⟨rfl, rfl, rfl, rfl⟩ := h
  clear hi hz hz1 i0 hcc hB hclen hcl hW1 hW2 hly0 hy h2 h3 h4
  go_enter Try.func103, Try.ntmps103
  go_wp2_with (first | (go_at_call 144; refine (haul_place.calls k x p1 true _ HP.out).mono ?_; rintro e_ w28_ ⟨rfl, hb_⟩; have HS29_ := Aside0.mk (HS0.out.call hb_); have c30_ : w28_.cell? ⟨g, 2, none⟩ = some (.map (some gm)) := (HS29_.out.cell 0 rfl 2).trans rfl; have c31_ : w28_.cell? ⟨g, 1, none⟩ = some (.slice At tos.length ct) := (HS29_.out.cell 0 rfl 1).trans rfl; clear hb_; clear HS0; obtain ⟨D, ho_, hrd_⟩ := HS29_.out.mapR 3 rfl; have HO := Aside0.mk ho_; have HRD := Aside0.mk hrd_; clear ho_ hrd_) | (at_lookup; refine wpList_lookup_own_ok_int _ rfl _ _ 162 rfl 3 3 .i64 haul_right.law Try.underlying162 Try.underlying3 (haul_collector_moved.zero _) gm n D rfl HO.out _ _ rfl (keyOf_int_mk Try.underlying3 HWF.out) ?_; intro c hat hwc; rw [show Go.Maps.has D (.int .i64 p1) = false by rw [(HRD.out.2 p1).1, HF.out]; rfl]; clear hat hwc) | (at_mapUpdate; refine wpList_mapUpdate_own _ rfl _ _ _ 162 rfl 3 3 haul_right.law Try.underlying162 (plainElem Try.prog 3) gm n D rfl HO.out HNM.out _ _ _ rfl rfl (keyOf_int_mk Try.underlying3 HWF.out) _ [] (plainElem_int Try.underlying3 HWT.out) ?_; intro w32_ ho_ hg_; have HS33_ := Aside0.mk (HS29_.out.mapW 3 rfl ho_ (reads_put HRD.out p1 (tos.length : Int) (haul_right.law.key (keyOf_int_mk Try.underlying3 HWF.out))) hg_); have c34_ : w32_.cell? ⟨g, 3, none⟩ = some (.slice Ad told.length cd) := (HS33_.out.cell 0 rfl 3).trans rfl; have f35_ : w32_.frozen? ⟨g, 3, none⟩ = false := HS33_.out.frz 0 rfl 3; clear ho_ hg_ HO HRD HS29_ c30_ c31_) | ((with_reducible refine gate_builtin (b := .append) (xs := #[.tmp 45, .tmp 49]) rfl ?_); (try (refine gate_guard (by rfl) ?_; dsimp only)); at_builtin; obtain ⟨ok_, hf_, hr_, hs_⟩ := (HS33_.out).app 2 rfl; refine Kd.R_append k71 (w0 := w0) w0.heap.size rfl (.tmp 45) (.tmp 49) 65 71 (.agg #[.int .i64 0, .int .i64 0]) 16 rfl Try.underlying65 info71 rfl (by decide) (by omega) (.slice Ad told.length cd) told ((⟨(tos.length : Int), p1⟩ : S71)) [.int .i64 (tos.length : Int), .int .i64 p1] ok_ (fun _ => False) rfl rfl (k71_mkM _ _ _ _) (fun _ hk => hk.elim) hf_ hr_ (HS33_.out).below (HS33_.out).size ?aL ?_; (case aL => have := HLT.out; omega); intro Ap38_ w36_ ho_ hb_ hg_ hat_; have HS37_ := Aside0.mk (hs_ _ _ _ ho_ hb_ hg_); have hN_ := Kd.R_slice ho_; obtain ⟨A39_, c41_, rfl⟩ := hN_; have c42_ : w36_.cell? ⟨g, 3, none⟩ = some (.slice Ad told.length cd) := (HS37_.out.cell 0 rfl 3).trans rfl; clear ho_ hb_ hg_ hat_ hf_ hr_ hs_ c34_ f35_ HS33_; have f43_ : w36_.frozen? ⟨g, 3, none⟩ = false := HS37_.out.frz 0 rfl 3) | ((with_reducible refine gate_store (t := 65) (p := 52) rfl ?_); refine store_event (t := 65) (p := 52) (v := .tmp 50) (w1 := (w36_.setCell ⟨g, 3, none⟩ (.slice A39_ (told ++ [(⟨(tos.length : Int), p1⟩ : S71)]).length c41_))) ?hg ?ho ?hn ?hr ?_; (case ho => rfl); (case hg => rfl); (case hn => rfl); (case hr => first | (go_simp; done) | (go_simp; rfl)); intro w44_ hw_; have HS45_ : Aside0 (St w0 w44_ ((blkA g #[.slice (some adf) fr.length cf, .slice At tos.length ct, .map (some gm), .slice A39_ (told ++ [(⟨(tos.length : Int), p1⟩ : S71)]).length c41_] 164) :: (rowA w0.heap.size (Kd.int .u64) 46 (.slice At tos.length ct) tos) :: (rowA w0.heap.size k71 71 (.slice A39_ (told ++ [(⟨(tos.length : Int), p1⟩ : S71)]).length c41_) (told ++ [(⟨(tos.length : Int), p1⟩ : S71)])) :: (mapA Try.prog 3 3 gm (n + 1) (fun a => if a = p1 then some (tos.length : Int) else f a)) :: L)) := ⟨by rw [hw_]; exact (HS37_.out.put 0 rfl 3 (.slice A39_ (told ++ [(⟨(tos.length : Int), p1⟩ : S71)]).length c41_) rfl)⟩; clear hw_ c42_ f43_ HS37_))
  refine std_ [22, 25] (fun w' => St w0 w' ((blkA g #[.slice (some adf) fr.length cf, .slice At tos.length ct, .map (some gm), .slice A39_ (told ++ [(⟨(tos.length : Int), p1⟩ : S71)]).length c41_] 164) :: (rowA w0.heap.size (Kd.int .u64) 46 (.slice At tos.length ct) tos) :: (rowA w0.heap.size k71 71 (.slice A39_ (told ++ [(⟨(tos.length : Int), p1⟩ : S71)]).length c41_) (told ++ [(⟨(tos.length : Int), p1⟩ : S71)])) :: (mapA Try.prog 3 3 gm (n + 1) (fun a => if a = p1 then some (tos.length : Int) else f a)) :: L)) haul_collector_moved.tab9 haul_collector_moved.bits9 HS45_.out.drew (fun HT_ HW_ hHeld => ?_)
  clear HS45_
  generalize w44_.drew = w46_ at hHeld ⊢
  have HS47_ := Aside0.mk (show St w0 w46_ ((blkA g #[.slice (some adf) fr.length cf, .slice At tos.length ct, .map (some gm), .slice A39_ (told ++ [(⟨(tos.length : Int), p1⟩ : S71)]).length c41_] 164) :: (rowA w0.heap.size (Kd.int .u64) 46 (.slice At tos.length ct) tos) :: (rowA w0.heap.size k71 71 (.slice A39_ (told ++ [(⟨(tos.length : Int), p1⟩ : S71)]).length c41_) (told ++ [(⟨(tos.length : Int), p1⟩ : S71)])) :: (mapA Try.prog 3 3 gm (n + 1) (fun a => if a = p1 then some (tos.length : Int) else f a)) :: L) from hHeld)
  refine pu_ (v := ?_) (a' := ?_) HT_.out 0 (some 53) ?_ ?_ ?_; rotate_left 2; (intro w'; go_simp; with_reducible rfl); (simp only [Act.put, List.setIfInBounds_toArray, List.set_cons_zero, List.set_cons_succ, i64_w, i32_w]; rfl)
  refine pu_ (v := ?_) (a' := ?_) HT_.out 1 (some 54) ?_ ?_ ?_; rotate_left 2; (intro w'; go_simp; with_reducible rfl); (simp only [Act.put, List.setIfInBounds_toArray, List.set_cons_zero, List.set_cons_succ, i64_w, i32_w]; rfl)
  refine pu_ (v := ?_) (a' := ?_) HT_.out 2 (some 55) ?_ ?_ ?_; rotate_left 2; (intro w'; go_simp; with_reducible rfl); (simp only [Act.put, List.setIfInBounds_toArray, List.set_cons_zero, List.set_cons_succ, i64_w, i32_w]; rfl)
  refine pu_ (v := ?_) (a' := ?_) HT_.out 3 (some 56) ?_ ?_ ?_; rotate_left 2; (intro w'; go_simp; with_reducible rfl); (simp only [Act.put, List.setIfInBounds_toArray, List.set_cons_zero, List.set_cons_succ, i64_w, i32_w]; rfl)
  refine pu_ (v := ?_) (a' := ?_) HT_.out 5 (some 58) ?_ ?_ ?_; rotate_left 2; (intro w'; go_simp; with_reducible rfl); (simp only [Act.put, List.setIfInBounds_toArray, List.set_cons_zero, List.set_cons_succ, i64_w, i32_w]; rfl)
  refine pu_ (v := ?_) (a' := ?_) HT_.out 6 (some 59) ?_ ?_ ?_; rotate_left 2; (intro w'; go_simp; with_reducible rfl); (simp only [Act.put, List.setIfInBounds_toArray, List.set_cons_zero, List.set_cons_succ, i64_w, i32_w]; rfl)
  refine pu_ (v := ?_) (a' := ?_) HT_.out 7 (some 60) ?_ ?_ ?_; rotate_left 2; (intro w'; go_simp; with_reducible rfl); (simp only [Act.put, List.setIfInBounds_toArray, List.set_cons_zero, List.set_cons_succ, i64_w, i32_w]; rfl)
  refine pu_ (v := ?_) (a' := ?_) HT_.out 9 (some 62) ?_ ?_ ?_; rotate_left 2; (intro w'; go_simp; with_reducible rfl); (simp only [Act.put, List.setIfInBounds_toArray, List.set_cons_zero, List.set_cons_succ, i64_w, i32_w]; rfl)
  refine pu_ (v := ?_) (a' := ?_) HT_.out 10 (some 63) ?_ ?_ ?_; rotate_left 2; (intro w'; go_simp; with_reducible rfl); (simp only [Act.put, List.setIfInBounds_toArray, List.set_cons_zero, List.set_cons_succ, i64_w, i32_w]; rfl)
  refine pu_ (v := ?_) (a' := ?_) HT_.out 11 (some 64) ?_ ?_ ?_; rotate_left 2; (intro w'; go_simp; with_reducible rfl); (simp only [Act.put, List.setIfInBounds_toArray, List.set_cons_zero, List.set_cons_succ, i64_w, i32_w]; rfl)
  refine pu_ (v := ?_) (a' := ?_) HT_.out 12 (some 65) ?_ ?_ ?_; rotate_left 2; (intro w'; go_simp; with_reducible rfl); (simp only [Act.put, List.setIfInBounds_toArray, List.set_cons_zero, List.set_cons_succ, i64_w, i32_w]; rfl)
  refine pu_ (v := ?_) (a' := ?_) HT_.out 13 (some 66) ?_ ?_ ?_; rotate_left 2; (intro w'; go_simp; with_reducible rfl); (simp only [Act.put, List.setIfInBounds_toArray, List.set_cons_zero, List.set_cons_succ, i64_w, i32_w]; rfl)
  refine pu_ (v := ?_) (a' := ?_) HT_.out 14 (some 67) ?_ ?_ ?_; rotate_left 2; (intro w'; go_simp; with_reducible rfl); (simp only [Act.put, List.setIfInBounds_toArray, List.set_cons_zero, List.set_cons_succ, i64_w, i32_w]; rfl)
  refine pu_ (v := ?_) (a' := ?_) HT_.out 16 (some 69) ?_ ?_ ?_; rotate_left 2; (intro w'; go_simp; with_reducible rfl); (simp only [Act.put, List.setIfInBounds_toArray, List.set_cons_zero, List.set_cons_succ, i64_w, i32_w]; rfl)
  refine tk_ (v := ?_) (a' := ?_) HT_.out HW_.out hHeld 4 (some 57) ?_ ?_ ?_; rotate_left 2; (intro w' hS; have s0 : w'.cell? ⟨g, 1, none⟩ = some _ := hS.cell 0 rfl 1; go_simp; with_reducible rfl); (simp only [Act.put, List.setIfInBounds_toArray, List.set_cons_zero, List.set_cons_succ, i64_w, i32_w]; rfl)
  refine tk_ (v := ?_) (a' := ?_) HT_.out HW_.out hHeld 8 (some 61) ?_ ?_ ?_; rotate_left 2; (intro w' hS; have s0 : w'.cell? ⟨g, 0, none⟩ = some _ := hS.cell 0 rfl 0; go_simp; with_reducible rfl); (simp only [Act.put, List.setIfInBounds_toArray, List.set_cons_zero, List.set_cons_succ, i64_w, i32_w]; rfl)
  refine tk_ (v := ?_) (a' := ?_) HT_.out HW_.out hHeld 15 (some 68) ?_ ?_ ?_; rotate_left 2; (intro w' hS; have s0 : w'.cell? ⟨g, 0, none⟩ = some _ := hS.cell 0 rfl 0; go_simp; with_reducible rfl); (simp only [Act.put, List.setIfInBounds_toArray, List.set_cons_zero, List.set_cons_succ, i64_w, i32_w]; rfl)
  refine pu_ (v := ?_) (a' := ?_) HT_.out 17 (some 70) ?_ ?_ ?_; rotate_left 2; (intro w'; go_simp; with_reducible rfl); (simp only [Act.put, List.setIfInBounds_toArray, List.set_cons_zero, List.set_cons_succ, i64_w, i32_w]; rfl)
  refine tk_ (v := ?_) (a' := ?_) HT_.out HW_.out hHeld 18 (some 71) ?_ ?_ ?_; rotate_left 2; (intro w' hS; have s0 : w'.cell? (adf.add p1.toNat) = some (.int .u64 y) := (hS.below.cell (World.block_lt_of_cell? w0 _ HY.out)).trans HY.out; go_simp; with_reducible rfl); (simp only [Act.put, List.setIfInBounds_toArray, List.set_cons_zero, List.set_cons_succ, i64_w, i32_w]; rfl)
  refine on_ HT_.out 19 (some 72) (fun K hK => ?_)
  refine goes_ Try.func104 (by kernel_rfl) rfl #[.int .u64 y] (by rfl) rfl rfl (by simp only [List.map_toArray, List.map_cons, List.map_nil]; rfl) ?_
  with_reducible refine (haul_collector_moved.long y ly _ HLY.out).mono ?_
  rintro e_ w48_ ⟨rfl, hb_⟩
  refine ⟨_, rfl, ?_⟩
  have HS49_ := Aside0.mk (HS47_.out.call hb_)
  clear hb_ HS47_ hHeld
  refine hK.out _ _ (HS49_.out) (fun hHeld => ?_)
  clear hK K
  refine norm_ (a' := ?_) ?_ ?_; rotate_left; (show Act.put _ (some 72) _ = _; simp only [Act.put, List.setIfInBounds_toArray, List.set_cons_zero, List.set_cons_succ, i64_w, i32_w]; rfl)
  refine pu_ (v := ?_) (a' := ?_) HT_.out 20 (some 73) ?_ ?_ ?_; rotate_left 2; (intro w'; go_simp; with_reducible rfl); (simp only [Act.put, List.setIfInBounds_toArray, List.set_cons_zero, List.set_cons_succ, i64_w, i32_w]; rfl)
  refine pu_ (v := ?_) (a' := ?_) HT_.out 21 (some 74) ?_ ?_ ?_; rotate_left 2; (intro w'; go_simp; with_reducible rfl); (simp only [Act.put, List.setIfInBounds_toArray, List.set_cons_zero, List.set_cons_succ, i64_w, i32_w]; rfl)
  refine la_ HT_.out 22 (some 75) (fun K hK => ?_)
  (obtain ⟨ok_, hf_, hr_, hs_⟩ := (HS49_.out).app 1 rfl; refine Kd.R_append_rows_step (Kd.int .u64) (Rr := (Kd.int .u64).K w48_) (w0 := w0) w0.heap.size rfl (.tmp 57) (.tmp 74) 74 46 (.int .u64 0) 8 rfl Try.underlying74 info46 rfl (by decide) (by omega) (.slice At tos.length ct) tos cl B cl.length cc ok_ (fun _ => False) rfl rfl hr_ ?aR ?aM (fun _ hk => hk.elim) hf_ (HS49_.out).below (HS49_.out).size ?aL ?_; (case aR => exact Kd.C_below HCL.out HS49_.out.below); (case aM => exact fun x cs h => h); (case aL => have := HLL.out; omega); intro Ap54_ w52_ ho_ hb_ hg_ hat_; have HS53_ := Aside0.mk (hs_ _ _ _ ho_ hb_ hg_); have hN_ := Kd.R_slice ho_; obtain ⟨A55_, c57_, rfl⟩ := hN_; clear ho_ hb_ hg_ hat_ hf_ hr_ hs_  HS49_)
  have HS58_ : Aside0 (St w0 w52_ ((blkA g #[.slice (some adf) fr.length cf, .slice At tos.length ct, .map (some gm), .slice A39_ (told ++ [(⟨(tos.length : Int), p1⟩ : S71)]).length c41_] 164) :: (rowA w0.heap.size (Kd.int .u64) 46 (.slice A55_ tos2.length c57_) tos2) :: (rowA w0.heap.size k71 71 (.slice A39_ (told ++ [(⟨(tos.length : Int), p1⟩ : S71)]).length c41_) (told ++ [(⟨(tos.length : Int), p1⟩ : S71)])) :: (mapA Try.prog 3 3 gm (n + 1) (fun a => if a = p1 then some (tos.length : Int) else f a)) :: L)) := ⟨by rw [HT2.out]; exact HS53_.out⟩; clear HS53_; rw [← HT2.out]
  have c59_ : w52_.cell? ⟨g, 1, none⟩ = some (.slice At tos.length ct) := (HS58_.out.cell 0 rfl 1).trans rfl
  have f60_ : w52_.frozen? ⟨g, 1, none⟩ = false := HS58_.out.frz 0 rfl 1
  refine hK.out _ _ ?_
  clear hK K
  refine norm_ (a' := ?_) ?_ ?_; rotate_left; (show Act.put _ (some 75) _ = _; simp only [Act.put, List.setIfInBounds_toArray, List.set_cons_zero, List.set_cons_succ, i64_w, i32_w]; rfl)
  refine pu_ (v := ?_) (a' := ?_) HT_.out 23 (some 76) ?_ ?_ ?_; rotate_left 2; (intro w'; go_simp; with_reducible rfl); (simp only [Act.put, List.setIfInBounds_toArray, List.set_cons_zero, List.set_cons_succ, i64_w, i32_w]; rfl)
  refine pu_ (v := ?_) (a' := ?_) HT_.out 24 (some 77) ?_ ?_ ?_; rotate_left 2; (intro w'; go_simp; with_reducible rfl); (simp only [Act.put, List.setIfInBounds_toArray, List.set_cons_zero, List.set_cons_succ, i64_w, i32_w]; rfl)
  refine la_ HT_.out 25 none (fun K hK => ?_)
  refine skip_ (w1 := ?_) (by rfl) rfl ?_ ?_; rotate_left; (go_simp; rfl)
  have HS63_ : Aside0 (St w0 (w52_.setCell ⟨g, 1, none⟩ (.slice A55_ tos2.length c57_)) ((blkA g #[.slice (some adf) fr.length cf, .slice A55_ tos2.length c57_, .map (some gm), .slice A39_ (told ++ [(⟨(tos.length : Int), p1⟩ : S71)]).length c41_] 164) :: (rowA w0.heap.size (Kd.int .u64) 46 (.slice A55_ tos2.length c57_) tos2) :: (rowA w0.heap.size k71 71 (.slice A39_ (told ++ [(⟨(tos.length : Int), p1⟩ : S71)]).length c41_) (told ++ [(⟨(tos.length : Int), p1⟩ : S71)])) :: (mapA Try.prog 3 3 gm (n + 1) (fun a => if a = p1 then some (tos.length : Int) else f a)) :: L)) := ⟨HS58_.out.put 0 rfl 1 (.slice A55_ tos2.length c57_) rfl⟩
  clear HS58_ c59_ f60_
  refine hK.out _ _ ?_
  clear hK K
  refine dn_ HT_.out ?_
  clear HT_ HW_
  go_wp2_with (first | (go_at_call 22; refine (nanbox_Box.calls k 5 tos.length b1 b2 _ HBX.out).mono ?_; rintro e_ w64_ ⟨rfl, hb_⟩; have HS65_ := Aside0.mk (HS63_.out.call hb_); clear hb_; clear HS63_))
  go_ret
  exact ⟨rfl, _, _, _, _, n + 1, by have := HN.out; simp; omega, HS65_.out⟩
end

/-! ### haul_Collect: function 56 -/
section
open Go.Maps Go.Proofs.YtlojkphocbbjdaaW.Sep Go.Proofs.YtlojkphocbbjdaaW.Mapw Go.Proofs.YtlojkphocbbjdaaW.Reg
def haul_Collect.T20 : Bool × List (List Nat × List Nat) := (true, [([], []), ([0], [0]), ([1], [1]), ([2], [2]), ([], []), ([3, 4], [3, 4]), ([], []), ([6], [6]), ([7], [7]), ([8], [8]), ([5, 0, 1, 2, 3, 4, 5], [5]), ([9, 10, 0, 1, 2, 3, 4, 5, 6, 7, 8, 9, 10], [9]), ([11, 0, 1, 2, 3, 4, 5, 6, 7, 8, 9, 10, 11], [])])
def haul_Collect.B20 : List Nat := [0, 1, 3, 7, 0, 31, 0, 64, 192, 448, 63, 2047, 4095]
theorem haul_Collect.tab20 : rtab .any (opsOf Try.f56 20) = haul_Collect.T20 := by kernel_rfl
theorem haul_Collect.bits20 : waitsOk haul_Collect.T20.2 haul_Collect.B20 = true := by kernel_rfl
def haul_Collect.roots (k : Nat) (fr : List Int) : List Int → List Int → List Int → List S71 → (Int → Option Int) → Option (List Int × List Int × List S71 × (Int → Option Int))
  | [], o, tos, told, f => some (o, tos, told, f)
  | x :: l, o, tos, told, f => if o.length < 17592186044415 then (haul_collector_moved.f k fr tos told f x).bind fun q => haul_Collect.roots k fr l (o ++ [q.1]) q.2.1 q.2.2.1 q.2.2.2 else none
theorem haul_Collect.roots_mono (fr : List Int) (k : Nat) : ∀ (l o tos : List Int) (told : List S71) (f : (Int → Option Int)), LeO (haul_Collect.roots k fr l o tos told f) (haul_Collect.roots (k + 1) fr l o tos told f)
  | [], _, _, _, _ => LeO.refl _
  | x :: l, o, tos, told, f => LeO.ite (LeO.bind (haul_collector_moved.mono fr tos told f x k) (fun _ => haul_Collect.roots_mono fr k l _ _ _ _)) (LeO.refl _)
def haul_Collect.inner (k : Nat) (fr : List Int) : Nat → Int → Int → List Int → List S71 → (Int → Option Int) → Option (List Int × List S71 × (Int → Option Int))
  | 0, _, _, _, _, _ => none
  | d + 1, i, hi, tos, told, f => if i ≤ hi then (if 0 ≤ i ∧ i < (tos.length : Int) then (haul_collector_moved.f k fr tos told f (rd tos i)).bind fun q => if i < (q.2.1.length : Int) then haul_Collect.inner k fr d (i + 1) hi (q.2.1.set i.toNat q.1) q.2.2.1 q.2.2.2 else none else none) else some (tos, told, f)
theorem haul_Collect.inner_mono (fr : List Int) (k : Nat) : ∀ (d : Nat) (i hi : Int) (tos : List Int) (told : List S71) (f : (Int → Option Int)), LeO (haul_Collect.inner k fr d i hi tos told f) (haul_Collect.inner (k + 1) fr d i hi tos told f)
  | 0, _, _, _, _, _ => LeO.refl _
  | d + 1, i, hi, tos, told, f => LeO.ite (LeO.ite (LeO.bind (haul_collector_moved.mono fr tos told f _ k) (fun _ => LeO.ite (haul_Collect.inner_mono fr k d _ _ _ _ _) (LeO.refl _))) (LeO.refl _)) (LeO.refl _)
def haul_Collect.outer (k : Nat) (fr : List Int) : Nat → Int → List Int → List S71 → (Int → Option Int) → Option (List Int × List S71 × (Int → Option Int))
  | 0, _, _, _, _ => none
  | d + 1, at_, tos, told, f => if at_ < (tos.length : Int) then (if 0 ≤ at_ ∧ tos.length < 17592186044416 then (haul_Collect.inner k fr ((rd tos at_ % 4294967296).toNat + 1) (at_ + 1) (at_ + rd tos at_ % 4294967296) tos told f).bind fun q => haul_Collect.outer k fr d (at_ + (1 + rd tos at_ % 4294967296)) q.1 q.2.1 q.2.2 else none) else some (tos, told, f)
theorem haul_Collect.outer_mono (fr : List Int) (k : Nat) : ∀ (d : Nat) (a : Int) (tos : List Int) (told : List S71) (f : (Int → Option Int)), LeO (haul_Collect.outer k fr d a tos told f) (haul_Collect.outer (k + 1) fr d a tos told f)
  | 0, _, _, _, _ => LeO.refl _
  | d + 1, a, tos, told, f => LeO.ite (LeO.ite (LeO.bind (haul_Collect.inner_mono fr k _ _ _ _ _ _) (fun _ => haul_Collect.outer_mono fr k d _ _ _ _)) (LeO.refl _)) (LeO.refl _)
def haul_Collect.g2 (o : List Int) (z : List Int × List S71 × (Int → Option Int)) : Option (List Int × List Int × List S71 × Int) := some (z.1, o, z.2.1, 0)
def haul_Collect.g1 (k : Nat) (fr : List Int) (q : List Int × List Int × List S71 × (Int → Option Int)) : Option (List Int × List Int × List S71 × Int) := (haul_Collect.outer k fr (fr.length + 1) 0 q.2.1 q.2.2.1 q.2.2.2).bind (haul_Collect.g2 q.1)
def haul_Collect.f (k : Nat) (l0_0 : List (Int)) (l0_1 : List (Int)) : Option (List Int × List Int × List S71 × Int) := (haul_Check.f k l0_0 l0_1).bind fun e => if e = 0 then (haul_Collect.roots k l0_0 l0_1 [] [] [] (fun _ => none)).bind (haul_Collect.g1 k l0_0) else some ([], [], [], e)
theorem haul_Collect.mono : ∀ l0_0 l0_1 k, LeO (haul_Collect.f k l0_0 l0_1) (haul_Collect.f (k + 1) l0_0 l0_1) := fun _ _ k => LeO.bind (haul_Check.mono _ _ k) (fun _ => LeO.ite (LeO.bind (haul_Collect.roots_mono _ k _ _ _ _ _) (fun _ => LeO.bind (haul_Collect.outer_mono _ k _ _ _ _ _) (fun _ => LeO.refl _))) (LeO.refl _))
theorem haul_Collect.elem {w : World} {base g N cap : Nat} {ok : Nat → Prop} {xs : List Int} (h : Kd.R (Kd.int .u64) 46 w base ok (.slice (some ⟨g, 0, none⟩) N cap) xs) (i : Int) (h0 : 0 ≤ i) (h1 : i < N) : w.frozen? ⟨g, i.toNat, none⟩ = false ∧ w.cell? ⟨g, i.toNat, none⟩ = some (.int .u64 (rd xs i)) := by
  obtain ⟨c, hcl, hM, hcc, hfr⟩ := Kd.R_elem h 0 i h0 h1
  have e : i.toNat * (Kd.int .u64).sz = i.toNat := Nat.mul_one _
  have h2 := hfr 0
  have h3 := hcc 0 _ (by rw [show c = [.int .u64 (xs.getD i.toNat 0)] from hM]; rfl)
  rw [e] at h2 h3
  exact ⟨h2, h3⟩
theorem haul_Collect.eset {w0 w : World} {a : Asn} {L : List Asn} {g N cap : Nat} {xs : List Int} (h : St w0 w (a :: rowA w0.heap.size (Kd.int .u64) 46 (.slice (some ⟨g, 0, none⟩) N cap) xs :: L)) (i : Int) (h0 : 0 ≤ i) (h1 : i < N) (v : Int) : St w0 (w.setCell ⟨g, i.toNat, none⟩ (.int .u64 v)) (a :: rowA w0.heap.size (Kd.int .u64) 46 (.slice (some ⟨g, 0, none⟩) N cap) (xs.set i.toNat v) :: L) := by
  have h2 := h.elemset 1 rfl i h0 h1 (x' := v) (seg := [.int .u64 v]) rfl rfl
  rw [show i.toNat * (Kd.int .u64).sz = i.toNat from Nat.mul_one _] at h2
  exact h2
set_option maxHeartbeats 8000000 in
set_option maxRecDepth 100000 in
theorem haul_Collect.calls (k : Nat) (A0_0 : Option Addr) (c0_0 : Nat) (l0_0 : List (Int)) (A0_1 : Option Addr) (c0_1 : Nat) (l0_1 : List (Int)) (r1 r2 : List Int) (r3 : List S71) (r4 : Int) (w : World) (hr0_0 : Kd.C (Kd.int .u64) w A0_0 l0_0.length l0_0) (hc0_0 : l0_0.length ≤ c0_0) (hr0_1 : Kd.C (Kd.int .u64) w A0_1 l0_1.length l0_1) (hc0_1 : l0_1.length ≤ c0_1) (h : haul_Collect.f k l0_0 l0_1 = some (r1, r2, r3, r4)) :
    Calls Try.prog 56 #[.agg #[.slice A0_0 l0_0.length c0_0, .slice A0_1 l0_1.length c0_1]] w fun e w' => ∃ v0_ v1_ v2_ : Value, e = .returned (.tuple #[.agg #[v0_, v1_], v2_, .int .i64 r4]) ∧ Kd.R (Kd.int .u64) 46 w' w.heap.size (fun k_ => some k_ ≠ (v1_ : Value).ownBlock) v0_ r1 ∧ Kd.R (Kd.int .u64) 46 w' w.heap.size (fun k_ => some k_ ≠ (v0_ : Value).ownBlock) v1_ r2 ∧ Kd.R k71 71 w' w.heap.size (fun _ => True) v2_ r3 ∧ Below w.heap.size w w' := by
  unfold haul_Collect.f at h
  have HR0 := Aside0.mk hr0_0
  have HC0 := Aside0.mk hc0_0
  have HR1 := Aside0.mk hr0_1
  have HC1 := Aside0.mk hc0_1
  have HL1 := Aside0.mk (Kd.C_max hr0_1)
  have HS0 := Aside0.mk (St.nil (Below.refl w.heap.size w))
  clear hr0_0 hc0_0 hr0_1 hc0_1
  obtain ⟨e, hq, h⟩ := Option.bind_eq_some_iff.1 h
  have HQ := Aside0.mk hq
  clear hq
  by_cases c1 : e = 0
  case neg =>
    rw [if_neg c1] at h
    simp only [Option.some.injEq, Prod.mk.injEq] at h
    obtain ⟨rfl, rfl, rfl, rfl⟩ := h
    have he1 : (e == 0) = false := beq_eq_false_iff_ne.mpr c1
    have he2 : (e != 0) = true := bne_iff_ne.mpr c1
    clear c1
    go_enter Try.func56, Try.ntmps56
    go_wp2_with (first | ((with_reducible refine gate_dst (N := 1) rfl ?_); (try (refine gate_guard (by rfl) ?_; dsimp only)); refine box_event ?hg (N := 1) ?hd (cs := #[.slice A0_0 l0_0.length c0_0, .slice A0_1 l0_1.length c0_1]) (t := 106) ?hr ?_; (case hd => rfl); (case hg => rfl); (case hr => first | (go_simp; done) | (go_simp; rfl)); intro gh hg_ w66_ hx_ hb_; have HS67_ := Aside0.mk (HS0.out.box hg_ hx_ hb_); have c68_ : w66_.cell? ⟨gh, 0, none⟩ = some (.slice A0_0 l0_0.length c0_0) := (HS67_.out.cell 0 rfl 0).trans rfl; have c69_ : w66_.cell? ⟨gh, 1, none⟩ = some (.slice A0_1 l0_1.length c0_1) := (HS67_.out.cell 0 rfl 1).trans rfl; clear hg_ hx_ hb_  HS0) | ((with_reducible refine gate_dst (N := 2) rfl ?_); (try (refine gate_guard (by rfl) ?_; dsimp only)); refine box_event ?hg (N := 2) ?hd (cs := #[.slice none 0 0, .slice none 0 0]) (t := 106) ?hr ?_; (case hd => rfl); (case hg => rfl); (case hr => first | (go_simp; done) | (go_simp; rfl)); intro gr hg_ w70_ hx_ hb_; have HS71_ := Aside0.mk (HS67_.out.box hg_ hx_ hb_); have c72_ : w70_.cell? ⟨gr, 0, none⟩ = some (.slice none 0 0) := (HS71_.out.cell 0 rfl 0).trans rfl; have c73_ : w70_.cell? ⟨gr, 1, none⟩ = some (.slice none 0 0) := (HS71_.out.cell 0 rfl 1).trans rfl; have f74_ : w70_.frozen? ⟨gr, 0, none⟩ = false := HS71_.out.frz 0 rfl 0; have f75_ : w70_.frozen? ⟨gr, 1, none⟩ = false := HS71_.out.frz 0 rfl 1; clear hg_ hx_ hb_ c68_ c69_ HS67_; have c76_ : w70_.cell? ⟨gh, 0, none⟩ = some (.slice A0_0 l0_0.length c0_0) := (HS71_.out.cell 1 rfl 0).trans rfl; have c77_ : w70_.cell? ⟨gh, 1, none⟩ = some (.slice A0_1 l0_1.length c0_1) := (HS71_.out.cell 1 rfl 1).trans rfl) | (go_at_call 57; refine (haul_Check.calls k A0_0 c0_0 l0_0 A0_1 c0_1 l0_1 e _ (Kd.C_below HR0.out HS71_.out.below) HC0.out (Kd.C_below HR1.out HS71_.out.below) HC1.out HQ.out).mono ?_; rintro e_ w78_ ⟨rfl, hb_⟩; have HS79_ := Aside0.mk (HS71_.out.call hb_); have c80_ : w78_.cell? ⟨gh, 0, none⟩ = some (.slice A0_0 l0_0.length c0_0) := (HS79_.out.cell 1 rfl 0).trans rfl; have c81_ : w78_.cell? ⟨gh, 1, none⟩ = some (.slice A0_1 l0_1.length c0_1) := (HS79_.out.cell 1 rfl 1).trans rfl; clear hb_; clear c76_ c77_ HS71_; have c82_ : w78_.cell? ⟨gr, 0, none⟩ = some (.slice none 0 0) := (HS79_.out.cell 0 rfl 0).trans rfl; have c83_ : w78_.cell? ⟨gr, 1, none⟩ = some (.slice none 0 0) := (HS79_.out.cell 0 rfl 1).trans rfl; have f84_ : w78_.frozen? ⟨gr, 0, none⟩ = false := HS79_.out.frz 0 rfl 0; have f85_ : w78_.frozen? ⟨gr, 1, none⟩ = false := HS79_.out.frz 0 rfl 1) | ((with_reducible refine gate_store (t := 106) (p := 2) rfl ?_); refine store_event (t := 106) (p := 2) (v := .tmp 18) (w1 := ((w78_.setCell ⟨gr, 0, none⟩ (.slice none 0 0)).setCell ⟨gr, 1, none⟩ (.slice none 0 0))) ?hg ?ho ?hn ?hr ?_; (case ho => rfl); (case hg => rfl); (case hn => rfl); (case hr => first | (go_simp; done) | (go_simp; rfl)); intro w86_ hw_; have HS87_ : Aside0 (St w w86_ ((blkA gr #[.slice none 0 0, .slice none 0 0] 106) :: (blkA gh #[.slice A0_0 l0_0.length c0_0, .slice A0_1 l0_1.length c0_1] 106) :: [])) := ⟨by rw [hw_]; exact ((HS79_.out.put 0 rfl 0 (.slice none 0 0) rfl).put 0 rfl 1 (.slice none 0 0) rfl)⟩; have c88_ : w86_.cell? ⟨gr, 0, none⟩ = some (.slice none 0 0) := (HS87_.out.cell 0 rfl 0).trans rfl; have c89_ : w86_.cell? ⟨gr, 1, none⟩ = some (.slice none 0 0) := (HS87_.out.cell 0 rfl 1).trans rfl; clear hw_ c82_ c83_ c80_ c81_ f84_ f85_ HS79_))
    refine bodyPost_ret (results_ctt rfl _ _ gr 106 #[.slice none 0 0, .slice none 0 0] (0, 0) _ rfl (HS87_.out.blk 0 rfl) Try.underlying106 rfl (by kernel_rfl)) rfl ?_
    exact ⟨_, _, _, rfl, Kd.R_nil _ _ _ _ _, Kd.R_nil _ _ _ _ _, Kd.R_nil _ _ _ _ _, HS87_.out.below⟩
  subst c1
  rw [if_pos rfl] at h
  have HX := Aside0.mk (show (haul_Collect.roots k l0_0 (l0_1.drop (0 : Int).toNat) [] [] [] (fun _ => none)).bind (haul_Collect.g1 k l0_0) = some (r1, r2, r3, r4) from h)
  clear h
  have hmm := @run_makeMap Try.prog
  go_enter Try.func56, Try.ntmps56
  go_wp2_with (first | ((with_reducible refine gate_dst (N := 1) rfl ?_); (try (refine gate_guard (by rfl) ?_; dsimp only)); refine box_event ?hg (N := 1) ?hd (cs := #[.slice A0_0 l0_0.length c0_0, .slice A0_1 l0_1.length c0_1]) (t := 106) ?hr ?_; (case hd => rfl); (case hg => rfl); (case hr => first | (go_simp; done) | (go_simp; rfl)); intro gh hg_ w90_ hx_ hb_; have HS91_ := Aside0.mk (HS0.out.box hg_ hx_ hb_); have c92_ : w90_.cell? ⟨gh, 0, none⟩ = some (.slice A0_0 l0_0.length c0_0) := (HS91_.out.cell 0 rfl 0).trans rfl; have c93_ : w90_.cell? ⟨gh, 1, none⟩ = some (.slice A0_1 l0_1.length c0_1) := (HS91_.out.cell 0 rfl 1).trans rfl; clear hg_ hx_ hb_  HS0) | ((with_reducible refine gate_dst (N := 2) rfl ?_); (try (refine gate_guard (by rfl) ?_; dsimp only)); refine box_event ?hg (N := 2) ?hd (cs := #[.slice none 0 0, .slice none 0 0]) (t := 106) ?hr ?_; (case hd => rfl); (case hg => rfl); (case hr => first | (go_simp; done) | (go_simp; rfl)); intro gr hg_ w94_ hx_ hb_; have HS95_ := Aside0.mk (HS91_.out.box hg_ hx_ hb_); have c96_ : w94_.cell? ⟨gr, 0, none⟩ = some (.slice none 0 0) := (HS95_.out.cell 0 rfl 0).trans rfl; have c97_ : w94_.cell? ⟨gr, 1, none⟩ = some (.slice none 0 0) := (HS95_.out.cell 0 rfl 1).trans rfl; have f98_ : w94_.frozen? ⟨gr, 0, none⟩ = false := HS95_.out.frz 0 rfl 0; have f99_ : w94_.frozen? ⟨gr, 1, none⟩ = false := HS95_.out.frz 0 rfl 1; clear hg_ hx_ hb_ c92_ c93_ HS91_; have c100_ : w94_.cell? ⟨gh, 0, none⟩ = some (.slice A0_0 l0_0.length c0_0) := (HS95_.out.cell 1 rfl 0).trans rfl; have c101_ : w94_.cell? ⟨gh, 1, none⟩ = some (.slice A0_1 l0_1.length c0_1) := (HS95_.out.cell 1 rfl 1).trans rfl) | (go_at_call 57; refine (haul_Check.calls k A0_0 c0_0 l0_0 A0_1 c0_1 l0_1 0 _ (Kd.C_below HR0.out HS95_.out.below) HC0.out (Kd.C_below HR1.out HS95_.out.below) HC1.out HQ.out).mono ?_; rintro e_ w102_ ⟨rfl, hb_⟩; have HS103_ := Aside0.mk (HS95_.out.call hb_); have c104_ : w102_.cell? ⟨gh, 0, none⟩ = some (.slice A0_0 l0_0.length c0_0) := (HS103_.out.cell 1 rfl 0).trans rfl; have c105_ : w102_.cell? ⟨gh, 1, none⟩ = some (.slice A0_1 l0_1.length c0_1) := (HS103_.out.cell 1 rfl 1).trans rfl; clear hb_; clear c100_ c101_ HS95_; have HSm := Aside0.mk (HS103_.out.mapN Try.prog 3 3); have cm_ : (w102_.alloc (.map #[] 0)).cell? ⟨gh, 1, none⟩ = some (.slice A0_1 l0_1.length c0_1) := (HSm.out.cell 2 rfl 1).trans rfl) | ((with_reducible refine gate_dst (N := 24) rfl ?_); (try (refine gate_guard (by rfl) ?_; dsimp only)); refine box_event ?hg (N := 24) ?hd (cs := #[.slice A0_0 l0_0.length c0_0, .slice none 0 0, .map (some w102_.heap.size), .slice none 0 0]) (t := 164) ?hr ?_; (case hd => rfl); (case hg => rfl); (case hr => first | (go_simp; done) | (go_simp; rfl)); intro g hg_ w106_ hx_ hb_; have HS107_ := Aside0.mk (HSm.out.box hg_ hx_ hb_); have c108_ : w106_.cell? ⟨gh, 1, none⟩ = some (.slice A0_1 l0_1.length c0_1) := (HS107_.out.cell 3 rfl 1).trans rfl; clear hg_ hx_ hb_ c104_ c105_ cm_ HSm))
  clear hmm c108_
  have HSr := Aside0.mk (((((((((((HS107_.out).nrow (Kd.int .u64) 46).nrow k71 71).nrow (Kd.int .u64) 46).front 6 rfl).front 6 rfl).front 4 rfl).front 6 rfl).front 5 rfl).front 5 rfl).front 6 rfl)
  clear HS107_
  generalize w102_.heap.size = gm at *
  go_loopw [28, 7] (fun v28 v7 wr => ∃ (i : Int) (Ao : Option Addr) (co : Nat) (o : List Int) (At : Option Addr) (ct : Nat) (tos : List Int) (Ad : Option Addr) (cd : Nat) (told : List S71) (n : Nat) (f : Int → Option Int), v28 = .int .i64 i ∧ v7 = .slice Ao o.length co ∧ Aside0 (0 ≤ i ∧ i ≤ l0_1.length) ∧ Aside0 (n ≤ told.length) ∧ Aside0 ((haul_Collect.roots k l0_0 (l0_1.drop i.toNat) o tos told f).bind (haul_Collect.g1 k l0_0) = some (r1, r2, r3, r4)) ∧ Aside0 (St w wr ((blkA g #[.slice A0_0 l0_0.length c0_0, .slice At tos.length ct, .map (some gm), .slice Ad told.length cd] 164) :: (rowA w.heap.size (Kd.int .u64) 46 (.slice At tos.length ct) tos) :: (rowA w.heap.size k71 71 (.slice Ad told.length cd) told) :: (mapA Try.prog 3 3 gm n f) :: (rowA w.heap.size (Kd.int .u64) 46 (.slice Ao o.length co) o) :: (blkA gr #[.slice none 0 0, .slice none 0 0] 106) :: (blkA gh #[.slice A0_0 l0_0.length c0_0, .slice A0_1 l0_1.length c0_1] 106) :: []))) (fun v28 _ _ => l0_1.length - (intOf v28).toNat)
  case atStart => exact ⟨0, none, 0, [], none, 0, [], none, 0, [], 0, fun _ => none, rfl, rfl, ⟨by omega⟩, ⟨by simp⟩, HX, HSr⟩
  case round =>
    clear HSr HX
    obtain ⟨i, Ao, co, o, At, ct, tos, Ad, cd, told, n, f, rfl, rfl, Hi, HN, HX, HSr⟩ := hrel
    have hi0 : 0 ≤ i := Hi.out.1
    by_cases hlt : i < (l0_1.length : Int)
    · have ht : decide (i < (l0_1.length : Int)) = true := decide_eq_true hlt
      have HW := Aside0.mk (show wrap64 (i + 1) = i + 1 by have := HL1.out; unfold wrap64; omega)
      have hd : l0_1.drop i.toNat = rd l0_1 i :: l0_1.drop (i + 1).toNat := by
        rw [List.drop_eq_getElem_cons (by omega), show (i + 1).toNat = i.toNat + 1 by omega]
        congr 1
        rw [rd, List.getD_eq_getElem?_getD, List.getElem?_eq_getElem (by omega), Option.getD_some]
      have hx := HX.out
      rw [hd, haul_Collect.roots] at hx
      clear hd HX
      obtain ⟨ad, e, hk⟩ := Kd.at_int HR1.out i hi0 hlt
      cases e
      generalize rd l0_1 i = x at *
      replace hk := (HSr.out.below.cell (World.block_lt_of_cell? w _ hk)).trans hk
      obtain ⟨q0, hx1, hx2⟩ := Option.bind_eq_some_iff.1 hx
      split at hx1
      case isFalse => cases hx1
      rename_i hol
      have HLO := Aside0.mk hol
      obtain ⟨⟨q1, q2, q3, q4⟩, hmv, hx3⟩ := Option.bind_eq_some_iff.1 hx1
      have HM := Aside0.mk hmv
      have HX4 := Aside0.mk (show (haul_Collect.roots k l0_0 (l0_1.drop (i + 1).toNat) (o ++ [q1]) q2 q3 q4).bind (haul_Collect.g1 k l0_0) = some (r1, r2, r3, r4) by rw [hx3]; exact hx2)
      clear hx hx1 hx2 hx3 hmv hol
      go_wp2_with (first | (go_at_call 103; refine (haul_collector_moved.walk k w _ _ g gm A0_0 c0_0 l0_0 _ _ tos _ _ told n f x q1 q2 q3 q4 HR0.out HC0.out HN.out HSr.out HM.out).mono ?_; rintro e_ w109_ ⟨rfl, At', ct', Ad', cd', n', hn', hS'⟩; have HN' := Aside0.mk hn'; have HS110_ : Aside0 (St w w109_ ((blkA g #[.slice A0_0 l0_0.length c0_0, .slice At' q2.length ct', .map (some gm), .slice Ad' q3.length cd'] 164) :: (rowA w.heap.size (Kd.int .u64) 46 (.slice At' q2.length ct') q2) :: (rowA w.heap.size k71 71 (.slice Ad' q3.length cd') q3) :: (mapA Try.prog 3 3 gm n' q4) :: (rowA w.heap.size (Kd.int .u64) 46 (.slice Ao o.length co) o) :: (blkA gr #[.slice none 0 0, .slice none 0 0] 106) :: (blkA gh #[.slice A0_0 l0_0.length c0_0, .slice (some ad) l0_1.length c0_1] 106) :: [])) := ⟨hS'⟩; skip; clear hn' hS' HSr ) | ((with_reducible refine gate_builtin (b := .append) (xs := #[.tmp 32, .tmp 36]) rfl ?_); (try (refine gate_guard (by rfl) ?_; dsimp only)); at_builtin; obtain ⟨ok_, hf_, hr_, hs_⟩ := (HS110_.out).app 4 rfl; refine Kd.R_append (Kd.int .u64) (w0 := w) w.heap.size rfl (.tmp 32) (.tmp 36) 74 46 (.int .u64 0) 8 rfl Try.underlying74 info46 rfl (by decide) (by omega) (.slice Ao o.length co) o (q1) [.int .u64 q1] ok_ (fun _ => False) rfl rfl rfl (fun _ hk => hk.elim) hf_ hr_ (HS110_.out).below (HS110_.out).size ?aL ?_; (case aL => have := HLO.out; omega); intro Ap113_ w111_ ho_ hb_ hg_ hat_; have HS112_ := Aside0.mk (hs_ _ _ _ ho_ hb_ hg_); have hN_ := Kd.R_slice ho_; obtain ⟨A114_, c116_, rfl⟩ := hN_; clear ho_ hb_ hg_ hat_ hf_ hr_ hs_  HS110_))
      go_roundw
      case rel => exact ⟨i + 1, _, _, _, _, _, _, _, _, _, _, _, by first | rw [HW.out] | rfl, by first | rfl | simp, ⟨by omega⟩, HN', HX4, HS112_⟩
      case measure => simp only [intOf]; (try rw [HW.out]); omega
    · have ht : decide (i < (l0_1.length : Int)) = false := decide_eq_false hlt
      have hx := HX.out
      rw [List.drop_eq_nil_of_le (by omega)] at hx
      have HX2 := Aside0.mk (show (haul_Collect.outer k l0_0 (l0_0.length + 1) 0 tos told f).bind (haul_Collect.g2 o) = some (r1, r2, r3, r4) from hx)
      clear hx HX hlt Hi hi0
      go_wp2
      clear ht
      rename World => wo
      go_loopg [10] (l0_0.length + 1) (fun kq v10 wr => ∃ (at_ : Int) (At : Option Addr) (ct : Nat) (tos : List Int) (Ad : Option Addr) (cd : Nat) (told : List S71) (n : Nat) (f : Int → Option Int), v10 = .int .i64 at_ ∧ Aside0 (kq ≤ l0_0.length + 1) ∧ Aside0 (n ≤ told.length) ∧ Aside0 ((haul_Collect.outer k l0_0 kq at_ tos told f).bind (haul_Collect.g2 o) = some (r1, r2, r3, r4)) ∧ Aside0 (St w wr ((blkA g #[.slice A0_0 l0_0.length c0_0, .slice At tos.length ct, .map (some gm), .slice Ad told.length cd] 164) :: (rowA w.heap.size (Kd.int .u64) 46 (.slice At tos.length ct) tos) :: (rowA w.heap.size k71 71 (.slice Ad told.length cd) told) :: (mapA Try.prog 3 3 gm n f) :: (rowA w.heap.size (Kd.int .u64) 46 (.slice Ao o.length co) o) :: (blkA gr #[.slice none 0 0, .slice none 0 0] 106) :: (blkA gh #[.slice A0_0 l0_0.length c0_0, .slice A0_1 l0_1.length c0_1] 106) :: [])))
      case atStart => exact ⟨0, _, _, _, _, _, _, _, _, rfl, ⟨Nat.le_refl _⟩, HN, HX2, HSr⟩
      case round =>
        clear HSr HX2 HN
        obtain ⟨at_, At, ct, tos, Ad, cd, told, n, f, rfl, HK1, HN, HX, HSr⟩ := hrel
        cases gk with
        | zero => exact absurd HX.out (by simp [haul_Collect.outer])
        | succ k1 =>
          have hx := HX.out
          rw [haul_Collect.outer] at hx
          clear HX
          by_cases hlt : at_ < (tos.length : Int)
          · rw [if_pos hlt] at hx
            have ht : decide (at_ < (tos.length : Int)) = true := decide_eq_true hlt
            obtain ⟨q0, hx1, hx2⟩ := Option.bind_eq_some_iff.1 hx
            split at hx1
            case isFalse => cases hx1
            rename_i hb
            obtain ⟨hat0, htl⟩ := hb
            obtain ⟨ad, e, hk⟩ := Kd.at_int (Kd.R_reads' (HSr.out.row 1 rfl)).2.2 at_ hat0 hlt
            cases e
            generalize rd tos at_ = y at *
            have HLY := Aside0.mk (show haul_long.f y = some (y % 4294967296) from rfl)
            have hly0 : 0 ≤ y % 4294967296 := Int.emod_nonneg _ (by decide)
            have hly1 : y % 4294967296 < 4294967296 := Int.emod_lt_of_pos _ (by decide)
            generalize y % 4294967296 = ly at *
            obtain ⟨⟨z1, z2, z3⟩, hin, hx3⟩ := Option.bind_eq_some_iff.1 hx1
            have HIN := Aside0.mk hin
            have HX3 := Aside0.mk (show (haul_Collect.outer k l0_0 k1 (at_ + (1 + ly)) z1 z2 z3).bind (haul_Collect.g2 o) = some (r1, r2, r3, r4) by rw [hx3]; exact hx2)
            have HW1 := Aside0.mk (show wrap64 (at_ + 1) = at_ + 1 by unfold wrap64; omega)
            have HW2 := Aside0.mk (show wrap64 (at_ + ly) = at_ + ly by unfold wrap64; omega)
            have HW3 := Aside0.mk (show wrap64 (at_ + wrap64 (1 + ly)) = at_ + (1 + ly) by unfold wrap64; omega)
            have cg_ : wr.cell? ⟨g, 1, none⟩ = some (.slice (some ad) tos.length ct) := (HSr.out.cell 0 rfl 1).trans rfl
            clear hx hx1 hx2 hx3 hin
            go_wp2_with (first | (go_at_call 104; refine (haul_collector_moved.long y ly _ HLY.out).mono ?_; rintro e_ w5 ⟨rfl, hb_⟩; have HS5 := Aside0.mk (HSr.out.call hb_); clear hb_ HSr hk cg_))
            rename World => wo2
            go_loopg [12] (ly.toNat + 1) (fun jq v12 wr => ∃ (i : Int) (At : Option Addr) (ct : Nat) (tos : List Int) (Ad : Option Addr) (cd : Nat) (told : List S71) (n : Nat) (f : Int → Option Int), v12 = .int .i64 i ∧ Aside0 (jq ≤ ly.toNat + 1) ∧ Aside0 (at_ < i) ∧ Aside0 (n ≤ told.length) ∧ Aside0 (haul_Collect.inner k l0_0 jq i (at_ + ly) tos told f = some (z1, z2, z3)) ∧ Aside0 (St w wr ((blkA g #[.slice A0_0 l0_0.length c0_0, .slice At tos.length ct, .map (some gm), .slice Ad told.length cd] 164) :: (rowA w.heap.size (Kd.int .u64) 46 (.slice At tos.length ct) tos) :: (rowA w.heap.size k71 71 (.slice Ad told.length cd) told) :: (mapA Try.prog 3 3 gm n f) :: (rowA w.heap.size (Kd.int .u64) 46 (.slice Ao o.length co) o) :: (blkA gr #[.slice none 0 0, .slice none 0 0] 106) :: (blkA gh #[.slice A0_0 l0_0.length c0_0, .slice A0_1 l0_1.length c0_1] 106) :: [])))
            case atStart => exact ⟨at_ + 1, _, _, _, _, _, _, _, _, by first | rw [HW1.out] | rfl, ⟨Nat.le_refl _⟩, ⟨by omega⟩, HN, HIN, HS5⟩
            case round =>
              clear HS5 HIN HN
              obtain ⟨i, At, ct, tos, Ad, cd, told, n, f, rfl, HJ1, HJA, HN, HX, HSj⟩ := hrel
              cases gk with
              | zero => exact absurd HX.out (by simp [haul_Collect.inner])
              | succ j1 =>
                have hx := HX.out
                rw [haul_Collect.inner] at hx
                clear HX
                by_cases hle : i ≤ at_ + ly
                · rw [if_pos hle] at hx
                  have htj : decide (i ≤ at_ + ly) = true := decide_eq_true hle
                  have htk : decide (i ≤ wrap64 (at_ + ly)) = true := by rw [HW2.out]; exact htj
                  split at hx
                  case isFalse => cases hx
                  rename_i hb
                  obtain ⟨hi0, hi1⟩ := hb
                  obtain ⟨⟨q1, q2, q3, q4⟩, hmv, hx3⟩ := Option.bind_eq_some_iff.1 hx
                  split at hx3
                  case isFalse => cases hx3
                  rename_i hj2
                  have HM := Aside0.mk hmv
                  have HJ2 := Aside0.mk (show i < (q2.length : Int) from hj2)
                  have hi2 : i < (q2.length : Int) := HJ2.out
                  have HX4 := Aside0.mk (show haul_Collect.inner k l0_0 j1 (i + 1) (at_ + ly) (q2.set i.toNat q1) q3 q4 = some (z1, z2, z3) from hx3)
                  obtain ⟨ad, e, hk⟩ := Kd.at_int (Kd.R_reads' (HSj.out.row 1 rfl)).2.2 i hi0 hi1
                  cases e
                  have HWi := Aside0.mk (show wrap64 (i + 1) = i + 1 by have := Kd.C_max (Kd.R_reads' (HSj.out.row 1 rfl)).2.2; unfold wrap64; omega)
                  generalize rd tos i = x at *
                  have cg_ : wr.cell? ⟨g, 1, none⟩ = some (.slice (some ad) tos.length ct) := (HSj.out.cell 0 rfl 1).trans rfl
                  clear hx hx3 hmv hj2
                  go_wp2_with (first | (go_at_call 103; refine (haul_collector_moved.walk k w _ _ g gm A0_0 c0_0 l0_0 _ _ tos _ _ told n f x q1 q2 q3 q4 HR0.out HC0.out HN.out HSj.out HM.out).mono ?_; rintro e_ w117_ ⟨rfl, At', ct', Ad', cd', n', hn', hS'⟩; have HN' := Aside0.mk hn'; have HS118_ : Aside0 (St w w117_ ((blkA g #[.slice A0_0 l0_0.length c0_0, .slice At' q2.length ct', .map (some gm), .slice Ad' q3.length cd'] 164) :: (rowA w.heap.size (Kd.int .u64) 46 (.slice At' q2.length ct') q2) :: (rowA w.heap.size k71 71 (.slice Ad' q3.length cd') q3) :: (mapA Try.prog 3 3 gm n' q4) :: (rowA w.heap.size (Kd.int .u64) 46 (.slice Ao o.length co) o) :: (blkA gr #[.slice none 0 0, .slice none 0 0] 106) :: (blkA gh #[.slice A0_0 l0_0.length c0_0, .slice A0_1 l0_1.length c0_1] 106) :: [])) := ⟨hS'⟩; have c119_ : w117_.cell? ⟨g, 1, none⟩ = some (.slice At' q2.length ct') := (HS118_.out.cell 0 rfl 1).trans rfl; obtain ⟨g2, cp2, hv2, _, _, _⟩ := Kd.R_form (HS118_.out.row 1 rfl) (by have := HJ2.out; omega); obtain ⟨rfl, rfl⟩ : At' = some ⟨g2, 0, none⟩ ∧ ct' = cp2 := by { injection hv2 with a_ b_ c_; exact ⟨a_, c_⟩ }; obtain ⟨hf0, hk0⟩ := haul_Collect.elem (HS118_.out.row 1 rfl) i hi0 HJ2.out; have HSP : Aside0 (St w (w117_.setCell ⟨g2, i.toNat, none⟩ (.int .u64 q1)) ((blkA g #[.slice A0_0 l0_0.length c0_0, .slice (some ⟨g2, 0, none⟩) q2.length ct', .map (some gm), .slice Ad' q3.length cd'] 164) :: (rowA w.heap.size (Kd.int .u64) 46 (.slice (some ⟨g2, 0, none⟩) q2.length ct') (q2.set i.toNat q1)) :: (rowA w.heap.size k71 71 (.slice Ad' q3.length cd') q3) :: (mapA Try.prog 3 3 gm n' q4) :: (rowA w.heap.size (Kd.int .u64) 46 (.slice Ao o.length co) o) :: (blkA gr #[.slice none 0 0, .slice none 0 0] 106) :: (blkA gh #[.slice A0_0 l0_0.length c0_0, .slice A0_1 l0_1.length c0_1] 106) :: [])) := ⟨haul_Collect.eset HS118_.out i hi0 HJ2.out q1⟩; clear hv2; clear hn' hS' HSj ) | ((with_reducible refine gate_store (t := 46) (p := 78) rfl ?_); refine store_event (t := 46) (p := 78) (v := .tmp 77) (w1 := w117_.setCell ⟨g2, i.toNat, none⟩ (.int .u64 q1)) ?hg ?ho ?hn ?hr ?_; (case ho => rfl); (case hg => rfl); (case hn => rfl); (case hr => first | (go_simp; done) | (go_simp; rfl)); intro w120_ hw_; have HS9 : Aside0 (St w w120_ ((blkA g #[.slice A0_0 l0_0.length c0_0, .slice (some ⟨g2, 0, none⟩) q2.length ct', .map (some gm), .slice Ad' q3.length cd'] 164) :: (rowA w.heap.size (Kd.int .u64) 46 (.slice (some ⟨g2, 0, none⟩) q2.length ct') (q2.set i.toNat q1)) :: (rowA w.heap.size k71 71 (.slice Ad' q3.length cd') q3) :: (mapA Try.prog 3 3 gm n' q4) :: (rowA w.heap.size (Kd.int .u64) 46 (.slice Ao o.length co) o) :: (blkA gr #[.slice none 0 0, .slice none 0 0] 106) :: (blkA gh #[.slice A0_0 l0_0.length c0_0, .slice A0_1 l0_1.length c0_1] 106) :: [])) := ⟨by rw [hw_]; exact HSP.out⟩; clear hw_ HSP hf0 hk0 HS118_ c119_))
                  go_roundg j1
                  case measure => have := HJ1.out; omega
                  case rel => exact ⟨i + 1, some ⟨g2, 0, none⟩, ct', q2.set i.toNat q1, Ad', cd', q3, n', q4, by first | rw [HWi.out] | rfl, ⟨by have := HJ1.out; omega⟩, ⟨by have := HJA.out; omega⟩, HN', HX4, ⟨by simpa only [List.length_set] using HS9.out⟩⟩
                · rw [if_neg hle] at hx
                  have htj : decide (i ≤ at_ + ly) = false := decide_eq_false hle
                  have htk : decide (i ≤ wrap64 (at_ + ly)) = false := by rw [HW2.out]; exact htj
                  simp only [Option.some.injEq, Prod.mk.injEq] at hx
                  obtain ⟨rfl, rfl, rfl⟩ := hx
                  go_wp2
                  go_roundg k1
                  case measure => have := HK1.out; omega
                  case rel => exact ⟨at_ + (1 + ly), _, _, _, _, _, _, _, _, by first | rw [HW3.out] | rfl, ⟨by have := HK1.out; omega⟩, HN, HX3, HSj⟩
          · rw [if_neg hlt] at hx
            have ht : decide (at_ < (tos.length : Int)) = false := decide_eq_false hlt
            have hx2 : some (tos, o, told, (0 : Int)) = some (r1, r2, r3, r4) := hx
            simp only [Option.some.injEq, Prod.mk.injEq] at hx2
            obtain ⟨rfl, rfl, rfl, rfl⟩ := hx2
            have cg_ : wr.cell? ⟨g, 1, none⟩ = some (.slice At tos.length ct) := (HSr.out.cell 0 rfl 1).trans rfl
            clear hx
            go_wp2
            clear cg_
            have HSz := HSr
            clear HSr
            have HF_ := Aside0.mk HSz.out.drew
            refine st_ (fun w' => St w w' ((blkA g #[.slice A0_0 l0_0.length c0_0, .slice At tos.length ct, .map (some gm), .slice Ad told.length cd] 164) :: (rowA w.heap.size (Kd.int .u64) 46 (.slice At tos.length ct) tos) :: (rowA w.heap.size k71 71 (.slice Ad told.length cd) told) :: (mapA Try.prog 3 3 gm n f) :: (rowA w.heap.size (Kd.int .u64) 46 (.slice Ao o.length co) o) :: (blkA gh #[.slice A0_0 l0_0.length c0_0, .slice A0_1 l0_1.length c0_1] 106) :: [])) haul_Collect.tab20 haul_Collect.bits20 ((HF_.out).drop 5 rfl) (fun HT_ HW_ hHeld => ?_)
            clear HSz
            generalize wr.drew = w121_ at hHeld HF_ ⊢
            refine pu_ (v := ?_) (a' := ?_) HT_.out 0 (some 83) ?_ ?_ ?_; rotate_left 2; (intro w'; go_simp; with_reducible rfl); (simp only [Act.put, List.setIfInBounds_toArray, List.set_cons_zero, List.set_cons_succ, i64_w, i32_w]; rfl)
            refine pu_ (v := ?_) (a' := ?_) HT_.out 1 (some 84) ?_ ?_ ?_; rotate_left 2; (intro w'; go_simp; with_reducible rfl); (simp only [Act.put, List.setIfInBounds_toArray, List.set_cons_zero, List.set_cons_succ, i64_w, i32_w]; rfl)
            refine pu_ (v := ?_) (a' := ?_) HT_.out 2 (some 85) ?_ ?_ ?_; rotate_left 2; (intro w'; go_simp; with_reducible rfl); (simp only [Act.put, List.setIfInBounds_toArray, List.set_cons_zero, List.set_cons_succ, i64_w, i32_w]; rfl)
            refine pu_ (v := ?_) (a' := ?_) HT_.out 4 (some 87) ?_ ?_ ?_; rotate_left 2; (intro w'; go_simp; with_reducible rfl); (simp only [Act.put, List.setIfInBounds_toArray, List.set_cons_zero, List.set_cons_succ, i64_w, i32_w]; rfl)
            refine pu_ (v := ?_) (a' := ?_) HT_.out 6 (some 89) ?_ ?_ ?_; rotate_left 2; (intro w'; go_simp; with_reducible rfl); (simp only [Act.put, List.setIfInBounds_toArray, List.set_cons_zero, List.set_cons_succ, i64_w, i32_w]; rfl)
            refine pu_ (v := ?_) (a' := ?_) HT_.out 7 (some 90) ?_ ?_ ?_; rotate_left 2; (intro w'; go_simp; with_reducible rfl); (simp only [Act.put, List.setIfInBounds_toArray, List.set_cons_zero, List.set_cons_succ, i64_w, i32_w]; rfl)
            refine pu_ (v := ?_) (a' := ?_) HT_.out 8 (some 91) ?_ ?_ ?_; rotate_left 2; (intro w'; go_simp; with_reducible rfl); (simp only [Act.put, List.setIfInBounds_toArray, List.set_cons_zero, List.set_cons_succ, i64_w, i32_w]; rfl)
            refine tk_ (v := ?_) (a' := ?_) HT_.out HW_.out hHeld 3 (some 86) ?_ ?_ ?_; rotate_left 2; (intro w' hS; have s0 : w'.cell? ⟨g, 1, none⟩ = some _ := hS.cell 0 rfl 1; go_simp; with_reducible rfl); (simp only [Act.put, List.setIfInBounds_toArray, List.set_cons_zero, List.set_cons_succ, i64_w, i32_w]; rfl)
            refine pu_ (v := ?_) (a' := ?_) HT_.out 5 (some 88) ?_ ?_ ?_; rotate_left 2; (intro w'; go_simp; with_reducible rfl); (simp only [Act.put, List.setIfInBounds_toArray, List.set_cons_zero, List.set_cons_succ, i64_w, i32_w]; rfl)
            refine tk_ (v := ?_) (a' := ?_) HT_.out HW_.out hHeld 9 (some 92) ?_ ?_ ?_; rotate_left 2; (intro w' hS; have s0 : w'.cell? ⟨g, 3, none⟩ = some _ := hS.cell 0 rfl 3; go_simp; with_reducible rfl); (simp only [Act.put, List.setIfInBounds_toArray, List.set_cons_zero, List.set_cons_succ, i64_w, i32_w]; rfl)
            refine on_ HT_.out 10 none (fun K hK => ?_)
            have c125_ : w121_.cell? ⟨gr, 0, none⟩ = some (.slice none 0 0) := (HF_.out.cell 5 rfl 0).trans rfl; have c126_ : w121_.cell? ⟨gr, 1, none⟩ = some (.slice none 0 0) := (HF_.out.cell 5 rfl 1).trans rfl; have f127_ : w121_.frozen? ⟨gr, 0, none⟩ = false := HF_.out.frz 5 rfl 0; have f128_ : w121_.frozen? ⟨gr, 1, none⟩ = false := HF_.out.frz 5 rfl 1
            refine skip_ (w1 := ?_) (by rfl) rfl ?_ ?_; rotate_left; (go_simp; rfl)
            have HS124_ : Aside0 (St w ((w121_.setCell ⟨gr, 0, none⟩ (.slice At tos.length ct)).setCell ⟨gr, 1, none⟩ (.slice Ao o.length co)) ((blkA g #[.slice A0_0 l0_0.length c0_0, .slice At tos.length ct, .map (some gm), .slice Ad told.length cd] 164) :: (rowA w.heap.size (Kd.int .u64) 46 (.slice At tos.length ct) tos) :: (rowA w.heap.size k71 71 (.slice Ad told.length cd) told) :: (mapA Try.prog 3 3 gm n f) :: (rowA w.heap.size (Kd.int .u64) 46 (.slice Ao o.length co) o) :: (blkA gr #[.slice At tos.length ct, .slice Ao o.length co] 106) :: (blkA gh #[.slice A0_0 l0_0.length c0_0, .slice A0_1 l0_1.length c0_1] 106) :: [])) := ⟨((HF_.out.put 5 rfl 0 (.slice At tos.length ct) rfl).put 5 rfl 1 (.slice Ao o.length co) rfl)⟩
            clear HF_ c125_ c126_ f127_ f128_
            try clear hHeld
            refine hK.out _ _ ((HS124_.out).drop 5 rfl) (fun hHeld => ?_)
            clear hK K
            refine pu_ (v := ?_) (a' := ?_) HT_.out 11 (some 3) ?_ ?_ ?_; rotate_left 2; (intro w'; go_simp; with_reducible rfl); (simp only [Act.put, List.setIfInBounds_toArray, List.set_cons_zero, List.set_cons_succ, i64_w, i32_w]; rfl)
            refine pu_ (v := ?_) (a' := ?_) HT_.out 12 (some 4) ?_ ?_ ?_; rotate_left 2; (intro w'; go_simp; with_reducible rfl); (simp only [Act.put, List.setIfInBounds_toArray, List.set_cons_zero, List.set_cons_succ, i64_w, i32_w]; rfl)
            refine dn_ HT_.out ?_
            clear hHeld HT_ HW_
            try go_wp2
            refine bodyPost_ret (results_ctt rfl _ _ gr 106 #[.slice At tos.length ct, .slice Ao o.length co] (0, 0) _ rfl (HS124_.out.blk 5 rfl) Try.underlying106 rfl (by kernel_rfl)) rfl ?_
            have htw := St.two ((((((((HS124_.out).front 6 rfl).front 6 rfl).front 5 rfl).front 5 rfl).front 4 rfl).front 6 rfl).front 6 rfl)
            exact ⟨_, _, _, rfl, htw.1, htw.2, HS124_.out.row 2 rfl, HS124_.out.below⟩
end

/-! ### backstitchlaw3_hauled: function 53 -/
def backstitchlaw3_hauled.f (k : Nat)  : Option (Bool) := (haul_Collect.f k (([0, 0] : List Int)) (([18445899648779419649] : List Int))).bind fun bt139 => (if bt139.2.2.2 = 0 then ((backstitchref3_Eq_uint64.f k bt139.1 (([0] : List Int))).bind fun t153 => (if t153 = true then ((backstitchref3_Eq_uint64.f k bt139.2.1 (([18445899648779419648] : List Int))).bind fun t157 => (if t157 = true then ((api_RMove.f k bt139.2.2.1 (([(⟨0, 1⟩ : S71)] : List (S71)))).bind fun t161 => (some t161)) else (some false))) else (some false))) else (some false))
theorem backstitchlaw3_hauled.mono : ∀ k, LeO (backstitchlaw3_hauled.f k ) (backstitchlaw3_hauled.f (k + 1) ) := by
  intro  k
  unfold backstitchlaw3_hauled.f
  repeat' first
      | (with_reducible exact api_RMove.mono _ _ _)
      | (with_reducible exact backstitchref3_Eq_uint64.mono _ _ _)
      | (with_reducible exact haul_Collect.mono _ _ _)
      | (with_reducible exact LeO.refl _)
      | (with_reducible exact LeO.none _)
      | (with_reducible refine LeO.ite ?_ ?_)
      | (with_reducible refine LeO.bind ?_ (fun _ => ?_))
      | exact api_RMove.mono _ _ _
      | exact backstitchref3_Eq_uint64.mono _ _ _
      | exact haul_Collect.mono _ _ _
      | exact LeO.none _
      | refine LeO.ite ?_ ?_
      | refine LeO.bind ?_ (fun _ => ?_)
set_option maxHeartbeats 8000000 in
set_option maxRecDepth 100000 in
theorem backstitchlaw3_hauled.calls (k : Nat)  (r : Bool) (w : World) (h : backstitchlaw3_hauled.f k  = some r) :
    Calls Try.prog 53 #[] w fun e w' => e = .returned (.bool r) ∧ Below w.heap.size w w' := by
  have hu106 := Try.underlying106
  have hu71 := Try.underlying71
  have HB := Aside0.mk (Below.refl w.heap.size w)
  have H : ((haul_Collect.f k (([0, 0] : List Int)) (([18445899648779419649] : List Int))).bind fun bt139 => (if bt139.2.2.2 = 0 then ((backstitchref3_Eq_uint64.f k bt139.1 (([0] : List Int))).bind fun t153 => (if t153 = true then ((backstitchref3_Eq_uint64.f k bt139.2.1 (([18445899648779419648] : List Int))).bind fun t157 => (if t157 = true then ((api_RMove.f k bt139.2.2.1 (([(⟨0, 1⟩ : S71)] : List (S71)))).bind fun t161 => (some t161)) else (some false))) else (some false))) else (some false))) = some r := h
  clear h
  obtain ⟨y133, hy133⟩ : ∃ y_ : List Int, y_ = (([0, 0] : List Int)) := ⟨_, rfl⟩
  replace H : ((haul_Collect.f k y133 (([18445899648779419649] : List Int))).bind fun bt139 => (if bt139.2.2.2 = 0 then ((backstitchref3_Eq_uint64.f k bt139.1 (([0] : List Int))).bind fun t153 => (if t153 = true then ((backstitchref3_Eq_uint64.f k bt139.2.1 (([18445899648779419648] : List Int))).bind fun t157 => (if t157 = true then ((api_RMove.f k bt139.2.2.1 (([(⟨0, 1⟩ : S71)] : List (S71)))).bind fun t161 => (some t161)) else (some false))) else (some false))) else (some false))) = some r := by first | (rw [hy133]; with_reducible exact H) | (have H2_ := (Option.bind_some _ _).symm.trans H; rw [hy133]; with_reducible exact H2_) | (have H2_ := (Option.bind_some _ _).symm.trans H; with_reducible exact H2_) | with_reducible exact H | (rw [hy133]; exact H) | exact H
  have Ny133 := Aside0.mk hy133
  clear hy133
  obtain ⟨y136, hy136⟩ : ∃ y_ : List Int, y_ = (([18445899648779419649] : List Int)) := ⟨_, rfl⟩
  replace H : ((haul_Collect.f k y133 y136).bind fun bt139 => (if bt139.2.2.2 = 0 then ((backstitchref3_Eq_uint64.f k bt139.1 (([0] : List Int))).bind fun t153 => (if t153 = true then ((backstitchref3_Eq_uint64.f k bt139.2.1 (([18445899648779419648] : List Int))).bind fun t157 => (if t157 = true then ((api_RMove.f k bt139.2.2.1 (([(⟨0, 1⟩ : S71)] : List (S71)))).bind fun t161 => (some t161)) else (some false))) else (some false))) else (some false))) = some r := by first | (rw [hy136]; with_reducible exact H) | (have H2_ := (Option.bind_some _ _).symm.trans H; rw [hy136]; with_reducible exact H2_) | (have H2_ := (Option.bind_some _ _).symm.trans H; with_reducible exact H2_) | with_reducible exact H | (rw [hy136]; exact H) | exact H
  have Ny136 := Aside0.mk hy136
  clear hy136
  replace H := Option.bind_eq_some_iff.mp H
  obtain ⟨⟨t139, t142, t145, t148⟩, A10, H⟩ := H
  replace H : (if t148 = 0 then ((backstitchref3_Eq_uint64.f k t139 (([0] : List Int))).bind fun t153 => (if t153 = true then ((backstitchref3_Eq_uint64.f k t142 (([18445899648779419648] : List Int))).bind fun t157 => (if t157 = true then ((api_RMove.f k t145 (([(⟨0, 1⟩ : S71)] : List (S71)))).bind fun t161 => (some t161)) else (some false))) else (some false))) else (some false)) = some r := H
  have A1 := Aside0.mk A10
  clear A10
  by_cases c2 : t148 = 0
  · rw [if_pos c2] at H
    have c2b0 : (t148 == 0) = true := beq_iff_eq.mpr c2
    have c2b1 : (t148 != 0) = false := bne_eq_false_iff_eq.mpr c2
    clear c2
    obtain ⟨y150, hy150⟩ : ∃ y_ : List Int, y_ = (([0] : List Int)) := ⟨_, rfl⟩
    replace H : ((backstitchref3_Eq_uint64.f k t139 y150).bind fun t153 => (if t153 = true then ((backstitchref3_Eq_uint64.f k t142 (([18445899648779419648] : List Int))).bind fun t157 => (if t157 = true then ((api_RMove.f k t145 (([(⟨0, 1⟩ : S71)] : List (S71)))).bind fun t161 => (some t161)) else (some false))) else (some false))) = some r := by first | (rw [hy150]; with_reducible exact H) | (have H2_ := (Option.bind_some _ _).symm.trans H; rw [hy150]; with_reducible exact H2_) | (have H2_ := (Option.bind_some _ _).symm.trans H; with_reducible exact H2_) | with_reducible exact H | (rw [hy150]; exact H) | exact H
    have Ny150 := Aside0.mk hy150
    clear hy150
    replace H := Option.bind_eq_some_iff.mp H
    obtain ⟨t153, A30, H⟩ := H
    replace H : (if t153 = true then ((backstitchref3_Eq_uint64.f k t142 (([18445899648779419648] : List Int))).bind fun t157 => (if t157 = true then ((api_RMove.f k t145 (([(⟨0, 1⟩ : S71)] : List (S71)))).bind fun t161 => (some t161)) else (some false))) else (some false)) = some r := H
    have A3 := Aside0.mk A30
    clear A30
    by_cases c4 : t153 = true
    · subst c4
      have H1 : ((backstitchref3_Eq_uint64.f k t142 (([18445899648779419648] : List Int))).bind fun t157 => (if t157 = true then ((api_RMove.f k t145 (([(⟨0, 1⟩ : S71)] : List (S71)))).bind fun t161 => (some t161)) else (some false))) = some r := by rw [if_pos rfl] at H; exact H
      clear H
      have H := H1
      clear H1
      obtain ⟨y154, hy154⟩ : ∃ y_ : List Int, y_ = (([18445899648779419648] : List Int)) := ⟨_, rfl⟩
      replace H : ((backstitchref3_Eq_uint64.f k t142 y154).bind fun t157 => (if t157 = true then ((api_RMove.f k t145 (([(⟨0, 1⟩ : S71)] : List (S71)))).bind fun t161 => (some t161)) else (some false))) = some r := by first | (rw [hy154]; with_reducible exact H) | (have H2_ := (Option.bind_some _ _).symm.trans H; rw [hy154]; with_reducible exact H2_) | (have H2_ := (Option.bind_some _ _).symm.trans H; with_reducible exact H2_) | with_reducible exact H | (rw [hy154]; exact H) | exact H
      have Ny154 := Aside0.mk hy154
      clear hy154
      replace H := Option.bind_eq_some_iff.mp H
      obtain ⟨t157, A50, H⟩ := H
      replace H : (if t157 = true then ((api_RMove.f k t145 (([(⟨0, 1⟩ : S71)] : List (S71)))).bind fun t161 => (some t161)) else (some false)) = some r := H
      have A5 := Aside0.mk A50
      clear A50
      by_cases c6 : t157 = true
      · subst c6
        have H1 : ((api_RMove.f k t145 (([(⟨0, 1⟩ : S71)] : List (S71)))).bind fun t161 => (some t161)) = some r := by rw [if_pos rfl] at H; exact H
        clear H
        have H := H1
        clear H1
        obtain ⟨y158, hy158⟩ : ∃ y_ : List (S71), y_ = (([(⟨0, 1⟩ : S71)] : List (S71))) := ⟨_, rfl⟩
        replace H : ((api_RMove.f k t145 y158).bind fun t161 => (some t161)) = some r := by first | (rw [hy158]; with_reducible exact H) | (have H2_ := (Option.bind_some _ _).symm.trans H; rw [hy158]; with_reducible exact H2_) | (have H2_ := (Option.bind_some _ _).symm.trans H; with_reducible exact H2_) | with_reducible exact H | (rw [hy158]; exact H) | exact H
        have Ny158 := Aside0.mk hy158
        clear hy158
        replace H := Option.bind_eq_some_iff.mp H
        obtain ⟨t161, A70, H⟩ := H
        replace H : (some t161) = some r := H
        have A7 := Aside0.mk A70
        clear A70
        obtain rfl := Option.some.inj H
        go_enter Try.func53, Try.ntmps53
        go_wp2_with (first | ((with_reducible refine gate_dst (N := 5) rfl ?_); (try (refine gate_guard (by rfl) ?_; dsimp only)); refine Kd.R_lit (Kd.int .u64) _ 46 ?hg (N := 5) ?hd (xs := ([0, 0] : List Int)) (inner := [.int .u64 0, .int .u64 0]) (ok := fun _ => True) (okp := fun _ => True) ?hr ?hp (fun _ hk => hk) trivial (Below.refl _ _) (Nat.le_refl _) (by simp) ?_; (case hd => rfl); (case hg => rfl); (case hr => first | (go_simp; done) | (go_simp; rfl)); (case hp => exact (Reps.one (show Kd.M (Kd.int .u64) _ _ _ 0 [.int .u64 0] from rfl) (Reps.one (show Kd.M (Kd.int .u64) _ _ _ 0 [.int .u64 0] from rfl) (Reps.none _ _)))); intro v134 w8 ho9 hb hg_ hnew_; clear hg_ hnew_; (first | rw [← Ny133.out] at ho9 | (simp only [Int.reduceToNat] at ho9; rw [← Ny133.out] at ho9)); have n0_ := Aside0.mk (Kd.R_lower ho9 (below_size (by repeat (first | (with_reducible first | exact HB.out | apply below_alloc | apply pw_below_drewN | apply below_drew1) | exact HB.out)))); have n1_ := Aside0.mk (below_step (by repeat (first | (with_reducible first | exact HB.out | apply below_alloc | apply pw_below_drewN | apply below_drew1) | exact HB.out)) hb); clear HB; have HO135 := n0_; have HB := n1_; clear n0_ n1_; clear hb ho9) | ((with_reducible refine gate_dst (N := 6) rfl ?_); (try (refine gate_guard (by rfl) ?_; dsimp only)); refine Kd.R_lit (Kd.int .u64) _ 46 ?hg (N := 6) ?hd (xs := ([18445899648779419649] : List Int)) (inner := [.int .u64 18445899648779419649]) (ok := fun _ => True) (okp := fun _ => True) ?hr ?hp (fun _ hk => hk) trivial (Below.refl _ _) (Nat.le_refl _) (by simp) ?_; (case hd => rfl); (case hg => rfl); (case hr => first | (go_simp; done) | (go_simp; rfl)); (case hp => exact (Reps.one (show Kd.M (Kd.int .u64) _ _ _ 18445899648779419649 [.int .u64 18445899648779419649] from rfl) (Reps.none _ _))); intro v137 w10 ho11 hb hg_ hnew_; clear hg_ hnew_; (first | rw [← Ny136.out] at ho11 | (simp only [Int.reduceToNat] at ho11; rw [← Ny136.out] at ho11)); have n0_ := Aside0.mk (Kd.R_elder' (by (with_reducible repeat (first | apply Kd.R_alloc | apply Kd.R_drewN | apply Kd.R_drew)); exact HO135.out) (Kd.R_base ho11) hb); have n1_ := Aside0.mk (Kd.R_lower (Kd.R_new' ho11 (Kd.R_lt (by (with_reducible repeat (first | apply Kd.R_alloc | apply Kd.R_drewN | apply Kd.R_drew)); exact HO135.out))) (below_size (by repeat (first | (with_reducible first | exact HB.out | apply below_alloc | apply pw_below_drewN | apply below_drew1) | exact HB.out)))); have n2_ := Aside0.mk (below_step (by repeat (first | (with_reducible first | exact HB.out | apply below_alloc | apply pw_below_drewN | apply below_drew1) | exact HB.out)) hb); clear HO135; clear HB; have HO135 := n0_; have HO138 := n1_; have HB := n2_; clear n0_ n1_ n2_; clear hb ho11; obtain ⟨Ao12, co12, eo12⟩ := Kd.R_slice HO138.out; subst eo12; obtain ⟨Ao13, co13, eo13⟩ := Kd.R_slice HO135.out; subst eo13) | ((with_reducible refine gate_callee (f := 56) rfl ?_); refine goesL_ (some 8) rfl rfl Try.func56 (by kernel_rfl) rfl #[.agg #[.slice Ao13 y133.length co13, .slice Ao12 y136.length co12]] rfl (by (try simp only [List.map_toArray, List.map_cons, List.map_nil]); first | done | rfl | (simp only [List.length_drop, List.length_take]; rfl)) ?_; (with_reducible refine (haul_Collect.calls k _ _ y133 _ _ y136 t139 t142 t145 t148 _ ?side1 ?side2 ?side3 ?side4 A1.out).mono ?_); (case side1 => repeat (first | exact (Kd.R_reads' HO135.out).2.2 | (with_reducible refine Kd.C_alloc ?_ _) | (with_reducible refine Kd.C_drewN ?_ _) | (with_reducible refine Kd.C_drew ?_))); (case side2 => exact (Kd.R_reads' HO135.out).2.1); (case side3 => repeat (first | exact (Kd.R_reads' HO138.out).2.2 | (with_reducible refine Kd.C_alloc ?_ _) | (with_reducible refine Kd.C_drewN ?_ _) | (with_reducible refine Kd.C_drew ?_))); (case side4 => exact (Kd.R_reads' HO138.out).2.1); rintro e w14 ⟨v140, v143, v146, rfl, ho0, ho1, ho2, hb⟩; refine ⟨_, rfl, ?_⟩; have n0_ := Aside0.mk (Kd.R_mono (Kd.R_told (Kd.R_told (Kd.R_old (by (with_reducible repeat (first | apply Kd.R_alloc | apply Kd.R_drewN | apply Kd.R_drew)); exact HO135.out) hb) (Kd.R_base ho0)) (Kd.R_base ho1)) (fun _ h_ => h_.1)); have n1_ := Aside0.mk (Kd.R_mono (Kd.R_told (Kd.R_told (Kd.R_old (by (with_reducible repeat (first | apply Kd.R_alloc | apply Kd.R_drewN | apply Kd.R_drew)); exact HO138.out) hb) (Kd.R_base ho0)) (Kd.R_base ho1)) (fun _ h_ => h_.1)); have n2_ := Aside0.mk (Kd.R_lower (Kd.R_new' (Kd.R_new' ho0 (Kd.R_lt (by (with_reducible repeat (first | apply Kd.R_alloc | apply Kd.R_drewN | apply Kd.R_drew)); exact HO135.out))) (Kd.R_lt (by (with_reducible repeat (first | apply Kd.R_alloc | apply Kd.R_drewN | apply Kd.R_drew)); exact HO138.out))) (below_size (by repeat (first | (with_reducible first | exact HB.out | apply below_alloc | apply pw_below_drewN | apply below_drew1) | exact HB.out)))); have n3_ := Aside0.mk (Kd.R_lower (Kd.R_new' (Kd.R_new' ho1 (Kd.R_lt (by (with_reducible repeat (first | apply Kd.R_alloc | apply Kd.R_drewN | apply Kd.R_drew)); exact HO135.out))) (Kd.R_lt (by (with_reducible repeat (first | apply Kd.R_alloc | apply Kd.R_drewN | apply Kd.R_drew)); exact HO138.out))) (below_size (by repeat (first | (with_reducible first | exact HB.out | apply below_alloc | apply pw_below_drewN | apply below_drew1) | exact HB.out)))); have n4_ := Aside0.mk (Kd.R_lower ho2 (below_size (by repeat (first | (with_reducible first | exact HB.out | apply below_alloc | apply pw_below_drewN | apply below_drew1) | exact HB.out)))); have n5_ := Aside0.mk (below_step (by repeat (first | (with_reducible first | exact HB.out | apply below_alloc | apply pw_below_drewN | apply below_drew1) | exact HB.out)) hb); clear HO135; clear HO138; clear HB; have HO135 := n0_; have HO138 := n1_; have HO141 := n2_; have HO144 := n3_; have HO147 := n4_; have HB := n5_; clear n0_ n1_ n2_ n3_ n4_ n5_; (try clear hb); (try clear hb2); (try clear hk); (try clear hi); (try clear ho0); (try clear ho1); (try clear ho2)) | ((with_reducible refine gate_dst (N := 1) rfl ?_); (try (refine gate_guard (by rfl) ?_; dsimp only)); refine box_event ?hg (N := 1) ?hd (cs := #[.slice none 0 0, .slice none 0 0]) (t := 106) ?hr ?_; (case hd => rfl); (case hg => rfl); (case hr => first | (go_simp; done) | (go_simp; rfl)); intro gb149 hg w15 hbox hb; have n0_ := Aside0.mk (Kd.R_below (by (with_reducible repeat (first | apply Kd.R_alloc | apply Kd.R_drewN | apply Kd.R_drew)); exact HO135.out) hb); have n1_ := Aside0.mk (Kd.R_below (by (with_reducible repeat (first | apply Kd.R_alloc | apply Kd.R_drewN | apply Kd.R_drew)); exact HO138.out) hb); have n2_ := Aside0.mk (Kd.R_below (by (with_reducible repeat (first | apply Kd.R_alloc | apply Kd.R_drewN | apply Kd.R_drew)); exact HO141.out) hb); have n3_ := Aside0.mk (Kd.R_below (by (with_reducible repeat (first | apply Kd.R_alloc | apply Kd.R_drewN | apply Kd.R_drew)); exact HO144.out) hb); have n4_ := Aside0.mk (Kd.R_below (by (with_reducible repeat (first | apply Kd.R_alloc | apply Kd.R_drewN | apply Kd.R_drew)); exact HO147.out) hb); have n5_ := Aside0.mk (below_step (by repeat (first | (with_reducible first | exact HB.out | apply below_alloc | apply pw_below_drewN | apply below_drew1) | exact HB.out)) hb); have n6_ := Aside0.mk (hbox); have n7_ := Aside0.mk ((by rw [hg]; exact (below_size (by repeat (first | (with_reducible first | exact HB.out | apply below_alloc | apply pw_below_drewN | apply below_drew1) | exact HB.out))) : w.heap.size ≤ gb149)); have n8_ := Aside0.mk ((by rw [hg]; exact (below_size (by repeat (first | (with_reducible first | exact HB.out | apply below_alloc | apply pw_below_drewN | apply below_drew1) | exact HB.out))) : w.heap.size ≤ gb149)); clear HO135; clear HO138; clear HO141; clear HO144; clear HO147; clear HB; have HO135 := n0_; have HO138 := n1_; have HO141 := n2_; have HO144 := n3_; have HO147 := n4_; have HB := n5_; have BK149 := n6_; have GW149 := n7_; have GE149 := n8_; clear n0_ n1_ n2_ n3_ n4_ n5_ n6_ n7_ n8_; clear hb hbox hg; obtain ⟨Ao16, co16, eo16⟩ := Kd.R_slice HO141.out; subst eo16; have hcz17_0 : w15.cell? ⟨gb149, 0, none⟩ = some (.slice none 0 0) := (blk_cell BK149.out 0).trans rfl; have hcz17_1 : w15.cell? ⟨gb149, 1, none⟩ = some (.slice none 0 0) := (blk_cell BK149.out 1).trans rfl; have hfz17_0 := blk_frozen BK149.out 0; have hfz17_1 := blk_frozen BK149.out 1; obtain ⟨Ao18, co18, eo18⟩ := Kd.R_slice HO144.out; subst eo18) | ((with_reducible refine gate_dst (N := 17) rfl ?_); (try (refine gate_guard (by rfl) ?_; dsimp only)); refine Kd.R_lit (Kd.int .u64) _ 46 ?hg (N := 17) ?hd (xs := ([0] : List Int)) (inner := [.int .u64 0]) (ok := fun _ => True) (okp := fun _ => True) ?hr ?hp (fun _ hk => hk) trivial (Below.refl _ _) (Nat.le_refl _) (by simp) ?_; (case hd => rfl); (case hg => rfl); (case hr => first | (go_simp; done) | (go_simp; rfl)); (case hp => exact (Reps.one (show Kd.M (Kd.int .u64) _ _ _ 0 [.int .u64 0] from rfl) (Reps.none _ _))); intro v151 w19 ho20 hb hg_ hnew_; clear hg_ hnew_; (first | rw [← Ny150.out] at ho20 | (simp only [Int.reduceToNat] at ho20; rw [← Ny150.out] at ho20)); have n0_ := Aside0.mk (Kd.R_elder' (by (with_reducible repeat (first | apply Kd.R_alloc | apply Kd.R_drewN | apply Kd.R_drew)); exact (Kd.R_mono (Kd.R_far (p := ⟨gb149, 1, none⟩) (Kd.R_far (p := ⟨gb149, 0, none⟩) (Kd.R_types HO135.out BK149.out (by decide)) (fun _ hk => hk.2) (.slice Ao16 t139.length co16)) (fun _ hk => hk.2) (.slice Ao18 t142.length co18)) (fun _ h_ => h_.1))) (Kd.R_base ho20) hb); have n1_ := Aside0.mk (Kd.R_elder' (by (with_reducible repeat (first | apply Kd.R_alloc | apply Kd.R_drewN | apply Kd.R_drew)); exact (Kd.R_mono (Kd.R_far (p := ⟨gb149, 1, none⟩) (Kd.R_far (p := ⟨gb149, 0, none⟩) (Kd.R_types HO138.out BK149.out (by decide)) (fun _ hk => hk.2) (.slice Ao16 t139.length co16)) (fun _ hk => hk.2) (.slice Ao18 t142.length co18)) (fun _ h_ => h_.1))) (Kd.R_base ho20) hb); have n2_ := Aside0.mk (Kd.R_elder' (by (with_reducible repeat (first | apply Kd.R_alloc | apply Kd.R_drewN | apply Kd.R_drew)); exact (Kd.R_mono (Kd.R_far (p := ⟨gb149, 1, none⟩) (Kd.R_far (p := ⟨gb149, 0, none⟩) (Kd.R_types HO141.out BK149.out (by decide)) (fun _ hk => hk.2) (.slice Ao16 t139.length co16)) (fun _ hk => hk.2) (.slice Ao18 t142.length co18)) (fun _ h_ => h_.1))) (Kd.R_base ho20) hb); have n3_ := Aside0.mk (Kd.R_elder' (by (with_reducible repeat (first | apply Kd.R_alloc | apply Kd.R_drewN | apply Kd.R_drew)); exact (Kd.R_mono (Kd.R_far (p := ⟨gb149, 1, none⟩) (Kd.R_far (p := ⟨gb149, 0, none⟩) (Kd.R_types HO144.out BK149.out (by decide)) (fun _ hk => hk.2) (.slice Ao16 t139.length co16)) (fun _ hk => hk.2) (.slice Ao18 t142.length co18)) (fun _ h_ => h_.1))) (Kd.R_base ho20) hb); have n4_ := Aside0.mk (Kd.R_below (by (with_reducible repeat (first | apply Kd.R_alloc | apply Kd.R_drewN | apply Kd.R_drew)); exact (Kd.R_mono (Kd.R_far (p := ⟨gb149, 1, none⟩) (Kd.R_far (p := ⟨gb149, 0, none⟩) (Kd.R_types HO147.out BK149.out (by decide)) (fun _ hk => hk.2) (.slice Ao16 t139.length co16)) (fun _ hk => hk.2) (.slice Ao18 t142.length co18)) (fun _ h_ => h_.1))) hb); have n5_ := Aside0.mk (Kd.R_lower (Kd.R_new' (Kd.R_new' (Kd.R_new' (Kd.R_new' ho20 (Kd.R_lt (by (with_reducible repeat (first | apply Kd.R_alloc | apply Kd.R_drewN | apply Kd.R_drew)); exact (Kd.R_mono (Kd.R_far (p := ⟨gb149, 1, none⟩) (Kd.R_far (p := ⟨gb149, 0, none⟩) (Kd.R_types HO135.out BK149.out (by decide)) (fun _ hk => hk.2) (.slice Ao16 t139.length co16)) (fun _ hk => hk.2) (.slice Ao18 t142.length co18)) (fun _ h_ => h_.1))))) (Kd.R_lt (by (with_reducible repeat (first | apply Kd.R_alloc | apply Kd.R_drewN | apply Kd.R_drew)); exact (Kd.R_mono (Kd.R_far (p := ⟨gb149, 1, none⟩) (Kd.R_far (p := ⟨gb149, 0, none⟩) (Kd.R_types HO138.out BK149.out (by decide)) (fun _ hk => hk.2) (.slice Ao16 t139.length co16)) (fun _ hk => hk.2) (.slice Ao18 t142.length co18)) (fun _ h_ => h_.1))))) (Kd.R_lt (by (with_reducible repeat (first | apply Kd.R_alloc | apply Kd.R_drewN | apply Kd.R_drew)); exact (Kd.R_mono (Kd.R_far (p := ⟨gb149, 1, none⟩) (Kd.R_far (p := ⟨gb149, 0, none⟩) (Kd.R_types HO141.out BK149.out (by decide)) (fun _ hk => hk.2) (.slice Ao16 t139.length co16)) (fun _ hk => hk.2) (.slice Ao18 t142.length co18)) (fun _ h_ => h_.1))))) (Kd.R_lt (by (with_reducible repeat (first | apply Kd.R_alloc | apply Kd.R_drewN | apply Kd.R_drew)); exact (Kd.R_mono (Kd.R_far (p := ⟨gb149, 1, none⟩) (Kd.R_far (p := ⟨gb149, 0, none⟩) (Kd.R_types HO144.out BK149.out (by decide)) (fun _ hk => hk.2) (.slice Ao16 t139.length co16)) (fun _ hk => hk.2) (.slice Ao18 t142.length co18)) (fun _ h_ => h_.1))))) (below_size (by repeat (first | (with_reducible first | exact HB.out | apply below_alloc | apply pw_below_drewN | apply below_drew1 | refine below_set ?_ GE149.out) | exact HB.out)))); have n6_ := Aside0.mk (blk_below (g := gb149) (o := .cells #[.slice Ao16 t139.length co16, .slice Ao18 t142.length co18] 106 (0, 0)) (by (with_reducible repeat (first | refine blk_drewN ?_ _ | refine blk_drew ?_ | refine blk_alloc ?_ _)); refine blk_put (cs := #[.slice Ao16 t139.length co16, .slice none 0 0]) ?_ 1 _ rfl; (with_reducible repeat (first | refine blk_drewN ?_ _ | refine blk_drew ?_ | refine blk_alloc ?_ _)); refine blk_put (cs := #[.slice none 0 0, .slice none 0 0]) ?_ 0 _ rfl; (with_reducible repeat (first | refine blk_drewN ?_ _ | refine blk_drew ?_ | refine blk_alloc ?_ _)); exact BK149.out) hb); have n7_ := Aside0.mk (below_step (by repeat (first | (with_reducible first | exact HB.out | apply below_alloc | apply pw_below_drewN | apply below_drew1 | refine below_set ?_ GE149.out) | exact HB.out)) hb); clear HO135; clear HO138; clear HO141; clear HO144; clear HO147; clear BK149; clear HB; have HO135 := n0_; have HO138 := n1_; have HO141 := n2_; have HO144 := n3_; have HO147 := n4_; have HO152 := n5_; have BK149 := n6_; have HB := n7_; clear n0_ n1_ n2_ n3_ n4_ n5_ n6_ n7_; clear hb ho20; obtain ⟨Ao21, co21, eo21⟩ := Kd.R_slice HO152.out; subst eo21) | (go_at_call 37; (with_reducible refine (backstitchref3_Eq_uint64.calls k _ _ t139 _ _ y150 true _ ?side1 ?side2 ?side3 ?side4 A3.out).mono ?_); (case side1 => repeat (first | exact (Kd.R_reads' HO141.out).2.2 | (with_reducible refine Kd.C_alloc ?_ _) | (with_reducible refine Kd.C_drewN ?_ _) | (with_reducible refine Kd.C_drew ?_))); (case side2 => exact (Kd.R_reads' HO141.out).2.1); (case side3 => repeat (first | exact (Kd.R_reads' HO152.out).2.2 | (with_reducible refine Kd.C_alloc ?_ _) | (with_reducible refine Kd.C_drewN ?_ _) | (with_reducible refine Kd.C_drew ?_))); (case side4 => exact (Kd.R_reads' HO152.out).2.1); rintro e w' ⟨rfl, ⟨nd, rfl⟩⟩; have hcz22_0 : w19.cell? ⟨gb149, 0, none⟩ = some (.slice Ao16 t139.length co16) := (blk_cell BK149.out 0).trans rfl; have hcz22_1 : w19.cell? ⟨gb149, 1, none⟩ = some (.slice Ao18 t142.length co18) := (blk_cell BK149.out 1).trans rfl; have hfz22_0 := blk_frozen BK149.out 0; have hfz22_1 := blk_frozen BK149.out 1) | ((with_reducible refine gate_dst (N := 23) rfl ?_); (try (refine gate_guard (by rfl) ?_; dsimp only)); refine Kd.R_lit (Kd.int .u64) _ 46 ?hg (N := 23) ?hd (xs := ([18445899648779419648] : List Int)) (inner := [.int .u64 18445899648779419648]) (ok := fun _ => True) (okp := fun _ => True) ?hr ?hp (fun _ hk => hk) trivial (Below.refl _ _) (Nat.le_refl _) (by simp) ?_; (case hd => rfl); (case hg => rfl); (case hr => first | (go_simp; done) | (go_simp; rfl)); (case hp => exact (Reps.one (show Kd.M (Kd.int .u64) _ _ _ 18445899648779419648 [.int .u64 18445899648779419648] from rfl) (Reps.none _ _))); intro v155 w23 ho24 hb hg_ hnew_; clear hg_ hnew_; (first | rw [← Ny154.out] at ho24 | (simp only [Int.reduceToNat] at ho24; rw [← Ny154.out] at ho24)); have n0_ := Aside0.mk (Kd.R_elder' (by (with_reducible repeat (first | apply Kd.R_alloc | apply Kd.R_drewN | apply Kd.R_drew)); exact HO135.out) (Kd.R_base ho24) hb); have n1_ := Aside0.mk (Kd.R_elder' (by (with_reducible repeat (first | apply Kd.R_alloc | apply Kd.R_drewN | apply Kd.R_drew)); exact HO138.out) (Kd.R_base ho24) hb); have n2_ := Aside0.mk (Kd.R_elder' (by (with_reducible repeat (first | apply Kd.R_alloc | apply Kd.R_drewN | apply Kd.R_drew)); exact HO141.out) (Kd.R_base ho24) hb); have n3_ := Aside0.mk (Kd.R_elder' (by (with_reducible repeat (first | apply Kd.R_alloc | apply Kd.R_drewN | apply Kd.R_drew)); exact HO144.out) (Kd.R_base ho24) hb); have n4_ := Aside0.mk (Kd.R_below (by (with_reducible repeat (first | apply Kd.R_alloc | apply Kd.R_drewN | apply Kd.R_drew)); exact HO147.out) hb); have n5_ := Aside0.mk (Kd.R_elder' (by (with_reducible repeat (first | apply Kd.R_alloc | apply Kd.R_drewN | apply Kd.R_drew)); exact HO152.out) (Kd.R_base ho24) hb); have n6_ := Aside0.mk (Kd.R_lower (Kd.R_new' (Kd.R_new' (Kd.R_new' (Kd.R_new' (Kd.R_new' ho24 (Kd.R_lt (by (with_reducible repeat (first | apply Kd.R_alloc | apply Kd.R_drewN | apply Kd.R_drew)); exact HO135.out))) (Kd.R_lt (by (with_reducible repeat (first | apply Kd.R_alloc | apply Kd.R_drewN | apply Kd.R_drew)); exact HO138.out))) (Kd.R_lt (by (with_reducible repeat (first | apply Kd.R_alloc | apply Kd.R_drewN | apply Kd.R_drew)); exact HO141.out))) (Kd.R_lt (by (with_reducible repeat (first | apply Kd.R_alloc | apply Kd.R_drewN | apply Kd.R_drew)); exact HO144.out))) (Kd.R_lt (by (with_reducible repeat (first | apply Kd.R_alloc | apply Kd.R_drewN | apply Kd.R_drew)); exact HO152.out))) (below_size (by repeat (first | (with_reducible first | exact HB.out | apply below_alloc | apply pw_below_drewN | apply below_drew1 | refine below_set ?_ GE149.out) | exact HB.out)))); have n7_ := Aside0.mk (blk_below (g := gb149) (o := .cells #[.slice Ao16 t139.length co16, .slice Ao18 t142.length co18] 106 (0, 0)) (by (with_reducible repeat (first | refine blk_drewN ?_ _ | refine blk_drew ?_ | refine blk_alloc ?_ _)); exact BK149.out) hb); have n8_ := Aside0.mk (below_step (by repeat (first | (with_reducible first | exact HB.out | apply below_alloc | apply pw_below_drewN | apply below_drew1 | refine below_set ?_ GE149.out) | exact HB.out)) hb); clear HO135; clear HO138; clear HO141; clear HO144; clear HO147; clear HO152; clear BK149; clear HB; have HO135 := n0_; have HO138 := n1_; have HO141 := n2_; have HO144 := n3_; have HO147 := n4_; have HO152 := n5_; have HO156 := n6_; have BK149 := n7_; have HB := n8_; clear n0_ n1_ n2_ n3_ n4_ n5_ n6_ n7_ n8_; clear hb ho24; obtain ⟨Ao25, co25, eo25⟩ := Kd.R_slice HO156.out; subst eo25) | (go_at_call 37; (with_reducible refine (backstitchref3_Eq_uint64.calls k _ _ t142 _ _ y154 true _ ?side1 ?side2 ?side3 ?side4 A5.out).mono ?_); (case side1 => repeat (first | exact (Kd.R_reads' HO144.out).2.2 | (with_reducible refine Kd.C_alloc ?_ _) | (with_reducible refine Kd.C_drewN ?_ _) | (with_reducible refine Kd.C_drew ?_))); (case side2 => exact (Kd.R_reads' HO144.out).2.1); (case side3 => repeat (first | exact (Kd.R_reads' HO156.out).2.2 | (with_reducible refine Kd.C_alloc ?_ _) | (with_reducible refine Kd.C_drewN ?_ _) | (with_reducible refine Kd.C_drew ?_))); (case side4 => exact (Kd.R_reads' HO156.out).2.1); rintro e w' ⟨rfl, ⟨nd, rfl⟩⟩) | ((with_reducible refine gate_dst (N := 29) rfl ?_); (try (refine gate_guard (by rfl) ?_; dsimp only)); refine Kd.R_lit k71 _ 71 ?hg (N := 29) ?hd (xs := ([(⟨0, 1⟩ : S71)] : List (S71))) (inner := [.int .i64 0, .int .i64 1]) (ok := fun _ => True) (okp := fun _ => True) ?hr ?hp (fun _ hk => hk) trivial (Below.refl _ _) (Nat.le_refl _) (by simp) ?_; (case hd => rfl); (case hg => rfl); (case hr => first | (go_simp; done) | (go_simp; rfl)); (case hp => exact (Reps.c2 (show Kd.M k71 _ _ _ (⟨0, 1⟩ : S71) [.int .i64 0, .int .i64 1] from (k71_mkM _ _ _ (⟨0, 1⟩ : S71) )) (Reps.none _ _))); intro v159 w26 ho27 hb hg_ hnew_; clear hg_ hnew_; (first | rw [← Ny158.out] at ho27 | (simp only [Int.reduceToNat] at ho27; rw [← Ny158.out] at ho27)); have n0_ := Aside0.mk (Kd.R_below (by (with_reducible repeat (first | apply Kd.R_alloc | apply Kd.R_drewN | apply Kd.R_drew)); exact HO135.out) hb); have n1_ := Aside0.mk (Kd.R_below (by (with_reducible repeat (first | apply Kd.R_alloc | apply Kd.R_drewN | apply Kd.R_drew)); exact HO138.out) hb); have n2_ := Aside0.mk (Kd.R_below (by (with_reducible repeat (first | apply Kd.R_alloc | apply Kd.R_drewN | apply Kd.R_drew)); exact HO141.out) hb); have n3_ := Aside0.mk (Kd.R_below (by (with_reducible repeat (first | apply Kd.R_alloc | apply Kd.R_drewN | apply Kd.R_drew)); exact HO144.out) hb); have n4_ := Aside0.mk (Kd.R_elder' (by (with_reducible repeat (first | apply Kd.R_alloc | apply Kd.R_drewN | apply Kd.R_drew)); exact HO147.out) (Kd.R_base ho27) hb); have n5_ := Aside0.mk (Kd.R_below (by (with_reducible repeat (first | apply Kd.R_alloc | apply Kd.R_drewN | apply Kd.R_drew)); exact HO152.out) hb); have n6_ := Aside0.mk (Kd.R_below (by (with_reducible repeat (first | apply Kd.R_alloc | apply Kd.R_drewN | apply Kd.R_drew)); exact HO156.out) hb); have n7_ := Aside0.mk (Kd.R_lower (Kd.R_new' ho27 (Kd.R_lt (by (with_reducible repeat (first | apply Kd.R_alloc | apply Kd.R_drewN | apply Kd.R_drew)); exact HO147.out))) (below_size (by repeat (first | (with_reducible first | exact HB.out | apply below_alloc | apply pw_below_drewN | apply below_drew1 | refine below_set ?_ GE149.out) | exact HB.out)))); have n8_ := Aside0.mk (blk_below (g := gb149) (o := .cells #[.slice Ao16 t139.length co16, .slice Ao18 t142.length co18] 106 (0, 0)) (by (with_reducible repeat (first | refine blk_drewN ?_ _ | refine blk_drew ?_ | refine blk_alloc ?_ _)); exact BK149.out) hb); have n9_ := Aside0.mk (below_step (by repeat (first | (with_reducible first | exact HB.out | apply below_alloc | apply pw_below_drewN | apply below_drew1 | refine below_set ?_ GE149.out) | exact HB.out)) hb); clear HO135; clear HO138; clear HO141; clear HO144; clear HO147; clear HO152; clear HO156; clear BK149; clear HB; have HO135 := n0_; have HO138 := n1_; have HO141 := n2_; have HO144 := n3_; have HO147 := n4_; have HO152 := n5_; have HO156 := n6_; have HO160 := n7_; have BK149 := n8_; have HB := n9_; clear n0_ n1_ n2_ n3_ n4_ n5_ n6_ n7_ n8_ n9_; clear hb ho27; obtain ⟨Ao28, co28, eo28⟩ := Kd.R_slice HO147.out; subst eo28; obtain ⟨Ao29, co29, eo29⟩ := Kd.R_slice HO160.out; subst eo29) | (go_at_call 32; (with_reducible refine (api_RMove.calls k _ _ t145 _ _ y158 t161 _ ?side1 ?side2 ?side3 ?side4 A7.out).mono ?_); (case side1 => repeat (first | exact (Kd.R_reads' HO147.out).2.2 | (with_reducible refine Kd.C_alloc ?_ _) | (with_reducible refine Kd.C_drewN ?_ _) | (with_reducible refine Kd.C_drew ?_))); (case side2 => exact (Kd.R_reads' HO147.out).2.1); (case side3 => repeat (first | exact (Kd.R_reads' HO160.out).2.2 | (with_reducible refine Kd.C_alloc ?_ _) | (with_reducible refine Kd.C_drewN ?_ _) | (with_reducible refine Kd.C_drew ?_))); (case side4 => exact (Kd.R_reads' HO160.out).2.1); rintro e w30 ⟨rfl, hb⟩; have n0_ := Aside0.mk (Kd.R_below (by (with_reducible repeat (first | apply Kd.R_alloc | apply Kd.R_drewN | apply Kd.R_drew)); exact HO135.out) hb); have n1_ := Aside0.mk (Kd.R_below (by (with_reducible repeat (first | apply Kd.R_alloc | apply Kd.R_drewN | apply Kd.R_drew)); exact HO138.out) hb); have n2_ := Aside0.mk (Kd.R_below (by (with_reducible repeat (first | apply Kd.R_alloc | apply Kd.R_drewN | apply Kd.R_drew)); exact HO141.out) hb); have n3_ := Aside0.mk (Kd.R_below (by (with_reducible repeat (first | apply Kd.R_alloc | apply Kd.R_drewN | apply Kd.R_drew)); exact HO144.out) hb); have n4_ := Aside0.mk (Kd.R_below (by (with_reducible repeat (first | apply Kd.R_alloc | apply Kd.R_drewN | apply Kd.R_drew)); exact HO147.out) hb); have n5_ := Aside0.mk (Kd.R_below (by (with_reducible repeat (first | apply Kd.R_alloc | apply Kd.R_drewN | apply Kd.R_drew)); exact HO152.out) hb); have n6_ := Aside0.mk (Kd.R_below (by (with_reducible repeat (first | apply Kd.R_alloc | apply Kd.R_drewN | apply Kd.R_drew)); exact HO156.out) hb); have n7_ := Aside0.mk (Kd.R_below (by (with_reducible repeat (first | apply Kd.R_alloc | apply Kd.R_drewN | apply Kd.R_drew)); exact HO160.out) hb); have n8_ := Aside0.mk (blk_below (g := gb149) (o := .cells #[.slice Ao16 t139.length co16, .slice Ao18 t142.length co18] 106 (0, 0)) (by (with_reducible repeat (first | refine blk_drewN ?_ _ | refine blk_drew ?_ | refine blk_alloc ?_ _)); exact BK149.out) hb); have n9_ := Aside0.mk (below_step (by repeat (first | (with_reducible first | exact HB.out | apply below_alloc | apply pw_below_drewN | apply below_drew1 | refine below_set ?_ GE149.out) | exact HB.out)) hb); clear HO135; clear HO138; clear HO141; clear HO144; clear HO147; clear HO152; clear HO156; clear HO160; clear BK149; clear HB; have HO135 := n0_; have HO138 := n1_; have HO141 := n2_; have HO144 := n3_; have HO147 := n4_; have HO152 := n5_; have HO156 := n6_; have HO160 := n7_; have BK149 := n8_; have HB := n9_; clear n0_ n1_ n2_ n3_ n4_ n5_ n6_ n7_ n8_ n9_; (try clear hb); (try clear hb2); (try clear hk); (try clear hi)))
        go_ret
        exact ⟨by first | rfl | (simp [errW_none, errW_some] <;> rfl) | (simp [*, errW_none, errW_some] <;> rfl), by repeat (first | (with_reducible first | exact HB.out | apply below_alloc | apply pw_below_drewN | apply below_drew1 | refine below_set ?_ GE149.out) | exact HB.out)⟩
      · replace c6 := Bool.eq_false_iff.mpr c6
        subst c6
        have H1 : (some false) = some r := by rw [if_neg (show ¬ (false = true) by decide)] at H; exact H
        clear H
        have H := H1
        clear H1
        obtain rfl := Option.some.inj H
        go_enter Try.func53, Try.ntmps53
        go_wp2_with (first | ((with_reducible refine gate_dst (N := 5) rfl ?_); (try (refine gate_guard (by rfl) ?_; dsimp only)); refine Kd.R_lit (Kd.int .u64) _ 46 ?hg (N := 5) ?hd (xs := ([0, 0] : List Int)) (inner := [.int .u64 0, .int .u64 0]) (ok := fun _ => True) (okp := fun _ => True) ?hr ?hp (fun _ hk => hk) trivial (Below.refl _ _) (Nat.le_refl _) (by simp) ?_; (case hd => rfl); (case hg => rfl); (case hr => first | (go_simp; done) | (go_simp; rfl)); (case hp => exact (Reps.one (show Kd.M (Kd.int .u64) _ _ _ 0 [.int .u64 0] from rfl) (Reps.one (show Kd.M (Kd.int .u64) _ _ _ 0 [.int .u64 0] from rfl) (Reps.none _ _)))); intro v134 w31 ho32 hb hg_ hnew_; clear hg_ hnew_; (first | rw [← Ny133.out] at ho32 | (simp only [Int.reduceToNat] at ho32; rw [← Ny133.out] at ho32)); have n0_ := Aside0.mk (Kd.R_lower ho32 (below_size (by repeat (first | (with_reducible first | exact HB.out | apply below_alloc | apply pw_below_drewN | apply below_drew1) | exact HB.out)))); have n1_ := Aside0.mk (below_step (by repeat (first | (with_reducible first | exact HB.out | apply below_alloc | apply pw_below_drewN | apply below_drew1) | exact HB.out)) hb); clear HB; have HO135 := n0_; have HB := n1_; clear n0_ n1_; clear hb ho32) | ((with_reducible refine gate_dst (N := 6) rfl ?_); (try (refine gate_guard (by rfl) ?_; dsimp only)); refine Kd.R_lit (Kd.int .u64) _ 46 ?hg (N := 6) ?hd (xs := ([18445899648779419649] : List Int)) (inner := [.int .u64 18445899648779419649]) (ok := fun _ => True) (okp := fun _ => True) ?hr ?hp (fun _ hk => hk) trivial (Below.refl _ _) (Nat.le_refl _) (by simp) ?_; (case hd => rfl); (case hg => rfl); (case hr => first | (go_simp; done) | (go_simp; rfl)); (case hp => exact (Reps.one (show Kd.M (Kd.int .u64) _ _ _ 18445899648779419649 [.int .u64 18445899648779419649] from rfl) (Reps.none _ _))); intro v137 w33 ho34 hb hg_ hnew_; clear hg_ hnew_; (first | rw [← Ny136.out] at ho34 | (simp only [Int.reduceToNat] at ho34; rw [← Ny136.out] at ho34)); have n0_ := Aside0.mk (Kd.R_elder' (by (with_reducible repeat (first | apply Kd.R_alloc | apply Kd.R_drewN | apply Kd.R_drew)); exact HO135.out) (Kd.R_base ho34) hb); have n1_ := Aside0.mk (Kd.R_lower (Kd.R_new' ho34 (Kd.R_lt (by (with_reducible repeat (first | apply Kd.R_alloc | apply Kd.R_drewN | apply Kd.R_drew)); exact HO135.out))) (below_size (by repeat (first | (with_reducible first | exact HB.out | apply below_alloc | apply pw_below_drewN | apply below_drew1) | exact HB.out)))); have n2_ := Aside0.mk (below_step (by repeat (first | (with_reducible first | exact HB.out | apply below_alloc | apply pw_below_drewN | apply below_drew1) | exact HB.out)) hb); clear HO135; clear HB; have HO135 := n0_; have HO138 := n1_; have HB := n2_; clear n0_ n1_ n2_; clear hb ho34; obtain ⟨Ao35, co35, eo35⟩ := Kd.R_slice HO138.out; subst eo35; obtain ⟨Ao36, co36, eo36⟩ := Kd.R_slice HO135.out; subst eo36) | ((with_reducible refine gate_callee (f := 56) rfl ?_); refine goesL_ (some 8) rfl rfl Try.func56 (by kernel_rfl) rfl #[.agg #[.slice Ao36 y133.length co36, .slice Ao35 y136.length co35]] rfl (by (try simp only [List.map_toArray, List.map_cons, List.map_nil]); first | done | rfl | (simp only [List.length_drop, List.length_take]; rfl)) ?_; (with_reducible refine (haul_Collect.calls k _ _ y133 _ _ y136 t139 t142 t145 t148 _ ?side1 ?side2 ?side3 ?side4 A1.out).mono ?_); (case side1 => repeat (first | exact (Kd.R_reads' HO135.out).2.2 | (with_reducible refine Kd.C_alloc ?_ _) | (with_reducible refine Kd.C_drewN ?_ _) | (with_reducible refine Kd.C_drew ?_))); (case side2 => exact (Kd.R_reads' HO135.out).2.1); (case side3 => repeat (first | exact (Kd.R_reads' HO138.out).2.2 | (with_reducible refine Kd.C_alloc ?_ _) | (with_reducible refine Kd.C_drewN ?_ _) | (with_reducible refine Kd.C_drew ?_))); (case side4 => exact (Kd.R_reads' HO138.out).2.1); rintro e w37 ⟨v140, v143, v146, rfl, ho0, ho1, ho2, hb⟩; refine ⟨_, rfl, ?_⟩; have n0_ := Aside0.mk (Kd.R_mono (Kd.R_told (Kd.R_told (Kd.R_old (by (with_reducible repeat (first | apply Kd.R_alloc | apply Kd.R_drewN | apply Kd.R_drew)); exact HO135.out) hb) (Kd.R_base ho0)) (Kd.R_base ho1)) (fun _ h_ => h_.1)); have n1_ := Aside0.mk (Kd.R_mono (Kd.R_told (Kd.R_told (Kd.R_old (by (with_reducible repeat (first | apply Kd.R_alloc | apply Kd.R_drewN | apply Kd.R_drew)); exact HO138.out) hb) (Kd.R_base ho0)) (Kd.R_base ho1)) (fun _ h_ => h_.1)); have n2_ := Aside0.mk (Kd.R_lower (Kd.R_new' (Kd.R_new' ho0 (Kd.R_lt (by (with_reducible repeat (first | apply Kd.R_alloc | apply Kd.R_drewN | apply Kd.R_drew)); exact HO135.out))) (Kd.R_lt (by (with_reducible repeat (first | apply Kd.R_alloc | apply Kd.R_drewN | apply Kd.R_drew)); exact HO138.out))) (below_size (by repeat (first | (with_reducible first | exact HB.out | apply below_alloc | apply pw_below_drewN | apply below_drew1) | exact HB.out)))); have n3_ := Aside0.mk (Kd.R_lower (Kd.R_new' (Kd.R_new' ho1 (Kd.R_lt (by (with_reducible repeat (first | apply Kd.R_alloc | apply Kd.R_drewN | apply Kd.R_drew)); exact HO135.out))) (Kd.R_lt (by (with_reducible repeat (first | apply Kd.R_alloc | apply Kd.R_drewN | apply Kd.R_drew)); exact HO138.out))) (below_size (by repeat (first | (with_reducible first | exact HB.out | apply below_alloc | apply pw_below_drewN | apply below_drew1) | exact HB.out)))); have n4_ := Aside0.mk (Kd.R_lower ho2 (below_size (by repeat (first | (with_reducible first | exact HB.out | apply below_alloc | apply pw_below_drewN | apply below_drew1) | exact HB.out)))); have n5_ := Aside0.mk (below_step (by repeat (first | (with_reducible first | exact HB.out | apply below_alloc | apply pw_below_drewN | apply below_drew1) | exact HB.out)) hb); clear HO135; clear HO138; clear HB; have HO135 := n0_; have HO138 := n1_; have HO141 := n2_; have HO144 := n3_; have HO147 := n4_; have HB := n5_; clear n0_ n1_ n2_ n3_ n4_ n5_; (try clear hb); (try clear hb2); (try clear hk); (try clear hi); (try clear ho0); (try clear ho1); (try clear ho2)) | ((with_reducible refine gate_dst (N := 1) rfl ?_); (try (refine gate_guard (by rfl) ?_; dsimp only)); refine box_event ?hg (N := 1) ?hd (cs := #[.slice none 0 0, .slice none 0 0]) (t := 106) ?hr ?_; (case hd => rfl); (case hg => rfl); (case hr => first | (go_simp; done) | (go_simp; rfl)); intro gb149 hg w38 hbox hb; have n0_ := Aside0.mk (Kd.R_below (by (with_reducible repeat (first | apply Kd.R_alloc | apply Kd.R_drewN | apply Kd.R_drew)); exact HO135.out) hb); have n1_ := Aside0.mk (Kd.R_below (by (with_reducible repeat (first | apply Kd.R_alloc | apply Kd.R_drewN | apply Kd.R_drew)); exact HO138.out) hb); have n2_ := Aside0.mk (Kd.R_below (by (with_reducible repeat (first | apply Kd.R_alloc | apply Kd.R_drewN | apply Kd.R_drew)); exact HO141.out) hb); have n3_ := Aside0.mk (Kd.R_below (by (with_reducible repeat (first | apply Kd.R_alloc | apply Kd.R_drewN | apply Kd.R_drew)); exact HO144.out) hb); have n4_ := Aside0.mk (Kd.R_below (by (with_reducible repeat (first | apply Kd.R_alloc | apply Kd.R_drewN | apply Kd.R_drew)); exact HO147.out) hb); have n5_ := Aside0.mk (below_step (by repeat (first | (with_reducible first | exact HB.out | apply below_alloc | apply pw_below_drewN | apply below_drew1) | exact HB.out)) hb); have n6_ := Aside0.mk (hbox); have n7_ := Aside0.mk ((by rw [hg]; exact (below_size (by repeat (first | (with_reducible first | exact HB.out | apply below_alloc | apply pw_below_drewN | apply below_drew1) | exact HB.out))) : w.heap.size ≤ gb149)); have n8_ := Aside0.mk ((by rw [hg]; exact (below_size (by repeat (first | (with_reducible first | exact HB.out | apply below_alloc | apply pw_below_drewN | apply below_drew1) | exact HB.out))) : w.heap.size ≤ gb149)); clear HO135; clear HO138; clear HO141; clear HO144; clear HO147; clear HB; have HO135 := n0_; have HO138 := n1_; have HO141 := n2_; have HO144 := n3_; have HO147 := n4_; have HB := n5_; have BK149 := n6_; have GW149 := n7_; have GE149 := n8_; clear n0_ n1_ n2_ n3_ n4_ n5_ n6_ n7_ n8_; clear hb hbox hg; obtain ⟨Ao39, co39, eo39⟩ := Kd.R_slice HO141.out; subst eo39; have hcz40_0 : w38.cell? ⟨gb149, 0, none⟩ = some (.slice none 0 0) := (blk_cell BK149.out 0).trans rfl; have hcz40_1 : w38.cell? ⟨gb149, 1, none⟩ = some (.slice none 0 0) := (blk_cell BK149.out 1).trans rfl; have hfz40_0 := blk_frozen BK149.out 0; have hfz40_1 := blk_frozen BK149.out 1; obtain ⟨Ao41, co41, eo41⟩ := Kd.R_slice HO144.out; subst eo41) | ((with_reducible refine gate_dst (N := 17) rfl ?_); (try (refine gate_guard (by rfl) ?_; dsimp only)); refine Kd.R_lit (Kd.int .u64) _ 46 ?hg (N := 17) ?hd (xs := ([0] : List Int)) (inner := [.int .u64 0]) (ok := fun _ => True) (okp := fun _ => True) ?hr ?hp (fun _ hk => hk) trivial (Below.refl _ _) (Nat.le_refl _) (by simp) ?_; (case hd => rfl); (case hg => rfl); (case hr => first | (go_simp; done) | (go_simp; rfl)); (case hp => exact (Reps.one (show Kd.M (Kd.int .u64) _ _ _ 0 [.int .u64 0] from rfl) (Reps.none _ _))); intro v151 w42 ho43 hb hg_ hnew_; clear hg_ hnew_; (first | rw [← Ny150.out] at ho43 | (simp only [Int.reduceToNat] at ho43; rw [← Ny150.out] at ho43)); have n0_ := Aside0.mk (Kd.R_elder' (by (with_reducible repeat (first | apply Kd.R_alloc | apply Kd.R_drewN | apply Kd.R_drew)); exact (Kd.R_mono (Kd.R_far (p := ⟨gb149, 1, none⟩) (Kd.R_far (p := ⟨gb149, 0, none⟩) (Kd.R_types HO135.out BK149.out (by decide)) (fun _ hk => hk.2) (.slice Ao39 t139.length co39)) (fun _ hk => hk.2) (.slice Ao41 t142.length co41)) (fun _ h_ => h_.1))) (Kd.R_base ho43) hb); have n1_ := Aside0.mk (Kd.R_elder' (by (with_reducible repeat (first | apply Kd.R_alloc | apply Kd.R_drewN | apply Kd.R_drew)); exact (Kd.R_mono (Kd.R_far (p := ⟨gb149, 1, none⟩) (Kd.R_far (p := ⟨gb149, 0, none⟩) (Kd.R_types HO138.out BK149.out (by decide)) (fun _ hk => hk.2) (.slice Ao39 t139.length co39)) (fun _ hk => hk.2) (.slice Ao41 t142.length co41)) (fun _ h_ => h_.1))) (Kd.R_base ho43) hb); have n2_ := Aside0.mk (Kd.R_elder' (by (with_reducible repeat (first | apply Kd.R_alloc | apply Kd.R_drewN | apply Kd.R_drew)); exact (Kd.R_mono (Kd.R_far (p := ⟨gb149, 1, none⟩) (Kd.R_far (p := ⟨gb149, 0, none⟩) (Kd.R_types HO141.out BK149.out (by decide)) (fun _ hk => hk.2) (.slice Ao39 t139.length co39)) (fun _ hk => hk.2) (.slice Ao41 t142.length co41)) (fun _ h_ => h_.1))) (Kd.R_base ho43) hb); have n3_ := Aside0.mk (Kd.R_elder' (by (with_reducible repeat (first | apply Kd.R_alloc | apply Kd.R_drewN | apply Kd.R_drew)); exact (Kd.R_mono (Kd.R_far (p := ⟨gb149, 1, none⟩) (Kd.R_far (p := ⟨gb149, 0, none⟩) (Kd.R_types HO144.out BK149.out (by decide)) (fun _ hk => hk.2) (.slice Ao39 t139.length co39)) (fun _ hk => hk.2) (.slice Ao41 t142.length co41)) (fun _ h_ => h_.1))) (Kd.R_base ho43) hb); have n4_ := Aside0.mk (Kd.R_below (by (with_reducible repeat (first | apply Kd.R_alloc | apply Kd.R_drewN | apply Kd.R_drew)); exact (Kd.R_mono (Kd.R_far (p := ⟨gb149, 1, none⟩) (Kd.R_far (p := ⟨gb149, 0, none⟩) (Kd.R_types HO147.out BK149.out (by decide)) (fun _ hk => hk.2) (.slice Ao39 t139.length co39)) (fun _ hk => hk.2) (.slice Ao41 t142.length co41)) (fun _ h_ => h_.1))) hb); have n5_ := Aside0.mk (Kd.R_lower (Kd.R_new' (Kd.R_new' (Kd.R_new' (Kd.R_new' ho43 (Kd.R_lt (by (with_reducible repeat (first | apply Kd.R_alloc | apply Kd.R_drewN | apply Kd.R_drew)); exact (Kd.R_mono (Kd.R_far (p := ⟨gb149, 1, none⟩) (Kd.R_far (p := ⟨gb149, 0, none⟩) (Kd.R_types HO135.out BK149.out (by decide)) (fun _ hk => hk.2) (.slice Ao39 t139.length co39)) (fun _ hk => hk.2) (.slice Ao41 t142.length co41)) (fun _ h_ => h_.1))))) (Kd.R_lt (by (with_reducible repeat (first | apply Kd.R_alloc | apply Kd.R_drewN | apply Kd.R_drew)); exact (Kd.R_mono (Kd.R_far (p := ⟨gb149, 1, none⟩) (Kd.R_far (p := ⟨gb149, 0, none⟩) (Kd.R_types HO138.out BK149.out (by decide)) (fun _ hk => hk.2) (.slice Ao39 t139.length co39)) (fun _ hk => hk.2) (.slice Ao41 t142.length co41)) (fun _ h_ => h_.1))))) (Kd.R_lt (by (with_reducible repeat (first | apply Kd.R_alloc | apply Kd.R_drewN | apply Kd.R_drew)); exact (Kd.R_mono (Kd.R_far (p := ⟨gb149, 1, none⟩) (Kd.R_far (p := ⟨gb149, 0, none⟩) (Kd.R_types HO141.out BK149.out (by decide)) (fun _ hk => hk.2) (.slice Ao39 t139.length co39)) (fun _ hk => hk.2) (.slice Ao41 t142.length co41)) (fun _ h_ => h_.1))))) (Kd.R_lt (by (with_reducible repeat (first | apply Kd.R_alloc | apply Kd.R_drewN | apply Kd.R_drew)); exact (Kd.R_mono (Kd.R_far (p := ⟨gb149, 1, none⟩) (Kd.R_far (p := ⟨gb149, 0, none⟩) (Kd.R_types HO144.out BK149.out (by decide)) (fun _ hk => hk.2) (.slice Ao39 t139.length co39)) (fun _ hk => hk.2) (.slice Ao41 t142.length co41)) (fun _ h_ => h_.1))))) (below_size (by repeat (first | (with_reducible first | exact HB.out | apply below_alloc | apply pw_below_drewN | apply below_drew1 | refine below_set ?_ GE149.out) | exact HB.out)))); have n6_ := Aside0.mk (blk_below (g := gb149) (o := .cells #[.slice Ao39 t139.length co39, .slice Ao41 t142.length co41] 106 (0, 0)) (by (with_reducible repeat (first | refine blk_drewN ?_ _ | refine blk_drew ?_ | refine blk_alloc ?_ _)); refine blk_put (cs := #[.slice Ao39 t139.length co39, .slice none 0 0]) ?_ 1 _ rfl; (with_reducible repeat (first | refine blk_drewN ?_ _ | refine blk_drew ?_ | refine blk_alloc ?_ _)); refine blk_put (cs := #[.slice none 0 0, .slice none 0 0]) ?_ 0 _ rfl; (with_reducible repeat (first | refine blk_drewN ?_ _ | refine blk_drew ?_ | refine blk_alloc ?_ _)); exact BK149.out) hb); have n7_ := Aside0.mk (below_step (by repeat (first | (with_reducible first | exact HB.out | apply below_alloc | apply pw_below_drewN | apply below_drew1 | refine below_set ?_ GE149.out) | exact HB.out)) hb); clear HO135; clear HO138; clear HO141; clear HO144; clear HO147; clear BK149; clear HB; have HO135 := n0_; have HO138 := n1_; have HO141 := n2_; have HO144 := n3_; have HO147 := n4_; have HO152 := n5_; have BK149 := n6_; have HB := n7_; clear n0_ n1_ n2_ n3_ n4_ n5_ n6_ n7_; clear hb ho43; obtain ⟨Ao44, co44, eo44⟩ := Kd.R_slice HO152.out; subst eo44) | (go_at_call 37; (with_reducible refine (backstitchref3_Eq_uint64.calls k _ _ t139 _ _ y150 true _ ?side1 ?side2 ?side3 ?side4 A3.out).mono ?_); (case side1 => repeat (first | exact (Kd.R_reads' HO141.out).2.2 | (with_reducible refine Kd.C_alloc ?_ _) | (with_reducible refine Kd.C_drewN ?_ _) | (with_reducible refine Kd.C_drew ?_))); (case side2 => exact (Kd.R_reads' HO141.out).2.1); (case side3 => repeat (first | exact (Kd.R_reads' HO152.out).2.2 | (with_reducible refine Kd.C_alloc ?_ _) | (with_reducible refine Kd.C_drewN ?_ _) | (with_reducible refine Kd.C_drew ?_))); (case side4 => exact (Kd.R_reads' HO152.out).2.1); rintro e w' ⟨rfl, ⟨nd, rfl⟩⟩; have hcz45_0 : w42.cell? ⟨gb149, 0, none⟩ = some (.slice Ao39 t139.length co39) := (blk_cell BK149.out 0).trans rfl; have hcz45_1 : w42.cell? ⟨gb149, 1, none⟩ = some (.slice Ao41 t142.length co41) := (blk_cell BK149.out 1).trans rfl; have hfz45_0 := blk_frozen BK149.out 0; have hfz45_1 := blk_frozen BK149.out 1) | ((with_reducible refine gate_dst (N := 23) rfl ?_); (try (refine gate_guard (by rfl) ?_; dsimp only)); refine Kd.R_lit (Kd.int .u64) _ 46 ?hg (N := 23) ?hd (xs := ([18445899648779419648] : List Int)) (inner := [.int .u64 18445899648779419648]) (ok := fun _ => True) (okp := fun _ => True) ?hr ?hp (fun _ hk => hk) trivial (Below.refl _ _) (Nat.le_refl _) (by simp) ?_; (case hd => rfl); (case hg => rfl); (case hr => first | (go_simp; done) | (go_simp; rfl)); (case hp => exact (Reps.one (show Kd.M (Kd.int .u64) _ _ _ 18445899648779419648 [.int .u64 18445899648779419648] from rfl) (Reps.none _ _))); intro v155 w46 ho47 hb hg_ hnew_; clear hg_ hnew_; (first | rw [← Ny154.out] at ho47 | (simp only [Int.reduceToNat] at ho47; rw [← Ny154.out] at ho47)); have n0_ := Aside0.mk (Kd.R_elder' (by (with_reducible repeat (first | apply Kd.R_alloc | apply Kd.R_drewN | apply Kd.R_drew)); exact HO135.out) (Kd.R_base ho47) hb); have n1_ := Aside0.mk (Kd.R_elder' (by (with_reducible repeat (first | apply Kd.R_alloc | apply Kd.R_drewN | apply Kd.R_drew)); exact HO138.out) (Kd.R_base ho47) hb); have n2_ := Aside0.mk (Kd.R_elder' (by (with_reducible repeat (first | apply Kd.R_alloc | apply Kd.R_drewN | apply Kd.R_drew)); exact HO141.out) (Kd.R_base ho47) hb); have n3_ := Aside0.mk (Kd.R_elder' (by (with_reducible repeat (first | apply Kd.R_alloc | apply Kd.R_drewN | apply Kd.R_drew)); exact HO144.out) (Kd.R_base ho47) hb); have n4_ := Aside0.mk (Kd.R_below (by (with_reducible repeat (first | apply Kd.R_alloc | apply Kd.R_drewN | apply Kd.R_drew)); exact HO147.out) hb); have n5_ := Aside0.mk (Kd.R_elder' (by (with_reducible repeat (first | apply Kd.R_alloc | apply Kd.R_drewN | apply Kd.R_drew)); exact HO152.out) (Kd.R_base ho47) hb); have n6_ := Aside0.mk (Kd.R_lower (Kd.R_new' (Kd.R_new' (Kd.R_new' (Kd.R_new' (Kd.R_new' ho47 (Kd.R_lt (by (with_reducible repeat (first | apply Kd.R_alloc | apply Kd.R_drewN | apply Kd.R_drew)); exact HO135.out))) (Kd.R_lt (by (with_reducible repeat (first | apply Kd.R_alloc | apply Kd.R_drewN | apply Kd.R_drew)); exact HO138.out))) (Kd.R_lt (by (with_reducible repeat (first | apply Kd.R_alloc | apply Kd.R_drewN | apply Kd.R_drew)); exact HO141.out))) (Kd.R_lt (by (with_reducible repeat (first | apply Kd.R_alloc | apply Kd.R_drewN | apply Kd.R_drew)); exact HO144.out))) (Kd.R_lt (by (with_reducible repeat (first | apply Kd.R_alloc | apply Kd.R_drewN | apply Kd.R_drew)); exact HO152.out))) (below_size (by repeat (first | (with_reducible first | exact HB.out | apply below_alloc | apply pw_below_drewN | apply below_drew1 | refine below_set ?_ GE149.out) | exact HB.out)))); have n7_ := Aside0.mk (blk_below (g := gb149) (o := .cells #[.slice Ao39 t139.length co39, .slice Ao41 t142.length co41] 106 (0, 0)) (by (with_reducible repeat (first | refine blk_drewN ?_ _ | refine blk_drew ?_ | refine blk_alloc ?_ _)); exact BK149.out) hb); have n8_ := Aside0.mk (below_step (by repeat (first | (with_reducible first | exact HB.out | apply below_alloc | apply pw_below_drewN | apply below_drew1 | refine below_set ?_ GE149.out) | exact HB.out)) hb); clear HO135; clear HO138; clear HO141; clear HO144; clear HO147; clear HO152; clear BK149; clear HB; have HO135 := n0_; have HO138 := n1_; have HO141 := n2_; have HO144 := n3_; have HO147 := n4_; have HO152 := n5_; have HO156 := n6_; have BK149 := n7_; have HB := n8_; clear n0_ n1_ n2_ n3_ n4_ n5_ n6_ n7_ n8_; clear hb ho47; obtain ⟨Ao48, co48, eo48⟩ := Kd.R_slice HO156.out; subst eo48) | (go_at_call 37; (with_reducible refine (backstitchref3_Eq_uint64.calls k _ _ t142 _ _ y154 false _ ?side1 ?side2 ?side3 ?side4 A5.out).mono ?_); (case side1 => repeat (first | exact (Kd.R_reads' HO144.out).2.2 | (with_reducible refine Kd.C_alloc ?_ _) | (with_reducible refine Kd.C_drewN ?_ _) | (with_reducible refine Kd.C_drew ?_))); (case side2 => exact (Kd.R_reads' HO144.out).2.1); (case side3 => repeat (first | exact (Kd.R_reads' HO156.out).2.2 | (with_reducible refine Kd.C_alloc ?_ _) | (with_reducible refine Kd.C_drewN ?_ _) | (with_reducible refine Kd.C_drew ?_))); (case side4 => exact (Kd.R_reads' HO156.out).2.1); rintro e w' ⟨rfl, ⟨nd, rfl⟩⟩))
        go_ret
        exact ⟨by first | rfl | (simp [errW_none, errW_some] <;> rfl) | (simp [*, errW_none, errW_some] <;> rfl), by repeat (first | (with_reducible first | exact HB.out | apply below_alloc | apply pw_below_drewN | apply below_drew1 | refine below_set ?_ GE149.out) | exact HB.out)⟩
    · replace c4 := Bool.eq_false_iff.mpr c4
      subst c4
      have H1 : (some false) = some r := by rw [if_neg (show ¬ (false = true) by decide)] at H; exact H
      clear H
      have H := H1
      clear H1
      obtain rfl := Option.some.inj H
      go_enter Try.func53, Try.ntmps53
      go_wp2_with (first | ((with_reducible refine gate_dst (N := 5) rfl ?_); (try (refine gate_guard (by rfl) ?_; dsimp only)); refine Kd.R_lit (Kd.int .u64) _ 46 ?hg (N := 5) ?hd (xs := ([0, 0] : List Int)) (inner := [.int .u64 0, .int .u64 0]) (ok := fun _ => True) (okp := fun _ => True) ?hr ?hp (fun _ hk => hk) trivial (Below.refl _ _) (Nat.le_refl _) (by simp) ?_; (case hd => rfl); (case hg => rfl); (case hr => first | (go_simp; done) | (go_simp; rfl)); (case hp => exact (Reps.one (show Kd.M (Kd.int .u64) _ _ _ 0 [.int .u64 0] from rfl) (Reps.one (show Kd.M (Kd.int .u64) _ _ _ 0 [.int .u64 0] from rfl) (Reps.none _ _)))); intro v134 w49 ho50 hb hg_ hnew_; clear hg_ hnew_; (first | rw [← Ny133.out] at ho50 | (simp only [Int.reduceToNat] at ho50; rw [← Ny133.out] at ho50)); have n0_ := Aside0.mk (Kd.R_lower ho50 (below_size (by repeat (first | (with_reducible first | exact HB.out | apply below_alloc | apply pw_below_drewN | apply below_drew1) | exact HB.out)))); have n1_ := Aside0.mk (below_step (by repeat (first | (with_reducible first | exact HB.out | apply below_alloc | apply pw_below_drewN | apply below_drew1) | exact HB.out)) hb); clear HB; have HO135 := n0_; have HB := n1_; clear n0_ n1_; clear hb ho50) | ((with_reducible refine gate_dst (N := 6) rfl ?_); (try (refine gate_guard (by rfl) ?_; dsimp only)); refine Kd.R_lit (Kd.int .u64) _ 46 ?hg (N := 6) ?hd (xs := ([18445899648779419649] : List Int)) (inner := [.int .u64 18445899648779419649]) (ok := fun _ => True) (okp := fun _ => True) ?hr ?hp (fun _ hk => hk) trivial (Below.refl _ _) (Nat.le_refl _) (by simp) ?_; (case hd => rfl); (case hg => rfl); (case hr => first | (go_simp; done) | (go_simp; rfl)); (case hp => exact (Reps.one (show Kd.M (Kd.int .u64) _ _ _ 18445899648779419649 [.int .u64 18445899648779419649] from rfl) (Reps.none _ _))); intro v137 w51 ho52 hb hg_ hnew_; clear hg_ hnew_; (first | rw [← Ny136.out] at ho52 | (simp only [Int.reduceToNat] at ho52; rw [← Ny136.out] at ho52)); have n0_ := Aside0.mk (Kd.R_elder' (by (with_reducible repeat (first | apply Kd.R_alloc | apply Kd.R_drewN | apply Kd.R_drew)); exact HO135.out) (Kd.R_base ho52) hb); have n1_ := Aside0.mk (Kd.R_lower (Kd.R_new' ho52 (Kd.R_lt (by (with_reducible repeat (first | apply Kd.R_alloc | apply Kd.R_drewN | apply Kd.R_drew)); exact HO135.out))) (below_size (by repeat (first | (with_reducible first | exact HB.out | apply below_alloc | apply pw_below_drewN | apply below_drew1) | exact HB.out)))); have n2_ := Aside0.mk (below_step (by repeat (first | (with_reducible first | exact HB.out | apply below_alloc | apply pw_below_drewN | apply below_drew1) | exact HB.out)) hb); clear HO135; clear HB; have HO135 := n0_; have HO138 := n1_; have HB := n2_; clear n0_ n1_ n2_; clear hb ho52; obtain ⟨Ao53, co53, eo53⟩ := Kd.R_slice HO138.out; subst eo53; obtain ⟨Ao54, co54, eo54⟩ := Kd.R_slice HO135.out; subst eo54) | ((with_reducible refine gate_callee (f := 56) rfl ?_); refine goesL_ (some 8) rfl rfl Try.func56 (by kernel_rfl) rfl #[.agg #[.slice Ao54 y133.length co54, .slice Ao53 y136.length co53]] rfl (by (try simp only [List.map_toArray, List.map_cons, List.map_nil]); first | done | rfl | (simp only [List.length_drop, List.length_take]; rfl)) ?_; (with_reducible refine (haul_Collect.calls k _ _ y133 _ _ y136 t139 t142 t145 t148 _ ?side1 ?side2 ?side3 ?side4 A1.out).mono ?_); (case side1 => repeat (first | exact (Kd.R_reads' HO135.out).2.2 | (with_reducible refine Kd.C_alloc ?_ _) | (with_reducible refine Kd.C_drewN ?_ _) | (with_reducible refine Kd.C_drew ?_))); (case side2 => exact (Kd.R_reads' HO135.out).2.1); (case side3 => repeat (first | exact (Kd.R_reads' HO138.out).2.2 | (with_reducible refine Kd.C_alloc ?_ _) | (with_reducible refine Kd.C_drewN ?_ _) | (with_reducible refine Kd.C_drew ?_))); (case side4 => exact (Kd.R_reads' HO138.out).2.1); rintro e w55 ⟨v140, v143, v146, rfl, ho0, ho1, ho2, hb⟩; refine ⟨_, rfl, ?_⟩; have n0_ := Aside0.mk (Kd.R_mono (Kd.R_told (Kd.R_told (Kd.R_old (by (with_reducible repeat (first | apply Kd.R_alloc | apply Kd.R_drewN | apply Kd.R_drew)); exact HO135.out) hb) (Kd.R_base ho0)) (Kd.R_base ho1)) (fun _ h_ => h_.1)); have n1_ := Aside0.mk (Kd.R_mono (Kd.R_told (Kd.R_told (Kd.R_old (by (with_reducible repeat (first | apply Kd.R_alloc | apply Kd.R_drewN | apply Kd.R_drew)); exact HO138.out) hb) (Kd.R_base ho0)) (Kd.R_base ho1)) (fun _ h_ => h_.1)); have n2_ := Aside0.mk (Kd.R_lower (Kd.R_new' (Kd.R_new' ho0 (Kd.R_lt (by (with_reducible repeat (first | apply Kd.R_alloc | apply Kd.R_drewN | apply Kd.R_drew)); exact HO135.out))) (Kd.R_lt (by (with_reducible repeat (first | apply Kd.R_alloc | apply Kd.R_drewN | apply Kd.R_drew)); exact HO138.out))) (below_size (by repeat (first | (with_reducible first | exact HB.out | apply below_alloc | apply pw_below_drewN | apply below_drew1) | exact HB.out)))); have n3_ := Aside0.mk (Kd.R_lower (Kd.R_new' (Kd.R_new' ho1 (Kd.R_lt (by (with_reducible repeat (first | apply Kd.R_alloc | apply Kd.R_drewN | apply Kd.R_drew)); exact HO135.out))) (Kd.R_lt (by (with_reducible repeat (first | apply Kd.R_alloc | apply Kd.R_drewN | apply Kd.R_drew)); exact HO138.out))) (below_size (by repeat (first | (with_reducible first | exact HB.out | apply below_alloc | apply pw_below_drewN | apply below_drew1) | exact HB.out)))); have n4_ := Aside0.mk (Kd.R_lower ho2 (below_size (by repeat (first | (with_reducible first | exact HB.out | apply below_alloc | apply pw_below_drewN | apply below_drew1) | exact HB.out)))); have n5_ := Aside0.mk (below_step (by repeat (first | (with_reducible first | exact HB.out | apply below_alloc | apply pw_below_drewN | apply below_drew1) | exact HB.out)) hb); clear HO135; clear HO138; clear HB; have HO135 := n0_; have HO138 := n1_; have HO141 := n2_; have HO144 := n3_; have HO147 := n4_; have HB := n5_; clear n0_ n1_ n2_ n3_ n4_ n5_; (try clear hb); (try clear hb2); (try clear hk); (try clear hi); (try clear ho0); (try clear ho1); (try clear ho2)) | ((with_reducible refine gate_dst (N := 1) rfl ?_); (try (refine gate_guard (by rfl) ?_; dsimp only)); refine box_event ?hg (N := 1) ?hd (cs := #[.slice none 0 0, .slice none 0 0]) (t := 106) ?hr ?_; (case hd => rfl); (case hg => rfl); (case hr => first | (go_simp; done) | (go_simp; rfl)); intro gb149 hg w56 hbox hb; have n0_ := Aside0.mk (Kd.R_below (by (with_reducible repeat (first | apply Kd.R_alloc | apply Kd.R_drewN | apply Kd.R_drew)); exact HO135.out) hb); have n1_ := Aside0.mk (Kd.R_below (by (with_reducible repeat (first | apply Kd.R_alloc | apply Kd.R_drewN | apply Kd.R_drew)); exact HO138.out) hb); have n2_ := Aside0.mk (Kd.R_below (by (with_reducible repeat (first | apply Kd.R_alloc | apply Kd.R_drewN | apply Kd.R_drew)); exact HO141.out) hb); have n3_ := Aside0.mk (Kd.R_below (by (with_reducible repeat (first | apply Kd.R_alloc | apply Kd.R_drewN | apply Kd.R_drew)); exact HO144.out) hb); have n4_ := Aside0.mk (Kd.R_below (by (with_reducible repeat (first | apply Kd.R_alloc | apply Kd.R_drewN | apply Kd.R_drew)); exact HO147.out) hb); have n5_ := Aside0.mk (below_step (by repeat (first | (with_reducible first | exact HB.out | apply below_alloc | apply pw_below_drewN | apply below_drew1) | exact HB.out)) hb); have n6_ := Aside0.mk (hbox); have n7_ := Aside0.mk ((by rw [hg]; exact (below_size (by repeat (first | (with_reducible first | exact HB.out | apply below_alloc | apply pw_below_drewN | apply below_drew1) | exact HB.out))) : w.heap.size ≤ gb149)); have n8_ := Aside0.mk ((by rw [hg]; exact (below_size (by repeat (first | (with_reducible first | exact HB.out | apply below_alloc | apply pw_below_drewN | apply below_drew1) | exact HB.out))) : w.heap.size ≤ gb149)); clear HO135; clear HO138; clear HO141; clear HO144; clear HO147; clear HB; have HO135 := n0_; have HO138 := n1_; have HO141 := n2_; have HO144 := n3_; have HO147 := n4_; have HB := n5_; have BK149 := n6_; have GW149 := n7_; have GE149 := n8_; clear n0_ n1_ n2_ n3_ n4_ n5_ n6_ n7_ n8_; clear hb hbox hg; obtain ⟨Ao57, co57, eo57⟩ := Kd.R_slice HO141.out; subst eo57; have hcz58_0 : w56.cell? ⟨gb149, 0, none⟩ = some (.slice none 0 0) := (blk_cell BK149.out 0).trans rfl; have hcz58_1 : w56.cell? ⟨gb149, 1, none⟩ = some (.slice none 0 0) := (blk_cell BK149.out 1).trans rfl; have hfz58_0 := blk_frozen BK149.out 0; have hfz58_1 := blk_frozen BK149.out 1; obtain ⟨Ao59, co59, eo59⟩ := Kd.R_slice HO144.out; subst eo59) | ((with_reducible refine gate_dst (N := 17) rfl ?_); (try (refine gate_guard (by rfl) ?_; dsimp only)); refine Kd.R_lit (Kd.int .u64) _ 46 ?hg (N := 17) ?hd (xs := ([0] : List Int)) (inner := [.int .u64 0]) (ok := fun _ => True) (okp := fun _ => True) ?hr ?hp (fun _ hk => hk) trivial (Below.refl _ _) (Nat.le_refl _) (by simp) ?_; (case hd => rfl); (case hg => rfl); (case hr => first | (go_simp; done) | (go_simp; rfl)); (case hp => exact (Reps.one (show Kd.M (Kd.int .u64) _ _ _ 0 [.int .u64 0] from rfl) (Reps.none _ _))); intro v151 w60 ho61 hb hg_ hnew_; clear hg_ hnew_; (first | rw [← Ny150.out] at ho61 | (simp only [Int.reduceToNat] at ho61; rw [← Ny150.out] at ho61)); have n0_ := Aside0.mk (Kd.R_elder' (by (with_reducible repeat (first | apply Kd.R_alloc | apply Kd.R_drewN | apply Kd.R_drew)); exact (Kd.R_mono (Kd.R_far (p := ⟨gb149, 1, none⟩) (Kd.R_far (p := ⟨gb149, 0, none⟩) (Kd.R_types HO135.out BK149.out (by decide)) (fun _ hk => hk.2) (.slice Ao57 t139.length co57)) (fun _ hk => hk.2) (.slice Ao59 t142.length co59)) (fun _ h_ => h_.1))) (Kd.R_base ho61) hb); have n1_ := Aside0.mk (Kd.R_elder' (by (with_reducible repeat (first | apply Kd.R_alloc | apply Kd.R_drewN | apply Kd.R_drew)); exact (Kd.R_mono (Kd.R_far (p := ⟨gb149, 1, none⟩) (Kd.R_far (p := ⟨gb149, 0, none⟩) (Kd.R_types HO138.out BK149.out (by decide)) (fun _ hk => hk.2) (.slice Ao57 t139.length co57)) (fun _ hk => hk.2) (.slice Ao59 t142.length co59)) (fun _ h_ => h_.1))) (Kd.R_base ho61) hb); have n2_ := Aside0.mk (Kd.R_elder' (by (with_reducible repeat (first | apply Kd.R_alloc | apply Kd.R_drewN | apply Kd.R_drew)); exact (Kd.R_mono (Kd.R_far (p := ⟨gb149, 1, none⟩) (Kd.R_far (p := ⟨gb149, 0, none⟩) (Kd.R_types HO141.out BK149.out (by decide)) (fun _ hk => hk.2) (.slice Ao57 t139.length co57)) (fun _ hk => hk.2) (.slice Ao59 t142.length co59)) (fun _ h_ => h_.1))) (Kd.R_base ho61) hb); have n3_ := Aside0.mk (Kd.R_elder' (by (with_reducible repeat (first | apply Kd.R_alloc | apply Kd.R_drewN | apply Kd.R_drew)); exact (Kd.R_mono (Kd.R_far (p := ⟨gb149, 1, none⟩) (Kd.R_far (p := ⟨gb149, 0, none⟩) (Kd.R_types HO144.out BK149.out (by decide)) (fun _ hk => hk.2) (.slice Ao57 t139.length co57)) (fun _ hk => hk.2) (.slice Ao59 t142.length co59)) (fun _ h_ => h_.1))) (Kd.R_base ho61) hb); have n4_ := Aside0.mk (Kd.R_below (by (with_reducible repeat (first | apply Kd.R_alloc | apply Kd.R_drewN | apply Kd.R_drew)); exact (Kd.R_mono (Kd.R_far (p := ⟨gb149, 1, none⟩) (Kd.R_far (p := ⟨gb149, 0, none⟩) (Kd.R_types HO147.out BK149.out (by decide)) (fun _ hk => hk.2) (.slice Ao57 t139.length co57)) (fun _ hk => hk.2) (.slice Ao59 t142.length co59)) (fun _ h_ => h_.1))) hb); have n5_ := Aside0.mk (Kd.R_lower (Kd.R_new' (Kd.R_new' (Kd.R_new' (Kd.R_new' ho61 (Kd.R_lt (by (with_reducible repeat (first | apply Kd.R_alloc | apply Kd.R_drewN | apply Kd.R_drew)); exact (Kd.R_mono (Kd.R_far (p := ⟨gb149, 1, none⟩) (Kd.R_far (p := ⟨gb149, 0, none⟩) (Kd.R_types HO135.out BK149.out (by decide)) (fun _ hk => hk.2) (.slice Ao57 t139.length co57)) (fun _ hk => hk.2) (.slice Ao59 t142.length co59)) (fun _ h_ => h_.1))))) (Kd.R_lt (by (with_reducible repeat (first | apply Kd.R_alloc | apply Kd.R_drewN | apply Kd.R_drew)); exact (Kd.R_mono (Kd.R_far (p := ⟨gb149, 1, none⟩) (Kd.R_far (p := ⟨gb149, 0, none⟩) (Kd.R_types HO138.out BK149.out (by decide)) (fun _ hk => hk.2) (.slice Ao57 t139.length co57)) (fun _ hk => hk.2) (.slice Ao59 t142.length co59)) (fun _ h_ => h_.1))))) (Kd.R_lt (by (with_reducible repeat (first | apply Kd.R_alloc | apply Kd.R_drewN | apply Kd.R_drew)); exact (Kd.R_mono (Kd.R_far (p := ⟨gb149, 1, none⟩) (Kd.R_far (p := ⟨gb149, 0, none⟩) (Kd.R_types HO141.out BK149.out (by decide)) (fun _ hk => hk.2) (.slice Ao57 t139.length co57)) (fun _ hk => hk.2) (.slice Ao59 t142.length co59)) (fun _ h_ => h_.1))))) (Kd.R_lt (by (with_reducible repeat (first | apply Kd.R_alloc | apply Kd.R_drewN | apply Kd.R_drew)); exact (Kd.R_mono (Kd.R_far (p := ⟨gb149, 1, none⟩) (Kd.R_far (p := ⟨gb149, 0, none⟩) (Kd.R_types HO144.out BK149.out (by decide)) (fun _ hk => hk.2) (.slice Ao57 t139.length co57)) (fun _ hk => hk.2) (.slice Ao59 t142.length co59)) (fun _ h_ => h_.1))))) (below_size (by repeat (first | (with_reducible first | exact HB.out | apply below_alloc | apply pw_below_drewN | apply below_drew1 | refine below_set ?_ GE149.out) | exact HB.out)))); have n6_ := Aside0.mk (blk_below (g := gb149) (o := .cells #[.slice Ao57 t139.length co57, .slice Ao59 t142.length co59] 106 (0, 0)) (by (with_reducible repeat (first | refine blk_drewN ?_ _ | refine blk_drew ?_ | refine blk_alloc ?_ _)); refine blk_put (cs := #[.slice Ao57 t139.length co57, .slice none 0 0]) ?_ 1 _ rfl; (with_reducible repeat (first | refine blk_drewN ?_ _ | refine blk_drew ?_ | refine blk_alloc ?_ _)); refine blk_put (cs := #[.slice none 0 0, .slice none 0 0]) ?_ 0 _ rfl; (with_reducible repeat (first | refine blk_drewN ?_ _ | refine blk_drew ?_ | refine blk_alloc ?_ _)); exact BK149.out) hb); have n7_ := Aside0.mk (below_step (by repeat (first | (with_reducible first | exact HB.out | apply below_alloc | apply pw_below_drewN | apply below_drew1 | refine below_set ?_ GE149.out) | exact HB.out)) hb); clear HO135; clear HO138; clear HO141; clear HO144; clear HO147; clear BK149; clear HB; have HO135 := n0_; have HO138 := n1_; have HO141 := n2_; have HO144 := n3_; have HO147 := n4_; have HO152 := n5_; have BK149 := n6_; have HB := n7_; clear n0_ n1_ n2_ n3_ n4_ n5_ n6_ n7_; clear hb ho61; obtain ⟨Ao62, co62, eo62⟩ := Kd.R_slice HO152.out; subst eo62) | (go_at_call 37; (with_reducible refine (backstitchref3_Eq_uint64.calls k _ _ t139 _ _ y150 false _ ?side1 ?side2 ?side3 ?side4 A3.out).mono ?_); (case side1 => repeat (first | exact (Kd.R_reads' HO141.out).2.2 | (with_reducible refine Kd.C_alloc ?_ _) | (with_reducible refine Kd.C_drewN ?_ _) | (with_reducible refine Kd.C_drew ?_))); (case side2 => exact (Kd.R_reads' HO141.out).2.1); (case side3 => repeat (first | exact (Kd.R_reads' HO152.out).2.2 | (with_reducible refine Kd.C_alloc ?_ _) | (with_reducible refine Kd.C_drewN ?_ _) | (with_reducible refine Kd.C_drew ?_))); (case side4 => exact (Kd.R_reads' HO152.out).2.1); rintro e w' ⟨rfl, ⟨nd, rfl⟩⟩))
      go_ret
      exact ⟨by first | rfl | (simp [errW_none, errW_some] <;> rfl) | (simp [*, errW_none, errW_some] <;> rfl), by repeat (first | (with_reducible first | exact HB.out | apply below_alloc | apply pw_below_drewN | apply below_drew1 | refine below_set ?_ GE149.out) | exact HB.out)⟩
  · rw [if_neg c2] at H
    have c2b0 : (t148 == 0) = false := beq_eq_false_iff_ne.mpr c2
    have c2b1 : (t148 != 0) = true := bne_iff_ne.mpr c2
    obtain rfl := Option.some.inj H
    go_enter Try.func53, Try.ntmps53
    go_wp2_with (first | ((with_reducible refine gate_dst (N := 5) rfl ?_); (try (refine gate_guard (by rfl) ?_; dsimp only)); refine Kd.R_lit (Kd.int .u64) _ 46 ?hg (N := 5) ?hd (xs := ([0, 0] : List Int)) (inner := [.int .u64 0, .int .u64 0]) (ok := fun _ => True) (okp := fun _ => True) ?hr ?hp (fun _ hk => hk) trivial (Below.refl _ _) (Nat.le_refl _) (by simp) ?_; (case hd => rfl); (case hg => rfl); (case hr => first | (go_simp; done) | (go_simp; rfl)); (case hp => exact (Reps.one (show Kd.M (Kd.int .u64) _ _ _ 0 [.int .u64 0] from rfl) (Reps.one (show Kd.M (Kd.int .u64) _ _ _ 0 [.int .u64 0] from rfl) (Reps.none _ _)))); intro v134 w63 ho64 hb hg_ hnew_; clear hg_ hnew_; (first | rw [← Ny133.out] at ho64 | (simp only [Int.reduceToNat] at ho64; rw [← Ny133.out] at ho64)); have n0_ := Aside0.mk (Kd.R_lower ho64 (below_size (by repeat (first | (with_reducible first | exact HB.out | apply below_alloc | apply pw_below_drewN | apply below_drew1) | exact HB.out)))); have n1_ := Aside0.mk (below_step (by repeat (first | (with_reducible first | exact HB.out | apply below_alloc | apply pw_below_drewN | apply below_drew1) | exact HB.out)) hb); clear HB; have HO135 := n0_; have HB := n1_; clear n0_ n1_; clear hb ho64) | ((with_reducible refine gate_dst (N := 6) rfl ?_); (try (refine gate_guard (by rfl) ?_; dsimp only)); refine Kd.R_lit (Kd.int .u64) _ 46 ?hg (N := 6) ?hd (xs := ([18445899648779419649] : List Int)) (inner := [.int .u64 18445899648779419649]) (ok := fun _ => True) (okp := fun _ => True) ?hr ?hp (fun _ hk => hk) trivial (Below.refl _ _) (Nat.le_refl _) (by simp) ?_; (case hd => rfl); (case hg => rfl); (case hr => first | (go_simp; done) | (go_simp; rfl)); (case hp => exact (Reps.one (show Kd.M (Kd.int .u64) _ _ _ 18445899648779419649 [.int .u64 18445899648779419649] from rfl) (Reps.none _ _))); intro v137 w65 ho66 hb hg_ hnew_; clear hg_ hnew_; (first | rw [← Ny136.out] at ho66 | (simp only [Int.reduceToNat] at ho66; rw [← Ny136.out] at ho66)); have n0_ := Aside0.mk (Kd.R_elder' (by (with_reducible repeat (first | apply Kd.R_alloc | apply Kd.R_drewN | apply Kd.R_drew)); exact HO135.out) (Kd.R_base ho66) hb); have n1_ := Aside0.mk (Kd.R_lower (Kd.R_new' ho66 (Kd.R_lt (by (with_reducible repeat (first | apply Kd.R_alloc | apply Kd.R_drewN | apply Kd.R_drew)); exact HO135.out))) (below_size (by repeat (first | (with_reducible first | exact HB.out | apply below_alloc | apply pw_below_drewN | apply below_drew1) | exact HB.out)))); have n2_ := Aside0.mk (below_step (by repeat (first | (with_reducible first | exact HB.out | apply below_alloc | apply pw_below_drewN | apply below_drew1) | exact HB.out)) hb); clear HO135; clear HB; have HO135 := n0_; have HO138 := n1_; have HB := n2_; clear n0_ n1_ n2_; clear hb ho66; obtain ⟨Ao67, co67, eo67⟩ := Kd.R_slice HO138.out; subst eo67; obtain ⟨Ao68, co68, eo68⟩ := Kd.R_slice HO135.out; subst eo68) | ((with_reducible refine gate_callee (f := 56) rfl ?_); refine goesL_ (some 8) rfl rfl Try.func56 (by kernel_rfl) rfl #[.agg #[.slice Ao68 y133.length co68, .slice Ao67 y136.length co67]] rfl (by (try simp only [List.map_toArray, List.map_cons, List.map_nil]); first | done | rfl | (simp only [List.length_drop, List.length_take]; rfl)) ?_; (with_reducible refine (haul_Collect.calls k _ _ y133 _ _ y136 t139 t142 t145 t148 _ ?side1 ?side2 ?side3 ?side4 A1.out).mono ?_); (case side1 => repeat (first | exact (Kd.R_reads' HO135.out).2.2 | (with_reducible refine Kd.C_alloc ?_ _) | (with_reducible refine Kd.C_drewN ?_ _) | (with_reducible refine Kd.C_drew ?_))); (case side2 => exact (Kd.R_reads' HO135.out).2.1); (case side3 => repeat (first | exact (Kd.R_reads' HO138.out).2.2 | (with_reducible refine Kd.C_alloc ?_ _) | (with_reducible refine Kd.C_drewN ?_ _) | (with_reducible refine Kd.C_drew ?_))); (case side4 => exact (Kd.R_reads' HO138.out).2.1); rintro e w69 ⟨v140, v143, v146, rfl, ho0, ho1, ho2, hb⟩; refine ⟨_, rfl, ?_⟩; have n0_ := Aside0.mk (Kd.R_mono (Kd.R_told (Kd.R_told (Kd.R_old (by (with_reducible repeat (first | apply Kd.R_alloc | apply Kd.R_drewN | apply Kd.R_drew)); exact HO135.out) hb) (Kd.R_base ho0)) (Kd.R_base ho1)) (fun _ h_ => h_.1)); have n1_ := Aside0.mk (Kd.R_mono (Kd.R_told (Kd.R_told (Kd.R_old (by (with_reducible repeat (first | apply Kd.R_alloc | apply Kd.R_drewN | apply Kd.R_drew)); exact HO138.out) hb) (Kd.R_base ho0)) (Kd.R_base ho1)) (fun _ h_ => h_.1)); have n2_ := Aside0.mk (Kd.R_lower (Kd.R_new' (Kd.R_new' ho0 (Kd.R_lt (by (with_reducible repeat (first | apply Kd.R_alloc | apply Kd.R_drewN | apply Kd.R_drew)); exact HO135.out))) (Kd.R_lt (by (with_reducible repeat (first | apply Kd.R_alloc | apply Kd.R_drewN | apply Kd.R_drew)); exact HO138.out))) (below_size (by repeat (first | (with_reducible first | exact HB.out | apply below_alloc | apply pw_below_drewN | apply below_drew1) | exact HB.out)))); have n3_ := Aside0.mk (Kd.R_lower (Kd.R_new' (Kd.R_new' ho1 (Kd.R_lt (by (with_reducible repeat (first | apply Kd.R_alloc | apply Kd.R_drewN | apply Kd.R_drew)); exact HO135.out))) (Kd.R_lt (by (with_reducible repeat (first | apply Kd.R_alloc | apply Kd.R_drewN | apply Kd.R_drew)); exact HO138.out))) (below_size (by repeat (first | (with_reducible first | exact HB.out | apply below_alloc | apply pw_below_drewN | apply below_drew1) | exact HB.out)))); have n4_ := Aside0.mk (Kd.R_lower ho2 (below_size (by repeat (first | (with_reducible first | exact HB.out | apply below_alloc | apply pw_below_drewN | apply below_drew1) | exact HB.out)))); have n5_ := Aside0.mk (below_step (by repeat (first | (with_reducible first | exact HB.out | apply below_alloc | apply pw_below_drewN | apply below_drew1) | exact HB.out)) hb); clear HO135; clear HO138; clear HB; have HO135 := n0_; have HO138 := n1_; have HO141 := n2_; have HO144 := n3_; have HO147 := n4_; have HB := n5_; clear n0_ n1_ n2_ n3_ n4_ n5_; (try clear hb); (try clear hb2); (try clear hk); (try clear hi); (try clear ho0); (try clear ho1); (try clear ho2)) | ((with_reducible refine gate_dst (N := 1) rfl ?_); (try (refine gate_guard (by rfl) ?_; dsimp only)); refine box_event ?hg (N := 1) ?hd (cs := #[.slice none 0 0, .slice none 0 0]) (t := 106) ?hr ?_; (case hd => rfl); (case hg => rfl); (case hr => first | (go_simp; done) | (go_simp; rfl)); intro gb149 hg w70 hbox hb; have n0_ := Aside0.mk (Kd.R_below (by (with_reducible repeat (first | apply Kd.R_alloc | apply Kd.R_drewN | apply Kd.R_drew)); exact HO135.out) hb); have n1_ := Aside0.mk (Kd.R_below (by (with_reducible repeat (first | apply Kd.R_alloc | apply Kd.R_drewN | apply Kd.R_drew)); exact HO138.out) hb); have n2_ := Aside0.mk (Kd.R_below (by (with_reducible repeat (first | apply Kd.R_alloc | apply Kd.R_drewN | apply Kd.R_drew)); exact HO141.out) hb); have n3_ := Aside0.mk (Kd.R_below (by (with_reducible repeat (first | apply Kd.R_alloc | apply Kd.R_drewN | apply Kd.R_drew)); exact HO144.out) hb); have n4_ := Aside0.mk (Kd.R_below (by (with_reducible repeat (first | apply Kd.R_alloc | apply Kd.R_drewN | apply Kd.R_drew)); exact HO147.out) hb); have n5_ := Aside0.mk (below_step (by repeat (first | (with_reducible first | exact HB.out | apply below_alloc | apply pw_below_drewN | apply below_drew1) | exact HB.out)) hb); have n6_ := Aside0.mk (hbox); have n7_ := Aside0.mk ((by rw [hg]; exact (below_size (by repeat (first | (with_reducible first | exact HB.out | apply below_alloc | apply pw_below_drewN | apply below_drew1) | exact HB.out))) : w.heap.size ≤ gb149)); have n8_ := Aside0.mk ((by rw [hg]; exact (below_size (by repeat (first | (with_reducible first | exact HB.out | apply below_alloc | apply pw_below_drewN | apply below_drew1) | exact HB.out))) : w.heap.size ≤ gb149)); clear HO135; clear HO138; clear HO141; clear HO144; clear HO147; clear HB; have HO135 := n0_; have HO138 := n1_; have HO141 := n2_; have HO144 := n3_; have HO147 := n4_; have HB := n5_; have BK149 := n6_; have GW149 := n7_; have GE149 := n8_; clear n0_ n1_ n2_ n3_ n4_ n5_ n6_ n7_ n8_; clear hb hbox hg; obtain ⟨Ao71, co71, eo71⟩ := Kd.R_slice HO141.out; subst eo71; have hcz72_0 : w70.cell? ⟨gb149, 0, none⟩ = some (.slice none 0 0) := (blk_cell BK149.out 0).trans rfl; have hcz72_1 : w70.cell? ⟨gb149, 1, none⟩ = some (.slice none 0 0) := (blk_cell BK149.out 1).trans rfl; have hfz72_0 := blk_frozen BK149.out 0; have hfz72_1 := blk_frozen BK149.out 1; obtain ⟨Ao73, co73, eo73⟩ := Kd.R_slice HO144.out; subst eo73))
    go_ret
    exact ⟨by first | rfl | (simp [errW_none, errW_some] <;> rfl) | (simp [*, errW_none, errW_some] <;> rfl), by repeat (first | (with_reducible first | exact HB.out | apply below_alloc | apply pw_below_drewN | apply below_drew1 | refine below_set ?_ GE149.out) | exact HB.out)⟩

/-! ### backstitchref3_Places: function 58 -/
def backstitchref3_Places.l0 : Nat → List Int → List Int → Int → Option (List Int × Bool)
  | 0, _, _, _ => none
  | k + 1, x0, x4, x5 => if x5 < (x0.length : Int) then (if x4.length < 17592186044416 then (if 0 ≤ x5 then (if (wrap64 (x5 + (wrap64 (Int.tmod (rd x0 x5) 4294967296)))) ≥ (x0.length : Int) then (some (([] : List Int), false)) else (backstitchref3_Places.l0 k x0 (x4 ++ [x5]) (wrap64 (x5 + (wrap64 (1 + (wrap64 (Int.tmod (rd x0 x5) 4294967296)))))))) else (none)) else (none)) else (some (x4, true))
def backstitchref3_Places.f (k : Nat) (l0 : List Int) : Option (List Int × Bool) := backstitchref3_Places.l0 k l0 ([] : List Int) 0
theorem backstitchref3_Places.mono_l : ∀ k, (∀ y0 y1 y2, LeO (backstitchref3_Places.l0 k y0 y1 y2) (backstitchref3_Places.l0 (k + 1) y0 y1 y2))
  | 0 => fun _ _ _ r h => by simp [backstitchref3_Places.l0] at h
  | k + 1 => by
    have ih0 := backstitchref3_Places.mono_l k
    · intro y0 y1 y2
      unfold backstitchref3_Places.l0
      repeat' first
      | (with_reducible exact ih0 _ _ _)
      | (with_reducible exact LeO.refl _)
      | (with_reducible exact LeO.none _)
      | (with_reducible refine LeO.ite ?_ ?_)
      | (with_reducible refine LeO.bind ?_ (fun _ => ?_))
      | exact ih0 _ _ _
      | exact LeO.none _
      | refine LeO.ite ?_ ?_
      | refine LeO.bind ?_ (fun _ => ?_)
theorem backstitchref3_Places.mono : ∀ a0 k, LeO (backstitchref3_Places.f k a0) (backstitchref3_Places.f (k + 1) a0) := by
  intro a0 k
  have ih0 := backstitchref3_Places.mono_l k
  unfold backstitchref3_Places.f
  repeat' first
      | (with_reducible exact ih0 _ _ _)
      | (with_reducible exact LeO.refl _)
      | (with_reducible exact LeO.none _)
      | (with_reducible refine LeO.ite ?_ ?_)
      | (with_reducible refine LeO.bind ?_ (fun _ => ?_))
      | exact ih0 _ _ _
      | exact LeO.none _
      | refine LeO.ite ?_ ?_
      | refine LeO.bind ?_ (fun _ => ?_)
set_option maxHeartbeats 8000000 in
set_option maxRecDepth 100000 in
theorem backstitchref3_Places.calls (k : Nat) (A0 : Option Addr) (c0 : Nat) (l0 : List Int) (r1 : List Int) (r2 : Bool) (w : World) (hr0 : Kd.C (Kd.int .u64) w A0 l0.length l0) (hc0 : l0.length ≤ c0) (h : backstitchref3_Places.f k l0 = some (r1, r2)) :
    Calls Try.prog 58 #[.slice A0 l0.length c0] w fun e w' => ∃ v0_ : Value, e = .returned (.tuple #[v0_, .bool r2]) ∧ Kd.R (Kd.int .i64) 3 w' w.heap.size (fun _ => True) v0_ r1 ∧ Below w.heap.size w w' := by
  have HR0 := Aside0.mk hr0
  have HC0 := Aside0.mk hc0
  clear hr0 hc0
  have HB := Aside0.mk (Below.refl w.heap.size w)
  have H : (backstitchref3_Places.l0 k l0 ([] : List Int) 0) = some (r1, r2) := h
  clear h
  have H' := Aside0.mk H
  clear H
  go_enter Try.func58, Try.ntmps58
  go_wp2
  go_loopg [4, 5] k (fun kq v4 v5 w' => ∃ (x4_1 : List Int) (x5_1 : Int), v5 = .int .i64 x5_1 ∧ Aside0 (backstitchref3_Places.l0 kq l0 x4_1 x5_1 = some (r1, r2)) ∧ Aside0 (kq ≤ k) ∧ Aside0 (Kd.R (Kd.int .i64) 3 w' w.heap.size (fun _ => True) v4 x4_1) ∧ Aside0 (Below w.heap.size w w'))
  case atStart => exact ⟨(([] : List Int)), (0), (by first | rfl | (simp; done) | (simp [*]; done)), H', ⟨Nat.le_refl _⟩, ⟨by first | exact Kd.R_nil _ _ _ _ _ | exact Kd.N_nil _ _ _ _ _ | exact Kd.V_nil _ _ _ _ _ | exact Kd.Q_nil _ _ _ _ _ | exact Kd.S_nil _ _ _ _ _⟩, ⟨by repeat (first | (with_reducible first | exact HB.out | apply below_alloc | apply pw_below_drewN | apply below_drew1) | exact HB.out)⟩⟩
  case round =>
    clear H'
    obtain ⟨x4_1, x5_1, rfl, HA, HK1, HO_4, HB⟩ := hrel
    cases gk with
    | zero => exact absurd HA.out (by simp [backstitchref3_Places.l0])
    | succ k1 =>
      have H := HA.out
      clear HA
      simp only [backstitchref3_Places.l0] at H
      by_cases c2 : x5_1 < (l0.length : Int)
      · rw [if_pos c2] at H
        have c2b0 : decide (x5_1 < (l0.length : Int)) = true := decide_eq_true c2
        clear c2
        by_cases c3 : x4_1.length < 17592186044416
        · rw [if_pos c3] at H
          have LMc3 := Aside0.mk c3
          clear c3
          obtain ⟨y162, hy162⟩ : ∃ y_ : List Int, y_ = (x4_1 ++ [x5_1]) := ⟨_, rfl⟩
          replace H : (if 0 ≤ x5_1 then (if (wrap64 (x5_1 + (wrap64 (Int.tmod (rd l0 x5_1) 4294967296)))) ≥ (l0.length : Int) then (some (([] : List Int), false)) else (backstitchref3_Places.l0 k1 l0 y162 (wrap64 (x5_1 + (wrap64 (1 + (wrap64 (Int.tmod (rd l0 x5_1) 4294967296)))))))) else (none)) = some (r1, r2) := by first | (rw [hy162]; with_reducible exact H) | (have H2_ := (Option.bind_some _ _).symm.trans H; rw [hy162]; with_reducible exact H2_) | (have H2_ := (Option.bind_some _ _).symm.trans H; with_reducible exact H2_) | with_reducible exact H | (rw [hy162]; exact H) | exact H
          have Ny162 := Aside0.mk hy162
          clear hy162
          by_cases c4 : 0 ≤ x5_1
          · rw [if_pos c4] at H
            have c4b0 : decide (0 ≤ x5_1) = true := decide_eq_true c4
            clear c4
            by_cases c5 : (wrap64 (x5_1 + (wrap64 (Int.tmod (rd l0 x5_1) 4294967296)))) ≥ (l0.length : Int)
            · rw [if_pos c5] at H
              have c5b0 : decide ((l0.length : Int) ≤ (wrap64 (x5_1 + (wrap64 (Int.tmod (rd l0 x5_1) 4294967296))))) = true := decide_eq_true c5
              clear c5
              simp only [Option.some.injEq, Prod.mk.injEq] at H
              obtain ⟨rfl, rfl⟩ := H
              go_wp2_with (first | ((with_reducible refine gate_builtin (b := .append) (xs := #[.tmp 19, .tmp 21]) rfl ?_); at_builtin; refine Kd.R_append (Kd.int .i64) (w0 := w) w.heap.size rfl (.tmp 19) (.tmp 21) 40 3 (.int .i64 0) 8 rfl Try.underlying40 info3 rfl (by decide) (by omega) u4 x4_1 x5_1 [.int .i64 x5_1] (fun _ => True) (fun _ => False) rfl rfl ?aP (fun _ hk => hk.elim) ?aF ?aO ?aB ?aS ?aL ?_; (case aP => exact rfl); (case aB => exact (by repeat (first | (with_reducible first | exact HB.out | apply below_alloc | apply pw_below_drewN | apply below_drew1) | exact HB.out))); (case aF => exact (fun _ _ => trivial)); (case aO => exact (by (with_reducible repeat (first | apply Kd.R_alloc | apply Kd.R_drewN | apply Kd.R_drew)); exact HO_4.out)); (case aS => exact (below_size (by repeat (first | (with_reducible first | exact HB.out | apply below_alloc | apply pw_below_drewN | apply below_drew1) | exact HB.out)))); (case aL => have := LMc3.out; omega); intro v163 w6 ho hb hg hat; rw [← Ny162.out] at ho; have n0_ := Aside0.mk (hb); have n1_ := Aside0.mk (ho); clear HB; clear HO_4; have HB := n0_; have HO164 := n1_; clear n0_ n1_; clear ho hb hg hat; have p165 : 0 ≤ (x5_1 : Int) := of_decide_eq_true (by first | (with_reducible assumption) | assumption); have q165 : x5_1 < (l0.length : Int) := of_decide_eq_true (by first | (with_reducible assumption) | assumption); obtain ⟨ad165, e165, hx165_0⟩ := Kd.at_int HR0.out x5_1 p165 q165; cases e165; try replace hx165_0 := (HB.out.cell (World.block_lt_of_cell? w _ hx165_0)).trans hx165_0; replace p165 := eq_true p165; replace q165 := eq_true q165))
              go_ret2
              exact ⟨_, by first | rfl | (simp [errW_none, errW_some] <;> rfl) | (simp [*, errW_none, errW_some] <;> rfl), by first | exact Kd.R_nil _ _ _ _ _ | exact Kd.N_nil _ _ _ _ _ | exact Kd.V_nil _ _ _ _ _ | exact Kd.Q_nil _ _ _ _ _ | exact Kd.S_nil _ _ _ _ _, by repeat (first | (with_reducible first | exact HB.out | apply below_alloc | apply pw_below_drewN | apply below_drew1) | exact HB.out)⟩
            · rw [if_neg c5] at H
              have c5b0 : decide ((l0.length : Int) ≤ (wrap64 (x5_1 + (wrap64 (Int.tmod (rd l0 x5_1) 4294967296))))) = false := decide_eq_false c5
              clear c5
              have H' := Aside0.mk H
              clear H
              go_wp2_with (first | ((with_reducible refine gate_builtin (b := .append) (xs := #[.tmp 19, .tmp 21]) rfl ?_); at_builtin; refine Kd.R_append (Kd.int .i64) (w0 := w) w.heap.size rfl (.tmp 19) (.tmp 21) 40 3 (.int .i64 0) 8 rfl Try.underlying40 info3 rfl (by decide) (by omega) u4 x4_1 x5_1 [.int .i64 x5_1] (fun _ => True) (fun _ => False) rfl rfl ?aP (fun _ hk => hk.elim) ?aF ?aO ?aB ?aS ?aL ?_; (case aP => exact rfl); (case aB => exact (by repeat (first | (with_reducible first | exact HB.out | apply below_alloc | apply pw_below_drewN | apply below_drew1) | exact HB.out))); (case aF => exact (fun _ _ => trivial)); (case aO => exact (by (with_reducible repeat (first | apply Kd.R_alloc | apply Kd.R_drewN | apply Kd.R_drew)); exact HO_4.out)); (case aS => exact (below_size (by repeat (first | (with_reducible first | exact HB.out | apply below_alloc | apply pw_below_drewN | apply below_drew1) | exact HB.out)))); (case aL => have := LMc3.out; omega); intro v163 w7 ho hb hg hat; rw [← Ny162.out] at ho; have n0_ := Aside0.mk (hb); have n1_ := Aside0.mk (ho); clear HB; clear HO_4; have HB := n0_; have HO164 := n1_; clear n0_ n1_; clear ho hb hg hat; have p165 : 0 ≤ (x5_1 : Int) := of_decide_eq_true (by first | (with_reducible assumption) | assumption); have q165 : x5_1 < (l0.length : Int) := of_decide_eq_true (by first | (with_reducible assumption) | assumption); obtain ⟨ad165, e165, hx165_0⟩ := Kd.at_int HR0.out x5_1 p165 q165; cases e165; try replace hx165_0 := (HB.out.cell (World.block_lt_of_cell? w _ hx165_0)).trans hx165_0; replace p165 := eq_true p165; replace q165 := eq_true q165; have p166 : 0 ≤ (x5_1 : Int) := of_decide_eq_true (by first | (with_reducible assumption) | assumption); have q166 : x5_1 < (l0.length : Int) := of_decide_eq_true (by first | (with_reducible assumption) | assumption); obtain ⟨ad166, e166, hx166_0⟩ := Kd.at_int HR0.out x5_1 p166 q166; obtain rfl : ad165 = ad166 := (by injection e166); try replace hx166_0 := (HB.out.cell (World.block_lt_of_cell? w _ hx166_0)).trans hx166_0; replace p166 := eq_true p166; replace q166 := eq_true q166))
              go_roundg k1
              case measure => have := HK1.out; omega
              case rel => exact ⟨(y162), (wrap64 (x5_1 + (wrap64 (1 + (wrap64 (Int.tmod (rd l0 x5_1) 4294967296)))))), (by first | rfl | (simp; done) | (simp [*]; done)), H', ⟨by have := HK1.out; omega⟩, ⟨by (with_reducible repeat (first | apply Kd.R_alloc | apply Kd.R_drewN | apply Kd.R_drew)); exact HO164.out⟩, ⟨by repeat (first | (with_reducible first | exact HB.out | apply below_alloc | apply pw_below_drewN | apply below_drew1) | exact HB.out)⟩⟩
          · rw [if_neg c4] at H
            exact absurd H (by simp)
        · rw [if_neg c3] at H
          exact absurd H (by simp)
      · rw [if_neg c2] at H
        have c2b0 : decide (x5_1 < (l0.length : Int)) = false := decide_eq_false c2
        clear c2
        simp only [Option.some.injEq, Prod.mk.injEq] at H
        obtain ⟨rfl, rfl⟩ := H
        go_wp2
        go_ret2
        exact ⟨_, by first | rfl | (simp [errW_none, errW_some] <;> rfl) | (simp [*, errW_none, errW_some] <;> rfl), by (with_reducible repeat (first | apply Kd.R_alloc | apply Kd.R_drewN | apply Kd.R_drew)); exact HO_4.out, by repeat (first | (with_reducible first | exact HB.out | apply below_alloc | apply pw_below_drewN | apply below_drew1) | exact HB.out)⟩

end Go.Proofs.Ytlojkphocbbjdaa.PHaulTells
