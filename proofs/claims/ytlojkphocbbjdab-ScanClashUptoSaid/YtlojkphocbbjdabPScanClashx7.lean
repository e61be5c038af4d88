-- Printed for this claim by a program of this session (inj.py), beside the kit's print. Not trusted: Lean checks it.
import Derived.Test.YtlojkphocbbjdabPScanClashx0
import Derived.Test.YtlojkphocbbjdabPScanClashx4
import Derived.Test.YtlojkphocbbjdabPScanClashx5
import Derived.Test.YtlojkphocbbjdabPScanClashx6
namespace Go.Proofs.Ytlojkphocbbjdab.PScanClash
open Go.RowKit Go.Proofs.YtlojkphocbbjdabW.PrintWords Go.Proofs.YtlojkphocbbjdabW.PrintLast Go.Proofs.YtlojkphocbbjdabW.PrintMore
attribute [local go_sem] max2_int min2_int max_two min_two max_three min_three max_four min_four   -- for this text's walks alone
set_option linter.unusedVariables false
set_option linter.unusedSimpArgs false

/-! ### backstitchlaw3_ScanClash: function 5 -/
section
open Go.Maps Go.Proofs.YtlojkphocbbjdabW.Sep Go.Proofs.YtlojkphocbbjdabW.Mapw Go.Proofs.YtlojkphocbbjdabW.Reg
def cntB (x y : Int) : Bool := if x ≥ 0 then decide (x < y) else false
def meetB (a b c d : Int) : Bool := if a < d then decide (c < b) else false
def sameB (p q : S54) : Bool := if p.f0 ≥ 0 then p.f0 == q.f0 else if q.f0 ≥ 0 then p.f0 == q.f0 else if p.f0 = -1 then (if q.f0 = -1 then (if p.f1 ≥ 0 then p.f1 == q.f1 else false) else false) else false
theorem rcnt_eq (x y : Int) : backstitchref3_Counts.f x y = some (cntB x y) := by
  unfold backstitchref3_Counts.f cntB
  split <;> rfl
theorem rmeet_eq (a b c d : Int) : backstitchref3_Meet.f a b c d = some (meetB a b c d) := by
  unfold backstitchref3_Meet.f meetB
  split <;> rfl
def hitB (l : List S60) (at_ : List S54) (a b : Int) : Bool := cntB (rd_T60 l a).f0 (rd_T60 l a).f1 && (cntB (rd_T60 l b).f0 (rd_T60 l b).f1 && (meetB (rd_T60 l a).f0 (rd_T60 l a).f1 (rd_T60 l b).f0 (rd_T60 l b).f1 && sameB (rd_T54 at_ a) (rd_T54 at_ b)))
def inF (p : Int → Bool) : Nat → Int → Option Int
  | 0, _ => none
  | d + 1, b => if p b = true then some b else inF p d (b + 1)
def outF (l : List S60) (at_ : List S54) (N : Int) : Nat → Int → Option (Int × Int)
  | 0, _ => none
  | d + 1, a => match inF (hitB l at_ a) (N - (a + 1)).toNat (a + 1) with | some b => some (a, b) | none => outF l at_ N d (a + 1)
def resS : Option (Int × Int) → Int × Int × Bool
  | some (a, b) => (a, b, true)
  | none => (0, 0, false)
def lawS (l : List S60) (at_ : List S54) : Option (Int × Int) := outF l at_ (mn (l.length : Int) (at_.length : Int)) (mn (l.length : Int) (at_.length : Int)).toNat 0
def backstitchlaw3_ScanClash.T11 : Bool × List (List Nat × List Nat) := (true, [([], []), ([], []), ([0, 1], [0, 1]), ([2], [2]), ([3], [3]), ([4], [4]), ([5], [5]), ([6], [6]), ([6], [6]), ([7, 8, 6], [6, 7, 8]), ([9, 6], [6, 9]), ([10, 6], [6, 10]), ([6], [6]), ([6], [6]), ([12, 13, 6], [6, 12, 13]), ([14, 6], [6, 14]), ([15, 6], [6, 15]), ([11, 16, 6], [6, 11, 16]), ([6, 17], [6, 17]), ([18, 6], [18]), ([19], [19]), ([19], [19]), ([20, 21, 19], [19, 20, 21]), ([22, 19], [19, 22]), ([23, 19], [19, 23]), ([24, 19], [19, 24]), ([25, 19, 19], [19, 25]), ([26], [26]), ([26], [26]), ([27, 28, 26], [26, 27, 28]), ([29, 26], [26, 29]), ([30, 26], [26, 30]), ([31, 26], [26, 31]), ([26, 32, 19], [19, 26, 32]), ([33, 26, 19], [19, 33]), ([34], [34]), ([34], [34]), ([35, 36, 34], [34, 35, 36]), ([37, 34], [34, 37]), ([38, 34], [34, 38]), ([39, 34], [34, 39]), ([34, 40, 19], [19, 34, 40]), ([41, 34, 19], [19, 41]), ([42], [42]), ([42], [42]), ([43, 44, 42], [42, 43, 44]), ([45, 42], [42, 45]), ([46, 42], [42, 46]), ([42], [42]), ([42], [42]), ([48, 49, 42], [42, 48, 49]), ([50, 42], [42, 50]), ([51, 42], [42, 51]), ([47, 52, 42], [42, 47, 52]), ([42, 53, 19], [19, 42, 53]), ([19, 54], [19, 54]), ([55, 42, 0, 1, 2, 3, 4, 5, 6, 7, 8, 9, 10, 11, 12, 13, 14, 15, 16, 17, 18, 19, 20, 21, 22, 23, 24, 25, 26, 27, 28, 29, 30, 31, 32, 33, 34, 35, 36, 37, 38, 39, 40, 41, 42, 43, 44, 45, 46, 47, 48, 49, 50, 51, 52, 53, 54, 55], [55])])
def backstitchlaw3_ScanClash.B11 : List Nat := [0, 0, 3, 7, 15, 31, 63, 127, 127, 511, 1023, 2047, 127, 127, 12415, 28799, 61567, 131071, 262143, 524287, 1048575, 1048575, 4194303, 8388607, 16777215, 33554431, 67108863, 134217727, 134217727, 536870911, 1073741823, 2147483647, 4294967295, 8589934591, 17179869183, 34359738367, 34359738367, 137438953471, 274877906943, 549755813887, 1099511627775, 2199023255551, 4398046511103, 8796093022207, 8796093022207, 35184372088831, 70368744177663, 140737488355327, 8796093022207, 8796093022207, 853221023154175, 1979120929996799, 4230920743682047, 9007199254740991, 18014398509481983, 36028797018963967, 72057594037927935]
theorem backstitchlaw3_ScanClash.tab11 : rtab .any (opsOf Try.f5 11) = backstitchlaw3_ScanClash.T11 := by kernel_rfl
theorem backstitchlaw3_ScanClash.bits11 : waitsOk backstitchlaw3_ScanClash.T11.2 backstitchlaw3_ScanClash.B11 = true := by kernel_rfl
def backstitchlaw3_ScanClash.T12 : Bool × List (List Nat × List Nat) := (true, [([], []), ([], []), ([0, 1], [0, 1]), ([2], [2]), ([3], [3]), ([4, 4], [4]), ([5], [5]), ([5], [5]), ([6, 7, 5], [5, 6, 7]), ([8, 5], [5, 8]), ([9, 5, 5], [5, 9]), ([5, 10], [5, 10]), ([11, 10], [11]), ([12], [12]), ([12], [12]), ([13, 14, 12], [12, 13, 14]), ([15, 12], [12, 15]), ([12], [12]), ([12], [12]), ([17, 18, 12], [12, 17, 18]), ([19, 12], [12, 19]), ([16, 20, 12, 12], [12, 16, 20]), ([12, 21], [12, 21]), ([22, 21], [22]), ([23], [23]), ([23, 24], [23, 24])])
def backstitchlaw3_ScanClash.B12 : List Nat := [0, 0, 3, 7, 15, 31, 63, 63, 255, 511, 1023, 2047, 4095, 8191, 8191, 32767, 65535, 8191, 8191, 401407, 925695, 2097151, 4194303, 8388607, 16777215, 33554431]
theorem backstitchlaw3_ScanClash.tab12 : rtab .any (opsOf Try.f5 12) = backstitchlaw3_ScanClash.T12 := by kernel_rfl
theorem backstitchlaw3_ScanClash.bits12 : waitsOk backstitchlaw3_ScanClash.T12.2 backstitchlaw3_ScanClash.B12 = true := by kernel_rfl
def backstitchlaw3_ScanClash.f (k : Nat) (l0 : List S60) (l1 : List S54) : Option Bool := (backstitchlaw3_scanned.f k).bind fun t => if t = true then (scan_Clash.f k (l0.take (mn (l0.length : Int) 40).toNat) l1).bind fun c => if c = resS (lawS (l0.take (mn (l0.length : Int) 40).toNat) l1) then some true else none else some false
set_option maxHeartbeats 16000000 in
set_option maxRecDepth 100000 in
theorem backstitchlaw3_ScanClash.calls (k : Nat) (A0 : Option Addr) (c0 : Nat) (l0 : List (S60)) (A1 : Option Addr) (c1 : Nat) (l1 : List (S54)) (r : Bool) (w : World) (hr0 : Kd.C k60 w A0 l0.length l0) (hc0 : l0.length ≤ c0) (hr1 : Kd.C k54 w A1 l1.length l1) (hc1 : l1.length ≤ c1) (h : backstitchlaw3_ScanClash.f k l0 l1 = some r) :
    Calls Try.prog 5 #[.slice A0 l0.length c0, .slice A1 l1.length c1] w fun e w' => e = .returned (.bool r) ∧ Below w.heap.size w w' := by
  unfold backstitchlaw3_ScanClash.f at h
  have HS0 := Aside0.mk (St.nil (Below.refl w.heap.size w))
  obtain ⟨t, hq, h⟩ := Option.bind_eq_some_iff.1 h
  have HQ := Aside0.mk hq
  rcases t with _ | _
  · obtain rfl := Option.some.inj h
    clear hr0 hc0 hr1 hc1 hq
    go_enter Try.func5, Try.ntmps5
    go_wp2_with (first | (go_at_call 19; refine (backstitchlaw3_scanned.calls k false _ HQ.out).mono ?_; rintro e_ w1 ⟨rfl, hb_⟩; have HS1 := Aside0.mk (HS0.out.call hb_); clear hb_))
    go_ret
    exact ⟨rfl, HS1.out.below⟩
  rw [if_pos rfl] at h
  obtain ⟨m, hm⟩ : ∃ m : Int, mn (l0.length : Int) 40 = m := ⟨_, rfl⟩
  rw [hm] at h
  have hm1 : (if (40 : Int) < (l0.length : Int) then (40 : Int) else (l0.length : Int)) = m := hm
  have hmb : 0 ≤ m ∧ m ≤ (l0.length : Int) ∧ m ≤ 40 := by rw [← hm1]; split <;> omega
  obtain ⟨y0, hy0⟩ : ∃ z, z = l0.take m.toNat := ⟨_, rfl⟩
  rw [← hy0] at h
  have hyl : y0.length = m.toNat := by rw [hy0, List.length_take]; omega
  have hym : (y0.length : Int) = m := by omega
  obtain ⟨i0, hi, hz⟩ := Option.map_eq_some_iff.1 info60
  have hsl : ∀ W : World, (Instr.slice 46 (.slice A0 l0.length c0) none (some (.int .i64 m)) none).run Try.prog W = .ok (.slice A0 y0.length c0) W := fun W => by
    rw [cut_to 46 60 .i64 Try.underlying46 hi A0 l0.length c0 m hmb.1 hmb.2.1 hc0 W, hyl]
  have HR0 := Aside0.mk (show Kd.C k60 w A0 y0.length y0 by rw [hy0]; exact Kd.C_take hr0 (by omega))
  have HC0 := Aside0.mk (show y0.length ≤ c0 by omega)
  have HR1 := Aside0.mk hr1
  have HC1 := Aside0.mk hc1
  obtain ⟨⟨q1, q2, q3⟩, hcl, h⟩ := Option.bind_eq_some_iff.1 h
  have HCL := Aside0.mk hcl
  split at h
  case isFalse => cases h
  rename_i hres
  obtain rfl := Option.some.inj h
  obtain ⟨N, hN⟩ : ∃ N : Int, mn (y0.length : Int) (l1.length : Int) = N := ⟨_, rfl⟩
  have hn1 : (if l1.length < y0.length then (l1.length : Int) else (y0.length : Int)) = N := by rw [← hN]; unfold mn; split <;> split <;> omega
  have hNb : 0 ≤ N ∧ N ≤ (y0.length : Int) ∧ N ≤ (l1.length : Int) ∧ N ≤ 40 := by rw [← hn1]; split <;> omega
  have HN := Aside0.mk hNb
  obtain ⟨s, hs⟩ : ∃ s, lawS y0 l1 = s := ⟨_, rfl⟩
  rw [hs] at hres
  unfold lawS at hs
  rw [hN] at hs
  have HX0 := Aside0.mk (show outF y0 l1 N (N - 0).toNat 0 = s by rw [Int.sub_zero]; exact hs)
  have HRES := Aside0.mk hres
  clear hr0 hc0 hr1 hc1 hq hm hmb hy0 hyl hym hi hz i0 hcl hres hN hNb hs
  go_enter Try.func5, Try.ntmps5
  go_wp2_with (first | (go_at_call 19; refine (backstitchlaw3_scanned.calls k true _ HQ.out).mono ?_; rintro e_ w1 ⟨rfl, hb_⟩; have HS1 := Aside0.mk (HS0.out.call hb_); clear hb_) | (go_at_call 23; refine (scan_Clash.calls k A0 c0 y0 A1 c1 l1 q1 q2 q3 _ (Kd.C_below HR0.out HS1.out.below) HC0.out (Kd.C_below HR1.out HS1.out.below) HC1.out HCL.out).mono ?_; rintro e_ w2 ⟨rfl, hb_⟩; have HS2 := Aside0.mk (HS1.out.call hb_); clear hb_))
  clear hsl hm1
  go_loopw [30] (fun v30 wr => ∃ a : Int, v30 = .int .i64 a ∧ Aside0 (0 ≤ a ∧ a ≤ N) ∧ Aside0 (outF y0 l1 N (N - a).toNat a = s) ∧ Aside0 (St w wr [])) (fun v30 _ => (N - intOf v30).toNat)
  case atStart => exact ⟨0, rfl, ⟨by have := HN.out; omega⟩, HX0, HS2⟩
  case round =>
    clear HX0 HS2
    obtain ⟨a, rfl, Ha, HX, HSr⟩ := hrel
    have ha0 : 0 ≤ a := Ha.out.1
    by_cases hlt : a < N
    · have ht : decide (a < N) = true := decide_eq_true hlt
      have HW := Aside0.mk (show wrap64 (a + 1) = a + 1 by have := HN.out; unfold wrap64; omega)
      have hx := HX.out
      rw [show (N - a).toNat = (N - (a + 1)).toNat + 1 by omega, outF] at hx
      have HXI := Aside0.mk (show (match inF (hitB y0 l1 a) (N - (a + 1)).toNat (a + 1) with | some b => some (a, b) | none => outF y0 l1 N (N - (a + 1)).toNat (a + 1)) = s from hx)
      clear hx HX
      go_wp2
      rename World => wo
      go_loopw [9] (fun v9 wr => ∃ b : Int, v9 = .int .i64 b ∧ Aside0 (a < b ∧ b ≤ N) ∧ Aside0 ((match inF (hitB y0 l1 a) (N - b).toNat b with | some b => some (a, b) | none => outF y0 l1 N (N - (a + 1)).toNat (a + 1)) = s) ∧ Aside0 (St w wr [])) (fun v9 _ => (N - intOf v9).toNat)
      case atStart => exact ⟨a + 1, by first | rw [HW.out] | rfl, ⟨by omega⟩, HXI, HSr⟩
      case round =>
        clear HXI HSr
        obtain ⟨b, rfl, Hb, HX, HSr⟩ := hrel
        have hb0 : a < b := Hb.out.1
        by_cases hltb : b < N
        · have htb : decide (b < N) = true := decide_eq_true hltb
          have HWB := Aside0.mk (show wrap64 (b + 1) = b + 1 by have := HN.out; unfold wrap64; omega)
          have hx := HX.out
          rw [show (N - b).toNat = (N - (b + 1)).toNat + 1 by omega, inF] at hx
          clear HX
          have b0 : 0 ≤ b := by omega
          have ha1 : a < (y0.length : Int) := by have := HN.out; omega
          have ha2 : a < (l1.length : Int) := by have := HN.out; omega
          have hb1 : b < (y0.length : Int) := by have := HN.out; omega
          have hb2 : b < (l1.length : Int) := by have := HN.out; omega
          obtain ⟨adl, e, hx0, hx1⟩ := at_T60 HR0.out a ha0 ha1
          cases e
          obtain ⟨adl2, e, hy0, hy1⟩ := at_T60 HR0.out b b0 hb1
          obtain rfl := Option.some.inj e
          obtain ⟨ada, e, hp0, hp1⟩ := at_T54 HR1.out a ha0 ha2
          cases e
          obtain ⟨ada2, e, hq0, hq1⟩ := at_T54 HR1.out b b0 hb2
          obtain rfl := Option.some.inj e
          unfold hitB at hx
          have HF := Aside0.mk (show ∀ d c, inF (fun b => cntB (rd_T60 y0 a).f0 (rd_T60 y0 a).f1 && (cntB (rd_T60 y0 b).f0 (rd_T60 y0 b).f1 && (meetB (rd_T60 y0 a).f0 (rd_T60 y0 a).f1 (rd_T60 y0 b).f0 (rd_T60 y0 b).f1 && sameB (rd_T54 l1 a) (rd_T54 l1 b)))) d c = inF (hitB y0 l1 a) d c from fun _ _ => rfl)
          rw [HF.out] at hx
          clear HF
          generalize rd_T60 y0 a = x at *
          generalize rd_T60 y0 b = y at *
          generalize rd_T54 l1 a = p at *
          generalize rd_T54 l1 b = q at *
          have HX0 := Aside0.mk hx0
          have HX1 := Aside0.mk hx1
          have HY0 := Aside0.mk hy0
          have HY1 := Aside0.mk hy1
          have HP0 := Aside0.mk hp0
          have HP1 := Aside0.mk hp1
          have HQ0 := Aside0.mk hq0
          have HQ1 := Aside0.mk hq1
          obtain ⟨sb, hsb⟩ : ∃ sb, sameB p q = sb := ⟨_, rfl⟩
          obtain ⟨cx, hcx⟩ : ∃ c, cntB x.f0 x.f1 = c := ⟨_, rfl⟩
          obtain ⟨cy, hcy⟩ : ∃ c, cntB y.f0 y.f1 = c := ⟨_, rfl⟩
          obtain ⟨mt, hmt⟩ : ∃ c, meetB x.f0 x.f1 y.f0 y.f1 = c := ⟨_, rfl⟩
          rw [hsb, hcx, hcy, hmt] at hx
          have HX := Aside0.mk hx
          have HCX := Aside0.mk (show backstitchref3_Counts.f x.f0 x.f1 = some cx by rw [rcnt_eq, hcx])
          have HCY := Aside0.mk (show backstitchref3_Counts.f y.f0 y.f1 = some cy by rw [rcnt_eq, hcy])
          have HMT := Aside0.mk (show backstitchref3_Meet.f x.f0 x.f1 y.f0 y.f1 = some mt by rw [rmeet_eq, hmt])
          have HSBs := Aside0.mk hsb
          clear hx0 hx1 hy0 hy1 hp0 hp1 hq0 hq1 hx hsb hcx hcy hmt e
          go_upto_region 11 with (fail)
          go_cut [10] (fun v10 wc => v10 = .bool sb ∧ Aside0 (St w wc []))
          case first =>
            have HSB := HSBs
            have hsb := HSBs.out
            unfold sameB at hsb
            by_cases c1 : p.f0 ≥ 0
            · rw [if_pos c1] at hsb
              have d1 : decide (0 ≤ p.f0) = true := decide_eq_true c1
              have d2 : decide (p.f0 ≥ 0) = true := d1
              by_cases c2 : p.f0 = q.f0
              · have d3 : (p.f0 == q.f0) = true := beq_iff_eq.mpr c2
                have HSB := Aside0.mk (show sb = true by rw [← hsb, d3])
                clear c1 c2 hsb
                refine st_ (fun w' => St w w' ([])) backstitchlaw3_ScanClash.tab11 backstitchlaw3_ScanClash.bits11 HSr.out.drew (fun HT_ HW_ hHeld => ?_)
                clear HSr
                generalize wr.drew = w146_ at hHeld ⊢
                have HS147_ := Aside0.mk (show St w w146_ ([]) from hHeld)
                refine pu_ (v := ?_) (a' := ?_) HT_.out 0 (some 44) ?_ ?_ ?_; rotate_left 2; (intro w'; go_simp; with_reducible rfl); (simp only [Act.put, List.setIfInBounds_toArray, List.set_cons_zero, List.set_cons_succ, i64_w, i32_w]; rfl)
                refine pu_ (v := ?_) (a' := ?_) HT_.out 1 (some 45) ?_ ?_ ?_; rotate_left 2; (intro w'; go_simp; with_reducible rfl); (simp only [Act.put, List.setIfInBounds_toArray, List.set_cons_zero, List.set_cons_succ, i64_w, i32_w]; rfl)
                refine pu_ (v := ?_) (a' := ?_) HT_.out 2 (some 46) ?_ ?_ ?_; rotate_left 2; (intro w'; go_simp; with_reducible rfl); (simp only [Act.put, List.setIfInBounds_toArray, List.set_cons_zero, List.set_cons_succ, i64_w, i32_w]; rfl)
                refine pu_ (v := ?_) (a' := ?_) HT_.out 3 (some 47) ?_ ?_ ?_; rotate_left 2; (intro w'; go_simp; with_reducible rfl); (simp only [Act.put, List.setIfInBounds_toArray, List.set_cons_zero, List.set_cons_succ, i64_w, i32_w]; rfl)
                refine tk_ (v := ?_) (a' := ?_) HT_.out HW_.out hHeld 4 (some 48) ?_ ?_ ?_; rotate_left 2; (intro w' hS; have s0 : w'.cell? (ada.add (a.toNat * 2)) = some (.int .i64 p.f0) := (hS.below.cell (World.block_lt_of_cell? w _ HP0.out)).trans HP0.out; have s1 : w'.cell? ⟨(ada.add (a.toNat * 2)).block, (ada.add (a.toNat * 2)).off + 1, none⟩ = some (.int .i64 p.f1) := (hS.below.cell (World.block_lt_of_cell? w _ HP1.out)).trans HP1.out; go_simp; with_reducible rfl); (simp only [Act.put, List.setIfInBounds_toArray, List.set_cons_zero, List.set_cons_succ, i64_w, i32_w]; rfl)
                refine pu_ (v := ?_) (a' := ?_) HT_.out 5 (some 49) ?_ ?_ ?_; rotate_left 2; (intro w'; go_simp; with_reducible rfl); (simp only [Act.put, List.setIfInBounds_toArray, List.set_cons_zero, List.set_cons_succ, i64_w, i32_w]; rfl)
                refine pu_ (v := ?_) (a' := ?_) HT_.out 6 (some 50) ?_ ?_ ?_; rotate_left 2; (intro w'; go_simp; with_reducible rfl); (simp only [Act.put, List.setIfInBounds_toArray, List.set_cons_zero, List.set_cons_succ, i64_w, i32_w]; rfl)
                refine pu_ (v := ?_) (a' := ?_) HT_.out 7 (some 51) ?_ ?_ ?_; rotate_left 2; (intro w'; go_simp; with_reducible rfl); (simp only [Act.put, List.setIfInBounds_toArray, List.set_cons_zero, List.set_cons_succ, i64_w, i32_w]; rfl)
                refine pu_ (v := ?_) (a' := ?_) HT_.out 8 (some 52) ?_ ?_ ?_; rotate_left 2; (intro w'; go_simp; with_reducible rfl); (simp only [Act.put, List.setIfInBounds_toArray, List.set_cons_zero, List.set_cons_succ, i64_w, i32_w]; rfl)
                refine pu_ (v := ?_) (a' := ?_) HT_.out 9 (some 53) ?_ ?_ ?_; rotate_left 2; (intro w'; go_simp; with_reducible rfl); (simp only [Act.put, List.setIfInBounds_toArray, List.set_cons_zero, List.set_cons_succ, i64_w, i32_w]; rfl)
                refine pu_ (v := ?_) (a' := ?_) HT_.out 10 (some 54) ?_ ?_ ?_; rotate_left 2; (intro w'; go_simp; with_reducible rfl); (simp only [Act.put, List.setIfInBounds_toArray, List.set_cons_zero, List.set_cons_succ, i64_w, i32_w]; rfl)
                refine pu_ (v := ?_) (a' := ?_) HT_.out 12 (some 56) ?_ ?_ ?_; rotate_left 2; (intro w'; go_simp; with_reducible rfl); (simp only [Act.put, List.setIfInBounds_toArray, List.set_cons_zero, List.set_cons_succ, i64_w, i32_w]; rfl)
                refine pu_ (v := ?_) (a' := ?_) HT_.out 13 (some 57) ?_ ?_ ?_; rotate_left 2; (intro w'; go_simp; with_reducible rfl); (simp only [Act.put, List.setIfInBounds_toArray, List.set_cons_zero, List.set_cons_succ, i64_w, i32_w]; rfl)
                refine pu_ (v := ?_) (a' := ?_) HT_.out 14 (some 58) ?_ ?_ ?_; rotate_left 2; (intro w'; go_simp; with_reducible rfl); (simp only [Act.put, List.setIfInBounds_toArray, List.set_cons_zero, List.set_cons_succ, i64_w, i32_w]; rfl)
                refine pu_ (v := ?_) (a' := ?_) HT_.out 15 (some 59) ?_ ?_ ?_; rotate_left 2; (intro w'; go_simp; with_reducible rfl); (simp only [Act.put, List.setIfInBounds_toArray, List.set_cons_zero, List.set_cons_succ, i64_w, i32_w]; rfl)
                refine tk_ (v := ?_) (a' := ?_) HT_.out HW_.out hHeld 11 (some 55) ?_ ?_ ?_; rotate_left 2; (intro w' hS; have s0 : w'.cell? (ada.add (a.toNat * 2)) = some (.int .i64 p.f0) := (hS.below.cell (World.block_lt_of_cell? w _ HP0.out)).trans HP0.out; have s1 : w'.cell? ⟨(ada.add (a.toNat * 2)).block, (ada.add (a.toNat * 2)).off + 1, none⟩ = some (.int .i64 p.f1) := (hS.below.cell (World.block_lt_of_cell? w _ HP1.out)).trans HP1.out; go_simp; with_reducible rfl); (simp only [Act.put, List.setIfInBounds_toArray, List.set_cons_zero, List.set_cons_succ, i64_w, i32_w]; rfl)
                refine tk_ (v := ?_) (a' := ?_) HT_.out HW_.out hHeld 16 (some 60) ?_ ?_ ?_; rotate_left 2; (intro w' hS; have s0 : w'.cell? (ada.add (b.toNat * 2)) = some (.int .i64 q.f0) := (hS.below.cell (World.block_lt_of_cell? w _ HQ0.out)).trans HQ0.out; have s1 : w'.cell? ⟨(ada.add (b.toNat * 2)).block, (ada.add (b.toNat * 2)).off + 1, none⟩ = some (.int .i64 q.f1) := (hS.below.cell (World.block_lt_of_cell? w _ HQ1.out)).trans HQ1.out; go_simp; with_reducible rfl); (simp only [Act.put, List.setIfInBounds_toArray, List.set_cons_zero, List.set_cons_succ, i64_w, i32_w]; rfl)
                refine pu_ (v := ?_) (a' := ?_) HT_.out 17 (some 61) ?_ ?_ ?_; rotate_left 2; (intro w'; go_simp; with_reducible rfl); (simp only [Act.put, List.setIfInBounds_toArray, List.set_cons_zero, List.set_cons_succ, i64_w, i32_w]; rfl)
                refine pu_ (v := ?_) (a' := ?_) HT_.out 18 (some 62) ?_ ?_ ?_; rotate_left 2; (intro w'; go_simp; with_reducible rfl); (simp only [Act.put, List.setIfInBounds_toArray, List.set_cons_zero, List.set_cons_succ, i64_w, i32_w]; rfl)
                refine pu_ (v := ?_) (a' := ?_) HT_.out 19 (some 63) ?_ ?_ ?_; rotate_left 2; (intro w'; go_simp; with_reducible rfl); (simp only [Act.put, List.setIfInBounds_toArray, List.set_cons_zero, List.set_cons_succ, i64_w, i32_w]; rfl)
                refine un_ (a' := ?_) HT_.out 20 (some 64) ?_ ?_; rotate_left; (simp only [Act.put, List.setIfInBounds_toArray, List.set_cons_zero, List.set_cons_succ, i64_w, i32_w]; rfl)
                refine un_ (a' := ?_) HT_.out 21 (some 65) ?_ ?_; rotate_left; (simp only [Act.put, List.setIfInBounds_toArray, List.set_cons_zero, List.set_cons_succ, i64_w, i32_w]; rfl)
                refine un_ (a' := ?_) HT_.out 22 (some 66) ?_ ?_; rotate_left; (simp only [Act.put, List.setIfInBounds_toArray, List.set_cons_zero, List.set_cons_succ, i64_w, i32_w]; rfl)
                refine un_ (a' := ?_) HT_.out 23 (some 67) ?_ ?_; rotate_left; (simp only [Act.put, List.setIfInBounds_toArray, List.set_cons_zero, List.set_cons_succ, i64_w, i32_w]; rfl)
                refine un_ (a' := ?_) HT_.out 24 (some 68) ?_ ?_; rotate_left; (simp only [Act.put, List.setIfInBounds_toArray, List.set_cons_zero, List.set_cons_succ, i64_w, i32_w]; rfl)
                refine un_ (a' := ?_) HT_.out 25 (some 69) ?_ ?_; rotate_left; (simp only [Act.put, List.setIfInBounds_toArray, List.set_cons_zero, List.set_cons_succ, i64_w, i32_w]; rfl)
                refine un_ (a' := ?_) HT_.out 26 (some 70) ?_ ?_; rotate_left; (simp only [Act.put, List.setIfInBounds_toArray, List.set_cons_zero, List.set_cons_succ, i64_w, i32_w]; rfl)
                refine un_ (a' := ?_) HT_.out 27 (some 71) ?_ ?_; rotate_left; (simp only [Act.put, List.setIfInBounds_toArray, List.set_cons_zero, List.set_cons_succ, i64_w, i32_w]; rfl)
                refine un_ (a' := ?_) HT_.out 28 (some 72) ?_ ?_; rotate_left; (simp only [Act.put, List.setIfInBounds_toArray, List.set_cons_zero, List.set_cons_succ, i64_w, i32_w]; rfl)
                refine un_ (a' := ?_) HT_.out 29 (some 73) ?_ ?_; rotate_left; (simp only [Act.put, List.setIfInBounds_toArray, List.set_cons_zero, List.set_cons_succ, i64_w, i32_w]; rfl)
                refine un_ (a' := ?_) HT_.out 30 (some 74) ?_ ?_; rotate_left; (simp only [Act.put, List.setIfInBounds_toArray, List.set_cons_zero, List.set_cons_succ, i64_w, i32_w]; rfl)
                refine un_ (a' := ?_) HT_.out 31 (some 75) ?_ ?_; rotate_left; (simp only [Act.put, List.setIfInBounds_toArray, List.set_cons_zero, List.set_cons_succ, i64_w, i32_w]; rfl)
                refine un_ (a' := ?_) HT_.out 32 (some 76) ?_ ?_; rotate_left; (simp only [Act.put, List.setIfInBounds_toArray, List.set_cons_zero, List.set_cons_succ, i64_w, i32_w]; rfl)
                refine un_ (a' := ?_) HT_.out 33 (some 77) ?_ ?_; rotate_left; (simp only [Act.put, List.setIfInBounds_toArray, List.set_cons_zero, List.set_cons_succ, i64_w, i32_w]; rfl)
                refine un_ (a' := ?_) HT_.out 34 (some 78) ?_ ?_; rotate_left; (simp only [Act.put, List.setIfInBounds_toArray, List.set_cons_zero, List.set_cons_succ, i64_w, i32_w]; rfl)
                refine un_ (a' := ?_) HT_.out 35 (some 79) ?_ ?_; rotate_left; (simp only [Act.put, List.setIfInBounds_toArray, List.set_cons_zero, List.set_cons_succ, i64_w, i32_w]; rfl)
                refine un_ (a' := ?_) HT_.out 36 (some 80) ?_ ?_; rotate_left; (simp only [Act.put, List.setIfInBounds_toArray, List.set_cons_zero, List.set_cons_succ, i64_w, i32_w]; rfl)
                refine un_ (a' := ?_) HT_.out 37 (some 81) ?_ ?_; rotate_left; (simp only [Act.put, List.setIfInBounds_toArray, List.set_cons_zero, List.set_cons_succ, i64_w, i32_w]; rfl)
                refine un_ (a' := ?_) HT_.out 38 (some 82) ?_ ?_; rotate_left; (simp only [Act.put, List.setIfInBounds_toArray, List.set_cons_zero, List.set_cons_succ, i64_w, i32_w]; rfl)
                refine un_ (a' := ?_) HT_.out 39 (some 83) ?_ ?_; rotate_left; (simp only [Act.put, List.setIfInBounds_toArray, List.set_cons_zero, List.set_cons_succ, i64_w, i32_w]; rfl)
                refine un_ (a' := ?_) HT_.out 40 (some 84) ?_ ?_; rotate_left; (simp only [Act.put, List.setIfInBounds_toArray, List.set_cons_zero, List.set_cons_succ, i64_w, i32_w]; rfl)
                refine un_ (a' := ?_) HT_.out 41 (some 85) ?_ ?_; rotate_left; (simp only [Act.put, List.setIfInBounds_toArray, List.set_cons_zero, List.set_cons_succ, i64_w, i32_w]; rfl)
                refine un_ (a' := ?_) HT_.out 42 (some 86) ?_ ?_; rotate_left; (simp only [Act.put, List.setIfInBounds_toArray, List.set_cons_zero, List.set_cons_succ, i64_w, i32_w]; rfl)
                refine un_ (a' := ?_) HT_.out 43 (some 87) ?_ ?_; rotate_left; (simp only [Act.put, List.setIfInBounds_toArray, List.set_cons_zero, List.set_cons_succ, i64_w, i32_w]; rfl)
                refine un_ (a' := ?_) HT_.out 44 (some 88) ?_ ?_; rotate_left; (simp only [Act.put, List.setIfInBounds_toArray, List.set_cons_zero, List.set_cons_succ, i64_w, i32_w]; rfl)
                refine un_ (a' := ?_) HT_.out 45 (some 89) ?_ ?_; rotate_left; (simp only [Act.put, List.setIfInBounds_toArray, List.set_cons_zero, List.set_cons_succ, i64_w, i32_w]; rfl)
                refine un_ (a' := ?_) HT_.out 46 (some 90) ?_ ?_; rotate_left; (simp only [Act.put, List.setIfInBounds_toArray, List.set_cons_zero, List.set_cons_succ, i64_w, i32_w]; rfl)
                refine un_ (a' := ?_) HT_.out 47 (some 91) ?_ ?_; rotate_left; (simp only [Act.put, List.setIfInBounds_toArray, List.set_cons_zero, List.set_cons_succ, i64_w, i32_w]; rfl)
                refine un_ (a' := ?_) HT_.out 48 (some 92) ?_ ?_; rotate_left; (simp only [Act.put, List.setIfInBounds_toArray, List.set_cons_zero, List.set_cons_succ, i64_w, i32_w]; rfl)
                refine un_ (a' := ?_) HT_.out 49 (some 93) ?_ ?_; rotate_left; (simp only [Act.put, List.setIfInBounds_toArray, List.set_cons_zero, List.set_cons_succ, i64_w, i32_w]; rfl)
                refine un_ (a' := ?_) HT_.out 50 (some 94) ?_ ?_; rotate_left; (simp only [Act.put, List.setIfInBounds_toArray, List.set_cons_zero, List.set_cons_succ, i64_w, i32_w]; rfl)
                refine un_ (a' := ?_) HT_.out 51 (some 95) ?_ ?_; rotate_left; (simp only [Act.put, List.setIfInBounds_toArray, List.set_cons_zero, List.set_cons_succ, i64_w, i32_w]; rfl)
                refine un_ (a' := ?_) HT_.out 52 (some 96) ?_ ?_; rotate_left; (simp only [Act.put, List.setIfInBounds_toArray, List.set_cons_zero, List.set_cons_succ, i64_w, i32_w]; rfl)
                refine un_ (a' := ?_) HT_.out 53 (some 97) ?_ ?_; rotate_left; (simp only [Act.put, List.setIfInBounds_toArray, List.set_cons_zero, List.set_cons_succ, i64_w, i32_w]; rfl)
                refine un_ (a' := ?_) HT_.out 54 (some 98) ?_ ?_; rotate_left; (simp only [Act.put, List.setIfInBounds_toArray, List.set_cons_zero, List.set_cons_succ, i64_w, i32_w]; rfl)
                refine pu_ (v := ?_) (a' := ?_) HT_.out 55 (some 99) ?_ ?_ ?_; rotate_left 2; (intro w'; go_simp; with_reducible rfl); (simp only [Act.put, List.setIfInBounds_toArray, List.set_cons_zero, List.set_cons_succ, i64_w, i32_w]; rfl)
                refine pu_ (v := ?_) (a' := ?_) HT_.out 56 (some 10) ?_ ?_ ?_; rotate_left 2; (intro w'; go_simp; with_reducible rfl); (simp only [Act.put, List.setIfInBounds_toArray, List.set_cons_zero, List.set_cons_succ, i64_w, i32_w]; rfl)
                refine dn_ HT_.out ?_
                clear hHeld HT_ HW_
                try go_wp2
                go_meet
                case rel => exact ⟨by rw [HSB.out], HS147_⟩
              · have d3 : (p.f0 == q.f0) = false := beq_eq_false_iff_ne.mpr c2
                have d4 : (p.f0 == -1) = false := beq_eq_false_iff_ne.mpr (by omega)
                have HSB := Aside0.mk (show sb = false by rw [← hsb, d3])
                clear c1 c2 hsb
                refine st_ (fun w' => St w w' ([])) backstitchlaw3_ScanClash.tab11 backstitchlaw3_ScanClash.bits11 HSr.out.drew (fun HT_ HW_ hHeld => ?_)
                clear HSr
                generalize wr.drew = w148_ at hHeld ⊢
                have HS149_ := Aside0.mk (show St w w148_ ([]) from hHeld)
                refine pu_ (v := ?_) (a' := ?_) HT_.out 0 (some 44) ?_ ?_ ?_; rotate_left 2; (intro w'; go_simp; with_reducible rfl); (simp only [Act.put, List.setIfInBounds_toArray, List.set_cons_zero, List.set_cons_succ, i64_w, i32_w]; rfl)
                refine pu_ (v := ?_) (a' := ?_) HT_.out 1 (some 45) ?_ ?_ ?_; rotate_left 2; (intro w'; go_simp; with_reducible rfl); (simp only [Act.put, List.setIfInBounds_toArray, List.set_cons_zero, List.set_cons_succ, i64_w, i32_w]; rfl)
                refine pu_ (v := ?_) (a' := ?_) HT_.out 2 (some 46) ?_ ?_ ?_; rotate_left 2; (intro w'; go_simp; with_reducible rfl); (simp only [Act.put, List.setIfInBounds_toArray, List.set_cons_zero, List.set_cons_succ, i64_w, i32_w]; rfl)
                refine pu_ (v := ?_) (a' := ?_) HT_.out 3 (some 47) ?_ ?_ ?_; rotate_left 2; (intro w'; go_simp; with_reducible rfl); (simp only [Act.put, List.setIfInBounds_toArray, List.set_cons_zero, List.set_cons_succ, i64_w, i32_w]; rfl)
                refine tk_ (v := ?_) (a' := ?_) HT_.out HW_.out hHeld 4 (some 48) ?_ ?_ ?_; rotate_left 2; (intro w' hS; have s0 : w'.cell? (ada.add (a.toNat * 2)) = some (.int .i64 p.f0) := (hS.below.cell (World.block_lt_of_cell? w _ HP0.out)).trans HP0.out; have s1 : w'.cell? ⟨(ada.add (a.toNat * 2)).block, (ada.add (a.toNat * 2)).off + 1, none⟩ = some (.int .i64 p.f1) := (hS.below.cell (World.block_lt_of_cell? w _ HP1.out)).trans HP1.out; go_simp; with_reducible rfl); (simp only [Act.put, List.setIfInBounds_toArray, List.set_cons_zero, List.set_cons_succ, i64_w, i32_w]; rfl)
                refine pu_ (v := ?_) (a' := ?_) HT_.out 5 (some 49) ?_ ?_ ?_; rotate_left 2; (intro w'; go_simp; with_reducible rfl); (simp only [Act.put, List.setIfInBounds_toArray, List.set_cons_zero, List.set_cons_succ, i64_w, i32_w]; rfl)
                refine pu_ (v := ?_) (a' := ?_) HT_.out 6 (some 50) ?_ ?_ ?_; rotate_left 2; (intro w'; go_simp; with_reducible rfl); (simp only [Act.put, List.setIfInBounds_toArray, List.set_cons_zero, List.set_cons_succ, i64_w, i32_w]; rfl)
                refine pu_ (v := ?_) (a' := ?_) HT_.out 7 (some 51) ?_ ?_ ?_; rotate_left 2; (intro w'; go_simp; with_reducible rfl); (simp only [Act.put, List.setIfInBounds_toArray, List.set_cons_zero, List.set_cons_succ, i64_w, i32_w]; rfl)
                refine pu_ (v := ?_) (a' := ?_) HT_.out 8 (some 52) ?_ ?_ ?_; rotate_left 2; (intro w'; go_simp; with_reducible rfl); (simp only [Act.put, List.setIfInBounds_toArray, List.set_cons_zero, List.set_cons_succ, i64_w, i32_w]; rfl)
                refine pu_ (v := ?_) (a' := ?_) HT_.out 9 (some 53) ?_ ?_ ?_; rotate_left 2; (intro w'; go_simp; with_reducible rfl); (simp only [Act.put, List.setIfInBounds_toArray, List.set_cons_zero, List.set_cons_succ, i64_w, i32_w]; rfl)
                refine pu_ (v := ?_) (a' := ?_) HT_.out 10 (some 54) ?_ ?_ ?_; rotate_left 2; (intro w'; go_simp; with_reducible rfl); (simp only [Act.put, List.setIfInBounds_toArray, List.set_cons_zero, List.set_cons_succ, i64_w, i32_w]; rfl)
                refine pu_ (v := ?_) (a' := ?_) HT_.out 12 (some 56) ?_ ?_ ?_; rotate_left 2; (intro w'; go_simp; with_reducible rfl); (simp only [Act.put, List.setIfInBounds_toArray, List.set_cons_zero, List.set_cons_succ, i64_w, i32_w]; rfl)
                refine pu_ (v := ?_) (a' := ?_) HT_.out 13 (some 57) ?_ ?_ ?_; rotate_left 2; (intro w'; go_simp; with_reducible rfl); (simp only [Act.put, List.setIfInBounds_toArray, List.set_cons_zero, List.set_cons_succ, i64_w, i32_w]; rfl)
                refine pu_ (v := ?_) (a' := ?_) HT_.out 14 (some 58) ?_ ?_ ?_; rotate_left 2; (intro w'; go_simp; with_reducible rfl); (simp only [Act.put, List.setIfInBounds_toArray, List.set_cons_zero, List.set_cons_succ, i64_w, i32_w]; rfl)
                refine pu_ (v := ?_) (a' := ?_) HT_.out 15 (some 59) ?_ ?_ ?_; rotate_left 2; (intro w'; go_simp; with_reducible rfl); (simp only [Act.put, List.setIfInBounds_toArray, List.set_cons_zero, List.set_cons_succ, i64_w, i32_w]; rfl)
                refine tk_ (v := ?_) (a' := ?_) HT_.out HW_.out hHeld 11 (some 55) ?_ ?_ ?_; rotate_left 2; (intro w' hS; have s0 : w'.cell? (ada.add (a.toNat * 2)) = some (.int .i64 p.f0) := (hS.below.cell (World.block_lt_of_cell? w _ HP0.out)).trans HP0.out; have s1 : w'.cell? ⟨(ada.add (a.toNat * 2)).block, (ada.add (a.toNat * 2)).off + 1, none⟩ = some (.int .i64 p.f1) := (hS.below.cell (World.block_lt_of_cell? w _ HP1.out)).trans HP1.out; go_simp; with_reducible rfl); (simp only [Act.put, List.setIfInBounds_toArray, List.set_cons_zero, List.set_cons_succ, i64_w, i32_w]; rfl)
                refine tk_ (v := ?_) (a' := ?_) HT_.out HW_.out hHeld 16 (some 60) ?_ ?_ ?_; rotate_left 2; (intro w' hS; have s0 : w'.cell? (ada.add (b.toNat * 2)) = some (.int .i64 q.f0) := (hS.below.cell (World.block_lt_of_cell? w _ HQ0.out)).trans HQ0.out; have s1 : w'.cell? ⟨(ada.add (b.toNat * 2)).block, (ada.add (b.toNat * 2)).off + 1, none⟩ = some (.int .i64 q.f1) := (hS.below.cell (World.block_lt_of_cell? w _ HQ1.out)).trans HQ1.out; go_simp; with_reducible rfl); (simp only [Act.put, List.setIfInBounds_toArray, List.set_cons_zero, List.set_cons_succ, i64_w, i32_w]; rfl)
                refine pu_ (v := ?_) (a' := ?_) HT_.out 17 (some 61) ?_ ?_ ?_; rotate_left 2; (intro w'; go_simp; with_reducible rfl); (simp only [Act.put, List.setIfInBounds_toArray, List.set_cons_zero, List.set_cons_succ, i64_w, i32_w]; rfl)
                refine pu_ (v := ?_) (a' := ?_) HT_.out 18 (some 62) ?_ ?_ ?_; rotate_left 2; (intro w'; go_simp; with_reducible rfl); (simp only [Act.put, List.setIfInBounds_toArray, List.set_cons_zero, List.set_cons_succ, i64_w, i32_w]; rfl)
                refine pu_ (v := ?_) (a' := ?_) HT_.out 19 (some 63) ?_ ?_ ?_; rotate_left 2; (intro w'; go_simp; with_reducible rfl); (simp only [Act.put, List.setIfInBounds_toArray, List.set_cons_zero, List.set_cons_succ, i64_w, i32_w]; rfl)
                refine pu_ (v := ?_) (a' := ?_) HT_.out 20 (some 64) ?_ ?_ ?_; rotate_left 2; (intro w'; go_simp; with_reducible rfl); (simp only [Act.put, List.setIfInBounds_toArray, List.set_cons_zero, List.set_cons_succ, i64_w, i32_w]; rfl)
                refine pu_ (v := ?_) (a' := ?_) HT_.out 21 (some 65) ?_ ?_ ?_; rotate_left 2; (intro w'; go_simp; with_reducible rfl); (simp only [Act.put, List.setIfInBounds_toArray, List.set_cons_zero, List.set_cons_succ, i64_w, i32_w]; rfl)
                refine pu_ (v := ?_) (a' := ?_) HT_.out 22 (some 66) ?_ ?_ ?_; rotate_left 2; (intro w'; go_simp; with_reducible rfl); (simp only [Act.put, List.setIfInBounds_toArray, List.set_cons_zero, List.set_cons_succ, i64_w, i32_w]; rfl)
                refine pu_ (v := ?_) (a' := ?_) HT_.out 23 (some 67) ?_ ?_ ?_; rotate_left 2; (intro w'; go_simp; with_reducible rfl); (simp only [Act.put, List.setIfInBounds_toArray, List.set_cons_zero, List.set_cons_succ, i64_w, i32_w]; rfl)
                refine tk_ (v := ?_) (a' := ?_) HT_.out HW_.out hHeld 24 (some 68) ?_ ?_ ?_; rotate_left 2; (intro w' hS; have s0 : w'.cell? (ada.add (a.toNat * 2)) = some (.int .i64 p.f0) := (hS.below.cell (World.block_lt_of_cell? w _ HP0.out)).trans HP0.out; have s1 : w'.cell? ⟨(ada.add (a.toNat * 2)).block, (ada.add (a.toNat * 2)).off + 1, none⟩ = some (.int .i64 p.f1) := (hS.below.cell (World.block_lt_of_cell? w _ HP1.out)).trans HP1.out; go_simp; with_reducible rfl); (simp only [Act.put, List.setIfInBounds_toArray, List.set_cons_zero, List.set_cons_succ, i64_w, i32_w]; rfl)
                refine pu_ (v := ?_) (a' := ?_) HT_.out 25 (some 69) ?_ ?_ ?_; rotate_left 2; (intro w'; go_simp; with_reducible rfl); (simp only [Act.put, List.setIfInBounds_toArray, List.set_cons_zero, List.set_cons_succ, i64_w, i32_w]; rfl)
                refine pu_ (v := ?_) (a' := ?_) HT_.out 26 (some 70) ?_ ?_ ?_; rotate_left 2; (intro w'; go_simp; with_reducible rfl); (simp only [Act.put, List.setIfInBounds_toArray, List.set_cons_zero, List.set_cons_succ, i64_w, i32_w]; rfl)
                refine un_ (a' := ?_) HT_.out 27 (some 71) ?_ ?_; rotate_left; (simp only [Act.put, List.setIfInBounds_toArray, List.set_cons_zero, List.set_cons_succ, i64_w, i32_w]; rfl)
                refine un_ (a' := ?_) HT_.out 28 (some 72) ?_ ?_; rotate_left; (simp only [Act.put, List.setIfInBounds_toArray, List.set_cons_zero, List.set_cons_succ, i64_w, i32_w]; rfl)
                refine un_ (a' := ?_) HT_.out 29 (some 73) ?_ ?_; rotate_left; (simp only [Act.put, List.setIfInBounds_toArray, List.set_cons_zero, List.set_cons_succ, i64_w, i32_w]; rfl)
                refine un_ (a' := ?_) HT_.out 30 (some 74) ?_ ?_; rotate_left; (simp only [Act.put, List.setIfInBounds_toArray, List.set_cons_zero, List.set_cons_succ, i64_w, i32_w]; rfl)
                refine un_ (a' := ?_) HT_.out 31 (some 75) ?_ ?_; rotate_left; (simp only [Act.put, List.setIfInBounds_toArray, List.set_cons_zero, List.set_cons_succ, i64_w, i32_w]; rfl)
                refine un_ (a' := ?_) HT_.out 32 (some 76) ?_ ?_; rotate_left; (simp only [Act.put, List.setIfInBounds_toArray, List.set_cons_zero, List.set_cons_succ, i64_w, i32_w]; rfl)
                refine pu_ (v := ?_) (a' := ?_) HT_.out 33 (some 77) ?_ ?_ ?_; rotate_left 2; (intro w'; go_simp; with_reducible rfl); (simp only [Act.put, List.setIfInBounds_toArray, List.set_cons_zero, List.set_cons_succ, i64_w, i32_w]; rfl)
                refine pu_ (v := ?_) (a' := ?_) HT_.out 34 (some 78) ?_ ?_ ?_; rotate_left 2; (intro w'; go_simp; with_reducible rfl); (simp only [Act.put, List.setIfInBounds_toArray, List.set_cons_zero, List.set_cons_succ, i64_w, i32_w]; rfl)
                refine un_ (a' := ?_) HT_.out 35 (some 79) ?_ ?_; rotate_left; (simp only [Act.put, List.setIfInBounds_toArray, List.set_cons_zero, List.set_cons_succ, i64_w, i32_w]; rfl)
                refine un_ (a' := ?_) HT_.out 36 (some 80) ?_ ?_; rotate_left; (simp only [Act.put, List.setIfInBounds_toArray, List.set_cons_zero, List.set_cons_succ, i64_w, i32_w]; rfl)
                refine un_ (a' := ?_) HT_.out 37 (some 81) ?_ ?_; rotate_left; (simp only [Act.put, List.setIfInBounds_toArray, List.set_cons_zero, List.set_cons_succ, i64_w, i32_w]; rfl)
                refine un_ (a' := ?_) HT_.out 38 (some 82) ?_ ?_; rotate_left; (simp only [Act.put, List.setIfInBounds_toArray, List.set_cons_zero, List.set_cons_succ, i64_w, i32_w]; rfl)
                refine un_ (a' := ?_) HT_.out 39 (some 83) ?_ ?_; rotate_left; (simp only [Act.put, List.setIfInBounds_toArray, List.set_cons_zero, List.set_cons_succ, i64_w, i32_w]; rfl)
                refine un_ (a' := ?_) HT_.out 40 (some 84) ?_ ?_; rotate_left; (simp only [Act.put, List.setIfInBounds_toArray, List.set_cons_zero, List.set_cons_succ, i64_w, i32_w]; rfl)
                refine pu_ (v := ?_) (a' := ?_) HT_.out 41 (some 85) ?_ ?_ ?_; rotate_left 2; (intro w'; go_simp; with_reducible rfl); (simp only [Act.put, List.setIfInBounds_toArray, List.set_cons_zero, List.set_cons_succ, i64_w, i32_w]; rfl)
                refine pu_ (v := ?_) (a' := ?_) HT_.out 42 (some 86) ?_ ?_ ?_; rotate_left 2; (intro w'; go_simp; with_reducible rfl); (simp only [Act.put, List.setIfInBounds_toArray, List.set_cons_zero, List.set_cons_succ, i64_w, i32_w]; rfl)
                refine un_ (a' := ?_) HT_.out 43 (some 87) ?_ ?_; rotate_left; (simp only [Act.put, List.setIfInBounds_toArray, List.set_cons_zero, List.set_cons_succ, i64_w, i32_w]; rfl)
                refine un_ (a' := ?_) HT_.out 44 (some 88) ?_ ?_; rotate_left; (simp only [Act.put, List.setIfInBounds_toArray, List.set_cons_zero, List.set_cons_succ, i64_w, i32_w]; rfl)
                refine un_ (a' := ?_) HT_.out 45 (some 89) ?_ ?_; rotate_left; (simp only [Act.put, List.setIfInBounds_toArray, List.set_cons_zero, List.set_cons_succ, i64_w, i32_w]; rfl)
                refine un_ (a' := ?_) HT_.out 46 (some 90) ?_ ?_; rotate_left; (simp only [Act.put, List.setIfInBounds_toArray, List.set_cons_zero, List.set_cons_succ, i64_w, i32_w]; rfl)
                refine un_ (a' := ?_) HT_.out 47 (some 91) ?_ ?_; rotate_left; (simp only [Act.put, List.setIfInBounds_toArray, List.set_cons_zero, List.set_cons_succ, i64_w, i32_w]; rfl)
                refine un_ (a' := ?_) HT_.out 48 (some 92) ?_ ?_; rotate_left; (simp only [Act.put, List.setIfInBounds_toArray, List.set_cons_zero, List.set_cons_succ, i64_w, i32_w]; rfl)
                refine un_ (a' := ?_) HT_.out 49 (some 93) ?_ ?_; rotate_left; (simp only [Act.put, List.setIfInBounds_toArray, List.set_cons_zero, List.set_cons_succ, i64_w, i32_w]; rfl)
                refine un_ (a' := ?_) HT_.out 50 (some 94) ?_ ?_; rotate_left; (simp only [Act.put, List.setIfInBounds_toArray, List.set_cons_zero, List.set_cons_succ, i64_w, i32_w]; rfl)
                refine un_ (a' := ?_) HT_.out 51 (some 95) ?_ ?_; rotate_left; (simp only [Act.put, List.setIfInBounds_toArray, List.set_cons_zero, List.set_cons_succ, i64_w, i32_w]; rfl)
                refine un_ (a' := ?_) HT_.out 52 (some 96) ?_ ?_; rotate_left; (simp only [Act.put, List.setIfInBounds_toArray, List.set_cons_zero, List.set_cons_succ, i64_w, i32_w]; rfl)
                refine un_ (a' := ?_) HT_.out 53 (some 97) ?_ ?_; rotate_left; (simp only [Act.put, List.setIfInBounds_toArray, List.set_cons_zero, List.set_cons_succ, i64_w, i32_w]; rfl)
                refine pu_ (v := ?_) (a' := ?_) HT_.out 54 (some 98) ?_ ?_ ?_; rotate_left 2; (intro w'; go_simp; with_reducible rfl); (simp only [Act.put, List.setIfInBounds_toArray, List.set_cons_zero, List.set_cons_succ, i64_w, i32_w]; rfl)
                refine pu_ (v := ?_) (a' := ?_) HT_.out 55 (some 99) ?_ ?_ ?_; rotate_left 2; (intro w'; go_simp; with_reducible rfl); (simp only [Act.put, List.setIfInBounds_toArray, List.set_cons_zero, List.set_cons_succ, i64_w, i32_w]; rfl)
                refine pu_ (v := ?_) (a' := ?_) HT_.out 56 (some 10) ?_ ?_ ?_; rotate_left 2; (intro w'; go_simp; with_reducible rfl); (simp only [Act.put, List.setIfInBounds_toArray, List.set_cons_zero, List.set_cons_succ, i64_w, i32_w]; rfl)
                refine dn_ HT_.out ?_
                clear hHeld HT_ HW_
                try go_wp2
                go_meet
                case rel => exact ⟨by rw [HSB.out], HS149_⟩
            · rw [if_neg c1] at hsb
              have d1 : decide (0 ≤ p.f0) = false := decide_eq_false c1
              have d2 : decide (p.f0 ≥ 0) = false := d1
              by_cases c3 : p.f0 = -1
              case neg =>
                have d4 : (p.f0 == -1) = false := beq_eq_false_iff_ne.mpr c3
                have HSB := Aside0.mk (show sb = false by
                  rw [← hsb]
                  by_cases c6 : q.f0 ≥ 0
                  · rw [if_pos c6]; exact beq_eq_false_iff_ne.mpr (by omega)
                  · rw [if_neg c6, if_neg c3])
                clear c1 c3 hsb
                refine st_ (fun w' => St w w' ([])) backstitchlaw3_ScanClash.tab11 backstitchlaw3_ScanClash.bits11 HSr.out.drew (fun HT_ HW_ hHeld => ?_)
                clear HSr
                generalize wr.drew = w150_ at hHeld ⊢
                have HS151_ := Aside0.mk (show St w w150_ ([]) from hHeld)
                refine pu_ (v := ?_) (a' := ?_) HT_.out 0 (some 44) ?_ ?_ ?_; rotate_left 2; (intro w'; go_simp; with_reducible rfl); (simp only [Act.put, List.setIfInBounds_toArray, List.set_cons_zero, List.set_cons_succ, i64_w, i32_w]; rfl)
                refine pu_ (v := ?_) (a' := ?_) HT_.out 1 (some 45) ?_ ?_ ?_; rotate_left 2; (intro w'; go_simp; with_reducible rfl); (simp only [Act.put, List.setIfInBounds_toArray, List.set_cons_zero, List.set_cons_succ, i64_w, i32_w]; rfl)
                refine pu_ (v := ?_) (a' := ?_) HT_.out 2 (some 46) ?_ ?_ ?_; rotate_left 2; (intro w'; go_simp; with_reducible rfl); (simp only [Act.put, List.setIfInBounds_toArray, List.set_cons_zero, List.set_cons_succ, i64_w, i32_w]; rfl)
                refine pu_ (v := ?_) (a' := ?_) HT_.out 3 (some 47) ?_ ?_ ?_; rotate_left 2; (intro w'; go_simp; with_reducible rfl); (simp only [Act.put, List.setIfInBounds_toArray, List.set_cons_zero, List.set_cons_succ, i64_w, i32_w]; rfl)
                refine tk_ (v := ?_) (a' := ?_) HT_.out HW_.out hHeld 4 (some 48) ?_ ?_ ?_; rotate_left 2; (intro w' hS; have s0 : w'.cell? (ada.add (a.toNat * 2)) = some (.int .i64 p.f0) := (hS.below.cell (World.block_lt_of_cell? w _ HP0.out)).trans HP0.out; have s1 : w'.cell? ⟨(ada.add (a.toNat * 2)).block, (ada.add (a.toNat * 2)).off + 1, none⟩ = some (.int .i64 p.f1) := (hS.below.cell (World.block_lt_of_cell? w _ HP1.out)).trans HP1.out; go_simp; with_reducible rfl); (simp only [Act.put, List.setIfInBounds_toArray, List.set_cons_zero, List.set_cons_succ, i64_w, i32_w]; rfl)
                refine pu_ (v := ?_) (a' := ?_) HT_.out 5 (some 49) ?_ ?_ ?_; rotate_left 2; (intro w'; go_simp; with_reducible rfl); (simp only [Act.put, List.setIfInBounds_toArray, List.set_cons_zero, List.set_cons_succ, i64_w, i32_w]; rfl)
                refine pu_ (v := ?_) (a' := ?_) HT_.out 6 (some 50) ?_ ?_ ?_; rotate_left 2; (intro w'; go_simp; with_reducible rfl); (simp only [Act.put, List.setIfInBounds_toArray, List.set_cons_zero, List.set_cons_succ, i64_w, i32_w]; rfl)
                refine un_ (a' := ?_) HT_.out 7 (some 51) ?_ ?_; rotate_left; (simp only [Act.put, List.setIfInBounds_toArray, List.set_cons_zero, List.set_cons_succ, i64_w, i32_w]; rfl)
                refine un_ (a' := ?_) HT_.out 8 (some 52) ?_ ?_; rotate_left; (simp only [Act.put, List.setIfInBounds_toArray, List.set_cons_zero, List.set_cons_succ, i64_w, i32_w]; rfl)
                refine un_ (a' := ?_) HT_.out 9 (some 53) ?_ ?_; rotate_left; (simp only [Act.put, List.setIfInBounds_toArray, List.set_cons_zero, List.set_cons_succ, i64_w, i32_w]; rfl)
                refine un_ (a' := ?_) HT_.out 10 (some 54) ?_ ?_; rotate_left; (simp only [Act.put, List.setIfInBounds_toArray, List.set_cons_zero, List.set_cons_succ, i64_w, i32_w]; rfl)
                refine un_ (a' := ?_) HT_.out 11 (some 55) ?_ ?_; rotate_left; (simp only [Act.put, List.setIfInBounds_toArray, List.set_cons_zero, List.set_cons_succ, i64_w, i32_w]; rfl)
                refine un_ (a' := ?_) HT_.out 12 (some 56) ?_ ?_; rotate_left; (simp only [Act.put, List.setIfInBounds_toArray, List.set_cons_zero, List.set_cons_succ, i64_w, i32_w]; rfl)
                refine un_ (a' := ?_) HT_.out 13 (some 57) ?_ ?_; rotate_left; (simp only [Act.put, List.setIfInBounds_toArray, List.set_cons_zero, List.set_cons_succ, i64_w, i32_w]; rfl)
                refine un_ (a' := ?_) HT_.out 14 (some 58) ?_ ?_; rotate_left; (simp only [Act.put, List.setIfInBounds_toArray, List.set_cons_zero, List.set_cons_succ, i64_w, i32_w]; rfl)
                refine un_ (a' := ?_) HT_.out 15 (some 59) ?_ ?_; rotate_left; (simp only [Act.put, List.setIfInBounds_toArray, List.set_cons_zero, List.set_cons_succ, i64_w, i32_w]; rfl)
                refine un_ (a' := ?_) HT_.out 16 (some 60) ?_ ?_; rotate_left; (simp only [Act.put, List.setIfInBounds_toArray, List.set_cons_zero, List.set_cons_succ, i64_w, i32_w]; rfl)
                refine un_ (a' := ?_) HT_.out 17 (some 61) ?_ ?_; rotate_left; (simp only [Act.put, List.setIfInBounds_toArray, List.set_cons_zero, List.set_cons_succ, i64_w, i32_w]; rfl)
                refine pu_ (v := ?_) (a' := ?_) HT_.out 18 (some 62) ?_ ?_ ?_; rotate_left 2; (intro w'; go_simp; with_reducible rfl); (simp only [Act.put, List.setIfInBounds_toArray, List.set_cons_zero, List.set_cons_succ, i64_w, i32_w]; rfl)
                refine pu_ (v := ?_) (a' := ?_) HT_.out 19 (some 63) ?_ ?_ ?_; rotate_left 2; (intro w'; go_simp; with_reducible rfl); (simp only [Act.put, List.setIfInBounds_toArray, List.set_cons_zero, List.set_cons_succ, i64_w, i32_w]; rfl)
                refine pu_ (v := ?_) (a' := ?_) HT_.out 20 (some 64) ?_ ?_ ?_; rotate_left 2; (intro w'; go_simp; with_reducible rfl); (simp only [Act.put, List.setIfInBounds_toArray, List.set_cons_zero, List.set_cons_succ, i64_w, i32_w]; rfl)
                refine pu_ (v := ?_) (a' := ?_) HT_.out 21 (some 65) ?_ ?_ ?_; rotate_left 2; (intro w'; go_simp; with_reducible rfl); (simp only [Act.put, List.setIfInBounds_toArray, List.set_cons_zero, List.set_cons_succ, i64_w, i32_w]; rfl)
                refine pu_ (v := ?_) (a' := ?_) HT_.out 22 (some 66) ?_ ?_ ?_; rotate_left 2; (intro w'; go_simp; with_reducible rfl); (simp only [Act.put, List.setIfInBounds_toArray, List.set_cons_zero, List.set_cons_succ, i64_w, i32_w]; rfl)
                refine pu_ (v := ?_) (a' := ?_) HT_.out 23 (some 67) ?_ ?_ ?_; rotate_left 2; (intro w'; go_simp; with_reducible rfl); (simp only [Act.put, List.setIfInBounds_toArray, List.set_cons_zero, List.set_cons_succ, i64_w, i32_w]; rfl)
                refine tk_ (v := ?_) (a' := ?_) HT_.out HW_.out hHeld 24 (some 68) ?_ ?_ ?_; rotate_left 2; (intro w' hS; have s0 : w'.cell? (ada.add (a.toNat * 2)) = some (.int .i64 p.f0) := (hS.below.cell (World.block_lt_of_cell? w _ HP0.out)).trans HP0.out; have s1 : w'.cell? ⟨(ada.add (a.toNat * 2)).block, (ada.add (a.toNat * 2)).off + 1, none⟩ = some (.int .i64 p.f1) := (hS.below.cell (World.block_lt_of_cell? w _ HP1.out)).trans HP1.out; go_simp; with_reducible rfl); (simp only [Act.put, List.setIfInBounds_toArray, List.set_cons_zero, List.set_cons_succ, i64_w, i32_w]; rfl)
                refine pu_ (v := ?_) (a' := ?_) HT_.out 25 (some 69) ?_ ?_ ?_; rotate_left 2; (intro w'; go_simp; with_reducible rfl); (simp only [Act.put, List.setIfInBounds_toArray, List.set_cons_zero, List.set_cons_succ, i64_w, i32_w]; rfl)
                refine pu_ (v := ?_) (a' := ?_) HT_.out 26 (some 70) ?_ ?_ ?_; rotate_left 2; (intro w'; go_simp; with_reducible rfl); (simp only [Act.put, List.setIfInBounds_toArray, List.set_cons_zero, List.set_cons_succ, i64_w, i32_w]; rfl)
                refine un_ (a' := ?_) HT_.out 27 (some 71) ?_ ?_; rotate_left; (simp only [Act.put, List.setIfInBounds_toArray, List.set_cons_zero, List.set_cons_succ, i64_w, i32_w]; rfl)
                refine un_ (a' := ?_) HT_.out 28 (some 72) ?_ ?_; rotate_left; (simp only [Act.put, List.setIfInBounds_toArray, List.set_cons_zero, List.set_cons_succ, i64_w, i32_w]; rfl)
                refine un_ (a' := ?_) HT_.out 29 (some 73) ?_ ?_; rotate_left; (simp only [Act.put, List.setIfInBounds_toArray, List.set_cons_zero, List.set_cons_succ, i64_w, i32_w]; rfl)
                refine un_ (a' := ?_) HT_.out 30 (some 74) ?_ ?_; rotate_left; (simp only [Act.put, List.setIfInBounds_toArray, List.set_cons_zero, List.set_cons_succ, i64_w, i32_w]; rfl)
                refine un_ (a' := ?_) HT_.out 31 (some 75) ?_ ?_; rotate_left; (simp only [Act.put, List.setIfInBounds_toArray, List.set_cons_zero, List.set_cons_succ, i64_w, i32_w]; rfl)
                refine un_ (a' := ?_) HT_.out 32 (some 76) ?_ ?_; rotate_left; (simp only [Act.put, List.setIfInBounds_toArray, List.set_cons_zero, List.set_cons_succ, i64_w, i32_w]; rfl)
                refine pu_ (v := ?_) (a' := ?_) HT_.out 33 (some 77) ?_ ?_ ?_; rotate_left 2; (intro w'; go_simp; with_reducible rfl); (simp only [Act.put, List.setIfInBounds_toArray, List.set_cons_zero, List.set_cons_succ, i64_w, i32_w]; rfl)
                refine pu_ (v := ?_) (a' := ?_) HT_.out 34 (some 78) ?_ ?_ ?_; rotate_left 2; (intro w'; go_simp; with_reducible rfl); (simp only [Act.put, List.setIfInBounds_toArray, List.set_cons_zero, List.set_cons_succ, i64_w, i32_w]; rfl)
                refine un_ (a' := ?_) HT_.out 35 (some 79) ?_ ?_; rotate_left; (simp only [Act.put, List.setIfInBounds_toArray, List.set_cons_zero, List.set_cons_succ, i64_w, i32_w]; rfl)
                refine un_ (a' := ?_) HT_.out 36 (some 80) ?_ ?_; rotate_left; (simp only [Act.put, List.setIfInBounds_toArray, List.set_cons_zero, List.set_cons_succ, i64_w, i32_w]; rfl)
                refine un_ (a' := ?_) HT_.out 37 (some 81) ?_ ?_; rotate_left; (simp only [Act.put, List.setIfInBounds_toArray, List.set_cons_zero, List.set_cons_succ, i64_w, i32_w]; rfl)
                refine un_ (a' := ?_) HT_.out 38 (some 82) ?_ ?_; rotate_left; (simp only [Act.put, List.setIfInBounds_toArray, List.set_cons_zero, List.set_cons_succ, i64_w, i32_w]; rfl)
                refine un_ (a' := ?_) HT_.out 39 (some 83) ?_ ?_; rotate_left; (simp only [Act.put, List.setIfInBounds_toArray, List.set_cons_zero, List.set_cons_succ, i64_w, i32_w]; rfl)
                refine un_ (a' := ?_) HT_.out 40 (some 84) ?_ ?_; rotate_left; (simp only [Act.put, List.setIfInBounds_toArray, List.set_cons_zero, List.set_cons_succ, i64_w, i32_w]; rfl)
                refine pu_ (v := ?_) (a' := ?_) HT_.out 41 (some 85) ?_ ?_ ?_; rotate_left 2; (intro w'; go_simp; with_reducible rfl); (simp only [Act.put, List.setIfInBounds_toArray, List.set_cons_zero, List.set_cons_succ, i64_w, i32_w]; rfl)
                refine pu_ (v := ?_) (a' := ?_) HT_.out 42 (some 86) ?_ ?_ ?_; rotate_left 2; (intro w'; go_simp; with_reducible rfl); (simp only [Act.put, List.setIfInBounds_toArray, List.set_cons_zero, List.set_cons_succ, i64_w, i32_w]; rfl)
                refine un_ (a' := ?_) HT_.out 43 (some 87) ?_ ?_; rotate_left; (simp only [Act.put, List.setIfInBounds_toArray, List.set_cons_zero, List.set_cons_succ, i64_w, i32_w]; rfl)
                refine un_ (a' := ?_) HT_.out 44 (some 88) ?_ ?_; rotate_left; (simp only [Act.put, List.setIfInBounds_toArray, List.set_cons_zero, List.set_cons_succ, i64_w, i32_w]; rfl)
                refine un_ (a' := ?_) HT_.out 45 (some 89) ?_ ?_; rotate_left; (simp only [Act.put, List.setIfInBounds_toArray, List.set_cons_zero, List.set_cons_succ, i64_w, i32_w]; rfl)
                refine un_ (a' := ?_) HT_.out 46 (some 90) ?_ ?_; rotate_left; (simp only [Act.put, List.setIfInBounds_toArray, List.set_cons_zero, List.set_cons_succ, i64_w, i32_w]; rfl)
                refine un_ (a' := ?_) HT_.out 47 (some 91) ?_ ?_; rotate_left; (simp only [Act.put, List.setIfInBounds_toArray, List.set_cons_zero, List.set_cons_succ, i64_w, i32_w]; rfl)
                refine un_ (a' := ?_) HT_.out 48 (some 92) ?_ ?_; rotate_left; (simp only [Act.put, List.setIfInBounds_toArray, List.set_cons_zero, List.set_cons_succ, i64_w, i32_w]; rfl)
                refine un_ (a' := ?_) HT_.out 49 (some 93) ?_ ?_; rotate_left; (simp only [Act.put, List.setIfInBounds_toArray, List.set_cons_zero, List.set_cons_succ, i64_w, i32_w]; rfl)
                refine un_ (a' := ?_) HT_.out 50 (some 94) ?_ ?_; rotate_left; (simp only [Act.put, List.setIfInBounds_toArray, List.set_cons_zero, List.set_cons_succ, i64_w, i32_w]; rfl)
                refine un_ (a' := ?_) HT_.out 51 (some 95) ?_ ?_; rotate_left; (simp only [Act.put, List.setIfInBounds_toArray, List.set_cons_zero, List.set_cons_succ, i64_w, i32_w]; rfl)
                refine un_ (a' := ?_) HT_.out 52 (some 96) ?_ ?_; rotate_left; (simp only [Act.put, List.setIfInBounds_toArray, List.set_cons_zero, List.set_cons_succ, i64_w, i32_w]; rfl)
                refine un_ (a' := ?_) HT_.out 53 (some 97) ?_ ?_; rotate_left; (simp only [Act.put, List.setIfInBounds_toArray, List.set_cons_zero, List.set_cons_succ, i64_w, i32_w]; rfl)
                refine pu_ (v := ?_) (a' := ?_) HT_.out 54 (some 98) ?_ ?_ ?_; rotate_left 2; (intro w'; go_simp; with_reducible rfl); (simp only [Act.put, List.setIfInBounds_toArray, List.set_cons_zero, List.set_cons_succ, i64_w, i32_w]; rfl)
                refine pu_ (v := ?_) (a' := ?_) HT_.out 55 (some 99) ?_ ?_ ?_; rotate_left 2; (intro w'; go_simp; with_reducible rfl); (simp only [Act.put, List.setIfInBounds_toArray, List.set_cons_zero, List.set_cons_succ, i64_w, i32_w]; rfl)
                refine pu_ (v := ?_) (a' := ?_) HT_.out 56 (some 10) ?_ ?_ ?_; rotate_left 2; (intro w'; go_simp; with_reducible rfl); (simp only [Act.put, List.setIfInBounds_toArray, List.set_cons_zero, List.set_cons_succ, i64_w, i32_w]; rfl)
                refine dn_ HT_.out ?_
                clear hHeld HT_ HW_
                try go_wp2
                go_meet
                case rel => exact ⟨by rw [HSB.out], HS151_⟩
              have d4 : (p.f0 == -1) = true := beq_iff_eq.mpr c3
              by_cases c4 : q.f0 = -1
              case neg =>
                have d5 : (q.f0 == -1) = false := beq_eq_false_iff_ne.mpr c4
                have HSB := Aside0.mk (show sb = false by
                  rw [← hsb]
                  by_cases c6 : q.f0 ≥ 0
                  · rw [if_pos c6]; exact beq_eq_false_iff_ne.mpr (by omega)
                  · rw [if_neg c6, if_pos c3, if_neg c4])
                clear c1 c3 c4 hsb
                refine st_ (fun w' => St w w' ([])) backstitchlaw3_ScanClash.tab11 backstitchlaw3_ScanClash.bits11 HSr.out.drew (fun HT_ HW_ hHeld => ?_)
                clear HSr
                generalize wr.drew = w152_ at hHeld ⊢
                have HS153_ := Aside0.mk (show St w w152_ ([]) from hHeld)
                refine pu_ (v := ?_) (a' := ?_) HT_.out 0 (some 44) ?_ ?_ ?_; rotate_left 2; (intro w'; go_simp; with_reducible rfl); (simp only [Act.put, List.setIfInBounds_toArray, List.set_cons_zero, List.set_cons_succ, i64_w, i32_w]; rfl)
                refine pu_ (v := ?_) (a' := ?_) HT_.out 1 (some 45) ?_ ?_ ?_; rotate_left 2; (intro w'; go_simp; with_reducible rfl); (simp only [Act.put, List.setIfInBounds_toArray, List.set_cons_zero, List.set_cons_succ, i64_w, i32_w]; rfl)
                refine pu_ (v := ?_) (a' := ?_) HT_.out 2 (some 46) ?_ ?_ ?_; rotate_left 2; (intro w'; go_simp; with_reducible rfl); (simp only [Act.put, List.setIfInBounds_toArray, List.set_cons_zero, List.set_cons_succ, i64_w, i32_w]; rfl)
                refine pu_ (v := ?_) (a' := ?_) HT_.out 3 (some 47) ?_ ?_ ?_; rotate_left 2; (intro w'; go_simp; with_reducible rfl); (simp only [Act.put, List.setIfInBounds_toArray, List.set_cons_zero, List.set_cons_succ, i64_w, i32_w]; rfl)
                refine tk_ (v := ?_) (a' := ?_) HT_.out HW_.out hHeld 4 (some 48) ?_ ?_ ?_; rotate_left 2; (intro w' hS; have s0 : w'.cell? (ada.add (a.toNat * 2)) = some (.int .i64 p.f0) := (hS.below.cell (World.block_lt_of_cell? w _ HP0.out)).trans HP0.out; have s1 : w'.cell? ⟨(ada.add (a.toNat * 2)).block, (ada.add (a.toNat * 2)).off + 1, none⟩ = some (.int .i64 p.f1) := (hS.below.cell (World.block_lt_of_cell? w _ HP1.out)).trans HP1.out; go_simp; with_reducible rfl); (simp only [Act.put, List.setIfInBounds_toArray, List.set_cons_zero, List.set_cons_succ, i64_w, i32_w]; rfl)
                refine pu_ (v := ?_) (a' := ?_) HT_.out 5 (some 49) ?_ ?_ ?_; rotate_left 2; (intro w'; go_simp; with_reducible rfl); (simp only [Act.put, List.setIfInBounds_toArray, List.set_cons_zero, List.set_cons_succ, i64_w, i32_w]; rfl)
                refine pu_ (v := ?_) (a' := ?_) HT_.out 6 (some 50) ?_ ?_ ?_; rotate_left 2; (intro w'; go_simp; with_reducible rfl); (simp only [Act.put, List.setIfInBounds_toArray, List.set_cons_zero, List.set_cons_succ, i64_w, i32_w]; rfl)
                refine un_ (a' := ?_) HT_.out 7 (some 51) ?_ ?_; rotate_left; (simp only [Act.put, List.setIfInBounds_toArray, List.set_cons_zero, List.set_cons_succ, i64_w, i32_w]; rfl)
                refine un_ (a' := ?_) HT_.out 8 (some 52) ?_ ?_; rotate_left; (simp only [Act.put, List.setIfInBounds_toArray, List.set_cons_zero, List.set_cons_succ, i64_w, i32_w]; rfl)
                refine un_ (a' := ?_) HT_.out 9 (some 53) ?_ ?_; rotate_left; (simp only [Act.put, List.setIfInBounds_toArray, List.set_cons_zero, List.set_cons_succ, i64_w, i32_w]; rfl)
                refine un_ (a' := ?_) HT_.out 10 (some 54) ?_ ?_; rotate_left; (simp only [Act.put, List.setIfInBounds_toArray, List.set_cons_zero, List.set_cons_succ, i64_w, i32_w]; rfl)
                refine un_ (a' := ?_) HT_.out 11 (some 55) ?_ ?_; rotate_left; (simp only [Act.put, List.setIfInBounds_toArray, List.set_cons_zero, List.set_cons_succ, i64_w, i32_w]; rfl)
                refine un_ (a' := ?_) HT_.out 12 (some 56) ?_ ?_; rotate_left; (simp only [Act.put, List.setIfInBounds_toArray, List.set_cons_zero, List.set_cons_succ, i64_w, i32_w]; rfl)
                refine un_ (a' := ?_) HT_.out 13 (some 57) ?_ ?_; rotate_left; (simp only [Act.put, List.setIfInBounds_toArray, List.set_cons_zero, List.set_cons_succ, i64_w, i32_w]; rfl)
                refine un_ (a' := ?_) HT_.out 14 (some 58) ?_ ?_; rotate_left; (simp only [Act.put, List.setIfInBounds_toArray, List.set_cons_zero, List.set_cons_succ, i64_w, i32_w]; rfl)
                refine un_ (a' := ?_) HT_.out 15 (some 59) ?_ ?_; rotate_left; (simp only [Act.put, List.setIfInBounds_toArray, List.set_cons_zero, List.set_cons_succ, i64_w, i32_w]; rfl)
                refine un_ (a' := ?_) HT_.out 16 (some 60) ?_ ?_; rotate_left; (simp only [Act.put, List.setIfInBounds_toArray, List.set_cons_zero, List.set_cons_succ, i64_w, i32_w]; rfl)
                refine un_ (a' := ?_) HT_.out 17 (some 61) ?_ ?_; rotate_left; (simp only [Act.put, List.setIfInBounds_toArray, List.set_cons_zero, List.set_cons_succ, i64_w, i32_w]; rfl)
                refine pu_ (v := ?_) (a' := ?_) HT_.out 18 (some 62) ?_ ?_ ?_; rotate_left 2; (intro w'; go_simp; with_reducible rfl); (simp only [Act.put, List.setIfInBounds_toArray, List.set_cons_zero, List.set_cons_succ, i64_w, i32_w]; rfl)
                refine pu_ (v := ?_) (a' := ?_) HT_.out 19 (some 63) ?_ ?_ ?_; rotate_left 2; (intro w'; go_simp; with_reducible rfl); (simp only [Act.put, List.setIfInBounds_toArray, List.set_cons_zero, List.set_cons_succ, i64_w, i32_w]; rfl)
                refine pu_ (v := ?_) (a' := ?_) HT_.out 20 (some 64) ?_ ?_ ?_; rotate_left 2; (intro w'; go_simp; with_reducible rfl); (simp only [Act.put, List.setIfInBounds_toArray, List.set_cons_zero, List.set_cons_succ, i64_w, i32_w]; rfl)
                refine pu_ (v := ?_) (a' := ?_) HT_.out 21 (some 65) ?_ ?_ ?_; rotate_left 2; (intro w'; go_simp; with_reducible rfl); (simp only [Act.put, List.setIfInBounds_toArray, List.set_cons_zero, List.set_cons_succ, i64_w, i32_w]; rfl)
                refine pu_ (v := ?_) (a' := ?_) HT_.out 22 (some 66) ?_ ?_ ?_; rotate_left 2; (intro w'; go_simp; with_reducible rfl); (simp only [Act.put, List.setIfInBounds_toArray, List.set_cons_zero, List.set_cons_succ, i64_w, i32_w]; rfl)
                refine pu_ (v := ?_) (a' := ?_) HT_.out 23 (some 67) ?_ ?_ ?_; rotate_left 2; (intro w'; go_simp; with_reducible rfl); (simp only [Act.put, List.setIfInBounds_toArray, List.set_cons_zero, List.set_cons_succ, i64_w, i32_w]; rfl)
                refine tk_ (v := ?_) (a' := ?_) HT_.out HW_.out hHeld 24 (some 68) ?_ ?_ ?_; rotate_left 2; (intro w' hS; have s0 : w'.cell? (ada.add (a.toNat * 2)) = some (.int .i64 p.f0) := (hS.below.cell (World.block_lt_of_cell? w _ HP0.out)).trans HP0.out; have s1 : w'.cell? ⟨(ada.add (a.toNat * 2)).block, (ada.add (a.toNat * 2)).off + 1, none⟩ = some (.int .i64 p.f1) := (hS.below.cell (World.block_lt_of_cell? w _ HP1.out)).trans HP1.out; go_simp; with_reducible rfl); (simp only [Act.put, List.setIfInBounds_toArray, List.set_cons_zero, List.set_cons_succ, i64_w, i32_w]; rfl)
                refine pu_ (v := ?_) (a' := ?_) HT_.out 25 (some 69) ?_ ?_ ?_; rotate_left 2; (intro w'; go_simp; with_reducible rfl); (simp only [Act.put, List.setIfInBounds_toArray, List.set_cons_zero, List.set_cons_succ, i64_w, i32_w]; rfl)
                refine pu_ (v := ?_) (a' := ?_) HT_.out 26 (some 70) ?_ ?_ ?_; rotate_left 2; (intro w'; go_simp; with_reducible rfl); (simp only [Act.put, List.setIfInBounds_toArray, List.set_cons_zero, List.set_cons_succ, i64_w, i32_w]; rfl)
                refine pu_ (v := ?_) (a' := ?_) HT_.out 27 (some 71) ?_ ?_ ?_; rotate_left 2; (intro w'; go_simp; with_reducible rfl); (simp only [Act.put, List.setIfInBounds_toArray, List.set_cons_zero, List.set_cons_succ, i64_w, i32_w]; rfl)
                refine pu_ (v := ?_) (a' := ?_) HT_.out 28 (some 72) ?_ ?_ ?_; rotate_left 2; (intro w'; go_simp; with_reducible rfl); (simp only [Act.put, List.setIfInBounds_toArray, List.set_cons_zero, List.set_cons_succ, i64_w, i32_w]; rfl)
                refine pu_ (v := ?_) (a' := ?_) HT_.out 29 (some 73) ?_ ?_ ?_; rotate_left 2; (intro w'; go_simp; with_reducible rfl); (simp only [Act.put, List.setIfInBounds_toArray, List.set_cons_zero, List.set_cons_succ, i64_w, i32_w]; rfl)
                refine pu_ (v := ?_) (a' := ?_) HT_.out 30 (some 74) ?_ ?_ ?_; rotate_left 2; (intro w'; go_simp; with_reducible rfl); (simp only [Act.put, List.setIfInBounds_toArray, List.set_cons_zero, List.set_cons_succ, i64_w, i32_w]; rfl)
                refine tk_ (v := ?_) (a' := ?_) HT_.out HW_.out hHeld 31 (some 75) ?_ ?_ ?_; rotate_left 2; (intro w' hS; have s0 : w'.cell? (ada.add (b.toNat * 2)) = some (.int .i64 q.f0) := (hS.below.cell (World.block_lt_of_cell? w _ HQ0.out)).trans HQ0.out; have s1 : w'.cell? ⟨(ada.add (b.toNat * 2)).block, (ada.add (b.toNat * 2)).off + 1, none⟩ = some (.int .i64 q.f1) := (hS.below.cell (World.block_lt_of_cell? w _ HQ1.out)).trans HQ1.out; go_simp; with_reducible rfl); (simp only [Act.put, List.setIfInBounds_toArray, List.set_cons_zero, List.set_cons_succ, i64_w, i32_w]; rfl)
                refine pu_ (v := ?_) (a' := ?_) HT_.out 32 (some 76) ?_ ?_ ?_; rotate_left 2; (intro w'; go_simp; with_reducible rfl); (simp only [Act.put, List.setIfInBounds_toArray, List.set_cons_zero, List.set_cons_succ, i64_w, i32_w]; rfl)
                refine pu_ (v := ?_) (a' := ?_) HT_.out 33 (some 77) ?_ ?_ ?_; rotate_left 2; (intro w'; go_simp; with_reducible rfl); (simp only [Act.put, List.setIfInBounds_toArray, List.set_cons_zero, List.set_cons_succ, i64_w, i32_w]; rfl)
                refine pu_ (v := ?_) (a' := ?_) HT_.out 34 (some 78) ?_ ?_ ?_; rotate_left 2; (intro w'; go_simp; with_reducible rfl); (simp only [Act.put, List.setIfInBounds_toArray, List.set_cons_zero, List.set_cons_succ, i64_w, i32_w]; rfl)
                refine un_ (a' := ?_) HT_.out 35 (some 79) ?_ ?_; rotate_left; (simp only [Act.put, List.setIfInBounds_toArray, List.set_cons_zero, List.set_cons_succ, i64_w, i32_w]; rfl)
                refine un_ (a' := ?_) HT_.out 36 (some 80) ?_ ?_; rotate_left; (simp only [Act.put, List.setIfInBounds_toArray, List.set_cons_zero, List.set_cons_succ, i64_w, i32_w]; rfl)
                refine un_ (a' := ?_) HT_.out 37 (some 81) ?_ ?_; rotate_left; (simp only [Act.put, List.setIfInBounds_toArray, List.set_cons_zero, List.set_cons_succ, i64_w, i32_w]; rfl)
                refine un_ (a' := ?_) HT_.out 38 (some 82) ?_ ?_; rotate_left; (simp only [Act.put, List.setIfInBounds_toArray, List.set_cons_zero, List.set_cons_succ, i64_w, i32_w]; rfl)
                refine un_ (a' := ?_) HT_.out 39 (some 83) ?_ ?_; rotate_left; (simp only [Act.put, List.setIfInBounds_toArray, List.set_cons_zero, List.set_cons_succ, i64_w, i32_w]; rfl)
                refine un_ (a' := ?_) HT_.out 40 (some 84) ?_ ?_; rotate_left; (simp only [Act.put, List.setIfInBounds_toArray, List.set_cons_zero, List.set_cons_succ, i64_w, i32_w]; rfl)
                refine pu_ (v := ?_) (a' := ?_) HT_.out 41 (some 85) ?_ ?_ ?_; rotate_left 2; (intro w'; go_simp; with_reducible rfl); (simp only [Act.put, List.setIfInBounds_toArray, List.set_cons_zero, List.set_cons_succ, i64_w, i32_w]; rfl)
                refine pu_ (v := ?_) (a' := ?_) HT_.out 42 (some 86) ?_ ?_ ?_; rotate_left 2; (intro w'; go_simp; with_reducible rfl); (simp only [Act.put, List.setIfInBounds_toArray, List.set_cons_zero, List.set_cons_succ, i64_w, i32_w]; rfl)
                refine un_ (a' := ?_) HT_.out 43 (some 87) ?_ ?_; rotate_left; (simp only [Act.put, List.setIfInBounds_toArray, List.set_cons_zero, List.set_cons_succ, i64_w, i32_w]; rfl)
                refine un_ (a' := ?_) HT_.out 44 (some 88) ?_ ?_; rotate_left; (simp only [Act.put, List.setIfInBounds_toArray, List.set_cons_zero, List.set_cons_succ, i64_w, i32_w]; rfl)
                refine un_ (a' := ?_) HT_.out 45 (some 89) ?_ ?_; rotate_left; (simp only [Act.put, List.setIfInBounds_toArray, List.set_cons_zero, List.set_cons_succ, i64_w, i32_w]; rfl)
                refine un_ (a' := ?_) HT_.out 46 (some 90) ?_ ?_; rotate_left; (simp only [Act.put, List.setIfInBounds_toArray, List.set_cons_zero, List.set_cons_succ, i64_w, i32_w]; rfl)
                refine un_ (a' := ?_) HT_.out 47 (some 91) ?_ ?_; rotate_left; (simp only [Act.put, List.setIfInBounds_toArray, List.set_cons_zero, List.set_cons_succ, i64_w, i32_w]; rfl)
                refine un_ (a' := ?_) HT_.out 48 (some 92) ?_ ?_; rotate_left; (simp only [Act.put, List.setIfInBounds_toArray, List.set_cons_zero, List.set_cons_succ, i64_w, i32_w]; rfl)
                refine un_ (a' := ?_) HT_.out 49 (some 93) ?_ ?_; rotate_left; (simp only [Act.put, List.setIfInBounds_toArray, List.set_cons_zero, List.set_cons_succ, i64_w, i32_w]; rfl)
                refine un_ (a' := ?_) HT_.out 50 (some 94) ?_ ?_; rotate_left; (simp only [Act.put, List.setIfInBounds_toArray, List.set_cons_zero, List.set_cons_succ, i64_w, i32_w]; rfl)
                refine un_ (a' := ?_) HT_.out 51 (some 95) ?_ ?_; rotate_left; (simp only [Act.put, List.setIfInBounds_toArray, List.set_cons_zero, List.set_cons_succ, i64_w, i32_w]; rfl)
                refine un_ (a' := ?_) HT_.out 52 (some 96) ?_ ?_; rotate_left; (simp only [Act.put, List.setIfInBounds_toArray, List.set_cons_zero, List.set_cons_succ, i64_w, i32_w]; rfl)
                refine un_ (a' := ?_) HT_.out 53 (some 97) ?_ ?_; rotate_left; (simp only [Act.put, List.setIfInBounds_toArray, List.set_cons_zero, List.set_cons_succ, i64_w, i32_w]; rfl)
                refine pu_ (v := ?_) (a' := ?_) HT_.out 54 (some 98) ?_ ?_ ?_; rotate_left 2; (intro w'; go_simp; with_reducible rfl); (simp only [Act.put, List.setIfInBounds_toArray, List.set_cons_zero, List.set_cons_succ, i64_w, i32_w]; rfl)
                refine pu_ (v := ?_) (a' := ?_) HT_.out 55 (some 99) ?_ ?_ ?_; rotate_left 2; (intro w'; go_simp; with_reducible rfl); (simp only [Act.put, List.setIfInBounds_toArray, List.set_cons_zero, List.set_cons_succ, i64_w, i32_w]; rfl)
                refine pu_ (v := ?_) (a' := ?_) HT_.out 56 (some 10) ?_ ?_ ?_; rotate_left 2; (intro w'; go_simp; with_reducible rfl); (simp only [Act.put, List.setIfInBounds_toArray, List.set_cons_zero, List.set_cons_succ, i64_w, i32_w]; rfl)
                refine dn_ HT_.out ?_
                clear hHeld HT_ HW_
                try go_wp2
                go_meet
                case rel => exact ⟨by rw [HSB.out], HS153_⟩
              have d5 : (q.f0 == -1) = true := beq_iff_eq.mpr c4
              rw [if_neg (by omega), if_pos c3, if_pos c4] at hsb
              by_cases c5 : p.f1 ≥ 0
              · rw [if_pos c5] at hsb
                have d6 : decide (0 ≤ p.f1) = true := decide_eq_true c5
                have d7 : decide (p.f1 ≥ 0) = true := d6
                have HSB := Aside0.mk hsb.symm
                clear c1 c3 c4 c5 hsb
                refine st_ (fun w' => St w w' ([])) backstitchlaw3_ScanClash.tab11 backstitchlaw3_ScanClash.bits11 HSr.out.drew (fun HT_ HW_ hHeld => ?_)
                clear HSr
                generalize wr.drew = w156_ at hHeld ⊢
                have HS157_ := Aside0.mk (show St w w156_ ([]) from hHeld)
                refine pu_ (v := ?_) (a' := ?_) HT_.out 0 (some 44) ?_ ?_ ?_; rotate_left 2; (intro w'; go_simp; with_reducible rfl); (simp only [Act.put, List.setIfInBounds_toArray, List.set_cons_zero, List.set_cons_succ, i64_w, i32_w]; rfl)
                refine pu_ (v := ?_) (a' := ?_) HT_.out 1 (some 45) ?_ ?_ ?_; rotate_left 2; (intro w'; go_simp; with_reducible rfl); (simp only [Act.put, List.setIfInBounds_toArray, List.set_cons_zero, List.set_cons_succ, i64_w, i32_w]; rfl)
                refine pu_ (v := ?_) (a' := ?_) HT_.out 2 (some 46) ?_ ?_ ?_; rotate_left 2; (intro w'; go_simp; with_reducible rfl); (simp only [Act.put, List.setIfInBounds_toArray, List.set_cons_zero, List.set_cons_succ, i64_w, i32_w]; rfl)
                refine pu_ (v := ?_) (a' := ?_) HT_.out 3 (some 47) ?_ ?_ ?_; rotate_left 2; (intro w'; go_simp; with_reducible rfl); (simp only [Act.put, List.setIfInBounds_toArray, List.set_cons_zero, List.set_cons_succ, i64_w, i32_w]; rfl)
                refine tk_ (v := ?_) (a' := ?_) HT_.out HW_.out hHeld 4 (some 48) ?_ ?_ ?_; rotate_left 2; (intro w' hS; have s0 : w'.cell? (ada.add (a.toNat * 2)) = some (.int .i64 p.f0) := (hS.below.cell (World.block_lt_of_cell? w _ HP0.out)).trans HP0.out; have s1 : w'.cell? ⟨(ada.add (a.toNat * 2)).block, (ada.add (a.toNat * 2)).off + 1, none⟩ = some (.int .i64 p.f1) := (hS.below.cell (World.block_lt_of_cell? w _ HP1.out)).trans HP1.out; go_simp; with_reducible rfl); (simp only [Act.put, List.setIfInBounds_toArray, List.set_cons_zero, List.set_cons_succ, i64_w, i32_w]; rfl)
                refine pu_ (v := ?_) (a' := ?_) HT_.out 5 (some 49) ?_ ?_ ?_; rotate_left 2; (intro w'; go_simp; with_reducible rfl); (simp only [Act.put, List.setIfInBounds_toArray, List.set_cons_zero, List.set_cons_succ, i64_w, i32_w]; rfl)
                refine pu_ (v := ?_) (a' := ?_) HT_.out 6 (some 50) ?_ ?_ ?_; rotate_left 2; (intro w'; go_simp; with_reducible rfl); (simp only [Act.put, List.setIfInBounds_toArray, List.set_cons_zero, List.set_cons_succ, i64_w, i32_w]; rfl)
                refine un_ (a' := ?_) HT_.out 7 (some 51) ?_ ?_; rotate_left; (simp only [Act.put, List.setIfInBounds_toArray, List.set_cons_zero, List.set_cons_succ, i64_w, i32_w]; rfl)
                refine un_ (a' := ?_) HT_.out 8 (some 52) ?_ ?_; rotate_left; (simp only [Act.put, List.setIfInBounds_toArray, List.set_cons_zero, List.set_cons_succ, i64_w, i32_w]; rfl)
                refine un_ (a' := ?_) HT_.out 9 (some 53) ?_ ?_; rotate_left; (simp only [Act.put, List.setIfInBounds_toArray, List.set_cons_zero, List.set_cons_succ, i64_w, i32_w]; rfl)
                refine un_ (a' := ?_) HT_.out 10 (some 54) ?_ ?_; rotate_left; (simp only [Act.put, List.setIfInBounds_toArray, List.set_cons_zero, List.set_cons_succ, i64_w, i32_w]; rfl)
                refine un_ (a' := ?_) HT_.out 11 (some 55) ?_ ?_; rotate_left; (simp only [Act.put, List.setIfInBounds_toArray, List.set_cons_zero, List.set_cons_succ, i64_w, i32_w]; rfl)
                refine un_ (a' := ?_) HT_.out 12 (some 56) ?_ ?_; rotate_left; (simp only [Act.put, List.setIfInBounds_toArray, List.set_cons_zero, List.set_cons_succ, i64_w, i32_w]; rfl)
                refine un_ (a' := ?_) HT_.out 13 (some 57) ?_ ?_; rotate_left; (simp only [Act.put, List.setIfInBounds_toArray, List.set_cons_zero, List.set_cons_succ, i64_w, i32_w]; rfl)
                refine un_ (a' := ?_) HT_.out 14 (some 58) ?_ ?_; rotate_left; (simp only [Act.put, List.setIfInBounds_toArray, List.set_cons_zero, List.set_cons_succ, i64_w, i32_w]; rfl)
                refine un_ (a' := ?_) HT_.out 15 (some 59) ?_ ?_; rotate_left; (simp only [Act.put, List.setIfInBounds_toArray, List.set_cons_zero, List.set_cons_succ, i64_w, i32_w]; rfl)
                refine un_ (a' := ?_) HT_.out 16 (some 60) ?_ ?_; rotate_left; (simp only [Act.put, List.setIfInBounds_toArray, List.set_cons_zero, List.set_cons_succ, i64_w, i32_w]; rfl)
                refine un_ (a' := ?_) HT_.out 17 (some 61) ?_ ?_; rotate_left; (simp only [Act.put, List.setIfInBounds_toArray, List.set_cons_zero, List.set_cons_succ, i64_w, i32_w]; rfl)
                refine pu_ (v := ?_) (a' := ?_) HT_.out 18 (some 62) ?_ ?_ ?_; rotate_left 2; (intro w'; go_simp; with_reducible rfl); (simp only [Act.put, List.setIfInBounds_toArray, List.set_cons_zero, List.set_cons_succ, i64_w, i32_w]; rfl)
                refine pu_ (v := ?_) (a' := ?_) HT_.out 19 (some 63) ?_ ?_ ?_; rotate_left 2; (intro w'; go_simp; with_reducible rfl); (simp only [Act.put, List.setIfInBounds_toArray, List.set_cons_zero, List.set_cons_succ, i64_w, i32_w]; rfl)
                refine pu_ (v := ?_) (a' := ?_) HT_.out 20 (some 64) ?_ ?_ ?_; rotate_left 2; (intro w'; go_simp; with_reducible rfl); (simp only [Act.put, List.setIfInBounds_toArray, List.set_cons_zero, List.set_cons_succ, i64_w, i32_w]; rfl)
                refine pu_ (v := ?_) (a' := ?_) HT_.out 21 (some 65) ?_ ?_ ?_; rotate_left 2; (intro w'; go_simp; with_reducible rfl); (simp only [Act.put, List.setIfInBounds_toArray, List.set_cons_zero, List.set_cons_succ, i64_w, i32_w]; rfl)
                refine pu_ (v := ?_) (a' := ?_) HT_.out 22 (some 66) ?_ ?_ ?_; rotate_left 2; (intro w'; go_simp; with_reducible rfl); (simp only [Act.put, List.setIfInBounds_toArray, List.set_cons_zero, List.set_cons_succ, i64_w, i32_w]; rfl)
                refine pu_ (v := ?_) (a' := ?_) HT_.out 23 (some 67) ?_ ?_ ?_; rotate_left 2; (intro w'; go_simp; with_reducible rfl); (simp only [Act.put, List.setIfInBounds_toArray, List.set_cons_zero, List.set_cons_succ, i64_w, i32_w]; rfl)
                refine tk_ (v := ?_) (a' := ?_) HT_.out HW_.out hHeld 24 (some 68) ?_ ?_ ?_; rotate_left 2; (intro w' hS; have s0 : w'.cell? (ada.add (a.toNat * 2)) = some (.int .i64 p.f0) := (hS.below.cell (World.block_lt_of_cell? w _ HP0.out)).trans HP0.out; have s1 : w'.cell? ⟨(ada.add (a.toNat * 2)).block, (ada.add (a.toNat * 2)).off + 1, none⟩ = some (.int .i64 p.f1) := (hS.below.cell (World.block_lt_of_cell? w _ HP1.out)).trans HP1.out; go_simp; with_reducible rfl); (simp only [Act.put, List.setIfInBounds_toArray, List.set_cons_zero, List.set_cons_succ, i64_w, i32_w]; rfl)
                refine pu_ (v := ?_) (a' := ?_) HT_.out 25 (some 69) ?_ ?_ ?_; rotate_left 2; (intro w'; go_simp; with_reducible rfl); (simp only [Act.put, List.setIfInBounds_toArray, List.set_cons_zero, List.set_cons_succ, i64_w, i32_w]; rfl)
                refine pu_ (v := ?_) (a' := ?_) HT_.out 26 (some 70) ?_ ?_ ?_; rotate_left 2; (intro w'; go_simp; with_reducible rfl); (simp only [Act.put, List.setIfInBounds_toArray, List.set_cons_zero, List.set_cons_succ, i64_w, i32_w]; rfl)
                refine pu_ (v := ?_) (a' := ?_) HT_.out 27 (some 71) ?_ ?_ ?_; rotate_left 2; (intro w'; go_simp; with_reducible rfl); (simp only [Act.put, List.setIfInBounds_toArray, List.set_cons_zero, List.set_cons_succ, i64_w, i32_w]; rfl)
                refine pu_ (v := ?_) (a' := ?_) HT_.out 28 (some 72) ?_ ?_ ?_; rotate_left 2; (intro w'; go_simp; with_reducible rfl); (simp only [Act.put, List.setIfInBounds_toArray, List.set_cons_zero, List.set_cons_succ, i64_w, i32_w]; rfl)
                refine pu_ (v := ?_) (a' := ?_) HT_.out 29 (some 73) ?_ ?_ ?_; rotate_left 2; (intro w'; go_simp; with_reducible rfl); (simp only [Act.put, List.setIfInBounds_toArray, List.set_cons_zero, List.set_cons_succ, i64_w, i32_w]; rfl)
                refine pu_ (v := ?_) (a' := ?_) HT_.out 30 (some 74) ?_ ?_ ?_; rotate_left 2; (intro w'; go_simp; with_reducible rfl); (simp only [Act.put, List.setIfInBounds_toArray, List.set_cons_zero, List.set_cons_succ, i64_w, i32_w]; rfl)
                refine tk_ (v := ?_) (a' := ?_) HT_.out HW_.out hHeld 31 (some 75) ?_ ?_ ?_; rotate_left 2; (intro w' hS; have s0 : w'.cell? (ada.add (b.toNat * 2)) = some (.int .i64 q.f0) := (hS.below.cell (World.block_lt_of_cell? w _ HQ0.out)).trans HQ0.out; have s1 : w'.cell? ⟨(ada.add (b.toNat * 2)).block, (ada.add (b.toNat * 2)).off + 1, none⟩ = some (.int .i64 q.f1) := (hS.below.cell (World.block_lt_of_cell? w _ HQ1.out)).trans HQ1.out; go_simp; with_reducible rfl); (simp only [Act.put, List.setIfInBounds_toArray, List.set_cons_zero, List.set_cons_succ, i64_w, i32_w]; rfl)
                refine pu_ (v := ?_) (a' := ?_) HT_.out 32 (some 76) ?_ ?_ ?_; rotate_left 2; (intro w'; go_simp; with_reducible rfl); (simp only [Act.put, List.setIfInBounds_toArray, List.set_cons_zero, List.set_cons_succ, i64_w, i32_w]; rfl)
                refine pu_ (v := ?_) (a' := ?_) HT_.out 33 (some 77) ?_ ?_ ?_; rotate_left 2; (intro w'; go_simp; with_reducible rfl); (simp only [Act.put, List.setIfInBounds_toArray, List.set_cons_zero, List.set_cons_succ, i64_w, i32_w]; rfl)
                refine pu_ (v := ?_) (a' := ?_) HT_.out 34 (some 78) ?_ ?_ ?_; rotate_left 2; (intro w'; go_simp; with_reducible rfl); (simp only [Act.put, List.setIfInBounds_toArray, List.set_cons_zero, List.set_cons_succ, i64_w, i32_w]; rfl)
                refine pu_ (v := ?_) (a' := ?_) HT_.out 35 (some 79) ?_ ?_ ?_; rotate_left 2; (intro w'; go_simp; with_reducible rfl); (simp only [Act.put, List.setIfInBounds_toArray, List.set_cons_zero, List.set_cons_succ, i64_w, i32_w]; rfl)
                refine pu_ (v := ?_) (a' := ?_) HT_.out 36 (some 80) ?_ ?_ ?_; rotate_left 2; (intro w'; go_simp; with_reducible rfl); (simp only [Act.put, List.setIfInBounds_toArray, List.set_cons_zero, List.set_cons_succ, i64_w, i32_w]; rfl)
                refine pu_ (v := ?_) (a' := ?_) HT_.out 37 (some 81) ?_ ?_ ?_; rotate_left 2; (intro w'; go_simp; with_reducible rfl); (simp only [Act.put, List.setIfInBounds_toArray, List.set_cons_zero, List.set_cons_succ, i64_w, i32_w]; rfl)
                refine pu_ (v := ?_) (a' := ?_) HT_.out 38 (some 82) ?_ ?_ ?_; rotate_left 2; (intro w'; go_simp; with_reducible rfl); (simp only [Act.put, List.setIfInBounds_toArray, List.set_cons_zero, List.set_cons_succ, i64_w, i32_w]; rfl)
                refine tk_ (v := ?_) (a' := ?_) HT_.out HW_.out hHeld 39 (some 83) ?_ ?_ ?_; rotate_left 2; (intro w' hS; have s0 : w'.cell? (ada.add (a.toNat * 2)) = some (.int .i64 p.f0) := (hS.below.cell (World.block_lt_of_cell? w _ HP0.out)).trans HP0.out; have s1 : w'.cell? ⟨(ada.add (a.toNat * 2)).block, (ada.add (a.toNat * 2)).off + 1, none⟩ = some (.int .i64 p.f1) := (hS.below.cell (World.block_lt_of_cell? w _ HP1.out)).trans HP1.out; go_simp; with_reducible rfl); (simp only [Act.put, List.setIfInBounds_toArray, List.set_cons_zero, List.set_cons_succ, i64_w, i32_w]; rfl)
                refine pu_ (v := ?_) (a' := ?_) HT_.out 40 (some 84) ?_ ?_ ?_; rotate_left 2; (intro w'; go_simp; with_reducible rfl); (simp only [Act.put, List.setIfInBounds_toArray, List.set_cons_zero, List.set_cons_succ, i64_w, i32_w]; rfl)
                refine pu_ (v := ?_) (a' := ?_) HT_.out 41 (some 85) ?_ ?_ ?_; rotate_left 2; (intro w'; go_simp; with_reducible rfl); (simp only [Act.put, List.setIfInBounds_toArray, List.set_cons_zero, List.set_cons_succ, i64_w, i32_w]; rfl)
                refine pu_ (v := ?_) (a' := ?_) HT_.out 42 (some 86) ?_ ?_ ?_; rotate_left 2; (intro w'; go_simp; with_reducible rfl); (simp only [Act.put, List.setIfInBounds_toArray, List.set_cons_zero, List.set_cons_succ, i64_w, i32_w]; rfl)
                refine pu_ (v := ?_) (a' := ?_) HT_.out 43 (some 87) ?_ ?_ ?_; rotate_left 2; (intro w'; go_simp; with_reducible rfl); (simp only [Act.put, List.setIfInBounds_toArray, List.set_cons_zero, List.set_cons_succ, i64_w, i32_w]; rfl)
                refine pu_ (v := ?_) (a' := ?_) HT_.out 44 (some 88) ?_ ?_ ?_; rotate_left 2; (intro w'; go_simp; with_reducible rfl); (simp only [Act.put, List.setIfInBounds_toArray, List.set_cons_zero, List.set_cons_succ, i64_w, i32_w]; rfl)
                refine pu_ (v := ?_) (a' := ?_) HT_.out 45 (some 89) ?_ ?_ ?_; rotate_left 2; (intro w'; go_simp; with_reducible rfl); (simp only [Act.put, List.setIfInBounds_toArray, List.set_cons_zero, List.set_cons_succ, i64_w, i32_w]; rfl)
                refine pu_ (v := ?_) (a' := ?_) HT_.out 46 (some 90) ?_ ?_ ?_; rotate_left 2; (intro w'; go_simp; with_reducible rfl); (simp only [Act.put, List.setIfInBounds_toArray, List.set_cons_zero, List.set_cons_succ, i64_w, i32_w]; rfl)
                refine pu_ (v := ?_) (a' := ?_) HT_.out 48 (some 92) ?_ ?_ ?_; rotate_left 2; (intro w'; go_simp; with_reducible rfl); (simp only [Act.put, List.setIfInBounds_toArray, List.set_cons_zero, List.set_cons_succ, i64_w, i32_w]; rfl)
                refine pu_ (v := ?_) (a' := ?_) HT_.out 49 (some 93) ?_ ?_ ?_; rotate_left 2; (intro w'; go_simp; with_reducible rfl); (simp only [Act.put, List.setIfInBounds_toArray, List.set_cons_zero, List.set_cons_succ, i64_w, i32_w]; rfl)
                refine pu_ (v := ?_) (a' := ?_) HT_.out 50 (some 94) ?_ ?_ ?_; rotate_left 2; (intro w'; go_simp; with_reducible rfl); (simp only [Act.put, List.setIfInBounds_toArray, List.set_cons_zero, List.set_cons_succ, i64_w, i32_w]; rfl)
                refine pu_ (v := ?_) (a' := ?_) HT_.out 51 (some 95) ?_ ?_ ?_; rotate_left 2; (intro w'; go_simp; with_reducible rfl); (simp only [Act.put, List.setIfInBounds_toArray, List.set_cons_zero, List.set_cons_succ, i64_w, i32_w]; rfl)
                refine tk_ (v := ?_) (a' := ?_) HT_.out HW_.out hHeld 47 (some 91) ?_ ?_ ?_; rotate_left 2; (intro w' hS; have s0 : w'.cell? (ada.add (a.toNat * 2)) = some (.int .i64 p.f0) := (hS.below.cell (World.block_lt_of_cell? w _ HP0.out)).trans HP0.out; have s1 : w'.cell? ⟨(ada.add (a.toNat * 2)).block, (ada.add (a.toNat * 2)).off + 1, none⟩ = some (.int .i64 p.f1) := (hS.below.cell (World.block_lt_of_cell? w _ HP1.out)).trans HP1.out; go_simp; with_reducible rfl); (simp only [Act.put, List.setIfInBounds_toArray, List.set_cons_zero, List.set_cons_succ, i64_w, i32_w]; rfl)
                refine tk_ (v := ?_) (a' := ?_) HT_.out HW_.out hHeld 52 (some 96) ?_ ?_ ?_; rotate_left 2; (intro w' hS; have s0 : w'.cell? (ada.add (b.toNat * 2)) = some (.int .i64 q.f0) := (hS.below.cell (World.block_lt_of_cell? w _ HQ0.out)).trans HQ0.out; have s1 : w'.cell? ⟨(ada.add (b.toNat * 2)).block, (ada.add (b.toNat * 2)).off + 1, none⟩ = some (.int .i64 q.f1) := (hS.below.cell (World.block_lt_of_cell? w _ HQ1.out)).trans HQ1.out; go_simp; with_reducible rfl); (simp only [Act.put, List.setIfInBounds_toArray, List.set_cons_zero, List.set_cons_succ, i64_w, i32_w]; rfl)
                refine pu_ (v := ?_) (a' := ?_) HT_.out 53 (some 97) ?_ ?_ ?_; rotate_left 2; (intro w'; go_simp; with_reducible rfl); (simp only [Act.put, List.setIfInBounds_toArray, List.set_cons_zero, List.set_cons_succ, i64_w, i32_w]; rfl)
                refine pu_ (v := ?_) (a' := ?_) HT_.out 54 (some 98) ?_ ?_ ?_; rotate_left 2; (intro w'; go_simp; with_reducible rfl); (simp only [Act.put, List.setIfInBounds_toArray, List.set_cons_zero, List.set_cons_succ, i64_w, i32_w]; rfl)
                refine pu_ (v := ?_) (a' := ?_) HT_.out 55 (some 99) ?_ ?_ ?_; rotate_left 2; (intro w'; go_simp; with_reducible rfl); (simp only [Act.put, List.setIfInBounds_toArray, List.set_cons_zero, List.set_cons_succ, i64_w, i32_w]; rfl)
                refine pu_ (v := ?_) (a' := ?_) HT_.out 56 (some 10) ?_ ?_ ?_; rotate_left 2; (intro w'; go_simp; with_reducible rfl); (simp only [Act.put, List.setIfInBounds_toArray, List.set_cons_zero, List.set_cons_succ, i64_w, i32_w]; rfl)
                refine dn_ HT_.out ?_
                clear hHeld HT_ HW_
                try go_wp2
                go_meet
                case rel => exact ⟨by rw [HSB.out], HS157_⟩
              · rw [if_neg c5] at hsb
                have d6 : decide (0 ≤ p.f1) = false := decide_eq_false c5
                have d7 : decide (p.f1 ≥ 0) = false := d6
                have HSB := Aside0.mk hsb.symm
                clear c1 c3 c4 c5 hsb
                refine st_ (fun w' => St w w' ([])) backstitchlaw3_ScanClash.tab11 backstitchlaw3_ScanClash.bits11 HSr.out.drew (fun HT_ HW_ hHeld => ?_)
                clear HSr
                generalize wr.drew = w154_ at hHeld ⊢
                have HS155_ := Aside0.mk (show St w w154_ ([]) from hHeld)
                refine pu_ (v := ?_) (a' := ?_) HT_.out 0 (some 44) ?_ ?_ ?_; rotate_left 2; (intro w'; go_simp; with_reducible rfl); (simp only [Act.put, List.setIfInBounds_toArray, List.set_cons_zero, List.set_cons_succ, i64_w, i32_w]; rfl)
                refine pu_ (v := ?_) (a' := ?_) HT_.out 1 (some 45) ?_ ?_ ?_; rotate_left 2; (intro w'; go_simp; with_reducible rfl); (simp only [Act.put, List.setIfInBounds_toArray, List.set_cons_zero, List.set_cons_succ, i64_w, i32_w]; rfl)
                refine pu_ (v := ?_) (a' := ?_) HT_.out 2 (some 46) ?_ ?_ ?_; rotate_left 2; (intro w'; go_simp; with_reducible rfl); (simp only [Act.put, List.setIfInBounds_toArray, List.set_cons_zero, List.set_cons_succ, i64_w, i32_w]; rfl)
                refine pu_ (v := ?_) (a' := ?_) HT_.out 3 (some 47) ?_ ?_ ?_; rotate_left 2; (intro w'; go_simp; with_reducible rfl); (simp only [Act.put, List.setIfInBounds_toArray, List.set_cons_zero, List.set_cons_succ, i64_w, i32_w]; rfl)
                refine tk_ (v := ?_) (a' := ?_) HT_.out HW_.out hHeld 4 (some 48) ?_ ?_ ?_; rotate_left 2; (intro w' hS; have s0 : w'.cell? (ada.add (a.toNat * 2)) = some (.int .i64 p.f0) := (hS.below.cell (World.block_lt_of_cell? w _ HP0.out)).trans HP0.out; have s1 : w'.cell? ⟨(ada.add (a.toNat * 2)).block, (ada.add (a.toNat * 2)).off + 1, none⟩ = some (.int .i64 p.f1) := (hS.below.cell (World.block_lt_of_cell? w _ HP1.out)).trans HP1.out; go_simp; with_reducible rfl); (simp only [Act.put, List.setIfInBounds_toArray, List.set_cons_zero, List.set_cons_succ, i64_w, i32_w]; rfl)
                refine pu_ (v := ?_) (a' := ?_) HT_.out 5 (some 49) ?_ ?_ ?_; rotate_left 2; (intro w'; go_simp; with_reducible rfl); (simp only [Act.put, List.setIfInBounds_toArray, List.set_cons_zero, List.set_cons_succ, i64_w, i32_w]; rfl)
                refine pu_ (v := ?_) (a' := ?_) HT_.out 6 (some 50) ?_ ?_ ?_; rotate_left 2; (intro w'; go_simp; with_reducible rfl); (simp only [Act.put, List.setIfInBounds_toArray, List.set_cons_zero, List.set_cons_succ, i64_w, i32_w]; rfl)
                refine un_ (a' := ?_) HT_.out 7 (some 51) ?_ ?_; rotate_left; (simp only [Act.put, List.setIfInBounds_toArray, List.set_cons_zero, List.set_cons_succ, i64_w, i32_w]; rfl)
                refine un_ (a' := ?_) HT_.out 8 (some 52) ?_ ?_; rotate_left; (simp only [Act.put, List.setIfInBounds_toArray, List.set_cons_zero, List.set_cons_succ, i64_w, i32_w]; rfl)
                refine un_ (a' := ?_) HT_.out 9 (some 53) ?_ ?_; rotate_left; (simp only [Act.put, List.setIfInBounds_toArray, List.set_cons_zero, List.set_cons_succ, i64_w, i32_w]; rfl)
                refine un_ (a' := ?_) HT_.out 10 (some 54) ?_ ?_; rotate_left; (simp only [Act.put, List.setIfInBounds_toArray, List.set_cons_zero, List.set_cons_succ, i64_w, i32_w]; rfl)
                refine un_ (a' := ?_) HT_.out 11 (some 55) ?_ ?_; rotate_left; (simp only [Act.put, List.setIfInBounds_toArray, List.set_cons_zero, List.set_cons_succ, i64_w, i32_w]; rfl)
                refine un_ (a' := ?_) HT_.out 12 (some 56) ?_ ?_; rotate_left; (simp only [Act.put, List.setIfInBounds_toArray, List.set_cons_zero, List.set_cons_succ, i64_w, i32_w]; rfl)
                refine un_ (a' := ?_) HT_.out 13 (some 57) ?_ ?_; rotate_left; (simp only [Act.put, List.setIfInBounds_toArray, List.set_cons_zero, List.set_cons_succ, i64_w, i32_w]; rfl)
                refine un_ (a' := ?_) HT_.out 14 (some 58) ?_ ?_; rotate_left; (simp only [Act.put, List.setIfInBounds_toArray, List.set_cons_zero, List.set_cons_succ, i64_w, i32_w]; rfl)
                refine un_ (a' := ?_) HT_.out 15 (some 59) ?_ ?_; rotate_left; (simp only [Act.put, List.setIfInBounds_toArray, List.set_cons_zero, List.set_cons_succ, i64_w, i32_w]; rfl)
                refine un_ (a' := ?_) HT_.out 16 (some 60) ?_ ?_; rotate_left; (simp only [Act.put, List.setIfInBounds_toArray, List.set_cons_zero, List.set_cons_succ, i64_w, i32_w]; rfl)
                refine un_ (a' := ?_) HT_.out 17 (some 61) ?_ ?_; rotate_left; (simp only [Act.put, List.setIfInBounds_toArray, List.set_cons_zero, List.set_cons_succ, i64_w, i32_w]; rfl)
                refine pu_ (v := ?_) (a' := ?_) HT_.out 18 (some 62) ?_ ?_ ?_; rotate_left 2; (intro w'; go_simp; with_reducible rfl); (simp only [Act.put, List.setIfInBounds_toArray, List.set_cons_zero, List.set_cons_succ, i64_w, i32_w]; rfl)
                refine pu_ (v := ?_) (a' := ?_) HT_.out 19 (some 63) ?_ ?_ ?_; rotate_left 2; (intro w'; go_simp; with_reducible rfl); (simp only [Act.put, List.setIfInBounds_toArray, List.set_cons_zero, List.set_cons_succ, i64_w, i32_w]; rfl)
                refine pu_ (v := ?_) (a' := ?_) HT_.out 20 (some 64) ?_ ?_ ?_; rotate_left 2; (intro w'; go_simp; with_reducible rfl); (simp only [Act.put, List.setIfInBounds_toArray, List.set_cons_zero, List.set_cons_succ, i64_w, i32_w]; rfl)
                refine pu_ (v := ?_) (a' := ?_) HT_.out 21 (some 65) ?_ ?_ ?_; rotate_left 2; (intro w'; go_simp; with_reducible rfl); (simp only [Act.put, List.setIfInBounds_toArray, List.set_cons_zero, List.set_cons_succ, i64_w, i32_w]; rfl)
                refine pu_ (v := ?_) (a' := ?_) HT_.out 22 (some 66) ?_ ?_ ?_; rotate_left 2; (intro w'; go_simp; with_reducible rfl); (simp only [Act.put, List.setIfInBounds_toArray, List.set_cons_zero, List.set_cons_succ, i64_w, i32_w]; rfl)
                refine pu_ (v := ?_) (a' := ?_) HT_.out 23 (some 67) ?_ ?_ ?_; rotate_left 2; (intro w'; go_simp; with_reducible rfl); (simp only [Act.put, List.setIfInBounds_toArray, List.set_cons_zero, List.set_cons_succ, i64_w, i32_w]; rfl)
                refine tk_ (v := ?_) (a' := ?_) HT_.out HW_.out hHeld 24 (some 68) ?_ ?_ ?_; rotate_left 2; (intro w' hS; have s0 : w'.cell? (ada.add (a.toNat * 2)) = some (.int .i64 p.f0) := (hS.below.cell (World.block_lt_of_cell? w _ HP0.out)).trans HP0.out; have s1 : w'.cell? ⟨(ada.add (a.toNat * 2)).block, (ada.add (a.toNat * 2)).off + 1, none⟩ = some (.int .i64 p.f1) := (hS.below.cell (World.block_lt_of_cell? w _ HP1.out)).trans HP1.out; go_simp; with_reducible rfl); (simp only [Act.put, List.setIfInBounds_toArray, List.set_cons_zero, List.set_cons_succ, i64_w, i32_w]; rfl)
                refine pu_ (v := ?_) (a' := ?_) HT_.out 25 (some 69) ?_ ?_ ?_; rotate_left 2; (intro w'; go_simp; with_reducible rfl); (simp only [Act.put, List.setIfInBounds_toArray, List.set_cons_zero, List.set_cons_succ, i64_w, i32_w]; rfl)
                refine pu_ (v := ?_) (a' := ?_) HT_.out 26 (some 70) ?_ ?_ ?_; rotate_left 2; (intro w'; go_simp; with_reducible rfl); (simp only [Act.put, List.setIfInBounds_toArray, List.set_cons_zero, List.set_cons_succ, i64_w, i32_w]; rfl)
                refine pu_ (v := ?_) (a' := ?_) HT_.out 27 (some 71) ?_ ?_ ?_; rotate_left 2; (intro w'; go_simp; with_reducible rfl); (simp only [Act.put, List.setIfInBounds_toArray, List.set_cons_zero, List.set_cons_succ, i64_w, i32_w]; rfl)
                refine pu_ (v := ?_) (a' := ?_) HT_.out 28 (some 72) ?_ ?_ ?_; rotate_left 2; (intro w'; go_simp; with_reducible rfl); (simp only [Act.put, List.setIfInBounds_toArray, List.set_cons_zero, List.set_cons_succ, i64_w, i32_w]; rfl)
                refine pu_ (v := ?_) (a' := ?_) HT_.out 29 (some 73) ?_ ?_ ?_; rotate_left 2; (intro w'; go_simp; with_reducible rfl); (simp only [Act.put, List.setIfInBounds_toArray, List.set_cons_zero, List.set_cons_succ, i64_w, i32_w]; rfl)
                refine pu_ (v := ?_) (a' := ?_) HT_.out 30 (some 74) ?_ ?_ ?_; rotate_left 2; (intro w'; go_simp; with_reducible rfl); (simp only [Act.put, List.setIfInBounds_toArray, List.set_cons_zero, List.set_cons_succ, i64_w, i32_w]; rfl)
                refine tk_ (v := ?_) (a' := ?_) HT_.out HW_.out hHeld 31 (some 75) ?_ ?_ ?_; rotate_left 2; (intro w' hS; have s0 : w'.cell? (ada.add (b.toNat * 2)) = some (.int .i64 q.f0) := (hS.below.cell (World.block_lt_of_cell? w _ HQ0.out)).trans HQ0.out; have s1 : w'.cell? ⟨(ada.add (b.toNat * 2)).block, (ada.add (b.toNat * 2)).off + 1, none⟩ = some (.int .i64 q.f1) := (hS.below.cell (World.block_lt_of_cell? w _ HQ1.out)).trans HQ1.out; go_simp; with_reducible rfl); (simp only [Act.put, List.setIfInBounds_toArray, List.set_cons_zero, List.set_cons_succ, i64_w, i32_w]; rfl)
                refine pu_ (v := ?_) (a' := ?_) HT_.out 32 (some 76) ?_ ?_ ?_; rotate_left 2; (intro w'; go_simp; with_reducible rfl); (simp only [Act.put, List.setIfInBounds_toArray, List.set_cons_zero, List.set_cons_succ, i64_w, i32_w]; rfl)
                refine pu_ (v := ?_) (a' := ?_) HT_.out 33 (some 77) ?_ ?_ ?_; rotate_left 2; (intro w'; go_simp; with_reducible rfl); (simp only [Act.put, List.setIfInBounds_toArray, List.set_cons_zero, List.set_cons_succ, i64_w, i32_w]; rfl)
                refine pu_ (v := ?_) (a' := ?_) HT_.out 34 (some 78) ?_ ?_ ?_; rotate_left 2; (intro w'; go_simp; with_reducible rfl); (simp only [Act.put, List.setIfInBounds_toArray, List.set_cons_zero, List.set_cons_succ, i64_w, i32_w]; rfl)
                refine pu_ (v := ?_) (a' := ?_) HT_.out 35 (some 79) ?_ ?_ ?_; rotate_left 2; (intro w'; go_simp; with_reducible rfl); (simp only [Act.put, List.setIfInBounds_toArray, List.set_cons_zero, List.set_cons_succ, i64_w, i32_w]; rfl)
                refine pu_ (v := ?_) (a' := ?_) HT_.out 36 (some 80) ?_ ?_ ?_; rotate_left 2; (intro w'; go_simp; with_reducible rfl); (simp only [Act.put, List.setIfInBounds_toArray, List.set_cons_zero, List.set_cons_succ, i64_w, i32_w]; rfl)
                refine pu_ (v := ?_) (a' := ?_) HT_.out 37 (some 81) ?_ ?_ ?_; rotate_left 2; (intro w'; go_simp; with_reducible rfl); (simp only [Act.put, List.setIfInBounds_toArray, List.set_cons_zero, List.set_cons_succ, i64_w, i32_w]; rfl)
                refine pu_ (v := ?_) (a' := ?_) HT_.out 38 (some 82) ?_ ?_ ?_; rotate_left 2; (intro w'; go_simp; with_reducible rfl); (simp only [Act.put, List.setIfInBounds_toArray, List.set_cons_zero, List.set_cons_succ, i64_w, i32_w]; rfl)
                refine tk_ (v := ?_) (a' := ?_) HT_.out HW_.out hHeld 39 (some 83) ?_ ?_ ?_; rotate_left 2; (intro w' hS; have s0 : w'.cell? (ada.add (a.toNat * 2)) = some (.int .i64 p.f0) := (hS.below.cell (World.block_lt_of_cell? w _ HP0.out)).trans HP0.out; have s1 : w'.cell? ⟨(ada.add (a.toNat * 2)).block, (ada.add (a.toNat * 2)).off + 1, none⟩ = some (.int .i64 p.f1) := (hS.below.cell (World.block_lt_of_cell? w _ HP1.out)).trans HP1.out; go_simp; with_reducible rfl); (simp only [Act.put, List.setIfInBounds_toArray, List.set_cons_zero, List.set_cons_succ, i64_w, i32_w]; rfl)
                refine pu_ (v := ?_) (a' := ?_) HT_.out 40 (some 84) ?_ ?_ ?_; rotate_left 2; (intro w'; go_simp; with_reducible rfl); (simp only [Act.put, List.setIfInBounds_toArray, List.set_cons_zero, List.set_cons_succ, i64_w, i32_w]; rfl)
                refine pu_ (v := ?_) (a' := ?_) HT_.out 41 (some 85) ?_ ?_ ?_; rotate_left 2; (intro w'; go_simp; with_reducible rfl); (simp only [Act.put, List.setIfInBounds_toArray, List.set_cons_zero, List.set_cons_succ, i64_w, i32_w]; rfl)
                refine pu_ (v := ?_) (a' := ?_) HT_.out 42 (some 86) ?_ ?_ ?_; rotate_left 2; (intro w'; go_simp; with_reducible rfl); (simp only [Act.put, List.setIfInBounds_toArray, List.set_cons_zero, List.set_cons_succ, i64_w, i32_w]; rfl)
                refine un_ (a' := ?_) HT_.out 43 (some 87) ?_ ?_; rotate_left; (simp only [Act.put, List.setIfInBounds_toArray, List.set_cons_zero, List.set_cons_succ, i64_w, i32_w]; rfl)
                refine un_ (a' := ?_) HT_.out 44 (some 88) ?_ ?_; rotate_left; (simp only [Act.put, List.setIfInBounds_toArray, List.set_cons_zero, List.set_cons_succ, i64_w, i32_w]; rfl)
                refine un_ (a' := ?_) HT_.out 45 (some 89) ?_ ?_; rotate_left; (simp only [Act.put, List.setIfInBounds_toArray, List.set_cons_zero, List.set_cons_succ, i64_w, i32_w]; rfl)
                refine un_ (a' := ?_) HT_.out 46 (some 90) ?_ ?_; rotate_left; (simp only [Act.put, List.setIfInBounds_toArray, List.set_cons_zero, List.set_cons_succ, i64_w, i32_w]; rfl)
                refine un_ (a' := ?_) HT_.out 47 (some 91) ?_ ?_; rotate_left; (simp only [Act.put, List.setIfInBounds_toArray, List.set_cons_zero, List.set_cons_succ, i64_w, i32_w]; rfl)
                refine un_ (a' := ?_) HT_.out 48 (some 92) ?_ ?_; rotate_left; (simp only [Act.put, List.setIfInBounds_toArray, List.set_cons_zero, List.set_cons_succ, i64_w, i32_w]; rfl)
                refine un_ (a' := ?_) HT_.out 49 (some 93) ?_ ?_; rotate_left; (simp only [Act.put, List.setIfInBounds_toArray, List.set_cons_zero, List.set_cons_succ, i64_w, i32_w]; rfl)
                refine un_ (a' := ?_) HT_.out 50 (some 94) ?_ ?_; rotate_left; (simp only [Act.put, List.setIfInBounds_toArray, List.set_cons_zero, List.set_cons_succ, i64_w, i32_w]; rfl)
                refine un_ (a' := ?_) HT_.out 51 (some 95) ?_ ?_; rotate_left; (simp only [Act.put, List.setIfInBounds_toArray, List.set_cons_zero, List.set_cons_succ, i64_w, i32_w]; rfl)
                refine un_ (a' := ?_) HT_.out 52 (some 96) ?_ ?_; rotate_left; (simp only [Act.put, List.setIfInBounds_toArray, List.set_cons_zero, List.set_cons_succ, i64_w, i32_w]; rfl)
                refine un_ (a' := ?_) HT_.out 53 (some 97) ?_ ?_; rotate_left; (simp only [Act.put, List.setIfInBounds_toArray, List.set_cons_zero, List.set_cons_succ, i64_w, i32_w]; rfl)
                refine pu_ (v := ?_) (a' := ?_) HT_.out 54 (some 98) ?_ ?_ ?_; rotate_left 2; (intro w'; go_simp; with_reducible rfl); (simp only [Act.put, List.setIfInBounds_toArray, List.set_cons_zero, List.set_cons_succ, i64_w, i32_w]; rfl)
                refine pu_ (v := ?_) (a' := ?_) HT_.out 55 (some 99) ?_ ?_ ?_; rotate_left 2; (intro w'; go_simp; with_reducible rfl); (simp only [Act.put, List.setIfInBounds_toArray, List.set_cons_zero, List.set_cons_succ, i64_w, i32_w]; rfl)
                refine pu_ (v := ?_) (a' := ?_) HT_.out 56 (some 10) ?_ ?_ ?_; rotate_left 2; (intro w'; go_simp; with_reducible rfl); (simp only [Act.put, List.setIfInBounds_toArray, List.set_cons_zero, List.set_cons_succ, i64_w, i32_w]; rfl)
                refine dn_ HT_.out ?_
                clear hHeld HT_ HW_
                try go_wp2
                go_meet
                case rel => exact ⟨by rw [HSB.out], HS155_⟩
          case rest =>
            clear HSr HSBs HP0 HP1 HQ0 HQ1
            obtain ⟨rfl, HSc⟩ := hcut
            have hx := HX.out
            go_wp2
            rcases cx with _ | _
            · have HX4 := Aside0.mk hx
              clear hx HX
              refine st_ (fun w' => St w w' ([])) backstitchlaw3_ScanClash.tab12 backstitchlaw3_ScanClash.bits12 HSc.out.drew (fun HT_ HW_ hHeld => ?_)
              clear HSc
              generalize wc.drew = w158_ at hHeld ⊢
              have HS159_ := Aside0.mk (show St w w158_ ([]) from hHeld)
              refine pu_ (v := ?_) (a' := ?_) HT_.out 0 (some 100) ?_ ?_ ?_; rotate_left 2; (intro w'; go_simp; with_reducible rfl); (simp only [Act.put, List.setIfInBounds_toArray, List.set_cons_zero, List.set_cons_succ, i64_w, i32_w]; rfl)
              refine pu_ (v := ?_) (a' := ?_) HT_.out 1 (some 101) ?_ ?_ ?_; rotate_left 2; (intro w'; go_simp; with_reducible rfl); (simp only [Act.put, List.setIfInBounds_toArray, List.set_cons_zero, List.set_cons_succ, i64_w, i32_w]; rfl)
              refine pu_ (v := ?_) (a' := ?_) HT_.out 2 (some 102) ?_ ?_ ?_; rotate_left 2; (intro w'; go_simp; with_reducible rfl); (simp only [Act.put, List.setIfInBounds_toArray, List.set_cons_zero, List.set_cons_succ, i64_w, i32_w]; rfl)
              refine tk_ (v := ?_) (a' := ?_) HT_.out HW_.out hHeld 3 (some 103) ?_ ?_ ?_; rotate_left 2; (intro w' hS; have s0 : w'.cell? (adl.add (a.toNat * 2)) = some (.int .i64 x.f0) := (hS.below.cell (World.block_lt_of_cell? w _ HX0.out)).trans HX0.out; have s1 : w'.cell? ⟨(adl.add (a.toNat * 2)).block, (adl.add (a.toNat * 2)).off + 1, none⟩ = some (.int .i64 x.f1) := (hS.below.cell (World.block_lt_of_cell? w _ HX1.out)).trans HX1.out; go_simp; with_reducible rfl); (simp only [Act.put, List.setIfInBounds_toArray, List.set_cons_zero, List.set_cons_succ, i64_w, i32_w]; rfl)
              refine on_ HT_.out 4 (some 104) (fun K hK => ?_)
              refine goes_ Try.func24 (by kernel_rfl) rfl #[.agg #[.int .i64 x.f0, .int .i64 x.f1]] (by rfl) rfl rfl (by simp only [List.map_toArray, List.map_cons, List.map_nil]; rfl) ?_
              with_reducible refine (backstitchref3_Counts.calls x.f0 x.f1 false _ HCX.out).mono ?_
              rintro e_ w160_ ⟨rfl, hb_⟩
              refine ⟨_, rfl, ?_⟩
              have HS161_ := Aside0.mk (HS159_.out.call hb_)
              clear hb_ HS159_ hHeld
              refine hK.out _ _ (HS161_.out) (fun hHeld => ?_)
              clear hK K
              refine norm_ (a' := ?_) ?_ ?_; rotate_left; (show Act.put _ (some 104) _ = _; simp only [Act.put, List.setIfInBounds_toArray, List.set_cons_zero, List.set_cons_succ, i64_w, i32_w]; rfl)
              refine pu_ (v := ?_) (a' := ?_) HT_.out 5 (some 105) ?_ ?_ ?_; rotate_left 2; (intro w'; go_simp; with_reducible rfl); (simp only [Act.put, List.setIfInBounds_toArray, List.set_cons_zero, List.set_cons_succ, i64_w, i32_w]; rfl)
              refine un_ (a' := ?_) HT_.out 6 (some 106) ?_ ?_; rotate_left; (simp only [Act.put, List.setIfInBounds_toArray, List.set_cons_zero, List.set_cons_succ, i64_w, i32_w]; rfl)
              refine un_ (a' := ?_) HT_.out 7 (some 107) ?_ ?_; rotate_left; (simp only [Act.put, List.setIfInBounds_toArray, List.set_cons_zero, List.set_cons_succ, i64_w, i32_w]; rfl)
              refine un_ (a' := ?_) HT_.out 8 (some 108) ?_ ?_; rotate_left; (simp only [Act.put, List.setIfInBounds_toArray, List.set_cons_zero, List.set_cons_succ, i64_w, i32_w]; rfl)
              refine un_ (a' := ?_) HT_.out 9 (some 109) ?_ ?_; rotate_left; (simp only [Act.put, List.setIfInBounds_toArray, List.set_cons_zero, List.set_cons_succ, i64_w, i32_w]; rfl)
              refine un_ (a' := ?_) HT_.out 10 (some 110) ?_ ?_; rotate_left; (simp only [Act.put, List.setIfInBounds_toArray, List.set_cons_zero, List.set_cons_succ, i64_w, i32_w]; rfl)
              refine pu_ (v := ?_) (a' := ?_) HT_.out 11 (some 111) ?_ ?_ ?_; rotate_left 2; (intro w'; go_simp; with_reducible rfl); (simp only [Act.put, List.setIfInBounds_toArray, List.set_cons_zero, List.set_cons_succ, i64_w, i32_w]; rfl)
              refine pu_ (v := ?_) (a' := ?_) HT_.out 12 (some 112) ?_ ?_ ?_; rotate_left 2; (intro w'; go_simp; with_reducible rfl); (simp only [Act.put, List.setIfInBounds_toArray, List.set_cons_zero, List.set_cons_succ, i64_w, i32_w]; rfl)
              refine un_ (a' := ?_) HT_.out 13 (some 113) ?_ ?_; rotate_left; (simp only [Act.put, List.setIfInBounds_toArray, List.set_cons_zero, List.set_cons_succ, i64_w, i32_w]; rfl)
              refine un_ (a' := ?_) HT_.out 14 (some 114) ?_ ?_; rotate_left; (simp only [Act.put, List.setIfInBounds_toArray, List.set_cons_zero, List.set_cons_succ, i64_w, i32_w]; rfl)
              refine un_ (a' := ?_) HT_.out 15 (some 115) ?_ ?_; rotate_left; (simp only [Act.put, List.setIfInBounds_toArray, List.set_cons_zero, List.set_cons_succ, i64_w, i32_w]; rfl)
              refine un_ (a' := ?_) HT_.out 16 (some 116) ?_ ?_; rotate_left; (simp only [Act.put, List.setIfInBounds_toArray, List.set_cons_zero, List.set_cons_succ, i64_w, i32_w]; rfl)
              refine un_ (a' := ?_) HT_.out 17 (some 117) ?_ ?_; rotate_left; (simp only [Act.put, List.setIfInBounds_toArray, List.set_cons_zero, List.set_cons_succ, i64_w, i32_w]; rfl)
              refine un_ (a' := ?_) HT_.out 18 (some 118) ?_ ?_; rotate_left; (simp only [Act.put, List.setIfInBounds_toArray, List.set_cons_zero, List.set_cons_succ, i64_w, i32_w]; rfl)
              refine un_ (a' := ?_) HT_.out 19 (some 119) ?_ ?_; rotate_left; (simp only [Act.put, List.setIfInBounds_toArray, List.set_cons_zero, List.set_cons_succ, i64_w, i32_w]; rfl)
              refine un_ (a' := ?_) HT_.out 20 (some 120) ?_ ?_; rotate_left; (simp only [Act.put, List.setIfInBounds_toArray, List.set_cons_zero, List.set_cons_succ, i64_w, i32_w]; rfl)
              refine un_ (a' := ?_) HT_.out 21 (some 121) ?_ ?_; rotate_left; (simp only [Act.put, List.setIfInBounds_toArray, List.set_cons_zero, List.set_cons_succ, i64_w, i32_w]; rfl)
              refine pu_ (v := ?_) (a' := ?_) HT_.out 22 (some 122) ?_ ?_ ?_; rotate_left 2; (intro w'; go_simp; with_reducible rfl); (simp only [Act.put, List.setIfInBounds_toArray, List.set_cons_zero, List.set_cons_succ, i64_w, i32_w]; rfl)
              refine pu_ (v := ?_) (a' := ?_) HT_.out 23 (some 123) ?_ ?_ ?_; rotate_left 2; (intro w'; go_simp; with_reducible rfl); (simp only [Act.put, List.setIfInBounds_toArray, List.set_cons_zero, List.set_cons_succ, i64_w, i32_w]; rfl)
              refine un_ (a' := ?_) HT_.out 24 (some 124) ?_ ?_; rotate_left; (simp only [Act.put, List.setIfInBounds_toArray, List.set_cons_zero, List.set_cons_succ, i64_w, i32_w]; rfl)
              refine pu_ (v := ?_) (a' := ?_) HT_.out 25 (some 125) ?_ ?_ ?_; rotate_left 2; (intro w'; go_simp; with_reducible rfl); (simp only [Act.put, List.setIfInBounds_toArray, List.set_cons_zero, List.set_cons_succ, i64_w, i32_w]; rfl)
              refine dn_ HT_.out ?_
              clear hHeld HT_ HW_
              go_wp2
              go_roundw
              case rel => exact ⟨b + 1, by first | rw [HWB.out] | rfl, ⟨by omega⟩, HX4, HS161_⟩
              case measure => simp only [intOf]; (try rw [HWB.out]); omega
            rcases cy with _ | _
            · have HX4 := Aside0.mk hx
              clear hx HX
              refine st_ (fun w' => St w w' ([])) backstitchlaw3_ScanClash.tab12 backstitchlaw3_ScanClash.bits12 HSc.out.drew (fun HT_ HW_ hHeld => ?_)
              clear HSc
              generalize wc.drew = w162_ at hHeld ⊢
              have HS163_ := Aside0.mk (show St w w162_ ([]) from hHeld)
              refine pu_ (v := ?_) (a' := ?_) HT_.out 0 (some 100) ?_ ?_ ?_; rotate_left 2; (intro w'; go_simp; with_reducible rfl); (simp only [Act.put, List.setIfInBounds_toArray, List.set_cons_zero, List.set_cons_succ, i64_w, i32_w]; rfl)
              refine pu_ (v := ?_) (a' := ?_) HT_.out 1 (some 101) ?_ ?_ ?_; rotate_left 2; (intro w'; go_simp; with_reducible rfl); (simp only [Act.put, List.setIfInBounds_toArray, List.set_cons_zero, List.set_cons_succ, i64_w, i32_w]; rfl)
              refine pu_ (v := ?_) (a' := ?_) HT_.out 2 (some 102) ?_ ?_ ?_; rotate_left 2; (intro w'; go_simp; with_reducible rfl); (simp only [Act.put, List.setIfInBounds_toArray, List.set_cons_zero, List.set_cons_succ, i64_w, i32_w]; rfl)
              refine tk_ (v := ?_) (a' := ?_) HT_.out HW_.out hHeld 3 (some 103) ?_ ?_ ?_; rotate_left 2; (intro w' hS; have s0 : w'.cell? (adl.add (a.toNat * 2)) = some (.int .i64 x.f0) := (hS.below.cell (World.block_lt_of_cell? w _ HX0.out)).trans HX0.out; have s1 : w'.cell? ⟨(adl.add (a.toNat * 2)).block, (adl.add (a.toNat * 2)).off + 1, none⟩ = some (.int .i64 x.f1) := (hS.below.cell (World.block_lt_of_cell? w _ HX1.out)).trans HX1.out; go_simp; with_reducible rfl); (simp only [Act.put, List.setIfInBounds_toArray, List.set_cons_zero, List.set_cons_succ, i64_w, i32_w]; rfl)
              refine on_ HT_.out 4 (some 104) (fun K hK => ?_)
              refine goes_ Try.func24 (by kernel_rfl) rfl #[.agg #[.int .i64 x.f0, .int .i64 x.f1]] (by rfl) rfl rfl (by simp only [List.map_toArray, List.map_cons, List.map_nil]; rfl) ?_
              with_reducible refine (backstitchref3_Counts.calls x.f0 x.f1 true _ HCX.out).mono ?_
              rintro e_ w164_ ⟨rfl, hb_⟩
              refine ⟨_, rfl, ?_⟩
              have HS165_ := Aside0.mk (HS163_.out.call hb_)
              clear hb_ HS163_ hHeld
              refine hK.out _ _ (HS165_.out) (fun hHeld => ?_)
              clear hK K
              refine norm_ (a' := ?_) ?_ ?_; rotate_left; (show Act.put _ (some 104) _ = _; simp only [Act.put, List.setIfInBounds_toArray, List.set_cons_zero, List.set_cons_succ, i64_w, i32_w]; rfl)
              refine pu_ (v := ?_) (a' := ?_) HT_.out 5 (some 105) ?_ ?_ ?_; rotate_left 2; (intro w'; go_simp; with_reducible rfl); (simp only [Act.put, List.setIfInBounds_toArray, List.set_cons_zero, List.set_cons_succ, i64_w, i32_w]; rfl)
              refine pu_ (v := ?_) (a' := ?_) HT_.out 6 (some 106) ?_ ?_ ?_; rotate_left 2; (intro w'; go_simp; with_reducible rfl); (simp only [Act.put, List.setIfInBounds_toArray, List.set_cons_zero, List.set_cons_succ, i64_w, i32_w]; rfl)
              refine pu_ (v := ?_) (a' := ?_) HT_.out 7 (some 107) ?_ ?_ ?_; rotate_left 2; (intro w'; go_simp; with_reducible rfl); (simp only [Act.put, List.setIfInBounds_toArray, List.set_cons_zero, List.set_cons_succ, i64_w, i32_w]; rfl)
              refine pu_ (v := ?_) (a' := ?_) HT_.out 8 (some 108) ?_ ?_ ?_; rotate_left 2; (intro w'; go_simp; with_reducible rfl); (simp only [Act.put, List.setIfInBounds_toArray, List.set_cons_zero, List.set_cons_succ, i64_w, i32_w]; rfl)
              refine tk_ (v := ?_) (a' := ?_) HT_.out HW_.out hHeld 9 (some 109) ?_ ?_ ?_; rotate_left 2; (intro w' hS; have s0 : w'.cell? (adl.add (b.toNat * 2)) = some (.int .i64 y.f0) := (hS.below.cell (World.block_lt_of_cell? w _ HY0.out)).trans HY0.out; have s1 : w'.cell? ⟨(adl.add (b.toNat * 2)).block, (adl.add (b.toNat * 2)).off + 1, none⟩ = some (.int .i64 y.f1) := (hS.below.cell (World.block_lt_of_cell? w _ HY1.out)).trans HY1.out; go_simp; with_reducible rfl); (simp only [Act.put, List.setIfInBounds_toArray, List.set_cons_zero, List.set_cons_succ, i64_w, i32_w]; rfl)
              refine on_ HT_.out 10 (some 110) (fun K hK => ?_)
              refine goes_ Try.func24 (by kernel_rfl) rfl #[.agg #[.int .i64 y.f0, .int .i64 y.f1]] (by rfl) rfl rfl (by simp only [List.map_toArray, List.map_cons, List.map_nil]; rfl) ?_
              with_reducible refine (backstitchref3_Counts.calls y.f0 y.f1 false _ HCY.out).mono ?_
              rintro e_ w166_ ⟨rfl, hb_⟩
              refine ⟨_, rfl, ?_⟩
              have HS167_ := Aside0.mk (HS165_.out.call hb_)
              clear hb_ HS165_ hHeld
              refine hK.out _ _ (HS167_.out) (fun hHeld => ?_)
              clear hK K
              refine norm_ (a' := ?_) ?_ ?_; rotate_left; (show Act.put _ (some 110) _ = _; simp only [Act.put, List.setIfInBounds_toArray, List.set_cons_zero, List.set_cons_succ, i64_w, i32_w]; rfl)
              refine pu_ (v := ?_) (a' := ?_) HT_.out 11 (some 111) ?_ ?_ ?_; rotate_left 2; (intro w'; go_simp; with_reducible rfl); (simp only [Act.put, List.setIfInBounds_toArray, List.set_cons_zero, List.set_cons_succ, i64_w, i32_w]; rfl)
              refine pu_ (v := ?_) (a' := ?_) HT_.out 12 (some 112) ?_ ?_ ?_; rotate_left 2; (intro w'; go_simp; with_reducible rfl); (simp only [Act.put, List.setIfInBounds_toArray, List.set_cons_zero, List.set_cons_succ, i64_w, i32_w]; rfl)
              refine un_ (a' := ?_) HT_.out 13 (some 113) ?_ ?_; rotate_left; (simp only [Act.put, List.setIfInBounds_toArray, List.set_cons_zero, List.set_cons_succ, i64_w, i32_w]; rfl)
              refine un_ (a' := ?_) HT_.out 14 (some 114) ?_ ?_; rotate_left; (simp only [Act.put, List.setIfInBounds_toArray, List.set_cons_zero, List.set_cons_succ, i64_w, i32_w]; rfl)
              refine un_ (a' := ?_) HT_.out 15 (some 115) ?_ ?_; rotate_left; (simp only [Act.put, List.setIfInBounds_toArray, List.set_cons_zero, List.set_cons_succ, i64_w, i32_w]; rfl)
              refine un_ (a' := ?_) HT_.out 16 (some 116) ?_ ?_; rotate_left; (simp only [Act.put, List.setIfInBounds_toArray, List.set_cons_zero, List.set_cons_succ, i64_w, i32_w]; rfl)
              refine un_ (a' := ?_) HT_.out 17 (some 117) ?_ ?_; rotate_left; (simp only [Act.put, List.setIfInBounds_toArray, List.set_cons_zero, List.set_cons_succ, i64_w, i32_w]; rfl)
              refine un_ (a' := ?_) HT_.out 18 (some 118) ?_ ?_; rotate_left; (simp only [Act.put, List.setIfInBounds_toArray, List.set_cons_zero, List.set_cons_succ, i64_w, i32_w]; rfl)
              refine un_ (a' := ?_) HT_.out 19 (some 119) ?_ ?_; rotate_left; (simp only [Act.put, List.setIfInBounds_toArray, List.set_cons_zero, List.set_cons_succ, i64_w, i32_w]; rfl)
              refine un_ (a' := ?_) HT_.out 20 (some 120) ?_ ?_; rotate_left; (simp only [Act.put, List.setIfInBounds_toArray, List.set_cons_zero, List.set_cons_succ, i64_w, i32_w]; rfl)
              refine un_ (a' := ?_) HT_.out 21 (some 121) ?_ ?_; rotate_left; (simp only [Act.put, List.setIfInBounds_toArray, List.set_cons_zero, List.set_cons_succ, i64_w, i32_w]; rfl)
              refine pu_ (v := ?_) (a' := ?_) HT_.out 22 (some 122) ?_ ?_ ?_; rotate_left 2; (intro w'; go_simp; with_reducible rfl); (simp only [Act.put, List.setIfInBounds_toArray, List.set_cons_zero, List.set_cons_succ, i64_w, i32_w]; rfl)
              refine pu_ (v := ?_) (a' := ?_) HT_.out 23 (some 123) ?_ ?_ ?_; rotate_left 2; (intro w'; go_simp; with_reducible rfl); (simp only [Act.put, List.setIfInBounds_toArray, List.set_cons_zero, List.set_cons_succ, i64_w, i32_w]; rfl)
              refine un_ (a' := ?_) HT_.out 24 (some 124) ?_ ?_; rotate_left; (simp only [Act.put, List.setIfInBounds_toArray, List.set_cons_zero, List.set_cons_succ, i64_w, i32_w]; rfl)
              refine pu_ (v := ?_) (a' := ?_) HT_.out 25 (some 125) ?_ ?_ ?_; rotate_left 2; (intro w'; go_simp; with_reducible rfl); (simp only [Act.put, List.setIfInBounds_toArray, List.set_cons_zero, List.set_cons_succ, i64_w, i32_w]; rfl)
              refine dn_ HT_.out ?_
              clear hHeld HT_ HW_
              go_wp2
              go_roundw
              case rel => exact ⟨b + 1, by first | rw [HWB.out] | rfl, ⟨by omega⟩, HX4, HS167_⟩
              case measure => simp only [intOf]; (try rw [HWB.out]); omega
            rcases mt with _ | _
            · have HX4 := Aside0.mk hx
              clear hx HX
              refine st_ (fun w' => St w w' ([])) backstitchlaw3_ScanClash.tab12 backstitchlaw3_ScanClash.bits12 HSc.out.drew (fun HT_ HW_ hHeld => ?_)
              clear HSc
              generalize wc.drew = w168_ at hHeld ⊢
              have HS169_ := Aside0.mk (show St w w168_ ([]) from hHeld)
              refine pu_ (v := ?_) (a' := ?_) HT_.out 0 (some 100) ?_ ?_ ?_; rotate_left 2; (intro w'; go_simp; with_reducible rfl); (simp only [Act.put, List.setIfInBounds_toArray, List.set_cons_zero, List.set_cons_succ, i64_w, i32_w]; rfl)
              refine pu_ (v := ?_) (a' := ?_) HT_.out 1 (some 101) ?_ ?_ ?_; rotate_left 2; (intro w'; go_simp; with_reducible rfl); (simp only [Act.put, List.setIfInBounds_toArray, List.set_cons_zero, List.set_cons_succ, i64_w, i32_w]; rfl)
              refine pu_ (v := ?_) (a' := ?_) HT_.out 2 (some 102) ?_ ?_ ?_; rotate_left 2; (intro w'; go_simp; with_reducible rfl); (simp only [Act.put, List.setIfInBounds_toArray, List.set_cons_zero, List.set_cons_succ, i64_w, i32_w]; rfl)
              refine tk_ (v := ?_) (a' := ?_) HT_.out HW_.out hHeld 3 (some 103) ?_ ?_ ?_; rotate_left 2; (intro w' hS; have s0 : w'.cell? (adl.add (a.toNat * 2)) = some (.int .i64 x.f0) := (hS.below.cell (World.block_lt_of_cell? w _ HX0.out)).trans HX0.out; have s1 : w'.cell? ⟨(adl.add (a.toNat * 2)).block, (adl.add (a.toNat * 2)).off + 1, none⟩ = some (.int .i64 x.f1) := (hS.below.cell (World.block_lt_of_cell? w _ HX1.out)).trans HX1.out; go_simp; with_reducible rfl); (simp only [Act.put, List.setIfInBounds_toArray, List.set_cons_zero, List.set_cons_succ, i64_w, i32_w]; rfl)
              refine on_ HT_.out 4 (some 104) (fun K hK => ?_)
              refine goes_ Try.func24 (by kernel_rfl) rfl #[.agg #[.int .i64 x.f0, .int .i64 x.f1]] (by rfl) rfl rfl (by simp only [List.map_toArray, List.map_cons, List.map_nil]; rfl) ?_
              with_reducible refine (backstitchref3_Counts.calls x.f0 x.f1 true _ HCX.out).mono ?_
              rintro e_ w170_ ⟨rfl, hb_⟩
              refine ⟨_, rfl, ?_⟩
              have HS171_ := Aside0.mk (HS169_.out.call hb_)
              clear hb_ HS169_ hHeld
              refine hK.out _ _ (HS171_.out) (fun hHeld => ?_)
              clear hK K
              refine norm_ (a' := ?_) ?_ ?_; rotate_left; (show Act.put _ (some 104) _ = _; simp only [Act.put, List.setIfInBounds_toArray, List.set_cons_zero, List.set_cons_succ, i64_w, i32_w]; rfl)
              refine pu_ (v := ?_) (a' := ?_) HT_.out 5 (some 105) ?_ ?_ ?_; rotate_left 2; (intro w'; go_simp; with_reducible rfl); (simp only [Act.put, List.setIfInBounds_toArray, List.set_cons_zero, List.set_cons_succ, i64_w, i32_w]; rfl)
              refine pu_ (v := ?_) (a' := ?_) HT_.out 6 (some 106) ?_ ?_ ?_; rotate_left 2; (intro w'; go_simp; with_reducible rfl); (simp only [Act.put, List.setIfInBounds_toArray, List.set_cons_zero, List.set_cons_succ, i64_w, i32_w]; rfl)
              refine pu_ (v := ?_) (a' := ?_) HT_.out 7 (some 107) ?_ ?_ ?_; rotate_left 2; (intro w'; go_simp; with_reducible rfl); (simp only [Act.put, List.setIfInBounds_toArray, List.set_cons_zero, List.set_cons_succ, i64_w, i32_w]; rfl)
              refine pu_ (v := ?_) (a' := ?_) HT_.out 8 (some 108) ?_ ?_ ?_; rotate_left 2; (intro w'; go_simp; with_reducible rfl); (simp only [Act.put, List.setIfInBounds_toArray, List.set_cons_zero, List.set_cons_succ, i64_w, i32_w]; rfl)
              refine tk_ (v := ?_) (a' := ?_) HT_.out HW_.out hHeld 9 (some 109) ?_ ?_ ?_; rotate_left 2; (intro w' hS; have s0 : w'.cell? (adl.add (b.toNat * 2)) = some (.int .i64 y.f0) := (hS.below.cell (World.block_lt_of_cell? w _ HY0.out)).trans HY0.out; have s1 : w'.cell? ⟨(adl.add (b.toNat * 2)).block, (adl.add (b.toNat * 2)).off + 1, none⟩ = some (.int .i64 y.f1) := (hS.below.cell (World.block_lt_of_cell? w _ HY1.out)).trans HY1.out; go_simp; with_reducible rfl); (simp only [Act.put, List.setIfInBounds_toArray, List.set_cons_zero, List.set_cons_succ, i64_w, i32_w]; rfl)
              refine on_ HT_.out 10 (some 110) (fun K hK => ?_)
              refine goes_ Try.func24 (by kernel_rfl) rfl #[.agg #[.int .i64 y.f0, .int .i64 y.f1]] (by rfl) rfl rfl (by simp only [List.map_toArray, List.map_cons, List.map_nil]; rfl) ?_
              with_reducible refine (backstitchref3_Counts.calls y.f0 y.f1 true _ HCY.out).mono ?_
              rintro e_ w172_ ⟨rfl, hb_⟩
              refine ⟨_, rfl, ?_⟩
              have HS173_ := Aside0.mk (HS171_.out.call hb_)
              clear hb_ HS171_ hHeld
              refine hK.out _ _ (HS173_.out) (fun hHeld => ?_)
              clear hK K
              refine norm_ (a' := ?_) ?_ ?_; rotate_left; (show Act.put _ (some 110) _ = _; simp only [Act.put, List.setIfInBounds_toArray, List.set_cons_zero, List.set_cons_succ, i64_w, i32_w]; rfl)
              refine pu_ (v := ?_) (a' := ?_) HT_.out 11 (some 111) ?_ ?_ ?_; rotate_left 2; (intro w'; go_simp; with_reducible rfl); (simp only [Act.put, List.setIfInBounds_toArray, List.set_cons_zero, List.set_cons_succ, i64_w, i32_w]; rfl)
              refine pu_ (v := ?_) (a' := ?_) HT_.out 12 (some 112) ?_ ?_ ?_; rotate_left 2; (intro w'; go_simp; with_reducible rfl); (simp only [Act.put, List.setIfInBounds_toArray, List.set_cons_zero, List.set_cons_succ, i64_w, i32_w]; rfl)
              refine pu_ (v := ?_) (a' := ?_) HT_.out 13 (some 113) ?_ ?_ ?_; rotate_left 2; (intro w'; go_simp; with_reducible rfl); (simp only [Act.put, List.setIfInBounds_toArray, List.set_cons_zero, List.set_cons_succ, i64_w, i32_w]; rfl)
              refine pu_ (v := ?_) (a' := ?_) HT_.out 14 (some 114) ?_ ?_ ?_; rotate_left 2; (intro w'; go_simp; with_reducible rfl); (simp only [Act.put, List.setIfInBounds_toArray, List.set_cons_zero, List.set_cons_succ, i64_w, i32_w]; rfl)
              refine pu_ (v := ?_) (a' := ?_) HT_.out 15 (some 115) ?_ ?_ ?_; rotate_left 2; (intro w'; go_simp; with_reducible rfl); (simp only [Act.put, List.setIfInBounds_toArray, List.set_cons_zero, List.set_cons_succ, i64_w, i32_w]; rfl)
              refine pu_ (v := ?_) (a' := ?_) HT_.out 17 (some 117) ?_ ?_ ?_; rotate_left 2; (intro w'; go_simp; with_reducible rfl); (simp only [Act.put, List.setIfInBounds_toArray, List.set_cons_zero, List.set_cons_succ, i64_w, i32_w]; rfl)
              refine pu_ (v := ?_) (a' := ?_) HT_.out 18 (some 118) ?_ ?_ ?_; rotate_left 2; (intro w'; go_simp; with_reducible rfl); (simp only [Act.put, List.setIfInBounds_toArray, List.set_cons_zero, List.set_cons_succ, i64_w, i32_w]; rfl)
              refine pu_ (v := ?_) (a' := ?_) HT_.out 19 (some 119) ?_ ?_ ?_; rotate_left 2; (intro w'; go_simp; with_reducible rfl); (simp only [Act.put, List.setIfInBounds_toArray, List.set_cons_zero, List.set_cons_succ, i64_w, i32_w]; rfl)
              refine tk_ (v := ?_) (a' := ?_) HT_.out HW_.out hHeld 16 (some 116) ?_ ?_ ?_; rotate_left 2; (intro w' hS; have s0 : w'.cell? (adl.add (a.toNat * 2)) = some (.int .i64 x.f0) := (hS.below.cell (World.block_lt_of_cell? w _ HX0.out)).trans HX0.out; have s1 : w'.cell? ⟨(adl.add (a.toNat * 2)).block, (adl.add (a.toNat * 2)).off + 1, none⟩ = some (.int .i64 x.f1) := (hS.below.cell (World.block_lt_of_cell? w _ HX1.out)).trans HX1.out; go_simp; with_reducible rfl); (simp only [Act.put, List.setIfInBounds_toArray, List.set_cons_zero, List.set_cons_succ, i64_w, i32_w]; rfl)
              refine tk_ (v := ?_) (a' := ?_) HT_.out HW_.out hHeld 20 (some 120) ?_ ?_ ?_; rotate_left 2; (intro w' hS; have s0 : w'.cell? (adl.add (b.toNat * 2)) = some (.int .i64 y.f0) := (hS.below.cell (World.block_lt_of_cell? w _ HY0.out)).trans HY0.out; have s1 : w'.cell? ⟨(adl.add (b.toNat * 2)).block, (adl.add (b.toNat * 2)).off + 1, none⟩ = some (.int .i64 y.f1) := (hS.below.cell (World.block_lt_of_cell? w _ HY1.out)).trans HY1.out; go_simp; with_reducible rfl); (simp only [Act.put, List.setIfInBounds_toArray, List.set_cons_zero, List.set_cons_succ, i64_w, i32_w]; rfl)
              refine on_ HT_.out 21 (some 121) (fun K hK => ?_)
              refine goes_ Try.func25 (by kernel_rfl) rfl #[.agg #[.int .i64 x.f0, .int .i64 x.f1], .agg #[.int .i64 y.f0, .int .i64 y.f1]] (by rfl) rfl rfl (by simp only [List.map_toArray, List.map_cons, List.map_nil]; rfl) ?_
              with_reducible refine (backstitchref3_Meet.calls x.f0 x.f1 y.f0 y.f1 false _ HMT.out).mono ?_
              rintro e_ w174_ ⟨rfl, hb_⟩
              refine ⟨_, rfl, ?_⟩
              have HS175_ := Aside0.mk (HS173_.out.call hb_)
              clear hb_ HS173_ hHeld
              refine hK.out _ _ (HS175_.out) (fun hHeld => ?_)
              clear hK K
              refine norm_ (a' := ?_) ?_ ?_; rotate_left; (show Act.put _ (some 121) _ = _; simp only [Act.put, List.setIfInBounds_toArray, List.set_cons_zero, List.set_cons_succ, i64_w, i32_w]; rfl)
              refine pu_ (v := ?_) (a' := ?_) HT_.out 22 (some 122) ?_ ?_ ?_; rotate_left 2; (intro w'; go_simp; with_reducible rfl); (simp only [Act.put, List.setIfInBounds_toArray, List.set_cons_zero, List.set_cons_succ, i64_w, i32_w]; rfl)
              refine pu_ (v := ?_) (a' := ?_) HT_.out 23 (some 123) ?_ ?_ ?_; rotate_left 2; (intro w'; go_simp; with_reducible rfl); (simp only [Act.put, List.setIfInBounds_toArray, List.set_cons_zero, List.set_cons_succ, i64_w, i32_w]; rfl)
              refine un_ (a' := ?_) HT_.out 24 (some 124) ?_ ?_; rotate_left; (simp only [Act.put, List.setIfInBounds_toArray, List.set_cons_zero, List.set_cons_succ, i64_w, i32_w]; rfl)
              refine pu_ (v := ?_) (a' := ?_) HT_.out 25 (some 125) ?_ ?_ ?_; rotate_left 2; (intro w'; go_simp; with_reducible rfl); (simp only [Act.put, List.setIfInBounds_toArray, List.set_cons_zero, List.set_cons_succ, i64_w, i32_w]; rfl)
              refine dn_ HT_.out ?_
              clear hHeld HT_ HW_
              go_wp2
              go_roundw
              case rel => exact ⟨b + 1, by first | rw [HWB.out] | rfl, ⟨by omega⟩, HX4, HS175_⟩
              case measure => simp only [intOf]; (try rw [HWB.out]); omega
            rcases sb with _ | _
            · have HX4 := Aside0.mk hx
              clear hx HX
              refine st_ (fun w' => St w w' ([])) backstitchlaw3_ScanClash.tab12 backstitchlaw3_ScanClash.bits12 HSc.out.drew (fun HT_ HW_ hHeld => ?_)
              clear HSc
              generalize wc.drew = w176_ at hHeld ⊢
              have HS177_ := Aside0.mk (show St w w176_ ([]) from hHeld)
              refine pu_ (v := ?_) (a' := ?_) HT_.out 0 (some 100) ?_ ?_ ?_; rotate_left 2; (intro w'; go_simp; with_reducible rfl); (simp only [Act.put, List.setIfInBounds_toArray, List.set_cons_zero, List.set_cons_succ, i64_w, i32_w]; rfl)
              refine pu_ (v := ?_) (a' := ?_) HT_.out 1 (some 101) ?_ ?_ ?_; rotate_left 2; (intro w'; go_simp; with_reducible rfl); (simp only [Act.put, List.setIfInBounds_toArray, List.set_cons_zero, List.set_cons_succ, i64_w, i32_w]; rfl)
              refine pu_ (v := ?_) (a' := ?_) HT_.out 2 (some 102) ?_ ?_ ?_; rotate_left 2; (intro w'; go_simp; with_reducible rfl); (simp only [Act.put, List.setIfInBounds_toArray, List.set_cons_zero, List.set_cons_succ, i64_w, i32_w]; rfl)
              refine tk_ (v := ?_) (a' := ?_) HT_.out HW_.out hHeld 3 (some 103) ?_ ?_ ?_; rotate_left 2; (intro w' hS; have s0 : w'.cell? (adl.add (a.toNat * 2)) = some (.int .i64 x.f0) := (hS.below.cell (World.block_lt_of_cell? w _ HX0.out)).trans HX0.out; have s1 : w'.cell? ⟨(adl.add (a.toNat * 2)).block, (adl.add (a.toNat * 2)).off + 1, none⟩ = some (.int .i64 x.f1) := (hS.below.cell (World.block_lt_of_cell? w _ HX1.out)).trans HX1.out; go_simp; with_reducible rfl); (simp only [Act.put, List.setIfInBounds_toArray, List.set_cons_zero, List.set_cons_succ, i64_w, i32_w]; rfl)
              refine on_ HT_.out 4 (some 104) (fun K hK => ?_)
              refine goes_ Try.func24 (by kernel_rfl) rfl #[.agg #[.int .i64 x.f0, .int .i64 x.f1]] (by rfl) rfl rfl (by simp only [List.map_toArray, List.map_cons, List.map_nil]; rfl) ?_
              with_reducible refine (backstitchref3_Counts.calls x.f0 x.f1 true _ HCX.out).mono ?_
              rintro e_ w178_ ⟨rfl, hb_⟩
              refine ⟨_, rfl, ?_⟩
              have HS179_ := Aside0.mk (HS177_.out.call hb_)
              clear hb_ HS177_ hHeld
              refine hK.out _ _ (HS179_.out) (fun hHeld => ?_)
              clear hK K
              refine norm_ (a' := ?_) ?_ ?_; rotate_left; (show Act.put _ (some 104) _ = _; simp only [Act.put, List.setIfInBounds_toArray, List.set_cons_zero, List.set_cons_succ, i64_w, i32_w]; rfl)
              refine pu_ (v := ?_) (a' := ?_) HT_.out 5 (some 105) ?_ ?_ ?_; rotate_left 2; (intro w'; go_simp; with_reducible rfl); (simp only [Act.put, List.setIfInBounds_toArray, List.set_cons_zero, List.set_cons_succ, i64_w, i32_w]; rfl)
              refine pu_ (v := ?_) (a' := ?_) HT_.out 6 (some 106) ?_ ?_ ?_; rotate_left 2; (intro w'; go_simp; with_reducible rfl); (simp only [Act.put, List.setIfInBounds_toArray, List.set_cons_zero, List.set_cons_succ, i64_w, i32_w]; rfl)
              refine pu_ (v := ?_) (a' := ?_) HT_.out 7 (some 107) ?_ ?_ ?_; rotate_left 2; (intro w'; go_simp; with_reducible rfl); (simp only [Act.put, List.setIfInBounds_toArray, List.set_cons_zero, List.set_cons_succ, i64_w, i32_w]; rfl)
              refine pu_ (v := ?_) (a' := ?_) HT_.out 8 (some 108) ?_ ?_ ?_; rotate_left 2; (intro w'; go_simp; with_reducible rfl); (simp only [Act.put, List.setIfInBounds_toArray, List.set_cons_zero, List.set_cons_succ, i64_w, i32_w]; rfl)
              refine tk_ (v := ?_) (a' := ?_) HT_.out HW_.out hHeld 9 (some 109) ?_ ?_ ?_; rotate_left 2; (intro w' hS; have s0 : w'.cell? (adl.add (b.toNat * 2)) = some (.int .i64 y.f0) := (hS.below.cell (World.block_lt_of_cell? w _ HY0.out)).trans HY0.out; have s1 : w'.cell? ⟨(adl.add (b.toNat * 2)).block, (adl.add (b.toNat * 2)).off + 1, none⟩ = some (.int .i64 y.f1) := (hS.below.cell (World.block_lt_of_cell? w _ HY1.out)).trans HY1.out; go_simp; with_reducible rfl); (simp only [Act.put, List.setIfInBounds_toArray, List.set_cons_zero, List.set_cons_succ, i64_w, i32_w]; rfl)
              refine on_ HT_.out 10 (some 110) (fun K hK => ?_)
              refine goes_ Try.func24 (by kernel_rfl) rfl #[.agg #[.int .i64 y.f0, .int .i64 y.f1]] (by rfl) rfl rfl (by simp only [List.map_toArray, List.map_cons, List.map_nil]; rfl) ?_
              with_reducible refine (backstitchref3_Counts.calls y.f0 y.f1 true _ HCY.out).mono ?_
              rintro e_ w180_ ⟨rfl, hb_⟩
              refine ⟨_, rfl, ?_⟩
              have HS181_ := Aside0.mk (HS179_.out.call hb_)
              clear hb_ HS179_ hHeld
              refine hK.out _ _ (HS181_.out) (fun hHeld => ?_)
              clear hK K
              refine norm_ (a' := ?_) ?_ ?_; rotate_left; (show Act.put _ (some 110) _ = _; simp only [Act.put, List.setIfInBounds_toArray, List.set_cons_zero, List.set_cons_succ, i64_w, i32_w]; rfl)
              refine pu_ (v := ?_) (a' := ?_) HT_.out 11 (some 111) ?_ ?_ ?_; rotate_left 2; (intro w'; go_simp; with_reducible rfl); (simp only [Act.put, List.setIfInBounds_toArray, List.set_cons_zero, List.set_cons_succ, i64_w, i32_w]; rfl)
              refine pu_ (v := ?_) (a' := ?_) HT_.out 12 (some 112) ?_ ?_ ?_; rotate_left 2; (intro w'; go_simp; with_reducible rfl); (simp only [Act.put, List.setIfInBounds_toArray, List.set_cons_zero, List.set_cons_succ, i64_w, i32_w]; rfl)
              refine pu_ (v := ?_) (a' := ?_) HT_.out 13 (some 113) ?_ ?_ ?_; rotate_left 2; (intro w'; go_simp; with_reducible rfl); (simp only [Act.put, List.setIfInBounds_toArray, List.set_cons_zero, List.set_cons_succ, i64_w, i32_w]; rfl)
              refine pu_ (v := ?_) (a' := ?_) HT_.out 14 (some 114) ?_ ?_ ?_; rotate_left 2; (intro w'; go_simp; with_reducible rfl); (simp only [Act.put, List.setIfInBounds_toArray, List.set_cons_zero, List.set_cons_succ, i64_w, i32_w]; rfl)
              refine pu_ (v := ?_) (a' := ?_) HT_.out 15 (some 115) ?_ ?_ ?_; rotate_left 2; (intro w'; go_simp; with_reducible rfl); (simp only [Act.put, List.setIfInBounds_toArray, List.set_cons_zero, List.set_cons_succ, i64_w, i32_w]; rfl)
              refine pu_ (v := ?_) (a' := ?_) HT_.out 17 (some 117) ?_ ?_ ?_; rotate_left 2; (intro w'; go_simp; with_reducible rfl); (simp only [Act.put, List.setIfInBounds_toArray, List.set_cons_zero, List.set_cons_succ, i64_w, i32_w]; rfl)
              refine pu_ (v := ?_) (a' := ?_) HT_.out 18 (some 118) ?_ ?_ ?_; rotate_left 2; (intro w'; go_simp; with_reducible rfl); (simp only [Act.put, List.setIfInBounds_toArray, List.set_cons_zero, List.set_cons_succ, i64_w, i32_w]; rfl)
              refine pu_ (v := ?_) (a' := ?_) HT_.out 19 (some 119) ?_ ?_ ?_; rotate_left 2; (intro w'; go_simp; with_reducible rfl); (simp only [Act.put, List.setIfInBounds_toArray, List.set_cons_zero, List.set_cons_succ, i64_w, i32_w]; rfl)
              refine tk_ (v := ?_) (a' := ?_) HT_.out HW_.out hHeld 16 (some 116) ?_ ?_ ?_; rotate_left 2; (intro w' hS; have s0 : w'.cell? (adl.add (a.toNat * 2)) = some (.int .i64 x.f0) := (hS.below.cell (World.block_lt_of_cell? w _ HX0.out)).trans HX0.out; have s1 : w'.cell? ⟨(adl.add (a.toNat * 2)).block, (adl.add (a.toNat * 2)).off + 1, none⟩ = some (.int .i64 x.f1) := (hS.below.cell (World.block_lt_of_cell? w _ HX1.out)).trans HX1.out; go_simp; with_reducible rfl); (simp only [Act.put, List.setIfInBounds_toArray, List.set_cons_zero, List.set_cons_succ, i64_w, i32_w]; rfl)
              refine tk_ (v := ?_) (a' := ?_) HT_.out HW_.out hHeld 20 (some 120) ?_ ?_ ?_; rotate_left 2; (intro w' hS; have s0 : w'.cell? (adl.add (b.toNat * 2)) = some (.int .i64 y.f0) := (hS.below.cell (World.block_lt_of_cell? w _ HY0.out)).trans HY0.out; have s1 : w'.cell? ⟨(adl.add (b.toNat * 2)).block, (adl.add (b.toNat * 2)).off + 1, none⟩ = some (.int .i64 y.f1) := (hS.below.cell (World.block_lt_of_cell? w _ HY1.out)).trans HY1.out; go_simp; with_reducible rfl); (simp only [Act.put, List.setIfInBounds_toArray, List.set_cons_zero, List.set_cons_succ, i64_w, i32_w]; rfl)
              refine on_ HT_.out 21 (some 121) (fun K hK => ?_)
              refine goes_ Try.func25 (by kernel_rfl) rfl #[.agg #[.int .i64 x.f0, .int .i64 x.f1], .agg #[.int .i64 y.f0, .int .i64 y.f1]] (by rfl) rfl rfl (by simp only [List.map_toArray, List.map_cons, List.map_nil]; rfl) ?_
              with_reducible refine (backstitchref3_Meet.calls x.f0 x.f1 y.f0 y.f1 true _ HMT.out).mono ?_
              rintro e_ w182_ ⟨rfl, hb_⟩
              refine ⟨_, rfl, ?_⟩
              have HS183_ := Aside0.mk (HS181_.out.call hb_)
              clear hb_ HS181_ hHeld
              refine hK.out _ _ (HS183_.out) (fun hHeld => ?_)
              clear hK K
              refine norm_ (a' := ?_) ?_ ?_; rotate_left; (show Act.put _ (some 121) _ = _; simp only [Act.put, List.setIfInBounds_toArray, List.set_cons_zero, List.set_cons_succ, i64_w, i32_w]; rfl)
              refine pu_ (v := ?_) (a' := ?_) HT_.out 22 (some 122) ?_ ?_ ?_; rotate_left 2; (intro w'; go_simp; with_reducible rfl); (simp only [Act.put, List.setIfInBounds_toArray, List.set_cons_zero, List.set_cons_succ, i64_w, i32_w]; rfl)
              refine pu_ (v := ?_) (a' := ?_) HT_.out 23 (some 123) ?_ ?_ ?_; rotate_left 2; (intro w'; go_simp; with_reducible rfl); (simp only [Act.put, List.setIfInBounds_toArray, List.set_cons_zero, List.set_cons_succ, i64_w, i32_w]; rfl)
              refine pu_ (v := ?_) (a' := ?_) HT_.out 24 (some 124) ?_ ?_ ?_; rotate_left 2; (intro w'; go_simp; with_reducible rfl); (simp only [Act.put, List.setIfInBounds_toArray, List.set_cons_zero, List.set_cons_succ, i64_w, i32_w]; rfl)
              refine pu_ (v := ?_) (a' := ?_) HT_.out 25 (some 125) ?_ ?_ ?_; rotate_left 2; (intro w'; go_simp; with_reducible rfl); (simp only [Act.put, List.setIfInBounds_toArray, List.set_cons_zero, List.set_cons_succ, i64_w, i32_w]; rfl)
              refine dn_ HT_.out ?_
              clear hHeld HT_ HW_
              go_wp2
              go_roundw
              case rel => exact ⟨b + 1, by first | rw [HWB.out] | rfl, ⟨by omega⟩, HX4, HS183_⟩
              case measure => simp only [intOf]; (try rw [HWB.out]); omega
            have hx2 : some (a, b) = s := hx
            have hres := HRES.out
            rw [← hx2] at hres
            simp only [resS, Prod.mk.injEq] at hres
            obtain ⟨e1, e2, rfl⟩ := hres
            obtain rfl := e1.symm
            obtain rfl := e2.symm
            clear hx hx2 HX HRES
            refine st_ (fun w' => St w w' ([])) backstitchlaw3_ScanClash.tab12 backstitchlaw3_ScanClash.bits12 HSc.out.drew (fun HT_ HW_ hHeld => ?_)
            clear HSc
            generalize wc.drew = w184_ at hHeld ⊢
            have HS185_ := Aside0.mk (show St w w184_ ([]) from hHeld)
            refine pu_ (v := ?_) (a' := ?_) HT_.out 0 (some 100) ?_ ?_ ?_; rotate_left 2; (intro w'; go_simp; with_reducible rfl); (simp only [Act.put, List.setIfInBounds_toArray, List.set_cons_zero, List.set_cons_succ, i64_w, i32_w]; rfl)
            refine pu_ (v := ?_) (a' := ?_) HT_.out 1 (some 101) ?_ ?_ ?_; rotate_left 2; (intro w'; go_simp; with_reducible rfl); (simp only [Act.put, List.setIfInBounds_toArray, List.set_cons_zero, List.set_cons_succ, i64_w, i32_w]; rfl)
            refine pu_ (v := ?_) (a' := ?_) HT_.out 2 (some 102) ?_ ?_ ?_; rotate_left 2; (intro w'; go_simp; with_reducible rfl); (simp only [Act.put, List.setIfInBounds_toArray, List.set_cons_zero, List.set_cons_succ, i64_w, i32_w]; rfl)
            refine tk_ (v := ?_) (a' := ?_) HT_.out HW_.out hHeld 3 (some 103) ?_ ?_ ?_; rotate_left 2; (intro w' hS; have s0 : w'.cell? (adl.add (a.toNat * 2)) = some (.int .i64 x.f0) := (hS.below.cell (World.block_lt_of_cell? w _ HX0.out)).trans HX0.out; have s1 : w'.cell? ⟨(adl.add (a.toNat * 2)).block, (adl.add (a.toNat * 2)).off + 1, none⟩ = some (.int .i64 x.f1) := (hS.below.cell (World.block_lt_of_cell? w _ HX1.out)).trans HX1.out; go_simp; with_reducible rfl); (simp only [Act.put, List.setIfInBounds_toArray, List.set_cons_zero, List.set_cons_succ, i64_w, i32_w]; rfl)
            refine on_ HT_.out 4 (some 104) (fun K hK => ?_)
            refine goes_ Try.func24 (by kernel_rfl) rfl #[.agg #[.int .i64 x.f0, .int .i64 x.f1]] (by rfl) rfl rfl (by simp only [List.map_toArray, List.map_cons, List.map_nil]; rfl) ?_
            with_reducible refine (backstitchref3_Counts.calls x.f0 x.f1 true _ HCX.out).mono ?_
            rintro e_ w186_ ⟨rfl, hb_⟩
            refine ⟨_, rfl, ?_⟩
            have HS187_ := Aside0.mk (HS185_.out.call hb_)
            clear hb_ HS185_ hHeld
            refine hK.out _ _ (HS187_.out) (fun hHeld => ?_)
            clear hK K
            refine norm_ (a' := ?_) ?_ ?_; rotate_left; (show Act.put _ (some 104) _ = _; simp only [Act.put, List.setIfInBounds_toArray, List.set_cons_zero, List.set_cons_succ, i64_w, i32_w]; rfl)
            refine pu_ (v := ?_) (a' := ?_) HT_.out 5 (some 105) ?_ ?_ ?_; rotate_left 2; (intro w'; go_simp; with_reducible rfl); (simp only [Act.put, List.setIfInBounds_toArray, List.set_cons_zero, List.set_cons_succ, i64_w, i32_w]; rfl)
            refine pu_ (v := ?_) (a' := ?_) HT_.out 6 (some 106) ?_ ?_ ?_; rotate_left 2; (intro w'; go_simp; with_reducible rfl); (simp only [Act.put, List.setIfInBounds_toArray, List.set_cons_zero, List.set_cons_succ, i64_w, i32_w]; rfl)
            refine pu_ (v := ?_) (a' := ?_) HT_.out 7 (some 107) ?_ ?_ ?_; rotate_left 2; (intro w'; go_simp; with_reducible rfl); (simp only [Act.put, List.setIfInBounds_toArray, List.set_cons_zero, List.set_cons_succ, i64_w, i32_w]; rfl)
            refine pu_ (v := ?_) (a' := ?_) HT_.out 8 (some 108) ?_ ?_ ?_; rotate_left 2; (intro w'; go_simp; with_reducible rfl); (simp only [Act.put, List.setIfInBounds_toArray, List.set_cons_zero, List.set_cons_succ, i64_w, i32_w]; rfl)
            refine tk_ (v := ?_) (a' := ?_) HT_.out HW_.out hHeld 9 (some 109) ?_ ?_ ?_; rotate_left 2; (intro w' hS; have s0 : w'.cell? (adl.add (b.toNat * 2)) = some (.int .i64 y.f0) := (hS.below.cell (World.block_lt_of_cell? w _ HY0.out)).trans HY0.out; have s1 : w'.cell? ⟨(adl.add (b.toNat * 2)).block, (adl.add (b.toNat * 2)).off + 1, none⟩ = some (.int .i64 y.f1) := (hS.below.cell (World.block_lt_of_cell? w _ HY1.out)).trans HY1.out; go_simp; with_reducible rfl); (simp only [Act.put, List.setIfInBounds_toArray, List.set_cons_zero, List.set_cons_succ, i64_w, i32_w]; rfl)
            refine on_ HT_.out 10 (some 110) (fun K hK => ?_)
            refine goes_ Try.func24 (by kernel_rfl) rfl #[.agg #[.int .i64 y.f0, .int .i64 y.f1]] (by rfl) rfl rfl (by simp only [List.map_toArray, List.map_cons, List.map_nil]; rfl) ?_
            with_reducible refine (backstitchref3_Counts.calls y.f0 y.f1 true _ HCY.out).mono ?_
            rintro e_ w188_ ⟨rfl, hb_⟩
            refine ⟨_, rfl, ?_⟩
            have HS189_ := Aside0.mk (HS187_.out.call hb_)
            clear hb_ HS187_ hHeld
            refine hK.out _ _ (HS189_.out) (fun hHeld => ?_)
            clear hK K
            refine norm_ (a' := ?_) ?_ ?_; rotate_left; (show Act.put _ (some 110) _ = _; simp only [Act.put, List.setIfInBounds_toArray, List.set_cons_zero, List.set_cons_succ, i64_w, i32_w]; rfl)
            refine pu_ (v := ?_) (a' := ?_) HT_.out 11 (some 111) ?_ ?_ ?_; rotate_left 2; (intro w'; go_simp; with_reducible rfl); (simp only [Act.put, List.setIfInBounds_toArray, List.set_cons_zero, List.set_cons_succ, i64_w, i32_w]; rfl)
            refine pu_ (v := ?_) (a' := ?_) HT_.out 12 (some 112) ?_ ?_ ?_; rotate_left 2; (intro w'; go_simp; with_reducible rfl); (simp only [Act.put, List.setIfInBounds_toArray, List.set_cons_zero, List.set_cons_succ, i64_w, i32_w]; rfl)
            refine pu_ (v := ?_) (a' := ?_) HT_.out 13 (some 113) ?_ ?_ ?_; rotate_left 2; (intro w'; go_simp; with_reducible rfl); (simp only [Act.put, List.setIfInBounds_toArray, List.set_cons_zero, List.set_cons_succ, i64_w, i32_w]; rfl)
            refine pu_ (v := ?_) (a' := ?_) HT_.out 14 (some 114) ?_ ?_ ?_; rotate_left 2; (intro w'; go_simp; with_reducible rfl); (simp only [Act.put, List.setIfInBounds_toArray, List.set_cons_zero, List.set_cons_succ, i64_w, i32_w]; rfl)
            refine pu_ (v := ?_) (a' := ?_) HT_.out 15 (some 115) ?_ ?_ ?_; rotate_left 2; (intro w'; go_simp; with_reducible rfl); (simp only [Act.put, List.setIfInBounds_toArray, List.set_cons_zero, List.set_cons_succ, i64_w, i32_w]; rfl)
            refine pu_ (v := ?_) (a' := ?_) HT_.out 17 (some 117) ?_ ?_ ?_; rotate_left 2; (intro w'; go_simp; with_reducible rfl); (simp only [Act.put, List.setIfInBounds_toArray, List.set_cons_zero, List.set_cons_succ, i64_w, i32_w]; rfl)
            refine pu_ (v := ?_) (a' := ?_) HT_.out 18 (some 118) ?_ ?_ ?_; rotate_left 2; (intro w'; go_simp; with_reducible rfl); (simp only [Act.put, List.setIfInBounds_toArray, List.set_cons_zero, List.set_cons_succ, i64_w, i32_w]; rfl)
            refine pu_ (v := ?_) (a' := ?_) HT_.out 19 (some 119) ?_ ?_ ?_; rotate_left 2; (intro w'; go_simp; with_reducible rfl); (simp only [Act.put, List.setIfInBounds_toArray, List.set_cons_zero, List.set_cons_succ, i64_w, i32_w]; rfl)
            refine tk_ (v := ?_) (a' := ?_) HT_.out HW_.out hHeld 16 (some 116) ?_ ?_ ?_; rotate_left 2; (intro w' hS; have s0 : w'.cell? (adl.add (a.toNat * 2)) = some (.int .i64 x.f0) := (hS.below.cell (World.block_lt_of_cell? w _ HX0.out)).trans HX0.out; have s1 : w'.cell? ⟨(adl.add (a.toNat * 2)).block, (adl.add (a.toNat * 2)).off + 1, none⟩ = some (.int .i64 x.f1) := (hS.below.cell (World.block_lt_of_cell? w _ HX1.out)).trans HX1.out; go_simp; with_reducible rfl); (simp only [Act.put, List.setIfInBounds_toArray, List.set_cons_zero, List.set_cons_succ, i64_w, i32_w]; rfl)
            refine tk_ (v := ?_) (a' := ?_) HT_.out HW_.out hHeld 20 (some 120) ?_ ?_ ?_; rotate_left 2; (intro w' hS; have s0 : w'.cell? (adl.add (b.toNat * 2)) = some (.int .i64 y.f0) := (hS.below.cell (World.block_lt_of_cell? w _ HY0.out)).trans HY0.out; have s1 : w'.cell? ⟨(adl.add (b.toNat * 2)).block, (adl.add (b.toNat * 2)).off + 1, none⟩ = some (.int .i64 y.f1) := (hS.below.cell (World.block_lt_of_cell? w _ HY1.out)).trans HY1.out; go_simp; with_reducible rfl); (simp only [Act.put, List.setIfInBounds_toArray, List.set_cons_zero, List.set_cons_succ, i64_w, i32_w]; rfl)
            refine on_ HT_.out 21 (some 121) (fun K hK => ?_)
            refine goes_ Try.func25 (by kernel_rfl) rfl #[.agg #[.int .i64 x.f0, .int .i64 x.f1], .agg #[.int .i64 y.f0, .int .i64 y.f1]] (by rfl) rfl rfl (by simp only [List.map_toArray, List.map_cons, List.map_nil]; rfl) ?_
            with_reducible refine (backstitchref3_Meet.calls x.f0 x.f1 y.f0 y.f1 true _ HMT.out).mono ?_
            rintro e_ w190_ ⟨rfl, hb_⟩
            refine ⟨_, rfl, ?_⟩
            have HS191_ := Aside0.mk (HS189_.out.call hb_)
            clear hb_ HS189_ hHeld
            refine hK.out _ _ (HS191_.out) (fun hHeld => ?_)
            clear hK K
            refine norm_ (a' := ?_) ?_ ?_; rotate_left; (show Act.put _ (some 121) _ = _; simp only [Act.put, List.setIfInBounds_toArray, List.set_cons_zero, List.set_cons_succ, i64_w, i32_w]; rfl)
            refine pu_ (v := ?_) (a' := ?_) HT_.out 22 (some 122) ?_ ?_ ?_; rotate_left 2; (intro w'; go_simp; with_reducible rfl); (simp only [Act.put, List.setIfInBounds_toArray, List.set_cons_zero, List.set_cons_succ, i64_w, i32_w]; rfl)
            refine pu_ (v := ?_) (a' := ?_) HT_.out 23 (some 123) ?_ ?_ ?_; rotate_left 2; (intro w'; go_simp; with_reducible rfl); (simp only [Act.put, List.setIfInBounds_toArray, List.set_cons_zero, List.set_cons_succ, i64_w, i32_w]; rfl)
            refine pu_ (v := ?_) (a' := ?_) HT_.out 24 (some 124) ?_ ?_ ?_; rotate_left 2; (intro w'; go_simp; with_reducible rfl); (simp only [Act.put, List.setIfInBounds_toArray, List.set_cons_zero, List.set_cons_succ, i64_w, i32_w]; rfl)
            refine pu_ (v := ?_) (a' := ?_) HT_.out 25 (some 125) ?_ ?_ ?_; rotate_left 2; (intro w'; go_simp; with_reducible rfl); (simp only [Act.put, List.setIfInBounds_toArray, List.set_cons_zero, List.set_cons_succ, i64_w, i32_w]; rfl)
            refine dn_ HT_.out ?_
            clear hHeld HT_ HW_
            go_wp2
            go_ret
            exact ⟨by first | rfl | simp, HS191_.out.below⟩
        · have htb : decide (b < N) = false := decide_eq_false hltb
          have hx := HX.out
          rw [show (N - b).toNat = 0 by omega, inF] at hx
          have HX4 := Aside0.mk hx
          clear hx HX
          go_wp2
          go_roundw
          case rel => exact ⟨a + 1, by first | rw [HW.out] | rfl, ⟨by omega⟩, HX4, HSr⟩
          case measure => simp only [intOf]; (try rw [HW.out]); omega
    · have ht : decide (a < N) = false := decide_eq_false hlt
      have hx := HX.out
      rw [show (N - a).toNat = 0 by omega, outF] at hx
      have hres := HRES.out
      rw [← hx] at hres
      simp only [resS, Prod.mk.injEq] at hres
      obtain ⟨rfl, rfl, rfl⟩ := hres
      clear hx HX HRES
      go_wp2
      go_ret
      exact ⟨by first | rfl | simp, HSr.out.below⟩
end

end Go.Proofs.Ytlojkphocbbjdab.PScanClash
