-- Printed for this claim by a program of this session (inj.py), beside the kit's print. Not trusted: Lean checks it.
import Derived.Test.YtlojkphocbbjdabPScanClashx0
import Derived.Test.YtlojkphocbbjdabPScanClashx2
namespace Go.Proofs.Ytlojkphocbbjdab.PScanClash
open Go.RowKit Go.Proofs.YtlojkphocbbjdabW.PrintWords Go.Proofs.YtlojkphocbbjdabW.PrintLast Go.Proofs.YtlojkphocbbjdabW.PrintMore
attribute [local go_sem] max2_int min2_int max_two min_two max_three min_three max_four min_four   -- for this text's walks alone
set_option linter.unusedVariables false
set_option linter.unusedSimpArgs false

/-! ### scan_reg: function 149 -/
def scan_reg.f (a0_0 : Int) (a0_1 : Int) : Option (Int) := some a0_0
set_option maxHeartbeats 8000000 in
set_option maxRecDepth 100000 in
theorem scan_reg.calls (a0_0 : Int) (a0_1 : Int) (r : Int) (w : World) (h : scan_reg.f a0_0 a0_1 = some r) :
    Calls Try.prog 149 #[.agg #[.int .i64 a0_0, .int .i64 a0_1]] w fun e w' => e = .returned (.int .i64 r) ∧ Below w.heap.size w w' := by
  have hu54 := Try.underlying54
  have HB := Aside0.mk (Below.refl w.heap.size w)
  have H : (some a0_0) = some r := h
  clear h
  obtain rfl := Option.some.inj H
  go_enter Try.func149, Try.ntmps149
  go_wp2_with (first | ((with_reducible refine gate_dst (N := 1) rfl ?_); refine box_event ?hg (N := 1) ?hd (cs := #[.int .i64 a0_0, .int .i64 a0_1]) (t := 54) ?hr ?_; (case hd => rfl); (case hg => rfl); (case hr => first | (go_simp; done) | (go_simp; rfl)); intro gb108 hg w2 hbox hb; have n0_ := Aside0.mk (below_step (by repeat (first | (with_reducible first | exact HB.out | apply below_alloc | apply pw_below_drewN | apply below_drew1) | exact HB.out)) hb); have n1_ := Aside0.mk (hbox); have n2_ := Aside0.mk ((by rw [hg]; exact (below_size (by repeat (first | (with_reducible first | exact HB.out | apply below_alloc | apply pw_below_drewN | apply below_drew1) | exact HB.out))) : w.heap.size ≤ gb108)); have n3_ := Aside0.mk ((by rw [hg]; exact (below_size (by repeat (first | (with_reducible first | exact HB.out | apply below_alloc | apply pw_below_drewN | apply below_drew1) | exact HB.out))) : w.heap.size ≤ gb108)); clear HB; have HB := n0_; have BK108 := n1_; have GW108 := n2_; have GE108 := n3_; clear n0_ n1_ n2_ n3_; clear hb hbox hg; have hcz3_0 : w2.cell? ⟨gb108, 0, none⟩ = some (.int .i64 a0_0) := (blk_cell BK108.out 0).trans rfl; have hcz3_1 : w2.cell? ⟨gb108, 1, none⟩ = some (.int .i64 a0_1) := (blk_cell BK108.out 1).trans rfl; have hfz3_0 := blk_frozen BK108.out 0; have hfz3_1 := blk_frozen BK108.out 1))
  go_ret
  exact ⟨by first | rfl | (simp [errW_none, errW_some] <;> rfl) | (simp [*, errW_none, errW_some] <;> rfl), by repeat (first | (with_reducible first | exact HB.out | apply below_alloc | apply pw_below_drewN | apply below_drew1 | refine below_set ?_ GE108.out) | exact HB.out)⟩

/-! ### scan_scanner_longest: function 150 -/
section
open Go.Maps Go.Proofs.YtlojkphocbbjdabW.Sep Go.Proofs.YtlojkphocbbjdabW.Mapw Go.Proofs.YtlojkphocbbjdabW.Reg
def scan_scanner_longest.T5 : Bool × List (List Nat × List Nat) := (true, [([], []), ([], []), ([0, 1], [0, 1]), ([2], [2]), ([3], [3]), ([4, 3], [3, 4]), ([5, 3], [3, 5]), ([6, 3], [3, 6]), ([3], [3]), ([7, 8, 3], [3, 7, 8]), ([9, 3], [3, 9]), ([10, 3], [3, 10]), ([11, 3], [3, 11]), ([12, 3, 3], [3, 12]), ([13], [13]), ([14, 13], [13, 14]), ([15, 13], [13, 15]), ([16, 13], [13, 16]), ([13], [13]), ([17, 18, 13], [13, 17, 18]), ([19, 13], [13, 19]), ([13], [13]), ([21, 13], [13, 21]), ([22, 13], [13, 22]), ([23, 13], [13, 23]), ([13], [13]), ([24, 25, 13], [13, 24, 25]), ([26, 13], [13, 26]), ([20, 27, 13, 13], [13, 20, 27]), ([28, 13], [13, 28]), ([13, 29, 3], [3, 13, 29]), ([3, 30], [3, 30])])
def scan_scanner_longest.B5 : List Nat := [0, 0, 3, 7, 15, 31, 63, 127, 15, 511, 1023, 2047, 4095, 8191, 16383, 32767, 65535, 131071, 16383, 524287, 1048575, 16383, 2113535, 6307839, 14696447, 16383, 65028095, 132136959, 268435455, 536870911, 1073741823, 2147483647]
theorem scan_scanner_longest.tab5 : rtab .any (opsOf Try.f150 5) = scan_scanner_longest.T5 := by kernel_rfl
theorem scan_scanner_longest.bits5 : waitsOk scan_scanner_longest.T5.2 scan_scanner_longest.B5 = true := by kernel_rfl
def scan_scanner_longest.T6 : Bool × List (List Nat × List Nat) := (true, [([], []), ([0], [0]), ([1], [1]), ([2], [2]), ([3, 2], [2, 3]), ([4, 2], [2, 4]), ([5, 2], [2, 5]), ([2], [2]), ([6, 7, 2], [2, 6, 7]), ([8, 2], [2, 8]), ([9, 2], [2, 9]), ([2], [2]), ([11, 2], [2, 11]), ([12, 2], [2, 12]), ([13, 2], [2, 13]), ([2], [2]), ([14, 15, 2], [2, 14, 15]), ([16, 2], [2, 16]), ([17, 2], [2, 17]), ([10, 18, 2], [2, 10, 18]), ([2, 19], [2, 19])])
def scan_scanner_longest.B6 : List Nat := [0, 1, 3, 7, 15, 31, 63, 7, 255, 511, 1023, 7, 2055, 6151, 14343, 7, 63495, 129031, 260103, 524287, 1048575]
theorem scan_scanner_longest.tab6 : rtab .any (opsOf Try.f150 6) = scan_scanner_longest.T6 := by kernel_rfl
theorem scan_scanner_longest.bits6 : waitsOk scan_scanner_longest.T6.2 scan_scanner_longest.B6 = true := by kernel_rfl
def stepL (l : List S60) (k out : Int) : Option Int := if out < 0 then some k else if out < (l.length : Int) then some (if (rd_T60 l out).f1 ≤ (rd_T60 l k).f1 then k else out) else none
def longF (l : List S60) (at_ : List S54) (n : Int) : List Int → Int → Option Int
  | [], out => some out
  | k :: o, out => if 0 ≤ k ∧ k < (at_.length : Int) ∧ k < (l.length : Int) then (if k = n then (stepL l k out).bind (longF l at_ n o) else if (rd_T54 at_ k).f0 < 0 then longF l at_ n o out else (scan_meet.f (rd_T60 l k).f0 (rd_T60 l k).f1 (rd_T60 l n).f0 (rd_T60 l n).f1).bind fun b => if b = true then (stepL l k out).bind (longF l at_ n o) else longF l at_ n o out) else none
def longS (l : List S60) (at_ : List S54) (n : Int) (o : List Int) : Option Int := if 0 ≤ n ∧ n < (l.length : Int) ∧ o.length < 1000000 then longF l at_ n o (-1) else none
set_option maxHeartbeats 8000000 in
set_option maxRecDepth 100000 in
theorem longest_walk (w0 w : World) (L : List Asn) (g : Nat) (Al : Option Addr) (cl : Nat) (l : List S60) (Aa : Option Addr) (ca : Nat) (at_ : List S54) (Ao : Option Addr) (co : Nat) (o : List Int) (n r : Int) (hl : Kd.C k60 w0 Al l.length l) (hS : St w0 w ((blkA g #[.slice Al l.length cl, .slice Aa at_.length ca, .slice Ao o.length co] 128) :: (rowA w0.heap.size k54 54 (.slice Aa at_.length ca) at_) :: (rowA w0.heap.size (Kd.int .i64) 3 (.slice Ao o.length co) o) :: L)) (h : longS l at_ n o = some r) :
    Calls Try.prog 150 #[.pointer (some ⟨g, 0, none⟩), .int .i64 n] w fun e w' => e = .returned (.int .i64 r) ∧ St w0 w' ((blkA g #[.slice Al l.length cl, .slice Aa at_.length ca, .slice Ao o.length co] 128) :: (rowA w0.heap.size k54 54 (.slice Aa at_.length ca) at_) :: (rowA w0.heap.size (Kd.int .i64) 3 (.slice Ao o.length co) o) :: L) := by
  unfold longS at h
  split at h
  case isFalse => cases h
  rename_i hn
  have HL := Aside0.mk hl
  have HN := Aside0.mk hn
  have HX0 := Aside0.mk (show longF l at_ n (o.drop (0 : Int).toNat) (-1) = some r from h)
  have HS0 := Aside0.mk hS
  have cm_ : w.cell? ⟨g, 2, none⟩ = some (.slice Ao o.length co) := (HS0.out.cell 0 rfl 2).trans rfl
  clear hl hn h hS
  go_enter Try.func150, Try.ntmps150
  go_wp2
  clear cm_
  go_loopw [13, 5] (fun v13 v5 wr => ∃ (i out : Int), v13 = .int .i64 i ∧ v5 = .int .i64 out ∧ Aside0 (0 ≤ i ∧ i ≤ o.length) ∧ Aside0 (longF l at_ n (o.drop i.toNat) out = some r) ∧ Aside0 (St w0 wr ((blkA g #[.slice Al l.length cl, .slice Aa at_.length ca, .slice Ao o.length co] 128) :: (rowA w0.heap.size k54 54 (.slice Aa at_.length ca) at_) :: (rowA w0.heap.size (Kd.int .i64) 3 (.slice Ao o.length co) o) :: L))) (fun v13 _ _ => o.length - (intOf v13).toNat)
  case atStart => exact ⟨0, -1, rfl, rfl, ⟨by omega⟩, HX0, HS0⟩
  case round =>
    clear HS0 HX0
    obtain ⟨i, out, rfl, rfl, Hi, HX, HSr⟩ := hrel
    have hi0 : 0 ≤ i := Hi.out.1
    by_cases hlt : i < (o.length : Int)
    · have ht : decide (i < (o.length : Int)) = true := decide_eq_true hlt
      have HW := Aside0.mk (show wrap64 (i + 1) = i + 1 by have := HN.out; unfold wrap64; omega)
      have hd : o.drop i.toNat = rd o i :: o.drop (i + 1).toNat := by
        rw [List.drop_eq_getElem_cons (by omega), show (i + 1).toNat = i.toNat + 1 by omega]
        congr 1
        rw [rd, List.getD_eq_getElem?_getD, List.getElem?_eq_getElem (by omega), Option.getD_some]
      have hx := HX.out
      rw [hd, longF] at hx
      clear hd HX
      obtain ⟨ado, e, hk⟩ := Kd.at_int (Kd.R_reads' (HSr.out.row 2 rfl)).2.2 i hi0 hlt
      cases e
      generalize rd o i = k at *
      split at hx
      case isFalse => cases hx
      rename_i hb
      obtain ⟨k0, k1, k2⟩ := hb
      have K0 := Aside0.mk k0
      have K1 := Aside0.mk k1
      obtain ⟨ada, e, hm0, hm1⟩ := at_T54 (Kd.R_reads' (HSr.out.row 1 rfl)).2.2 k k0 k1
      cases e
      clear hm0 hm1
      obtain ⟨m, hmk⟩ : ∃ m, rd_T54 at_ k = m := ⟨_, rfl⟩
      rw [hmk] at hx
      have HMK := Aside0.mk hmk
      have hn0 := HN.out.1
      have hn1 := HN.out.2.1
      obtain ⟨adl, e, hx0, hx1⟩ := at_T60 HL.out k k0 k2
      cases e
      obtain ⟨adl2, e, hy0, hy1⟩ := at_T60 HL.out n hn0 hn1
      obtain rfl := Option.some.inj e
      obtain ⟨x, hxe⟩ : ∃ x, rd_T60 l k = x := ⟨_, rfl⟩
      have HXE := Aside0.mk hxe
      rw [hxe] at hx0 hx1 hx
      have HX0 := Aside0.mk hx0
      have HX1 := Aside0.mk hx1
      clear hx0 hx1 hmk e
      by_cases c1 : k = n
      · rw [if_pos c1] at hx
        have hc1 : (k == n) = true := beq_iff_eq.mpr c1
        have hc2 : (k != n) = false := bne_eq_false_iff_eq.mpr c1
        have hx2 : (stepL l k out).bind (longF l at_ n (o.drop (i + 1).toNat)) = some r := hx
        unfold stepL at hx2
        rw [hxe] at hx2
        clear hx c1 hxe hy0 hy1
        go_wp2
        refine st_ (fun w' => St w0 w' ((blkA g #[.slice (some adl) l.length cl, .slice (some ada) at_.length ca, .slice (some ado) o.length co] 128) :: (rowA w0.heap.size k54 54 (.slice (some ada) at_.length ca) at_) :: (rowA w0.heap.size (Kd.int .i64) 3 (.slice (some ado) o.length co) o) :: L)) scan_scanner_longest.tab5 scan_scanner_longest.bits5 HSr.out.drew (fun HT_ HW_ hHeld => ?_)
        clear HSr
        generalize wr.drew = w33_ at hHeld ⊢
        have HS34_ := Aside0.mk (show St w0 w33_ ((blkA g #[.slice (some adl) l.length cl, .slice (some ada) at_.length ca, .slice (some ado) o.length co] 128) :: (rowA w0.heap.size k54 54 (.slice (some ada) at_.length ca) at_) :: (rowA w0.heap.size (Kd.int .i64) 3 (.slice (some ado) o.length co) o) :: L) from hHeld)
        refine pu_ (v := ?_) (a' := ?_) HT_.out 0 (some 17) ?_ ?_ ?_; rotate_left 2; (intro w'; go_simp; with_reducible rfl); (simp only [Act.put, List.setIfInBounds_toArray, List.set_cons_zero, List.set_cons_succ, i64_w, i32_w]; rfl)
        refine pu_ (v := ?_) (a' := ?_) HT_.out 1 (some 18) ?_ ?_ ?_; rotate_left 2; (intro w'; go_simp; with_reducible rfl); (simp only [Act.put, List.setIfInBounds_toArray, List.set_cons_zero, List.set_cons_succ, i64_w, i32_w]; rfl)
        refine pu_ (v := ?_) (a' := ?_) HT_.out 2 (some 19) ?_ ?_ ?_; rotate_left 2; (intro w'; go_simp; with_reducible rfl); (simp only [Act.put, List.setIfInBounds_toArray, List.set_cons_zero, List.set_cons_succ, i64_w, i32_w]; rfl)
        refine pu_ (v := ?_) (a' := ?_) HT_.out 3 (some 20) ?_ ?_ ?_; rotate_left 2; (intro w'; go_simp; with_reducible rfl); (simp only [Act.put, List.setIfInBounds_toArray, List.set_cons_zero, List.set_cons_succ, i64_w, i32_w]; rfl)
        refine un_ (a' := ?_) HT_.out 4 (some 21) ?_ ?_; rotate_left; (simp only [Act.put, List.setIfInBounds_toArray, List.set_cons_zero, List.set_cons_succ, i64_w, i32_w]; rfl)
        refine un_ (a' := ?_) HT_.out 5 (some 22) ?_ ?_; rotate_left; (simp only [Act.put, List.setIfInBounds_toArray, List.set_cons_zero, List.set_cons_succ, i64_w, i32_w]; rfl)
        refine un_ (a' := ?_) HT_.out 6 (some 23) ?_ ?_; rotate_left; (simp only [Act.put, List.setIfInBounds_toArray, List.set_cons_zero, List.set_cons_succ, i64_w, i32_w]; rfl)
        refine un_ (a' := ?_) HT_.out 7 (some 24) ?_ ?_; rotate_left; (simp only [Act.put, List.setIfInBounds_toArray, List.set_cons_zero, List.set_cons_succ, i64_w, i32_w]; rfl)
        refine un_ (a' := ?_) HT_.out 8 (some 25) ?_ ?_; rotate_left; (simp only [Act.put, List.setIfInBounds_toArray, List.set_cons_zero, List.set_cons_succ, i64_w, i32_w]; rfl)
        refine un_ (a' := ?_) HT_.out 9 (some 26) ?_ ?_; rotate_left; (simp only [Act.put, List.setIfInBounds_toArray, List.set_cons_zero, List.set_cons_succ, i64_w, i32_w]; rfl)
        refine un_ (a' := ?_) HT_.out 10 (some 27) ?_ ?_; rotate_left; (simp only [Act.put, List.setIfInBounds_toArray, List.set_cons_zero, List.set_cons_succ, i64_w, i32_w]; rfl)
        refine un_ (a' := ?_) HT_.out 11 (some 28) ?_ ?_; rotate_left; (simp only [Act.put, List.setIfInBounds_toArray, List.set_cons_zero, List.set_cons_succ, i64_w, i32_w]; rfl)
        refine un_ (a' := ?_) HT_.out 12 (some 29) ?_ ?_; rotate_left; (simp only [Act.put, List.setIfInBounds_toArray, List.set_cons_zero, List.set_cons_succ, i64_w, i32_w]; rfl)
        refine un_ (a' := ?_) HT_.out 13 (some 30) ?_ ?_; rotate_left; (simp only [Act.put, List.setIfInBounds_toArray, List.set_cons_zero, List.set_cons_succ, i64_w, i32_w]; rfl)
        refine un_ (a' := ?_) HT_.out 14 (some 31) ?_ ?_; rotate_left; (simp only [Act.put, List.setIfInBounds_toArray, List.set_cons_zero, List.set_cons_succ, i64_w, i32_w]; rfl)
        refine un_ (a' := ?_) HT_.out 15 (some 32) ?_ ?_; rotate_left; (simp only [Act.put, List.setIfInBounds_toArray, List.set_cons_zero, List.set_cons_succ, i64_w, i32_w]; rfl)
        refine un_ (a' := ?_) HT_.out 16 (some 33) ?_ ?_; rotate_left; (simp only [Act.put, List.setIfInBounds_toArray, List.set_cons_zero, List.set_cons_succ, i64_w, i32_w]; rfl)
        refine un_ (a' := ?_) HT_.out 17 (some 34) ?_ ?_; rotate_left; (simp only [Act.put, List.setIfInBounds_toArray, List.set_cons_zero, List.set_cons_succ, i64_w, i32_w]; rfl)
        refine un_ (a' := ?_) HT_.out 18 (some 35) ?_ ?_; rotate_left; (simp only [Act.put, List.setIfInBounds_toArray, List.set_cons_zero, List.set_cons_succ, i64_w, i32_w]; rfl)
        refine un_ (a' := ?_) HT_.out 19 (some 36) ?_ ?_; rotate_left; (simp only [Act.put, List.setIfInBounds_toArray, List.set_cons_zero, List.set_cons_succ, i64_w, i32_w]; rfl)
        refine un_ (a' := ?_) HT_.out 20 (some 37) ?_ ?_; rotate_left; (simp only [Act.put, List.setIfInBounds_toArray, List.set_cons_zero, List.set_cons_succ, i64_w, i32_w]; rfl)
        refine un_ (a' := ?_) HT_.out 21 (some 38) ?_ ?_; rotate_left; (simp only [Act.put, List.setIfInBounds_toArray, List.set_cons_zero, List.set_cons_succ, i64_w, i32_w]; rfl)
        refine un_ (a' := ?_) HT_.out 22 (some 39) ?_ ?_; rotate_left; (simp only [Act.put, List.setIfInBounds_toArray, List.set_cons_zero, List.set_cons_succ, i64_w, i32_w]; rfl)
        refine un_ (a' := ?_) HT_.out 23 (some 40) ?_ ?_; rotate_left; (simp only [Act.put, List.setIfInBounds_toArray, List.set_cons_zero, List.set_cons_succ, i64_w, i32_w]; rfl)
        refine un_ (a' := ?_) HT_.out 24 (some 41) ?_ ?_; rotate_left; (simp only [Act.put, List.setIfInBounds_toArray, List.set_cons_zero, List.set_cons_succ, i64_w, i32_w]; rfl)
        refine un_ (a' := ?_) HT_.out 25 (some 42) ?_ ?_; rotate_left; (simp only [Act.put, List.setIfInBounds_toArray, List.set_cons_zero, List.set_cons_succ, i64_w, i32_w]; rfl)
        refine un_ (a' := ?_) HT_.out 26 (some 43) ?_ ?_; rotate_left; (simp only [Act.put, List.setIfInBounds_toArray, List.set_cons_zero, List.set_cons_succ, i64_w, i32_w]; rfl)
        refine un_ (a' := ?_) HT_.out 27 (some 44) ?_ ?_; rotate_left; (simp only [Act.put, List.setIfInBounds_toArray, List.set_cons_zero, List.set_cons_succ, i64_w, i32_w]; rfl)
        refine un_ (a' := ?_) HT_.out 28 (some 45) ?_ ?_; rotate_left; (simp only [Act.put, List.setIfInBounds_toArray, List.set_cons_zero, List.set_cons_succ, i64_w, i32_w]; rfl)
        refine un_ (a' := ?_) HT_.out 29 (some 46) ?_ ?_; rotate_left; (simp only [Act.put, List.setIfInBounds_toArray, List.set_cons_zero, List.set_cons_succ, i64_w, i32_w]; rfl)
        refine un_ (a' := ?_) HT_.out 30 (some 47) ?_ ?_; rotate_left; (simp only [Act.put, List.setIfInBounds_toArray, List.set_cons_zero, List.set_cons_succ, i64_w, i32_w]; rfl)
        refine pu_ (v := ?_) (a' := ?_) HT_.out 31 (some 48) ?_ ?_ ?_; rotate_left 2; (intro w'; go_simp; with_reducible rfl); (simp only [Act.put, List.setIfInBounds_toArray, List.set_cons_zero, List.set_cons_succ, i64_w, i32_w]; rfl)
        refine dn_ HT_.out ?_
        clear hHeld HT_ HW_
        by_cases d1 : out < 0
        · rw [if_pos d1] at hx2
          have HX4 := Aside0.mk (show longF l at_ n (o.drop (i + 1).toNat) k = some r from hx2)
          have hd1 : decide (out < 0) = true := decide_eq_true d1
          clear hx2 d1
          go_wp2
          refine st_ (fun w' => St w0 w' ((blkA g #[.slice (some adl) l.length cl, .slice (some ada) at_.length ca, .slice (some ado) o.length co] 128) :: (rowA w0.heap.size k54 54 (.slice (some ada) at_.length ca) at_) :: (rowA w0.heap.size (Kd.int .i64) 3 (.slice (some ado) o.length co) o) :: L)) scan_scanner_longest.tab6 scan_scanner_longest.bits6 HS34_.out.drew (fun HT_ HW_ hHeld => ?_)
          clear HS34_
          generalize w33_.drew = w45_ at hHeld ⊢
          have HS46_ := Aside0.mk (show St w0 w45_ ((blkA g #[.slice (some adl) l.length cl, .slice (some ada) at_.length ca, .slice (some ado) o.length co] 128) :: (rowA w0.heap.size k54 54 (.slice (some ada) at_.length ca) at_) :: (rowA w0.heap.size (Kd.int .i64) 3 (.slice (some ado) o.length co) o) :: L) from hHeld)
          refine pu_ (v := ?_) (a' := ?_) HT_.out 0 (some 49) ?_ ?_ ?_; rotate_left 2; (intro w'; go_simp; with_reducible rfl); (simp only [Act.put, List.setIfInBounds_toArray, List.set_cons_zero, List.set_cons_succ, i64_w, i32_w]; rfl)
          refine pu_ (v := ?_) (a' := ?_) HT_.out 1 (some 50) ?_ ?_ ?_; rotate_left 2; (intro w'; go_simp; with_reducible rfl); (simp only [Act.put, List.setIfInBounds_toArray, List.set_cons_zero, List.set_cons_succ, i64_w, i32_w]; rfl)
          refine pu_ (v := ?_) (a' := ?_) HT_.out 2 (some 51) ?_ ?_ ?_; rotate_left 2; (intro w'; go_simp; with_reducible rfl); (simp only [Act.put, List.setIfInBounds_toArray, List.set_cons_zero, List.set_cons_succ, i64_w, i32_w]; rfl)
          refine un_ (a' := ?_) HT_.out 3 (some 52) ?_ ?_; rotate_left; (simp only [Act.put, List.setIfInBounds_toArray, List.set_cons_zero, List.set_cons_succ, i64_w, i32_w]; rfl)
          refine un_ (a' := ?_) HT_.out 4 (some 53) ?_ ?_; rotate_left; (simp only [Act.put, List.setIfInBounds_toArray, List.set_cons_zero, List.set_cons_succ, i64_w, i32_w]; rfl)
          refine un_ (a' := ?_) HT_.out 5 (some 54) ?_ ?_; rotate_left; (simp only [Act.put, List.setIfInBounds_toArray, List.set_cons_zero, List.set_cons_succ, i64_w, i32_w]; rfl)
          refine un_ (a' := ?_) HT_.out 6 (some 55) ?_ ?_; rotate_left; (simp only [Act.put, List.setIfInBounds_toArray, List.set_cons_zero, List.set_cons_succ, i64_w, i32_w]; rfl)
          refine un_ (a' := ?_) HT_.out 7 (some 56) ?_ ?_; rotate_left; (simp only [Act.put, List.setIfInBounds_toArray, List.set_cons_zero, List.set_cons_succ, i64_w, i32_w]; rfl)
          refine un_ (a' := ?_) HT_.out 8 (some 57) ?_ ?_; rotate_left; (simp only [Act.put, List.setIfInBounds_toArray, List.set_cons_zero, List.set_cons_succ, i64_w, i32_w]; rfl)
          refine un_ (a' := ?_) HT_.out 9 (some 58) ?_ ?_; rotate_left; (simp only [Act.put, List.setIfInBounds_toArray, List.set_cons_zero, List.set_cons_succ, i64_w, i32_w]; rfl)
          refine un_ (a' := ?_) HT_.out 10 (some 59) ?_ ?_; rotate_left; (simp only [Act.put, List.setIfInBounds_toArray, List.set_cons_zero, List.set_cons_succ, i64_w, i32_w]; rfl)
          refine un_ (a' := ?_) HT_.out 11 (some 60) ?_ ?_; rotate_left; (simp only [Act.put, List.setIfInBounds_toArray, List.set_cons_zero, List.set_cons_succ, i64_w, i32_w]; rfl)
          refine un_ (a' := ?_) HT_.out 12 (some 61) ?_ ?_; rotate_left; (simp only [Act.put, List.setIfInBounds_toArray, List.set_cons_zero, List.set_cons_succ, i64_w, i32_w]; rfl)
          refine un_ (a' := ?_) HT_.out 13 (some 62) ?_ ?_; rotate_left; (simp only [Act.put, List.setIfInBounds_toArray, List.set_cons_zero, List.set_cons_succ, i64_w, i32_w]; rfl)
          refine un_ (a' := ?_) HT_.out 14 (some 63) ?_ ?_; rotate_left; (simp only [Act.put, List.setIfInBounds_toArray, List.set_cons_zero, List.set_cons_succ, i64_w, i32_w]; rfl)
          refine un_ (a' := ?_) HT_.out 15 (some 64) ?_ ?_; rotate_left; (simp only [Act.put, List.setIfInBounds_toArray, List.set_cons_zero, List.set_cons_succ, i64_w, i32_w]; rfl)
          refine un_ (a' := ?_) HT_.out 16 (some 65) ?_ ?_; rotate_left; (simp only [Act.put, List.setIfInBounds_toArray, List.set_cons_zero, List.set_cons_succ, i64_w, i32_w]; rfl)
          refine un_ (a' := ?_) HT_.out 17 (some 66) ?_ ?_; rotate_left; (simp only [Act.put, List.setIfInBounds_toArray, List.set_cons_zero, List.set_cons_succ, i64_w, i32_w]; rfl)
          refine un_ (a' := ?_) HT_.out 18 (some 67) ?_ ?_; rotate_left; (simp only [Act.put, List.setIfInBounds_toArray, List.set_cons_zero, List.set_cons_succ, i64_w, i32_w]; rfl)
          refine un_ (a' := ?_) HT_.out 19 (some 68) ?_ ?_; rotate_left; (simp only [Act.put, List.setIfInBounds_toArray, List.set_cons_zero, List.set_cons_succ, i64_w, i32_w]; rfl)
          refine pu_ (v := ?_) (a' := ?_) HT_.out 20 (some 69) ?_ ?_ ?_; rotate_left 2; (intro w'; go_simp; with_reducible rfl); (simp only [Act.put, List.setIfInBounds_toArray, List.set_cons_zero, List.set_cons_succ, i64_w, i32_w]; rfl)
          refine dn_ HT_.out ?_
          clear hHeld HT_ HW_
          go_wp2
          go_roundw
          case rel => exact ⟨i + 1, k, by first | rw [HW.out] | rfl, rfl, ⟨by omega⟩, HX4, HS46_⟩
          case measure => simp only [intOf]; (try rw [HW.out]); omega
        rw [if_neg d1] at hx2
        have hd1 : decide (out < 0) = false := decide_eq_false d1
        split at hx2
        case isFalse => cases hx2
        rename_i d2
        obtain ⟨adl3, e, hz0, hz1⟩ := at_T60 HL.out out (by omega) d2
        obtain rfl := Option.some.inj e
        have d0 : 0 ≤ out := by omega
        generalize rd_T60 l out = z at *
        have HZ0 := Aside0.mk hz0
        have HZ1 := Aside0.mk hz1
        clear hz0 hz1 e d1
        by_cases d3 : z.f1 ≤ x.f1
        · rw [if_pos d3] at hx2
          have HX4 := Aside0.mk (show longF l at_ n (o.drop (i + 1).toNat) k = some r from hx2)
          have hd3 : decide (z.f1 ≤ x.f1) = true := decide_eq_true d3
          have hd4 : decide (x.f1 ≥ z.f1) = true := decide_eq_true d3
          clear hx2 d3
          go_wp2
          refine st_ (fun w' => St w0 w' ((blkA g #[.slice (some adl) l.length cl, .slice (some ada) at_.length ca, .slice (some ado) o.length co] 128) :: (rowA w0.heap.size k54 54 (.slice (some ada) at_.length ca) at_) :: (rowA w0.heap.size (Kd.int .i64) 3 (.slice (some ado) o.length co) o) :: L)) scan_scanner_longest.tab6 scan_scanner_longest.bits6 HS34_.out.drew (fun HT_ HW_ hHeld => ?_)
          clear HS34_
          generalize w33_.drew = w47_ at hHeld ⊢
          have HS48_ := Aside0.mk (show St w0 w47_ ((blkA g #[.slice (some adl) l.length cl, .slice (some ada) at_.length ca, .slice (some ado) o.length co] 128) :: (rowA w0.heap.size k54 54 (.slice (some ada) at_.length ca) at_) :: (rowA w0.heap.size (Kd.int .i64) 3 (.slice (some ado) o.length co) o) :: L) from hHeld)
          refine pu_ (v := ?_) (a' := ?_) HT_.out 0 (some 49) ?_ ?_ ?_; rotate_left 2; (intro w'; go_simp; with_reducible rfl); (simp only [Act.put, List.setIfInBounds_toArray, List.set_cons_zero, List.set_cons_succ, i64_w, i32_w]; rfl)
          refine pu_ (v := ?_) (a' := ?_) HT_.out 1 (some 50) ?_ ?_ ?_; rotate_left 2; (intro w'; go_simp; with_reducible rfl); (simp only [Act.put, List.setIfInBounds_toArray, List.set_cons_zero, List.set_cons_succ, i64_w, i32_w]; rfl)
          refine pu_ (v := ?_) (a' := ?_) HT_.out 2 (some 51) ?_ ?_ ?_; rotate_left 2; (intro w'; go_simp; with_reducible rfl); (simp only [Act.put, List.setIfInBounds_toArray, List.set_cons_zero, List.set_cons_succ, i64_w, i32_w]; rfl)
          refine pu_ (v := ?_) (a' := ?_) HT_.out 3 (some 52) ?_ ?_ ?_; rotate_left 2; (intro w'; go_simp; with_reducible rfl); (simp only [Act.put, List.setIfInBounds_toArray, List.set_cons_zero, List.set_cons_succ, i64_w, i32_w]; rfl)
          refine pu_ (v := ?_) (a' := ?_) HT_.out 4 (some 53) ?_ ?_ ?_; rotate_left 2; (intro w'; go_simp; with_reducible rfl); (simp only [Act.put, List.setIfInBounds_toArray, List.set_cons_zero, List.set_cons_succ, i64_w, i32_w]; rfl)
          refine pu_ (v := ?_) (a' := ?_) HT_.out 5 (some 54) ?_ ?_ ?_; rotate_left 2; (intro w'; go_simp; with_reducible rfl); (simp only [Act.put, List.setIfInBounds_toArray, List.set_cons_zero, List.set_cons_succ, i64_w, i32_w]; rfl)
          refine pu_ (v := ?_) (a' := ?_) HT_.out 7 (some 56) ?_ ?_ ?_; rotate_left 2; (intro w'; go_simp; with_reducible rfl); (simp only [Act.put, List.setIfInBounds_toArray, List.set_cons_zero, List.set_cons_succ, i64_w, i32_w]; rfl)
          refine pu_ (v := ?_) (a' := ?_) HT_.out 11 (some 60) ?_ ?_ ?_; rotate_left 2; (intro w'; go_simp; with_reducible rfl); (simp only [Act.put, List.setIfInBounds_toArray, List.set_cons_zero, List.set_cons_succ, i64_w, i32_w]; rfl)
          refine pu_ (v := ?_) (a' := ?_) HT_.out 12 (some 61) ?_ ?_ ?_; rotate_left 2; (intro w'; go_simp; with_reducible rfl); (simp only [Act.put, List.setIfInBounds_toArray, List.set_cons_zero, List.set_cons_succ, i64_w, i32_w]; rfl)
          refine pu_ (v := ?_) (a' := ?_) HT_.out 13 (some 62) ?_ ?_ ?_; rotate_left 2; (intro w'; go_simp; with_reducible rfl); (simp only [Act.put, List.setIfInBounds_toArray, List.set_cons_zero, List.set_cons_succ, i64_w, i32_w]; rfl)
          refine pu_ (v := ?_) (a' := ?_) HT_.out 15 (some 64) ?_ ?_ ?_; rotate_left 2; (intro w'; go_simp; with_reducible rfl); (simp only [Act.put, List.setIfInBounds_toArray, List.set_cons_zero, List.set_cons_succ, i64_w, i32_w]; rfl)
          refine tk_ (v := ?_) (a' := ?_) HT_.out HW_.out hHeld 6 (some 55) ?_ ?_ ?_; rotate_left 2; (intro w' hS; have s0 : w'.cell? ⟨g, 0, none⟩ = some _ := hS.cell 0 rfl 0; go_simp; with_reducible rfl); (simp only [Act.put, List.setIfInBounds_toArray, List.set_cons_zero, List.set_cons_succ, i64_w, i32_w]; rfl)
          refine pu_ (v := ?_) (a' := ?_) HT_.out 8 (some 57) ?_ ?_ ?_; rotate_left 2; (intro w'; go_simp; with_reducible rfl); (simp only [Act.put, List.setIfInBounds_toArray, List.set_cons_zero, List.set_cons_succ, i64_w, i32_w]; rfl)
          refine pu_ (v := ?_) (a' := ?_) HT_.out 9 (some 58) ?_ ?_ ?_; rotate_left 2; (intro w'; go_simp; with_reducible rfl); (simp only [Act.put, List.setIfInBounds_toArray, List.set_cons_zero, List.set_cons_succ, i64_w, i32_w]; rfl)
          refine tk_ (v := ?_) (a' := ?_) HT_.out HW_.out hHeld 10 (some 59) ?_ ?_ ?_; rotate_left 2; (intro w' hS; have s0 : w'.cell? (adl.add (k.toNat * 2)) = some (.int .i64 x.f0) := (hS.below.cell (World.block_lt_of_cell? w0 _ HX0.out)).trans HX0.out; have s1 : w'.cell? ⟨(adl.add (k.toNat * 2)).block, (adl.add (k.toNat * 2)).off + 1, none⟩ = some (.int .i64 x.f1) := (hS.below.cell (World.block_lt_of_cell? w0 _ HX1.out)).trans HX1.out; go_simp; with_reducible rfl); (simp only [Act.put, List.setIfInBounds_toArray, List.set_cons_zero, List.set_cons_succ, i64_w, i32_w]; rfl)
          refine tk_ (v := ?_) (a' := ?_) HT_.out HW_.out hHeld 14 (some 63) ?_ ?_ ?_; rotate_left 2; (intro w' hS; have s0 : w'.cell? ⟨g, 0, none⟩ = some _ := hS.cell 0 rfl 0; go_simp; with_reducible rfl); (simp only [Act.put, List.setIfInBounds_toArray, List.set_cons_zero, List.set_cons_succ, i64_w, i32_w]; rfl)
          refine pu_ (v := ?_) (a' := ?_) HT_.out 16 (some 65) ?_ ?_ ?_; rotate_left 2; (intro w'; go_simp; with_reducible rfl); (simp only [Act.put, List.setIfInBounds_toArray, List.set_cons_zero, List.set_cons_succ, i64_w, i32_w]; rfl)
          refine pu_ (v := ?_) (a' := ?_) HT_.out 17 (some 66) ?_ ?_ ?_; rotate_left 2; (intro w'; go_simp; with_reducible rfl); (simp only [Act.put, List.setIfInBounds_toArray, List.set_cons_zero, List.set_cons_succ, i64_w, i32_w]; rfl)
          refine tk_ (v := ?_) (a' := ?_) HT_.out HW_.out hHeld 18 (some 67) ?_ ?_ ?_; rotate_left 2; (intro w' hS; have s0 : w'.cell? (adl.add (out.toNat * 2)) = some (.int .i64 z.f0) := (hS.below.cell (World.block_lt_of_cell? w0 _ HZ0.out)).trans HZ0.out; have s1 : w'.cell? ⟨(adl.add (out.toNat * 2)).block, (adl.add (out.toNat * 2)).off + 1, none⟩ = some (.int .i64 z.f1) := (hS.below.cell (World.block_lt_of_cell? w0 _ HZ1.out)).trans HZ1.out; go_simp; with_reducible rfl); (simp only [Act.put, List.setIfInBounds_toArray, List.set_cons_zero, List.set_cons_succ, i64_w, i32_w]; rfl)
          refine pu_ (v := ?_) (a' := ?_) HT_.out 19 (some 68) ?_ ?_ ?_; rotate_left 2; (intro w'; go_simp; with_reducible rfl); (simp only [Act.put, List.setIfInBounds_toArray, List.set_cons_zero, List.set_cons_succ, i64_w, i32_w]; rfl)
          refine pu_ (v := ?_) (a' := ?_) HT_.out 20 (some 69) ?_ ?_ ?_; rotate_left 2; (intro w'; go_simp; with_reducible rfl); (simp only [Act.put, List.setIfInBounds_toArray, List.set_cons_zero, List.set_cons_succ, i64_w, i32_w]; rfl)
          refine dn_ HT_.out ?_
          clear hHeld HT_ HW_
          go_wp2
          go_roundw
          case rel => exact ⟨i + 1, k, by first | rw [HW.out] | rfl, rfl, ⟨by omega⟩, HX4, HS48_⟩
          case measure => simp only [intOf]; (try rw [HW.out]); omega
        · rw [if_neg d3] at hx2
          have HX4 := Aside0.mk (show longF l at_ n (o.drop (i + 1).toNat) out = some r from hx2)
          have hd3 : decide (z.f1 ≤ x.f1) = false := decide_eq_false d3
          have hd4 : decide (x.f1 ≥ z.f1) = false := decide_eq_false d3
          clear hx2 d3
          go_wp2
          refine st_ (fun w' => St w0 w' ((blkA g #[.slice (some adl) l.length cl, .slice (some ada) at_.length ca, .slice (some ado) o.length co] 128) :: (rowA w0.heap.size k54 54 (.slice (some ada) at_.length ca) at_) :: (rowA w0.heap.size (Kd.int .i64) 3 (.slice (some ado) o.length co) o) :: L)) scan_scanner_longest.tab6 scan_scanner_longest.bits6 HS34_.out.drew (fun HT_ HW_ hHeld => ?_)
          clear HS34_
          generalize w33_.drew = w49_ at hHeld ⊢
          have HS50_ := Aside0.mk (show St w0 w49_ ((blkA g #[.slice (some adl) l.length cl, .slice (some ada) at_.length ca, .slice (some ado) o.length co] 128) :: (rowA w0.heap.size k54 54 (.slice (some ada) at_.length ca) at_) :: (rowA w0.heap.size (Kd.int .i64) 3 (.slice (some ado) o.length co) o) :: L) from hHeld)
          refine pu_ (v := ?_) (a' := ?_) HT_.out 0 (some 49) ?_ ?_ ?_; rotate_left 2; (intro w'; go_simp; with_reducible rfl); (simp only [Act.put, List.setIfInBounds_toArray, List.set_cons_zero, List.set_cons_succ, i64_w, i32_w]; rfl)
          refine pu_ (v := ?_) (a' := ?_) HT_.out 1 (some 50) ?_ ?_ ?_; rotate_left 2; (intro w'; go_simp; with_reducible rfl); (simp only [Act.put, List.setIfInBounds_toArray, List.set_cons_zero, List.set_cons_succ, i64_w, i32_w]; rfl)
          refine pu_ (v := ?_) (a' := ?_) HT_.out 2 (some 51) ?_ ?_ ?_; rotate_left 2; (intro w'; go_simp; with_reducible rfl); (simp only [Act.put, List.setIfInBounds_toArray, List.set_cons_zero, List.set_cons_succ, i64_w, i32_w]; rfl)
          refine pu_ (v := ?_) (a' := ?_) HT_.out 3 (some 52) ?_ ?_ ?_; rotate_left 2; (intro w'; go_simp; with_reducible rfl); (simp only [Act.put, List.setIfInBounds_toArray, List.set_cons_zero, List.set_cons_succ, i64_w, i32_w]; rfl)
          refine pu_ (v := ?_) (a' := ?_) HT_.out 4 (some 53) ?_ ?_ ?_; rotate_left 2; (intro w'; go_simp; with_reducible rfl); (simp only [Act.put, List.setIfInBounds_toArray, List.set_cons_zero, List.set_cons_succ, i64_w, i32_w]; rfl)
          refine pu_ (v := ?_) (a' := ?_) HT_.out 5 (some 54) ?_ ?_ ?_; rotate_left 2; (intro w'; go_simp; with_reducible rfl); (simp only [Act.put, List.setIfInBounds_toArray, List.set_cons_zero, List.set_cons_succ, i64_w, i32_w]; rfl)
          refine pu_ (v := ?_) (a' := ?_) HT_.out 7 (some 56) ?_ ?_ ?_; rotate_left 2; (intro w'; go_simp; with_reducible rfl); (simp only [Act.put, List.setIfInBounds_toArray, List.set_cons_zero, List.set_cons_succ, i64_w, i32_w]; rfl)
          refine pu_ (v := ?_) (a' := ?_) HT_.out 11 (some 60) ?_ ?_ ?_; rotate_left 2; (intro w'; go_simp; with_reducible rfl); (simp only [Act.put, List.setIfInBounds_toArray, List.set_cons_zero, List.set_cons_succ, i64_w, i32_w]; rfl)
          refine pu_ (v := ?_) (a' := ?_) HT_.out 12 (some 61) ?_ ?_ ?_; rotate_left 2; (intro w'; go_simp; with_reducible rfl); (simp only [Act.put, List.setIfInBounds_toArray, List.set_cons_zero, List.set_cons_succ, i64_w, i32_w]; rfl)
          refine pu_ (v := ?_) (a' := ?_) HT_.out 13 (some 62) ?_ ?_ ?_; rotate_left 2; (intro w'; go_simp; with_reducible rfl); (simp only [Act.put, List.setIfInBounds_toArray, List.set_cons_zero, List.set_cons_succ, i64_w, i32_w]; rfl)
          refine pu_ (v := ?_) (a' := ?_) HT_.out 15 (some 64) ?_ ?_ ?_; rotate_left 2; (intro w'; go_simp; with_reducible rfl); (simp only [Act.put, List.setIfInBounds_toArray, List.set_cons_zero, List.set_cons_succ, i64_w, i32_w]; rfl)
          refine tk_ (v := ?_) (a' := ?_) HT_.out HW_.out hHeld 6 (some 55) ?_ ?_ ?_; rotate_left 2; (intro w' hS; have s0 : w'.cell? ⟨g, 0, none⟩ = some _ := hS.cell 0 rfl 0; go_simp; with_reducible rfl); (simp only [Act.put, List.setIfInBounds_toArray, List.set_cons_zero, List.set_cons_succ, i64_w, i32_w]; rfl)
          refine pu_ (v := ?_) (a' := ?_) HT_.out 8 (some 57) ?_ ?_ ?_; rotate_left 2; (intro w'; go_simp; with_reducible rfl); (simp only [Act.put, List.setIfInBounds_toArray, List.set_cons_zero, List.set_cons_succ, i64_w, i32_w]; rfl)
          refine pu_ (v := ?_) (a' := ?_) HT_.out 9 (some 58) ?_ ?_ ?_; rotate_left 2; (intro w'; go_simp; with_reducible rfl); (simp only [Act.put, List.setIfInBounds_toArray, List.set_cons_zero, List.set_cons_succ, i64_w, i32_w]; rfl)
          refine tk_ (v := ?_) (a' := ?_) HT_.out HW_.out hHeld 10 (some 59) ?_ ?_ ?_; rotate_left 2; (intro w' hS; have s0 : w'.cell? (adl.add (k.toNat * 2)) = some (.int .i64 x.f0) := (hS.below.cell (World.block_lt_of_cell? w0 _ HX0.out)).trans HX0.out; have s1 : w'.cell? ⟨(adl.add (k.toNat * 2)).block, (adl.add (k.toNat * 2)).off + 1, none⟩ = some (.int .i64 x.f1) := (hS.below.cell (World.block_lt_of_cell? w0 _ HX1.out)).trans HX1.out; go_simp; with_reducible rfl); (simp only [Act.put, List.setIfInBounds_toArray, List.set_cons_zero, List.set_cons_succ, i64_w, i32_w]; rfl)
          refine tk_ (v := ?_) (a' := ?_) HT_.out HW_.out hHeld 14 (some 63) ?_ ?_ ?_; rotate_left 2; (intro w' hS; have s0 : w'.cell? ⟨g, 0, none⟩ = some _ := hS.cell 0 rfl 0; go_simp; with_reducible rfl); (simp only [Act.put, List.setIfInBounds_toArray, List.set_cons_zero, List.set_cons_succ, i64_w, i32_w]; rfl)
          refine pu_ (v := ?_) (a' := ?_) HT_.out 16 (some 65) ?_ ?_ ?_; rotate_left 2; (intro w'; go_simp; with_reducible rfl); (simp only [Act.put, List.setIfInBounds_toArray, List.set_cons_zero, List.set_cons_succ, i64_w, i32_w]; rfl)
          refine pu_ (v := ?_) (a' := ?_) HT_.out 17 (some 66) ?_ ?_ ?_; rotate_left 2; (intro w'; go_simp; with_reducible rfl); (simp only [Act.put, List.setIfInBounds_toArray, List.set_cons_zero, List.set_cons_succ, i64_w, i32_w]; rfl)
          refine tk_ (v := ?_) (a' := ?_) HT_.out HW_.out hHeld 18 (some 67) ?_ ?_ ?_; rotate_left 2; (intro w' hS; have s0 : w'.cell? (adl.add (out.toNat * 2)) = some (.int .i64 z.f0) := (hS.below.cell (World.block_lt_of_cell? w0 _ HZ0.out)).trans HZ0.out; have s1 : w'.cell? ⟨(adl.add (out.toNat * 2)).block, (adl.add (out.toNat * 2)).off + 1, none⟩ = some (.int .i64 z.f1) := (hS.below.cell (World.block_lt_of_cell? w0 _ HZ1.out)).trans HZ1.out; go_simp; with_reducible rfl); (simp only [Act.put, List.setIfInBounds_toArray, List.set_cons_zero, List.set_cons_succ, i64_w, i32_w]; rfl)
          refine pu_ (v := ?_) (a' := ?_) HT_.out 19 (some 68) ?_ ?_ ?_; rotate_left 2; (intro w'; go_simp; with_reducible rfl); (simp only [Act.put, List.setIfInBounds_toArray, List.set_cons_zero, List.set_cons_succ, i64_w, i32_w]; rfl)
          refine pu_ (v := ?_) (a' := ?_) HT_.out 20 (some 69) ?_ ?_ ?_; rotate_left 2; (intro w'; go_simp; with_reducible rfl); (simp only [Act.put, List.setIfInBounds_toArray, List.set_cons_zero, List.set_cons_succ, i64_w, i32_w]; rfl)
          refine dn_ HT_.out ?_
          clear hHeld HT_ HW_
          go_wp2
          go_roundw
          case rel => exact ⟨i + 1, out, by first | rw [HW.out] | rfl, rfl, ⟨by omega⟩, HX4, HS50_⟩
          case measure => simp only [intOf]; (try rw [HW.out]); omega
      rw [if_neg c1] at hx
      have hc1 : (k == n) = false := beq_eq_false_iff_ne.mpr c1
      have hc2 : (k != n) = true := bne_iff_ne.mpr c1
      by_cases c2 : m.f0 < 0
      · rw [if_pos c2] at hx
        have HX4 := Aside0.mk hx
        have hc3 : decide (m.f0 < 0) = true := decide_eq_true c2
        clear hx c2 hxe hy0 hy1 c1
        go_wp2
        refine st_ (fun w' => St w0 w' ((blkA g #[.slice (some adl) l.length cl, .slice (some ada) at_.length ca, .slice (some ado) o.length co] 128) :: (rowA w0.heap.size k54 54 (.slice (some ada) at_.length ca) at_) :: (rowA w0.heap.size (Kd.int .i64) 3 (.slice (some ado) o.length co) o) :: L)) scan_scanner_longest.tab5 scan_scanner_longest.bits5 HSr.out.drew (fun HT_ HW_ hHeld => ?_)
        clear HSr
        generalize wr.drew = w35_ at hHeld ⊢
        have HS36_ := Aside0.mk (show St w0 w35_ ((blkA g #[.slice (some adl) l.length cl, .slice (some ada) at_.length ca, .slice (some ado) o.length co] 128) :: (rowA w0.heap.size k54 54 (.slice (some ada) at_.length ca) at_) :: (rowA w0.heap.size (Kd.int .i64) 3 (.slice (some ado) o.length co) o) :: L) from hHeld)
        refine pu_ (v := ?_) (a' := ?_) HT_.out 0 (some 17) ?_ ?_ ?_; rotate_left 2; (intro w'; go_simp; with_reducible rfl); (simp only [Act.put, List.setIfInBounds_toArray, List.set_cons_zero, List.set_cons_succ, i64_w, i32_w]; rfl)
        refine pu_ (v := ?_) (a' := ?_) HT_.out 1 (some 18) ?_ ?_ ?_; rotate_left 2; (intro w'; go_simp; with_reducible rfl); (simp only [Act.put, List.setIfInBounds_toArray, List.set_cons_zero, List.set_cons_succ, i64_w, i32_w]; rfl)
        refine pu_ (v := ?_) (a' := ?_) HT_.out 2 (some 19) ?_ ?_ ?_; rotate_left 2; (intro w'; go_simp; with_reducible rfl); (simp only [Act.put, List.setIfInBounds_toArray, List.set_cons_zero, List.set_cons_succ, i64_w, i32_w]; rfl)
        refine pu_ (v := ?_) (a' := ?_) HT_.out 3 (some 20) ?_ ?_ ?_; rotate_left 2; (intro w'; go_simp; with_reducible rfl); (simp only [Act.put, List.setIfInBounds_toArray, List.set_cons_zero, List.set_cons_succ, i64_w, i32_w]; rfl)
        refine pu_ (v := ?_) (a' := ?_) HT_.out 4 (some 21) ?_ ?_ ?_; rotate_left 2; (intro w'; go_simp; with_reducible rfl); (simp only [Act.put, List.setIfInBounds_toArray, List.set_cons_zero, List.set_cons_succ, i64_w, i32_w]; rfl)
        refine pu_ (v := ?_) (a' := ?_) HT_.out 5 (some 22) ?_ ?_ ?_; rotate_left 2; (intro w'; go_simp; with_reducible rfl); (simp only [Act.put, List.setIfInBounds_toArray, List.set_cons_zero, List.set_cons_succ, i64_w, i32_w]; rfl)
        refine pu_ (v := ?_) (a' := ?_) HT_.out 6 (some 23) ?_ ?_ ?_; rotate_left 2; (intro w'; go_simp; with_reducible rfl); (simp only [Act.put, List.setIfInBounds_toArray, List.set_cons_zero, List.set_cons_succ, i64_w, i32_w]; rfl)
        refine pu_ (v := ?_) (a' := ?_) HT_.out 8 (some 25) ?_ ?_ ?_; rotate_left 2; (intro w'; go_simp; with_reducible rfl); (simp only [Act.put, List.setIfInBounds_toArray, List.set_cons_zero, List.set_cons_succ, i64_w, i32_w]; rfl)
        refine tk_ (v := ?_) (a' := ?_) HT_.out HW_.out hHeld 7 (some 24) ?_ ?_ ?_; rotate_left 2; (intro w' hS; have s0 : w'.cell? ⟨g, 1, none⟩ = some _ := hS.cell 0 rfl 1; go_simp; with_reducible rfl); (simp only [Act.put, List.setIfInBounds_toArray, List.set_cons_zero, List.set_cons_succ, i64_w, i32_w]; rfl)
        refine pu_ (v := ?_) (a' := ?_) HT_.out 9 (some 26) ?_ ?_ ?_; rotate_left 2; (intro w'; go_simp; with_reducible rfl); (simp only [Act.put, List.setIfInBounds_toArray, List.set_cons_zero, List.set_cons_succ, i64_w, i32_w]; rfl)
        refine pu_ (v := ?_) (a' := ?_) HT_.out 10 (some 27) ?_ ?_ ?_; rotate_left 2; (intro w'; go_simp; with_reducible rfl); (simp only [Act.put, List.setIfInBounds_toArray, List.set_cons_zero, List.set_cons_succ, i64_w, i32_w]; rfl)
        refine tk_ (v := ?_) (a' := ?_) HT_.out HW_.out hHeld 11 (some 28) ?_ ?_ ?_; rotate_left 2; (intro w' hS; obtain ⟨ad2, e2, hq0, hq1⟩ := at_T54 (Kd.R_reads' (hS.row 1 rfl)).2.2 k K0.out K1.out; obtain rfl := Option.some.inj e2; rw [HMK.out] at hq0 hq1; go_simp; with_reducible rfl); (simp only [Act.put, List.setIfInBounds_toArray, List.set_cons_zero, List.set_cons_succ, i64_w, i32_w]; rfl)
        refine pu_ (v := ?_) (a' := ?_) HT_.out 12 (some 29) ?_ ?_ ?_; rotate_left 2; (intro w'; go_simp; with_reducible rfl); (simp only [Act.put, List.setIfInBounds_toArray, List.set_cons_zero, List.set_cons_succ, i64_w, i32_w]; rfl)
        refine pu_ (v := ?_) (a' := ?_) HT_.out 13 (some 30) ?_ ?_ ?_; rotate_left 2; (intro w'; go_simp; with_reducible rfl); (simp only [Act.put, List.setIfInBounds_toArray, List.set_cons_zero, List.set_cons_succ, i64_w, i32_w]; rfl)
        refine un_ (a' := ?_) HT_.out 14 (some 31) ?_ ?_; rotate_left; (simp only [Act.put, List.setIfInBounds_toArray, List.set_cons_zero, List.set_cons_succ, i64_w, i32_w]; rfl)
        refine un_ (a' := ?_) HT_.out 15 (some 32) ?_ ?_; rotate_left; (simp only [Act.put, List.setIfInBounds_toArray, List.set_cons_zero, List.set_cons_succ, i64_w, i32_w]; rfl)
        refine un_ (a' := ?_) HT_.out 16 (some 33) ?_ ?_; rotate_left; (simp only [Act.put, List.setIfInBounds_toArray, List.set_cons_zero, List.set_cons_succ, i64_w, i32_w]; rfl)
        refine un_ (a' := ?_) HT_.out 17 (some 34) ?_ ?_; rotate_left; (simp only [Act.put, List.setIfInBounds_toArray, List.set_cons_zero, List.set_cons_succ, i64_w, i32_w]; rfl)
        refine un_ (a' := ?_) HT_.out 18 (some 35) ?_ ?_; rotate_left; (simp only [Act.put, List.setIfInBounds_toArray, List.set_cons_zero, List.set_cons_succ, i64_w, i32_w]; rfl)
        refine un_ (a' := ?_) HT_.out 19 (some 36) ?_ ?_; rotate_left; (simp only [Act.put, List.setIfInBounds_toArray, List.set_cons_zero, List.set_cons_succ, i64_w, i32_w]; rfl)
        refine un_ (a' := ?_) HT_.out 20 (some 37) ?_ ?_; rotate_left; (simp only [Act.put, List.setIfInBounds_toArray, List.set_cons_zero, List.set_cons_succ, i64_w, i32_w]; rfl)
        refine un_ (a' := ?_) HT_.out 21 (some 38) ?_ ?_; rotate_left; (simp only [Act.put, List.setIfInBounds_toArray, List.set_cons_zero, List.set_cons_succ, i64_w, i32_w]; rfl)
        refine un_ (a' := ?_) HT_.out 22 (some 39) ?_ ?_; rotate_left; (simp only [Act.put, List.setIfInBounds_toArray, List.set_cons_zero, List.set_cons_succ, i64_w, i32_w]; rfl)
        refine un_ (a' := ?_) HT_.out 23 (some 40) ?_ ?_; rotate_left; (simp only [Act.put, List.setIfInBounds_toArray, List.set_cons_zero, List.set_cons_succ, i64_w, i32_w]; rfl)
        refine un_ (a' := ?_) HT_.out 24 (some 41) ?_ ?_; rotate_left; (simp only [Act.put, List.setIfInBounds_toArray, List.set_cons_zero, List.set_cons_succ, i64_w, i32_w]; rfl)
        refine un_ (a' := ?_) HT_.out 25 (some 42) ?_ ?_; rotate_left; (simp only [Act.put, List.setIfInBounds_toArray, List.set_cons_zero, List.set_cons_succ, i64_w, i32_w]; rfl)
        refine un_ (a' := ?_) HT_.out 26 (some 43) ?_ ?_; rotate_left; (simp only [Act.put, List.setIfInBounds_toArray, List.set_cons_zero, List.set_cons_succ, i64_w, i32_w]; rfl)
        refine un_ (a' := ?_) HT_.out 27 (some 44) ?_ ?_; rotate_left; (simp only [Act.put, List.setIfInBounds_toArray, List.set_cons_zero, List.set_cons_succ, i64_w, i32_w]; rfl)
        refine un_ (a' := ?_) HT_.out 28 (some 45) ?_ ?_; rotate_left; (simp only [Act.put, List.setIfInBounds_toArray, List.set_cons_zero, List.set_cons_succ, i64_w, i32_w]; rfl)
        refine un_ (a' := ?_) HT_.out 29 (some 46) ?_ ?_; rotate_left; (simp only [Act.put, List.setIfInBounds_toArray, List.set_cons_zero, List.set_cons_succ, i64_w, i32_w]; rfl)
        refine pu_ (v := ?_) (a' := ?_) HT_.out 30 (some 47) ?_ ?_ ?_; rotate_left 2; (intro w'; go_simp; with_reducible rfl); (simp only [Act.put, List.setIfInBounds_toArray, List.set_cons_zero, List.set_cons_succ, i64_w, i32_w]; rfl)
        refine pu_ (v := ?_) (a' := ?_) HT_.out 31 (some 48) ?_ ?_ ?_; rotate_left 2; (intro w'; go_simp; with_reducible rfl); (simp only [Act.put, List.setIfInBounds_toArray, List.set_cons_zero, List.set_cons_succ, i64_w, i32_w]; rfl)
        refine dn_ HT_.out ?_
        clear hHeld HT_ HW_
        go_wp2
        go_roundw
        case rel => exact ⟨i + 1, out, by first | rw [HW.out] | rfl, rfl, ⟨by omega⟩, HX4, HS36_⟩
        case measure => simp only [intOf]; (try rw [HW.out]); omega
      rw [if_neg c2] at hx
      have hc3 : decide (m.f0 < 0) = false := decide_eq_false c2
      generalize rd_T60 l n = y at *
      have HY0 := Aside0.mk hy0
      have HY1 := Aside0.mk hy1
      obtain ⟨b, hmt, hx2⟩ := Option.bind_eq_some_iff.1 hx
      have HMT := Aside0.mk hmt
      clear hx hmt hy0 hy1 c2 c1
      rcases b with _ | _
      · have HX4 := Aside0.mk (show longF l at_ n (o.drop (i + 1).toNat) out = some r from hx2)
        clear hx2 hxe
        go_wp2
        refine st_ (fun w' => St w0 w' ((blkA g #[.slice (some adl) l.length cl, .slice (some ada) at_.length ca, .slice (some ado) o.length co] 128) :: (rowA w0.heap.size k54 54 (.slice (some ada) at_.length ca) at_) :: (rowA w0.heap.size (Kd.int .i64) 3 (.slice (some ado) o.length co) o) :: L)) scan_scanner_longest.tab5 scan_scanner_longest.bits5 HSr.out.drew (fun HT_ HW_ hHeld => ?_)
        clear HSr
        generalize wr.drew = w37_ at hHeld ⊢
        have HS38_ := Aside0.mk (show St w0 w37_ ((blkA g #[.slice (some adl) l.length cl, .slice (some ada) at_.length ca, .slice (some ado) o.length co] 128) :: (rowA w0.heap.size k54 54 (.slice (some ada) at_.length ca) at_) :: (rowA w0.heap.size (Kd.int .i64) 3 (.slice (some ado) o.length co) o) :: L) from hHeld)
        refine pu_ (v := ?_) (a' := ?_) HT_.out 0 (some 17) ?_ ?_ ?_; rotate_left 2; (intro w'; go_simp; with_reducible rfl); (simp only [Act.put, List.setIfInBounds_toArray, List.set_cons_zero, List.set_cons_succ, i64_w, i32_w]; rfl)
        refine pu_ (v := ?_) (a' := ?_) HT_.out 1 (some 18) ?_ ?_ ?_; rotate_left 2; (intro w'; go_simp; with_reducible rfl); (simp only [Act.put, List.setIfInBounds_toArray, List.set_cons_zero, List.set_cons_succ, i64_w, i32_w]; rfl)
        refine pu_ (v := ?_) (a' := ?_) HT_.out 2 (some 19) ?_ ?_ ?_; rotate_left 2; (intro w'; go_simp; with_reducible rfl); (simp only [Act.put, List.setIfInBounds_toArray, List.set_cons_zero, List.set_cons_succ, i64_w, i32_w]; rfl)
        refine pu_ (v := ?_) (a' := ?_) HT_.out 3 (some 20) ?_ ?_ ?_; rotate_left 2; (intro w'; go_simp; with_reducible rfl); (simp only [Act.put, List.setIfInBounds_toArray, List.set_cons_zero, List.set_cons_succ, i64_w, i32_w]; rfl)
        refine pu_ (v := ?_) (a' := ?_) HT_.out 4 (some 21) ?_ ?_ ?_; rotate_left 2; (intro w'; go_simp; with_reducible rfl); (simp only [Act.put, List.setIfInBounds_toArray, List.set_cons_zero, List.set_cons_succ, i64_w, i32_w]; rfl)
        refine pu_ (v := ?_) (a' := ?_) HT_.out 5 (some 22) ?_ ?_ ?_; rotate_left 2; (intro w'; go_simp; with_reducible rfl); (simp only [Act.put, List.setIfInBounds_toArray, List.set_cons_zero, List.set_cons_succ, i64_w, i32_w]; rfl)
        refine pu_ (v := ?_) (a' := ?_) HT_.out 6 (some 23) ?_ ?_ ?_; rotate_left 2; (intro w'; go_simp; with_reducible rfl); (simp only [Act.put, List.setIfInBounds_toArray, List.set_cons_zero, List.set_cons_succ, i64_w, i32_w]; rfl)
        refine pu_ (v := ?_) (a' := ?_) HT_.out 8 (some 25) ?_ ?_ ?_; rotate_left 2; (intro w'; go_simp; with_reducible rfl); (simp only [Act.put, List.setIfInBounds_toArray, List.set_cons_zero, List.set_cons_succ, i64_w, i32_w]; rfl)
        refine tk_ (v := ?_) (a' := ?_) HT_.out HW_.out hHeld 7 (some 24) ?_ ?_ ?_; rotate_left 2; (intro w' hS; have s0 : w'.cell? ⟨g, 1, none⟩ = some _ := hS.cell 0 rfl 1; go_simp; with_reducible rfl); (simp only [Act.put, List.setIfInBounds_toArray, List.set_cons_zero, List.set_cons_succ, i64_w, i32_w]; rfl)
        refine pu_ (v := ?_) (a' := ?_) HT_.out 9 (some 26) ?_ ?_ ?_; rotate_left 2; (intro w'; go_simp; with_reducible rfl); (simp only [Act.put, List.setIfInBounds_toArray, List.set_cons_zero, List.set_cons_succ, i64_w, i32_w]; rfl)
        refine pu_ (v := ?_) (a' := ?_) HT_.out 10 (some 27) ?_ ?_ ?_; rotate_left 2; (intro w'; go_simp; with_reducible rfl); (simp only [Act.put, List.setIfInBounds_toArray, List.set_cons_zero, List.set_cons_succ, i64_w, i32_w]; rfl)
        refine tk_ (v := ?_) (a' := ?_) HT_.out HW_.out hHeld 11 (some 28) ?_ ?_ ?_; rotate_left 2; (intro w' hS; obtain ⟨ad2, e2, hq0, hq1⟩ := at_T54 (Kd.R_reads' (hS.row 1 rfl)).2.2 k K0.out K1.out; obtain rfl := Option.some.inj e2; rw [HMK.out] at hq0 hq1; go_simp; with_reducible rfl); (simp only [Act.put, List.setIfInBounds_toArray, List.set_cons_zero, List.set_cons_succ, i64_w, i32_w]; rfl)
        refine pu_ (v := ?_) (a' := ?_) HT_.out 12 (some 29) ?_ ?_ ?_; rotate_left 2; (intro w'; go_simp; with_reducible rfl); (simp only [Act.put, List.setIfInBounds_toArray, List.set_cons_zero, List.set_cons_succ, i64_w, i32_w]; rfl)
        refine pu_ (v := ?_) (a' := ?_) HT_.out 13 (some 30) ?_ ?_ ?_; rotate_left 2; (intro w'; go_simp; with_reducible rfl); (simp only [Act.put, List.setIfInBounds_toArray, List.set_cons_zero, List.set_cons_succ, i64_w, i32_w]; rfl)
        refine pu_ (v := ?_) (a' := ?_) HT_.out 14 (some 31) ?_ ?_ ?_; rotate_left 2; (intro w'; go_simp; with_reducible rfl); (simp only [Act.put, List.setIfInBounds_toArray, List.set_cons_zero, List.set_cons_succ, i64_w, i32_w]; rfl)
        refine pu_ (v := ?_) (a' := ?_) HT_.out 15 (some 32) ?_ ?_ ?_; rotate_left 2; (intro w'; go_simp; with_reducible rfl); (simp only [Act.put, List.setIfInBounds_toArray, List.set_cons_zero, List.set_cons_succ, i64_w, i32_w]; rfl)
        refine pu_ (v := ?_) (a' := ?_) HT_.out 16 (some 33) ?_ ?_ ?_; rotate_left 2; (intro w'; go_simp; with_reducible rfl); (simp only [Act.put, List.setIfInBounds_toArray, List.set_cons_zero, List.set_cons_succ, i64_w, i32_w]; rfl)
        refine pu_ (v := ?_) (a' := ?_) HT_.out 18 (some 35) ?_ ?_ ?_; rotate_left 2; (intro w'; go_simp; with_reducible rfl); (simp only [Act.put, List.setIfInBounds_toArray, List.set_cons_zero, List.set_cons_succ, i64_w, i32_w]; rfl)
        refine pu_ (v := ?_) (a' := ?_) HT_.out 21 (some 38) ?_ ?_ ?_; rotate_left 2; (intro w'; go_simp; with_reducible rfl); (simp only [Act.put, List.setIfInBounds_toArray, List.set_cons_zero, List.set_cons_succ, i64_w, i32_w]; rfl)
        refine pu_ (v := ?_) (a' := ?_) HT_.out 22 (some 39) ?_ ?_ ?_; rotate_left 2; (intro w'; go_simp; with_reducible rfl); (simp only [Act.put, List.setIfInBounds_toArray, List.set_cons_zero, List.set_cons_succ, i64_w, i32_w]; rfl)
        refine pu_ (v := ?_) (a' := ?_) HT_.out 23 (some 40) ?_ ?_ ?_; rotate_left 2; (intro w'; go_simp; with_reducible rfl); (simp only [Act.put, List.setIfInBounds_toArray, List.set_cons_zero, List.set_cons_succ, i64_w, i32_w]; rfl)
        refine pu_ (v := ?_) (a' := ?_) HT_.out 25 (some 42) ?_ ?_ ?_; rotate_left 2; (intro w'; go_simp; with_reducible rfl); (simp only [Act.put, List.setIfInBounds_toArray, List.set_cons_zero, List.set_cons_succ, i64_w, i32_w]; rfl)
        refine tk_ (v := ?_) (a' := ?_) HT_.out HW_.out hHeld 17 (some 34) ?_ ?_ ?_; rotate_left 2; (intro w' hS; have s0 : w'.cell? ⟨g, 0, none⟩ = some _ := hS.cell 0 rfl 0; go_simp; with_reducible rfl); (simp only [Act.put, List.setIfInBounds_toArray, List.set_cons_zero, List.set_cons_succ, i64_w, i32_w]; rfl)
        refine pu_ (v := ?_) (a' := ?_) HT_.out 19 (some 36) ?_ ?_ ?_; rotate_left 2; (intro w'; go_simp; with_reducible rfl); (simp only [Act.put, List.setIfInBounds_toArray, List.set_cons_zero, List.set_cons_succ, i64_w, i32_w]; rfl)
        refine tk_ (v := ?_) (a' := ?_) HT_.out HW_.out hHeld 20 (some 37) ?_ ?_ ?_; rotate_left 2; (intro w' hS; have s0 : w'.cell? (adl.add (k.toNat * 2)) = some (.int .i64 x.f0) := (hS.below.cell (World.block_lt_of_cell? w0 _ HX0.out)).trans HX0.out; have s1 : w'.cell? ⟨(adl.add (k.toNat * 2)).block, (adl.add (k.toNat * 2)).off + 1, none⟩ = some (.int .i64 x.f1) := (hS.below.cell (World.block_lt_of_cell? w0 _ HX1.out)).trans HX1.out; go_simp; with_reducible rfl); (simp only [Act.put, List.setIfInBounds_toArray, List.set_cons_zero, List.set_cons_succ, i64_w, i32_w]; rfl)
        refine tk_ (v := ?_) (a' := ?_) HT_.out HW_.out hHeld 24 (some 41) ?_ ?_ ?_; rotate_left 2; (intro w' hS; have s0 : w'.cell? ⟨g, 0, none⟩ = some _ := hS.cell 0 rfl 0; go_simp; with_reducible rfl); (simp only [Act.put, List.setIfInBounds_toArray, List.set_cons_zero, List.set_cons_succ, i64_w, i32_w]; rfl)
        refine pu_ (v := ?_) (a' := ?_) HT_.out 26 (some 43) ?_ ?_ ?_; rotate_left 2; (intro w'; go_simp; with_reducible rfl); (simp only [Act.put, List.setIfInBounds_toArray, List.set_cons_zero, List.set_cons_succ, i64_w, i32_w]; rfl)
        refine tk_ (v := ?_) (a' := ?_) HT_.out HW_.out hHeld 27 (some 44) ?_ ?_ ?_; rotate_left 2; (intro w' hS; have s0 : w'.cell? (adl.add (n.toNat * 2)) = some (.int .i64 y.f0) := (hS.below.cell (World.block_lt_of_cell? w0 _ HY0.out)).trans HY0.out; have s1 : w'.cell? ⟨(adl.add (n.toNat * 2)).block, (adl.add (n.toNat * 2)).off + 1, none⟩ = some (.int .i64 y.f1) := (hS.below.cell (World.block_lt_of_cell? w0 _ HY1.out)).trans HY1.out; go_simp; with_reducible rfl); (simp only [Act.put, List.setIfInBounds_toArray, List.set_cons_zero, List.set_cons_succ, i64_w, i32_w]; rfl)
        refine on_ HT_.out 28 (some 45) (fun K hK => ?_)
        refine goes_ Try.func94 (by kernel_rfl) rfl #[.agg #[.int .i64 x.f0, .int .i64 x.f1], .agg #[.int .i64 y.f0, .int .i64 y.f1]] (by rfl) rfl rfl (by simp only [List.map_toArray, List.map_cons, List.map_nil]; rfl) ?_
        with_reducible refine (scan_meet.calls x.f0 x.f1 y.f0 y.f1 false _ HMT.out).mono ?_
        rintro e_ w39_ ⟨rfl, hb_⟩
        refine ⟨_, rfl, ?_⟩
        have HS40_ := Aside0.mk (HS38_.out.call hb_)
        clear hb_ HS38_ hHeld
        refine hK.out _ _ (HS40_.out) (fun hHeld => ?_)
        clear hK K
        refine norm_ (a' := ?_) ?_ ?_; rotate_left; (show Act.put _ (some 45) _ = _; simp only [Act.put, List.setIfInBounds_toArray, List.set_cons_zero, List.set_cons_succ, i64_w, i32_w]; rfl)
        refine pu_ (v := ?_) (a' := ?_) HT_.out 29 (some 46) ?_ ?_ ?_; rotate_left 2; (intro w'; go_simp; with_reducible rfl); (simp only [Act.put, List.setIfInBounds_toArray, List.set_cons_zero, List.set_cons_succ, i64_w, i32_w]; rfl)
        refine pu_ (v := ?_) (a' := ?_) HT_.out 30 (some 47) ?_ ?_ ?_; rotate_left 2; (intro w'; go_simp; with_reducible rfl); (simp only [Act.put, List.setIfInBounds_toArray, List.set_cons_zero, List.set_cons_succ, i64_w, i32_w]; rfl)
        refine pu_ (v := ?_) (a' := ?_) HT_.out 31 (some 48) ?_ ?_ ?_; rotate_left 2; (intro w'; go_simp; with_reducible rfl); (simp only [Act.put, List.setIfInBounds_toArray, List.set_cons_zero, List.set_cons_succ, i64_w, i32_w]; rfl)
        refine dn_ HT_.out ?_
        clear hHeld HT_ HW_
        go_wp2
        go_roundw
        case rel => exact ⟨i + 1, out, by first | rw [HW.out] | rfl, rfl, ⟨by omega⟩, HX4, HS40_⟩
        case measure => simp only [intOf]; (try rw [HW.out]); omega
      · replace hx2 : (stepL l k out).bind (longF l at_ n (o.drop (i + 1).toNat)) = some r := hx2
        unfold stepL at hx2
        rw [hxe] at hx2
        clear hxe
        go_wp2
        refine st_ (fun w' => St w0 w' ((blkA g #[.slice (some adl) l.length cl, .slice (some ada) at_.length ca, .slice (some ado) o.length co] 128) :: (rowA w0.heap.size k54 54 (.slice (some ada) at_.length ca) at_) :: (rowA w0.heap.size (Kd.int .i64) 3 (.slice (some ado) o.length co) o) :: L)) scan_scanner_longest.tab5 scan_scanner_longest.bits5 HSr.out.drew (fun HT_ HW_ hHeld => ?_)
        clear HSr
        generalize wr.drew = w41_ at hHeld ⊢
        have HS42_ := Aside0.mk (show St w0 w41_ ((blkA g #[.slice (some adl) l.length cl, .slice (some ada) at_.length ca, .slice (some ado) o.length co] 128) :: (rowA w0.heap.size k54 54 (.slice (some ada) at_.length ca) at_) :: (rowA w0.heap.size (Kd.int .i64) 3 (.slice (some ado) o.length co) o) :: L) from hHeld)
        refine pu_ (v := ?_) (a' := ?_) HT_.out 0 (some 17) ?_ ?_ ?_; rotate_left 2; (intro w'; go_simp; with_reducible rfl); (simp only [Act.put, List.setIfInBounds_toArray, List.set_cons_zero, List.set_cons_succ, i64_w, i32_w]; rfl)
        refine pu_ (v := ?_) (a' := ?_) HT_.out 1 (some 18) ?_ ?_ ?_; rotate_left 2; (intro w'; go_simp; with_reducible rfl); (simp only [Act.put, List.setIfInBounds_toArray, List.set_cons_zero, List.set_cons_succ, i64_w, i32_w]; rfl)
        refine pu_ (v := ?_) (a' := ?_) HT_.out 2 (some 19) ?_ ?_ ?_; rotate_left 2; (intro w'; go_simp; with_reducible rfl); (simp only [Act.put, List.setIfInBounds_toArray, List.set_cons_zero, List.set_cons_succ, i64_w, i32_w]; rfl)
        refine pu_ (v := ?_) (a' := ?_) HT_.out 3 (some 20) ?_ ?_ ?_; rotate_left 2; (intro w'; go_simp; with_reducible rfl); (simp only [Act.put, List.setIfInBounds_toArray, List.set_cons_zero, List.set_cons_succ, i64_w, i32_w]; rfl)
        refine pu_ (v := ?_) (a' := ?_) HT_.out 4 (some 21) ?_ ?_ ?_; rotate_left 2; (intro w'; go_simp; with_reducible rfl); (simp only [Act.put, List.setIfInBounds_toArray, List.set_cons_zero, List.set_cons_succ, i64_w, i32_w]; rfl)
        refine pu_ (v := ?_) (a' := ?_) HT_.out 5 (some 22) ?_ ?_ ?_; rotate_left 2; (intro w'; go_simp; with_reducible rfl); (simp only [Act.put, List.setIfInBounds_toArray, List.set_cons_zero, List.set_cons_succ, i64_w, i32_w]; rfl)
        refine pu_ (v := ?_) (a' := ?_) HT_.out 6 (some 23) ?_ ?_ ?_; rotate_left 2; (intro w'; go_simp; with_reducible rfl); (simp only [Act.put, List.setIfInBounds_toArray, List.set_cons_zero, List.set_cons_succ, i64_w, i32_w]; rfl)
        refine pu_ (v := ?_) (a' := ?_) HT_.out 8 (some 25) ?_ ?_ ?_; rotate_left 2; (intro w'; go_simp; with_reducible rfl); (simp only [Act.put, List.setIfInBounds_toArray, List.set_cons_zero, List.set_cons_succ, i64_w, i32_w]; rfl)
        refine tk_ (v := ?_) (a' := ?_) HT_.out HW_.out hHeld 7 (some 24) ?_ ?_ ?_; rotate_left 2; (intro w' hS; have s0 : w'.cell? ⟨g, 1, none⟩ = some _ := hS.cell 0 rfl 1; go_simp; with_reducible rfl); (simp only [Act.put, List.setIfInBounds_toArray, List.set_cons_zero, List.set_cons_succ, i64_w, i32_w]; rfl)
        refine pu_ (v := ?_) (a' := ?_) HT_.out 9 (some 26) ?_ ?_ ?_; rotate_left 2; (intro w'; go_simp; with_reducible rfl); (simp only [Act.put, List.setIfInBounds_toArray, List.set_cons_zero, List.set_cons_succ, i64_w, i32_w]; rfl)
        refine pu_ (v := ?_) (a' := ?_) HT_.out 10 (some 27) ?_ ?_ ?_; rotate_left 2; (intro w'; go_simp; with_reducible rfl); (simp only [Act.put, List.setIfInBounds_toArray, List.set_cons_zero, List.set_cons_succ, i64_w, i32_w]; rfl)
        refine tk_ (v := ?_) (a' := ?_) HT_.out HW_.out hHeld 11 (some 28) ?_ ?_ ?_; rotate_left 2; (intro w' hS; obtain ⟨ad2, e2, hq0, hq1⟩ := at_T54 (Kd.R_reads' (hS.row 1 rfl)).2.2 k K0.out K1.out; obtain rfl := Option.some.inj e2; rw [HMK.out] at hq0 hq1; go_simp; with_reducible rfl); (simp only [Act.put, List.setIfInBounds_toArray, List.set_cons_zero, List.set_cons_succ, i64_w, i32_w]; rfl)
        refine pu_ (v := ?_) (a' := ?_) HT_.out 12 (some 29) ?_ ?_ ?_; rotate_left 2; (intro w'; go_simp; with_reducible rfl); (simp only [Act.put, List.setIfInBounds_toArray, List.set_cons_zero, List.set_cons_succ, i64_w, i32_w]; rfl)
        refine pu_ (v := ?_) (a' := ?_) HT_.out 13 (some 30) ?_ ?_ ?_; rotate_left 2; (intro w'; go_simp; with_reducible rfl); (simp only [Act.put, List.setIfInBounds_toArray, List.set_cons_zero, List.set_cons_succ, i64_w, i32_w]; rfl)
        refine pu_ (v := ?_) (a' := ?_) HT_.out 14 (some 31) ?_ ?_ ?_; rotate_left 2; (intro w'; go_simp; with_reducible rfl); (simp only [Act.put, List.setIfInBounds_toArray, List.set_cons_zero, List.set_cons_succ, i64_w, i32_w]; rfl)
        refine pu_ (v := ?_) (a' := ?_) HT_.out 15 (some 32) ?_ ?_ ?_; rotate_left 2; (intro w'; go_simp; with_reducible rfl); (simp only [Act.put, List.setIfInBounds_toArray, List.set_cons_zero, List.set_cons_succ, i64_w, i32_w]; rfl)
        refine pu_ (v := ?_) (a' := ?_) HT_.out 16 (some 33) ?_ ?_ ?_; rotate_left 2; (intro w'; go_simp; with_reducible rfl); (simp only [Act.put, List.setIfInBounds_toArray, List.set_cons_zero, List.set_cons_succ, i64_w, i32_w]; rfl)
        refine pu_ (v := ?_) (a' := ?_) HT_.out 18 (some 35) ?_ ?_ ?_; rotate_left 2; (intro w'; go_simp; with_reducible rfl); (simp only [Act.put, List.setIfInBounds_toArray, List.set_cons_zero, List.set_cons_succ, i64_w, i32_w]; rfl)
        refine pu_ (v := ?_) (a' := ?_) HT_.out 21 (some 38) ?_ ?_ ?_; rotate_left 2; (intro w'; go_simp; with_reducible rfl); (simp only [Act.put, List.setIfInBounds_toArray, List.set_cons_zero, List.set_cons_succ, i64_w, i32_w]; rfl)
        refine pu_ (v := ?_) (a' := ?_) HT_.out 22 (some 39) ?_ ?_ ?_; rotate_left 2; (intro w'; go_simp; with_reducible rfl); (simp only [Act.put, List.setIfInBounds_toArray, List.set_cons_zero, List.set_cons_succ, i64_w, i32_w]; rfl)
        refine pu_ (v := ?_) (a' := ?_) HT_.out 23 (some 40) ?_ ?_ ?_; rotate_left 2; (intro w'; go_simp; with_reducible rfl); (simp only [Act.put, List.setIfInBounds_toArray, List.set_cons_zero, List.set_cons_succ, i64_w, i32_w]; rfl)
        refine pu_ (v := ?_) (a' := ?_) HT_.out 25 (some 42) ?_ ?_ ?_; rotate_left 2; (intro w'; go_simp; with_reducible rfl); (simp only [Act.put, List.setIfInBounds_toArray, List.set_cons_zero, List.set_cons_succ, i64_w, i32_w]; rfl)
        refine tk_ (v := ?_) (a' := ?_) HT_.out HW_.out hHeld 17 (some 34) ?_ ?_ ?_; rotate_left 2; (intro w' hS; have s0 : w'.cell? ⟨g, 0, none⟩ = some _ := hS.cell 0 rfl 0; go_simp; with_reducible rfl); (simp only [Act.put, List.setIfInBounds_toArray, List.set_cons_zero, List.set_cons_succ, i64_w, i32_w]; rfl)
        refine pu_ (v := ?_) (a' := ?_) HT_.out 19 (some 36) ?_ ?_ ?_; rotate_left 2; (intro w'; go_simp; with_reducible rfl); (simp only [Act.put, List.setIfInBounds_toArray, List.set_cons_zero, List.set_cons_succ, i64_w, i32_w]; rfl)
        refine tk_ (v := ?_) (a' := ?_) HT_.out HW_.out hHeld 20 (some 37) ?_ ?_ ?_; rotate_left 2; (intro w' hS; have s0 : w'.cell? (adl.add (k.toNat * 2)) = some (.int .i64 x.f0) := (hS.below.cell (World.block_lt_of_cell? w0 _ HX0.out)).trans HX0.out; have s1 : w'.cell? ⟨(adl.add (k.toNat * 2)).block, (adl.add (k.toNat * 2)).off + 1, none⟩ = some (.int .i64 x.f1) := (hS.below.cell (World.block_lt_of_cell? w0 _ HX1.out)).trans HX1.out; go_simp; with_reducible rfl); (simp only [Act.put, List.setIfInBounds_toArray, List.set_cons_zero, List.set_cons_succ, i64_w, i32_w]; rfl)
        refine tk_ (v := ?_) (a' := ?_) HT_.out HW_.out hHeld 24 (some 41) ?_ ?_ ?_; rotate_left 2; (intro w' hS; have s0 : w'.cell? ⟨g, 0, none⟩ = some _ := hS.cell 0 rfl 0; go_simp; with_reducible rfl); (simp only [Act.put, List.setIfInBounds_toArray, List.set_cons_zero, List.set_cons_succ, i64_w, i32_w]; rfl)
        refine pu_ (v := ?_) (a' := ?_) HT_.out 26 (some 43) ?_ ?_ ?_; rotate_left 2; (intro w'; go_simp; with_reducible rfl); (simp only [Act.put, List.setIfInBounds_toArray, List.set_cons_zero, List.set_cons_succ, i64_w, i32_w]; rfl)
        refine tk_ (v := ?_) (a' := ?_) HT_.out HW_.out hHeld 27 (some 44) ?_ ?_ ?_; rotate_left 2; (intro w' hS; have s0 : w'.cell? (adl.add (n.toNat * 2)) = some (.int .i64 y.f0) := (hS.below.cell (World.block_lt_of_cell? w0 _ HY0.out)).trans HY0.out; have s1 : w'.cell? ⟨(adl.add (n.toNat * 2)).block, (adl.add (n.toNat * 2)).off + 1, none⟩ = some (.int .i64 y.f1) := (hS.below.cell (World.block_lt_of_cell? w0 _ HY1.out)).trans HY1.out; go_simp; with_reducible rfl); (simp only [Act.put, List.setIfInBounds_toArray, List.set_cons_zero, List.set_cons_succ, i64_w, i32_w]; rfl)
        refine on_ HT_.out 28 (some 45) (fun K hK => ?_)
        refine goes_ Try.func94 (by kernel_rfl) rfl #[.agg #[.int .i64 x.f0, .int .i64 x.f1], .agg #[.int .i64 y.f0, .int .i64 y.f1]] (by rfl) rfl rfl (by simp only [List.map_toArray, List.map_cons, List.map_nil]; rfl) ?_
        with_reducible refine (scan_meet.calls x.f0 x.f1 y.f0 y.f1 true _ HMT.out).mono ?_
        rintro e_ w43_ ⟨rfl, hb_⟩
        refine ⟨_, rfl, ?_⟩
        have HS44_ := Aside0.mk (HS42_.out.call hb_)
        clear hb_ HS42_ hHeld
        refine hK.out _ _ (HS44_.out) (fun hHeld => ?_)
        clear hK K
        refine norm_ (a' := ?_) ?_ ?_; rotate_left; (show Act.put _ (some 45) _ = _; simp only [Act.put, List.setIfInBounds_toArray, List.set_cons_zero, List.set_cons_succ, i64_w, i32_w]; rfl)
        refine pu_ (v := ?_) (a' := ?_) HT_.out 29 (some 46) ?_ ?_ ?_; rotate_left 2; (intro w'; go_simp; with_reducible rfl); (simp only [Act.put, List.setIfInBounds_toArray, List.set_cons_zero, List.set_cons_succ, i64_w, i32_w]; rfl)
        refine pu_ (v := ?_) (a' := ?_) HT_.out 30 (some 47) ?_ ?_ ?_; rotate_left 2; (intro w'; go_simp; with_reducible rfl); (simp only [Act.put, List.setIfInBounds_toArray, List.set_cons_zero, List.set_cons_succ, i64_w, i32_w]; rfl)
        refine pu_ (v := ?_) (a' := ?_) HT_.out 31 (some 48) ?_ ?_ ?_; rotate_left 2; (intro w'; go_simp; with_reducible rfl); (simp only [Act.put, List.setIfInBounds_toArray, List.set_cons_zero, List.set_cons_succ, i64_w, i32_w]; rfl)
        refine dn_ HT_.out ?_
        clear hHeld HT_ HW_
        by_cases d1 : out < 0
        · rw [if_pos d1] at hx2
          have HX4 := Aside0.mk (show longF l at_ n (o.drop (i + 1).toNat) k = some r from hx2)
          have hd1 : decide (out < 0) = true := decide_eq_true d1
          clear hx2 d1
          go_wp2
          refine st_ (fun w' => St w0 w' ((blkA g #[.slice (some adl) l.length cl, .slice (some ada) at_.length ca, .slice (some ado) o.length co] 128) :: (rowA w0.heap.size k54 54 (.slice (some ada) at_.length ca) at_) :: (rowA w0.heap.size (Kd.int .i64) 3 (.slice (some ado) o.length co) o) :: L)) scan_scanner_longest.tab6 scan_scanner_longest.bits6 HS44_.out.drew (fun HT_ HW_ hHeld => ?_)
          clear HS44_
          generalize w43_.drew = w51_ at hHeld ⊢
          have HS52_ := Aside0.mk (show St w0 w51_ ((blkA g #[.slice (some adl) l.length cl, .slice (some ada) at_.length ca, .slice (some ado) o.length co] 128) :: (rowA w0.heap.size k54 54 (.slice (some ada) at_.length ca) at_) :: (rowA w0.heap.size (Kd.int .i64) 3 (.slice (some ado) o.length co) o) :: L) from hHeld)
          refine pu_ (v := ?_) (a' := ?_) HT_.out 0 (some 49) ?_ ?_ ?_; rotate_left 2; (intro w'; go_simp; with_reducible rfl); (simp only [Act.put, List.setIfInBounds_toArray, List.set_cons_zero, List.set_cons_succ, i64_w, i32_w]; rfl)
          refine pu_ (v := ?_) (a' := ?_) HT_.out 1 (some 50) ?_ ?_ ?_; rotate_left 2; (intro w'; go_simp; with_reducible rfl); (simp only [Act.put, List.setIfInBounds_toArray, List.set_cons_zero, List.set_cons_succ, i64_w, i32_w]; rfl)
          refine pu_ (v := ?_) (a' := ?_) HT_.out 2 (some 51) ?_ ?_ ?_; rotate_left 2; (intro w'; go_simp; with_reducible rfl); (simp only [Act.put, List.setIfInBounds_toArray, List.set_cons_zero, List.set_cons_succ, i64_w, i32_w]; rfl)
          refine un_ (a' := ?_) HT_.out 3 (some 52) ?_ ?_; rotate_left; (simp only [Act.put, List.setIfInBounds_toArray, List.set_cons_zero, List.set_cons_succ, i64_w, i32_w]; rfl)
          refine un_ (a' := ?_) HT_.out 4 (some 53) ?_ ?_; rotate_left; (simp only [Act.put, List.setIfInBounds_toArray, List.set_cons_zero, List.set_cons_succ, i64_w, i32_w]; rfl)
          refine un_ (a' := ?_) HT_.out 5 (some 54) ?_ ?_; rotate_left; (simp only [Act.put, List.setIfInBounds_toArray, List.set_cons_zero, List.set_cons_succ, i64_w, i32_w]; rfl)
          refine un_ (a' := ?_) HT_.out 6 (some 55) ?_ ?_; rotate_left; (simp only [Act.put, List.setIfInBounds_toArray, List.set_cons_zero, List.set_cons_succ, i64_w, i32_w]; rfl)
          refine un_ (a' := ?_) HT_.out 7 (some 56) ?_ ?_; rotate_left; (simp only [Act.put, List.setIfInBounds_toArray, List.set_cons_zero, List.set_cons_succ, i64_w, i32_w]; rfl)
          refine un_ (a' := ?_) HT_.out 8 (some 57) ?_ ?_; rotate_left; (simp only [Act.put, List.setIfInBounds_toArray, List.set_cons_zero, List.set_cons_succ, i64_w, i32_w]; rfl)
          refine un_ (a' := ?_) HT_.out 9 (some 58) ?_ ?_; rotate_left; (simp only [Act.put, List.setIfInBounds_toArray, List.set_cons_zero, List.set_cons_succ, i64_w, i32_w]; rfl)
          refine un_ (a' := ?_) HT_.out 10 (some 59) ?_ ?_; rotate_left; (simp only [Act.put, List.setIfInBounds_toArray, List.set_cons_zero, List.set_cons_succ, i64_w, i32_w]; rfl)
          refine un_ (a' := ?_) HT_.out 11 (some 60) ?_ ?_; rotate_left; (simp only [Act.put, List.setIfInBounds_toArray, List.set_cons_zero, List.set_cons_succ, i64_w, i32_w]; rfl)
          refine un_ (a' := ?_) HT_.out 12 (some 61) ?_ ?_; rotate_left; (simp only [Act.put, List.setIfInBounds_toArray, List.set_cons_zero, List.set_cons_succ, i64_w, i32_w]; rfl)
          refine un_ (a' := ?_) HT_.out 13 (some 62) ?_ ?_; rotate_left; (simp only [Act.put, List.setIfInBounds_toArray, List.set_cons_zero, List.set_cons_succ, i64_w, i32_w]; rfl)
          refine un_ (a' := ?_) HT_.out 14 (some 63) ?_ ?_; rotate_left; (simp only [Act.put, List.setIfInBounds_toArray, List.set_cons_zero, List.set_cons_succ, i64_w, i32_w]; rfl)
          refine un_ (a' := ?_) HT_.out 15 (some 64) ?_ ?_; rotate_left; (simp only [Act.put, List.setIfInBounds_toArray, List.set_cons_zero, List.set_cons_succ, i64_w, i32_w]; rfl)
          refine un_ (a' := ?_) HT_.out 16 (some 65) ?_ ?_; rotate_left; (simp only [Act.put, List.setIfInBounds_toArray, List.set_cons_zero, List.set_cons_succ, i64_w, i32_w]; rfl)
          refine un_ (a' := ?_) HT_.out 17 (some 66) ?_ ?_; rotate_left; (simp only [Act.put, List.setIfInBounds_toArray, List.set_cons_zero, List.set_cons_succ, i64_w, i32_w]; rfl)
          refine un_ (a' := ?_) HT_.out 18 (some 67) ?_ ?_; rotate_left; (simp only [Act.put, List.setIfInBounds_toArray, List.set_cons_zero, List.set_cons_succ, i64_w, i32_w]; rfl)
          refine un_ (a' := ?_) HT_.out 19 (some 68) ?_ ?_; rotate_left; (simp only [Act.put, List.setIfInBounds_toArray, List.set_cons_zero, List.set_cons_succ, i64_w, i32_w]; rfl)
          refine pu_ (v := ?_) (a' := ?_) HT_.out 20 (some 69) ?_ ?_ ?_; rotate_left 2; (intro w'; go_simp; with_reducible rfl); (simp only [Act.put, List.setIfInBounds_toArray, List.set_cons_zero, List.set_cons_succ, i64_w, i32_w]; rfl)
          refine dn_ HT_.out ?_
          clear hHeld HT_ HW_
          go_wp2
          go_roundw
          case rel => exact ⟨i + 1, k, by first | rw [HW.out] | rfl, rfl, ⟨by omega⟩, HX4, HS52_⟩
          case measure => simp only [intOf]; (try rw [HW.out]); omega
        rw [if_neg d1] at hx2
        have hd1 : decide (out < 0) = false := decide_eq_false d1
        split at hx2
        case isFalse => cases hx2
        rename_i d2
        obtain ⟨adl3, e, hz0, hz1⟩ := at_T60 HL.out out (by omega) d2
        obtain rfl := Option.some.inj e
        have d0 : 0 ≤ out := by omega
        generalize rd_T60 l out = z at *
        have HZ0 := Aside0.mk hz0
        have HZ1 := Aside0.mk hz1
        clear hz0 hz1 e d1
        by_cases d3 : z.f1 ≤ x.f1
        · rw [if_pos d3] at hx2
          have HX4 := Aside0.mk (show longF l at_ n (o.drop (i + 1).toNat) k = some r from hx2)
          have hd3 : decide (z.f1 ≤ x.f1) = true := decide_eq_true d3
          have hd4 : decide (x.f1 ≥ z.f1) = true := decide_eq_true d3
          clear hx2 d3
          go_wp2
          refine st_ (fun w' => St w0 w' ((blkA g #[.slice (some adl) l.length cl, .slice (some ada) at_.length ca, .slice (some ado) o.length co] 128) :: (rowA w0.heap.size k54 54 (.slice (some ada) at_.length ca) at_) :: (rowA w0.heap.size (Kd.int .i64) 3 (.slice (some ado) o.length co) o) :: L)) scan_scanner_longest.tab6 scan_scanner_longest.bits6 HS44_.out.drew (fun HT_ HW_ hHeld => ?_)
          clear HS44_
          generalize w43_.drew = w53_ at hHeld ⊢
          have HS54_ := Aside0.mk (show St w0 w53_ ((blkA g #[.slice (some adl) l.length cl, .slice (some ada) at_.length ca, .slice (some ado) o.length co] 128) :: (rowA w0.heap.size k54 54 (.slice (some ada) at_.length ca) at_) :: (rowA w0.heap.size (Kd.int .i64) 3 (.slice (some ado) o.length co) o) :: L) from hHeld)
          refine pu_ (v := ?_) (a' := ?_) HT_.out 0 (some 49) ?_ ?_ ?_; rotate_left 2; (intro w'; go_simp; with_reducible rfl); (simp only [Act.put, List.setIfInBounds_toArray, List.set_cons_zero, List.set_cons_succ, i64_w, i32_w]; rfl)
          refine pu_ (v := ?_) (a' := ?_) HT_.out 1 (some 50) ?_ ?_ ?_; rotate_left 2; (intro w'; go_simp; with_reducible rfl); (simp only [Act.put, List.setIfInBounds_toArray, List.set_cons_zero, List.set_cons_succ, i64_w, i32_w]; rfl)
          refine pu_ (v := ?_) (a' := ?_) HT_.out 2 (some 51) ?_ ?_ ?_; rotate_left 2; (intro w'; go_simp; with_reducible rfl); (simp only [Act.put, List.setIfInBounds_toArray, List.set_cons_zero, List.set_cons_succ, i64_w, i32_w]; rfl)
          refine pu_ (v := ?_) (a' := ?_) HT_.out 3 (some 52) ?_ ?_ ?_; rotate_left 2; (intro w'; go_simp; with_reducible rfl); (simp only [Act.put, List.setIfInBounds_toArray, List.set_cons_zero, List.set_cons_succ, i64_w, i32_w]; rfl)
          refine pu_ (v := ?_) (a' := ?_) HT_.out 4 (some 53) ?_ ?_ ?_; rotate_left 2; (intro w'; go_simp; with_reducible rfl); (simp only [Act.put, List.setIfInBounds_toArray, List.set_cons_zero, List.set_cons_succ, i64_w, i32_w]; rfl)
          refine pu_ (v := ?_) (a' := ?_) HT_.out 5 (some 54) ?_ ?_ ?_; rotate_left 2; (intro w'; go_simp; with_reducible rfl); (simp only [Act.put, List.setIfInBounds_toArray, List.set_cons_zero, List.set_cons_succ, i64_w, i32_w]; rfl)
          refine pu_ (v := ?_) (a' := ?_) HT_.out 7 (some 56) ?_ ?_ ?_; rotate_left 2; (intro w'; go_simp; with_reducible rfl); (simp only [Act.put, List.setIfInBounds_toArray, List.set_cons_zero, List.set_cons_succ, i64_w, i32_w]; rfl)
          refine pu_ (v := ?_) (a' := ?_) HT_.out 11 (some 60) ?_ ?_ ?_; rotate_left 2; (intro w'; go_simp; with_reducible rfl); (simp only [Act.put, List.setIfInBounds_toArray, List.set_cons_zero, List.set_cons_succ, i64_w, i32_w]; rfl)
          refine pu_ (v := ?_) (a' := ?_) HT_.out 12 (some 61) ?_ ?_ ?_; rotate_left 2; (intro w'; go_simp; with_reducible rfl); (simp only [Act.put, List.setIfInBounds_toArray, List.set_cons_zero, List.set_cons_succ, i64_w, i32_w]; rfl)
          refine pu_ (v := ?_) (a' := ?_) HT_.out 13 (some 62) ?_ ?_ ?_; rotate_left 2; (intro w'; go_simp; with_reducible rfl); (simp only [Act.put, List.setIfInBounds_toArray, List.set_cons_zero, List.set_cons_succ, i64_w, i32_w]; rfl)
          refine pu_ (v := ?_) (a' := ?_) HT_.out 15 (some 64) ?_ ?_ ?_; rotate_left 2; (intro w'; go_simp; with_reducible rfl); (simp only [Act.put, List.setIfInBounds_toArray, List.set_cons_zero, List.set_cons_succ, i64_w, i32_w]; rfl)
          refine tk_ (v := ?_) (a' := ?_) HT_.out HW_.out hHeld 6 (some 55) ?_ ?_ ?_; rotate_left 2; (intro w' hS; have s0 : w'.cell? ⟨g, 0, none⟩ = some _ := hS.cell 0 rfl 0; go_simp; with_reducible rfl); (simp only [Act.put, List.setIfInBounds_toArray, List.set_cons_zero, List.set_cons_succ, i64_w, i32_w]; rfl)
          refine pu_ (v := ?_) (a' := ?_) HT_.out 8 (some 57) ?_ ?_ ?_; rotate_left 2; (intro w'; go_simp; with_reducible rfl); (simp only [Act.put, List.setIfInBounds_toArray, List.set_cons_zero, List.set_cons_succ, i64_w, i32_w]; rfl)
          refine pu_ (v := ?_) (a' := ?_) HT_.out 9 (some 58) ?_ ?_ ?_; rotate_left 2; (intro w'; go_simp; with_reducible rfl); (simp only [Act.put, List.setIfInBounds_toArray, List.set_cons_zero, List.set_cons_succ, i64_w, i32_w]; rfl)
          refine tk_ (v := ?_) (a' := ?_) HT_.out HW_.out hHeld 10 (some 59) ?_ ?_ ?_; rotate_left 2; (intro w' hS; have s0 : w'.cell? (adl.add (k.toNat * 2)) = some (.int .i64 x.f0) := (hS.below.cell (World.block_lt_of_cell? w0 _ HX0.out)).trans HX0.out; have s1 : w'.cell? ⟨(adl.add (k.toNat * 2)).block, (adl.add (k.toNat * 2)).off + 1, none⟩ = some (.int .i64 x.f1) := (hS.below.cell (World.block_lt_of_cell? w0 _ HX1.out)).trans HX1.out; go_simp; with_reducible rfl); (simp only [Act.put, List.setIfInBounds_toArray, List.set_cons_zero, List.set_cons_succ, i64_w, i32_w]; rfl)
          refine tk_ (v := ?_) (a' := ?_) HT_.out HW_.out hHeld 14 (some 63) ?_ ?_ ?_; rotate_left 2; (intro w' hS; have s0 : w'.cell? ⟨g, 0, none⟩ = some _ := hS.cell 0 rfl 0; go_simp; with_reducible rfl); (simp only [Act.put, List.setIfInBounds_toArray, List.set_cons_zero, List.set_cons_succ, i64_w, i32_w]; rfl)
          refine pu_ (v := ?_) (a' := ?_) HT_.out 16 (some 65) ?_ ?_ ?_; rotate_left 2; (intro w'; go_simp; with_reducible rfl); (simp only [Act.put, List.setIfInBounds_toArray, List.set_cons_zero, List.set_cons_succ, i64_w, i32_w]; rfl)
          refine pu_ (v := ?_) (a' := ?_) HT_.out 17 (some 66) ?_ ?_ ?_; rotate_left 2; (intro w'; go_simp; with_reducible rfl); (simp only [Act.put, List.setIfInBounds_toArray, List.set_cons_zero, List.set_cons_succ, i64_w, i32_w]; rfl)
          refine tk_ (v := ?_) (a' := ?_) HT_.out HW_.out hHeld 18 (some 67) ?_ ?_ ?_; rotate_left 2; (intro w' hS; have s0 : w'.cell? (adl.add (out.toNat * 2)) = some (.int .i64 z.f0) := (hS.below.cell (World.block_lt_of_cell? w0 _ HZ0.out)).trans HZ0.out; have s1 : w'.cell? ⟨(adl.add (out.toNat * 2)).block, (adl.add (out.toNat * 2)).off + 1, none⟩ = some (.int .i64 z.f1) := (hS.below.cell (World.block_lt_of_cell? w0 _ HZ1.out)).trans HZ1.out; go_simp; with_reducible rfl); (simp only [Act.put, List.setIfInBounds_toArray, List.set_cons_zero, List.set_cons_succ, i64_w, i32_w]; rfl)
          refine pu_ (v := ?_) (a' := ?_) HT_.out 19 (some 68) ?_ ?_ ?_; rotate_left 2; (intro w'; go_simp; with_reducible rfl); (simp only [Act.put, List.setIfInBounds_toArray, List.set_cons_zero, List.set_cons_succ, i64_w, i32_w]; rfl)
          refine pu_ (v := ?_) (a' := ?_) HT_.out 20 (some 69) ?_ ?_ ?_; rotate_left 2; (intro w'; go_simp; with_reducible rfl); (simp only [Act.put, List.setIfInBounds_toArray, List.set_cons_zero, List.set_cons_succ, i64_w, i32_w]; rfl)
          refine dn_ HT_.out ?_
          clear hHeld HT_ HW_
          go_wp2
          go_roundw
          case rel => exact ⟨i + 1, k, by first | rw [HW.out] | rfl, rfl, ⟨by omega⟩, HX4, HS54_⟩
          case measure => simp only [intOf]; (try rw [HW.out]); omega
        · rw [if_neg d3] at hx2
          have HX4 := Aside0.mk (show longF l at_ n (o.drop (i + 1).toNat) out = some r from hx2)
          have hd3 : decide (z.f1 ≤ x.f1) = false := decide_eq_false d3
          have hd4 : decide (x.f1 ≥ z.f1) = false := decide_eq_false d3
          clear hx2 d3
          go_wp2
          refine st_ (fun w' => St w0 w' ((blkA g #[.slice (some adl) l.length cl, .slice (some ada) at_.length ca, .slice (some ado) o.length co] 128) :: (rowA w0.heap.size k54 54 (.slice (some ada) at_.length ca) at_) :: (rowA w0.heap.size (Kd.int .i64) 3 (.slice (some ado) o.length co) o) :: L)) scan_scanner_longest.tab6 scan_scanner_longest.bits6 HS44_.out.drew (fun HT_ HW_ hHeld => ?_)
          clear HS44_
          generalize w43_.drew = w55_ at hHeld ⊢
          have HS56_ := Aside0.mk (show St w0 w55_ ((blkA g #[.slice (some adl) l.length cl, .slice (some ada) at_.length ca, .slice (some ado) o.length co] 128) :: (rowA w0.heap.size k54 54 (.slice (some ada) at_.length ca) at_) :: (rowA w0.heap.size (Kd.int .i64) 3 (.slice (some ado) o.length co) o) :: L) from hHeld)
          refine pu_ (v := ?_) (a' := ?_) HT_.out 0 (some 49) ?_ ?_ ?_; rotate_left 2; (intro w'; go_simp; with_reducible rfl); (simp only [Act.put, List.setIfInBounds_toArray, List.set_cons_zero, List.set_cons_succ, i64_w, i32_w]; rfl)
          refine pu_ (v := ?_) (a' := ?_) HT_.out 1 (some 50) ?_ ?_ ?_; rotate_left 2; (intro w'; go_simp; with_reducible rfl); (simp only [Act.put, List.setIfInBounds_toArray, List.set_cons_zero, List.set_cons_succ, i64_w, i32_w]; rfl)
          refine pu_ (v := ?_) (a' := ?_) HT_.out 2 (some 51) ?_ ?_ ?_; rotate_left 2; (intro w'; go_simp; with_reducible rfl); (simp only [Act.put, List.setIfInBounds_toArray, List.set_cons_zero, List.set_cons_succ, i64_w, i32_w]; rfl)
          refine pu_ (v := ?_) (a' := ?_) HT_.out 3 (some 52) ?_ ?_ ?_; rotate_left 2; (intro w'; go_simp; with_reducible rfl); (simp only [Act.put, List.setIfInBounds_toArray, List.set_cons_zero, List.set_cons_succ, i64_w, i32_w]; rfl)
          refine pu_ (v := ?_) (a' := ?_) HT_.out 4 (some 53) ?_ ?_ ?_; rotate_left 2; (intro w'; go_simp; with_reducible rfl); (simp only [Act.put, List.setIfInBounds_toArray, List.set_cons_zero, List.set_cons_succ, i64_w, i32_w]; rfl)
          refine pu_ (v := ?_) (a' := ?_) HT_.out 5 (some 54) ?_ ?_ ?_; rotate_left 2; (intro w'; go_simp; with_reducible rfl); (simp only [Act.put, List.setIfInBounds_toArray, List.set_cons_zero, List.set_cons_succ, i64_w, i32_w]; rfl)
          refine pu_ (v := ?_) (a' := ?_) HT_.out 7 (some 56) ?_ ?_ ?_; rotate_left 2; (intro w'; go_simp; with_reducible rfl); (simp only [Act.put, List.setIfInBounds_toArray, List.set_cons_zero, List.set_cons_succ, i64_w, i32_w]; rfl)
          refine pu_ (v := ?_) (a' := ?_) HT_.out 11 (some 60) ?_ ?_ ?_; rotate_left 2; (intro w'; go_simp; with_reducible rfl); (simp only [Act.put, List.setIfInBounds_toArray, List.set_cons_zero, List.set_cons_succ, i64_w, i32_w]; rfl)
          refine pu_ (v := ?_) (a' := ?_) HT_.out 12 (some 61) ?_ ?_ ?_; rotate_left 2; (intro w'; go_simp; with_reducible rfl); (simp only [Act.put, List.setIfInBounds_toArray, List.set_cons_zero, List.set_cons_succ, i64_w, i32_w]; rfl)
          refine pu_ (v := ?_) (a' := ?_) HT_.out 13 (some 62) ?_ ?_ ?_; rotate_left 2; (intro w'; go_simp; with_reducible rfl); (simp only [Act.put, List.setIfInBounds_toArray, List.set_cons_zero, List.set_cons_succ, i64_w, i32_w]; rfl)
          refine pu_ (v := ?_) (a' := ?_) HT_.out 15 (some 64) ?_ ?_ ?_; rotate_left 2; (intro w'; go_simp; with_reducible rfl); (simp only [Act.put, List.setIfInBounds_toArray, List.set_cons_zero, List.set_cons_succ, i64_w, i32_w]; rfl)
          refine tk_ (v := ?_) (a' := ?_) HT_.out HW_.out hHeld 6 (some 55) ?_ ?_ ?_; rotate_left 2; (intro w' hS; have s0 : w'.cell? ⟨g, 0, none⟩ = some _ := hS.cell 0 rfl 0; go_simp; with_reducible rfl); (simp only [Act.put, List.setIfInBounds_toArray, List.set_cons_zero, List.set_cons_succ, i64_w, i32_w]; rfl)
          refine pu_ (v := ?_) (a' := ?_) HT_.out 8 (some 57) ?_ ?_ ?_; rotate_left 2; (intro w'; go_simp; with_reducible rfl); (simp only [Act.put, List.setIfInBounds_toArray, List.set_cons_zero, List.set_cons_succ, i64_w, i32_w]; rfl)
          refine pu_ (v := ?_) (a' := ?_) HT_.out 9 (some 58) ?_ ?_ ?_; rotate_left 2; (intro w'; go_simp; with_reducible rfl); (simp only [Act.put, List.setIfInBounds_toArray, List.set_cons_zero, List.set_cons_succ, i64_w, i32_w]; rfl)
          refine tk_ (v := ?_) (a' := ?_) HT_.out HW_.out hHeld 10 (some 59) ?_ ?_ ?_; rotate_left 2; (intro w' hS; have s0 : w'.cell? (adl.add (k.toNat * 2)) = some (.int .i64 x.f0) := (hS.below.cell (World.block_lt_of_cell? w0 _ HX0.out)).trans HX0.out; have s1 : w'.cell? ⟨(adl.add (k.toNat * 2)).block, (adl.add (k.toNat * 2)).off + 1, none⟩ = some (.int .i64 x.f1) := (hS.below.cell (World.block_lt_of_cell? w0 _ HX1.out)).trans HX1.out; go_simp; with_reducible rfl); (simp only [Act.put, List.setIfInBounds_toArray, List.set_cons_zero, List.set_cons_succ, i64_w, i32_w]; rfl)
          refine tk_ (v := ?_) (a' := ?_) HT_.out HW_.out hHeld 14 (some 63) ?_ ?_ ?_; rotate_left 2; (intro w' hS; have s0 : w'.cell? ⟨g, 0, none⟩ = some _ := hS.cell 0 rfl 0; go_simp; with_reducible rfl); (simp only [Act.put, List.setIfInBounds_toArray, List.set_cons_zero, List.set_cons_succ, i64_w, i32_w]; rfl)
          refine pu_ (v := ?_) (a' := ?_) HT_.out 16 (some 65) ?_ ?_ ?_; rotate_left 2; (intro w'; go_simp; with_reducible rfl); (simp only [Act.put, List.setIfInBounds_toArray, List.set_cons_zero, List.set_cons_succ, i64_w, i32_w]; rfl)
          refine pu_ (v := ?_) (a' := ?_) HT_.out 17 (some 66) ?_ ?_ ?_; rotate_left 2; (intro w'; go_simp; with_reducible rfl); (simp only [Act.put, List.setIfInBounds_toArray, List.set_cons_zero, List.set_cons_succ, i64_w, i32_w]; rfl)
          refine tk_ (v := ?_) (a' := ?_) HT_.out HW_.out hHeld 18 (some 67) ?_ ?_ ?_; rotate_left 2; (intro w' hS; have s0 : w'.cell? (adl.add (out.toNat * 2)) = some (.int .i64 z.f0) := (hS.below.cell (World.block_lt_of_cell? w0 _ HZ0.out)).trans HZ0.out; have s1 : w'.cell? ⟨(adl.add (out.toNat * 2)).block, (adl.add (out.toNat * 2)).off + 1, none⟩ = some (.int .i64 z.f1) := (hS.below.cell (World.block_lt_of_cell? w0 _ HZ1.out)).trans HZ1.out; go_simp; with_reducible rfl); (simp only [Act.put, List.setIfInBounds_toArray, List.set_cons_zero, List.set_cons_succ, i64_w, i32_w]; rfl)
          refine pu_ (v := ?_) (a' := ?_) HT_.out 19 (some 68) ?_ ?_ ?_; rotate_left 2; (intro w'; go_simp; with_reducible rfl); (simp only [Act.put, List.setIfInBounds_toArray, List.set_cons_zero, List.set_cons_succ, i64_w, i32_w]; rfl)
          refine pu_ (v := ?_) (a' := ?_) HT_.out 20 (some 69) ?_ ?_ ?_; rotate_left 2; (intro w'; go_simp; with_reducible rfl); (simp only [Act.put, List.setIfInBounds_toArray, List.set_cons_zero, List.set_cons_succ, i64_w, i32_w]; rfl)
          refine dn_ HT_.out ?_
          clear hHeld HT_ HW_
          go_wp2
          go_roundw
          case rel => exact ⟨i + 1, out, by first | rw [HW.out] | rfl, rfl, ⟨by omega⟩, HX4, HS56_⟩
          case measure => simp only [intOf]; (try rw [HW.out]); omega
    · have ht : decide (i < (o.length : Int)) = false := decide_eq_false hlt
      have hx := HX.out
      rw [List.drop_eq_nil_of_le (by omega)] at hx
      obtain rfl := Option.some.inj hx
      clear hx HX
      go_wp2
      go_ret
      exact ⟨rfl, HSr.out⟩
end

/-! ### scan_scanner_take: function 88 -/
section
open Go.Maps Go.Proofs.YtlojkphocbbjdabW.Sep Go.Proofs.YtlojkphocbbjdabW.Mapw Go.Proofs.YtlojkphocbbjdabW.Reg
theorem at_elem {w : World} {base g N cap : Nat} {ok : Nat → Prop} {xs : List S54} (h : Kd.R k54 54 w base ok (.slice (some ⟨g, 0, none⟩) N cap) xs) (i : Int) (h0 : 0 ≤ i) (h1 : i < N) :
    w.cell? ⟨g, i.toNat * 2, none⟩ = some (.int .i64 (rd_T54 xs i).f0) ∧ w.cell? ⟨g, i.toNat * 2 + 1, none⟩ = some (.int .i64 (rd_T54 xs i).f1) ∧ ∀ j, w.frozen? ⟨g, i.toNat * 2 + j, none⟩ = false := by
  obtain ⟨c, hcl, hM, hcc, hfr⟩ := Kd.R_elem h z54 i h0 h1
  have := k54_openM hM
  subst this
  exact ⟨hcc 0 _ rfl, hcc 1 _ rfl, hfr⟩
def setReg (xs : List S54) (q v : Int) : List S54 := xs.set q.toNat ⟨v, (rd_T54 xs q).f1⟩
def setSlot (xs : List S54) (q v : Int) : List S54 := xs.set q.toNat ⟨(rd_T54 xs q).f0, v⟩
theorem setReg_len (xs : List S54) (q v : Int) : (setReg xs q v).length = xs.length := List.length_set
theorem setSlot_len (xs : List S54) (q v : Int) : (setSlot xs q v).length = xs.length := List.length_set
theorem put_reg {w0 w : World} {a : Asn} {L : List Asn} {g N cap : Nat} {xs : List S54} (h : St w0 w (a :: rowA w0.heap.size k54 54 (.slice (some ⟨g, 0, none⟩) N cap) xs :: L)) (q : Int) (h0 : 0 ≤ q) (h1 : q < N) (v : Int) :
    St w0 (w.setCell ⟨g, q.toNat * 2, none⟩ (.int .i64 v)) (a :: rowA w0.heap.size k54 54 (.slice (some ⟨g, 0, none⟩) N cap) (setReg xs q v) :: L) := by
  obtain ⟨G, hG, hr, hs⟩ := h.rput 1 rfl
  obtain ⟨c, hcl, hM, hcc, _⟩ := Kd.R_elem hr z54 q h0 h1
  have hc := k54_openM hM
  have hseg := Kd.R_seg hr q h0 h1 (seg := [.int .i64 v]) (j := 0) hcl hcc (show 0 + 1 ≤ 2 by decide) (x' := ⟨v, (rd_T54 xs q).f1⟩) (okp := fun _ => False) (by rw [hc]; exact k54_mkM _ _ _ _) (fun _ hk => hk.elim)
  exact hs _ _ _ hseg.1 (h.below.grown hseg.2 h.size (fun k hk => by injection hk with hk; rw [← hk]; exact (hG g (hr.1 g rfl)).1)) hseg.2
theorem put_slot {w0 w : World} {a : Asn} {L : List Asn} {g N cap : Nat} {xs : List S54} (h : St w0 w (a :: rowA w0.heap.size k54 54 (.slice (some ⟨g, 0, none⟩) N cap) xs :: L)) (q : Int) (h0 : 0 ≤ q) (h1 : q < N) (v : Int) :
    St w0 (w.setCell ⟨g, q.toNat * 2 + 1, none⟩ (.int .i64 v)) (a :: rowA w0.heap.size k54 54 (.slice (some ⟨g, 0, none⟩) N cap) (setSlot xs q v) :: L) := by
  obtain ⟨G, hG, hr, hs⟩ := h.rput 1 rfl
  obtain ⟨c, hcl, hM, hcc, _⟩ := Kd.R_elem hr z54 q h0 h1
  have hc := k54_openM hM
  have hseg := Kd.R_seg hr q h0 h1 (seg := [.int .i64 v]) (j := 1) hcl hcc (show 1 + 1 ≤ 2 by decide) (x' := ⟨(rd_T54 xs q).f0, v⟩) (okp := fun _ => False) (by rw [hc]; exact k54_mkM _ _ _ _) (fun _ hk => hk.elim)
  exact hs _ _ _ hseg.1 (h.below.grown hseg.2 h.size (fun k hk => by injection hk with hk; rw [← hk]; exact (hG g (hr.1 g rfl)).1)) hseg.2
def scan_scanner_take.T5 : Bool × List (List Nat × List Nat) := (true, [([], []), ([0], [0]), ([1], [1]), ([2], [2]), ([], []), ([], []), ([5], [5]), ([6], [6]), ([7], [7]), ([], []), ([], []), ([10], [10]), ([11], [11]), ([12], [12]), ([], []), ([13, 14], [13, 14]), ([15], [15]), ([16], [16]), ([3, 4, 0, 1, 2, 3, 4, 8, 10, 11, 12, 13, 14, 15, 16, 17], [3, 4]), ([18, 0, 1, 2, 3, 4, 8, 10, 11, 12, 13, 14, 15, 16, 17], [18]), ([19, 17, 0, 1, 2, 3, 4, 8, 10, 11, 12, 13, 14, 15, 16, 17], [17, 19]), ([8, 9, 0, 1, 2, 3, 4, 5, 6, 7, 8, 9, 10, 11, 12, 13, 14, 15, 16, 17, 18, 19, 20], [8, 9]), ([21, 0, 1, 2, 3, 4, 5, 6, 7, 8, 9, 10, 11, 12, 13, 14, 15, 16, 17, 18, 19, 20], [21]), ([22, 20, 0, 1, 2, 3, 4, 5, 6, 7, 8, 9, 10, 11, 12, 13, 14, 15, 16, 17, 18, 19, 20], [22])])
def scan_scanner_take.B5 : List Nat := [0, 1, 3, 7, 0, 0, 32, 96, 224, 0, 0, 1024, 3072, 7168, 0, 31744, 64512, 130048, 261631, 523775, 1048063, 2097151, 4194303, 8388607]
theorem scan_scanner_take.tab5 : rtab .any (opsOf Try.f88 5) = scan_scanner_take.T5 := by kernel_rfl
theorem scan_scanner_take.bits5 : waitsOk scan_scanner_take.T5.2 scan_scanner_take.B5 = true := by kernel_rfl
def takeS (l : List S60) (at_ : List S54) (o : List Int) (n regs : Int) : Option (List S54) := if 0 ≤ n ∧ n < (at_.length : Int) then (busyS l at_ n (fun x => x.f0) o).bind fun s => (leastF s 1000 0).bind fun r => if r < regs then some (setReg at_ n r) else (longS l at_ n o).bind fun k => if k = n then some at_ else if 0 ≤ k ∧ k < (at_.length : Int) then some (setReg (setReg at_ n (rd_T54 at_ k).f0) k (-1)) else none else none
theorem takeS_len {l : List S60} {at_ : List S54} {o : List Int} {n regs : Int} {at2 : List S54} (h : takeS l at_ o n regs = some at2) : at2.length = at_.length := by
  unfold takeS at h
  split at h
  case isFalse => cases h
  obtain ⟨s, _, h⟩ := Option.bind_eq_some_iff.1 h
  obtain ⟨r, _, h⟩ := Option.bind_eq_some_iff.1 h
  split at h
  · obtain rfl := Option.some.inj h
    exact setReg_len _ _ _
  obtain ⟨k, _, h⟩ := Option.bind_eq_some_iff.1 h
  split at h
  · obtain rfl := Option.some.inj h
    rfl
  split at h
  · obtain rfl := Option.some.inj h
    rw [setReg_len, setReg_len]
  · cases h
set_option maxHeartbeats 8000000 in
set_option maxRecDepth 100000 in
theorem take_walk (w0 w : World) (L : List Asn) (g : Nat) (Al : Option Addr) (cl : Nat) (l : List S60) (Aa : Option Addr) (ca : Nat) (at_ : List S54) (Ao : Option Addr) (co : Nat) (o : List Int) (n regs : Int) (at2 : List S54) (hl : Kd.C k60 w0 Al l.length l) (hS : St w0 w ((blkA g #[.slice Al l.length cl, .slice Aa at_.length ca, .slice Ao o.length co] 128) :: (rowA w0.heap.size k54 54 (.slice Aa at_.length ca) at_) :: (rowA w0.heap.size (Kd.int .i64) 3 (.slice Ao o.length co) o) :: L)) (h : takeS l at_ o n regs = some at2) :
    Calls Try.prog 88 #[.pointer (some ⟨g, 0, none⟩), .int .i64 n, .int .i64 regs] w fun e w' => e = .returned (.tuple #[]) ∧ St w0 w' ((blkA g #[.slice Al l.length cl, .slice Aa at2.length ca, .slice Ao o.length co] 128) :: (rowA w0.heap.size k54 54 (.slice Aa at2.length ca) at2) :: (rowA w0.heap.size (Kd.int .i64) 3 (.slice Ao o.length co) o) :: L) := by
  have hlen := takeS_len h
  unfold takeS at h
  split at h
  case isFalse => cases h
  rename_i hn
  have hn0 := hn.1
  have hn1 := hn.2
  have N0 := Aside0.mk hn0
  have N1 := Aside0.mk hn1
  obtain ⟨g2, cp2, hv2, _, _, _⟩ := Kd.R_form (hS.row 1 rfl) (by omega)
  obtain ⟨rfl, rfl⟩ : Aa = some ⟨g2, 0, none⟩ ∧ ca = cp2 := by { injection hv2 with a_ b_ c_; exact ⟨a_, c_⟩ }
  have HL := Aside0.mk hl
  have HS0 := Aside0.mk hS
  rw [hlen]
  clear hl hS hv2 hn hlen
  obtain ⟨s, hb, h⟩ := Option.bind_eq_some_iff.1 h
  have HB := Aside0.mk hb
  obtain ⟨r, hle, h⟩ := Option.bind_eq_some_iff.1 h
  have HLE := Aside0.mk hle
  by_cases c1 : r < regs
  · rw [if_pos c1] at h
    have hc1 : decide (r < regs) = true := decide_eq_true c1
    obtain rfl := Option.some.inj h
    clear hb hle c1 h
    go_enter Try.func88, Try.ntmps88
    go_wp2_with (first | (go_at_call 90; refine (busy_walk w0 w L g Al cl l (some ⟨g2, 0, none⟩) ca at_ Ao co o n 149 (fun x => x.f0) s HL.out (fun _ _ => rfl) (fun x W => scan_reg.calls x.f0 x.f1 x.f0 W rfl) HS0.out HB.out).mono ?_; rintro e_ w57_ ⟨gm, rfl, nn, hS'⟩; have HS2 := Aside0.mk hS'; clear hS' HS0) | (go_at_call 89; obtain ⟨D, ho_, hh_⟩ := HS2.out.setR 0 rfl; refine (least_walk 1000 gm nn s D r _ ho_ hh_ HLE.out).mono ?_; rintro e_ w58_ ⟨rfl, hb_⟩; have HS59_ : Aside0 (St w0 w58_ ((blkA g #[.slice Al l.length cl, .slice (some ⟨g2, 0, none⟩) at_.length ca, .slice Ao o.length co] 128) :: (rowA w0.heap.size k54 54 (.slice (some ⟨g2, 0, none⟩) at_.length ca) at_) :: (rowA w0.heap.size (Kd.int .i64) 3 (.slice Ao o.length co) o) :: L)) := ⟨(HS2.out.call hb_).tail⟩; have c60_ : w58_.cell? ⟨g, 1, none⟩ = some (.slice (some ⟨g2, 0, none⟩) at_.length ca) := (HS59_.out.cell 0 rfl 1).trans rfl; clear hb_ HS2 ho_ hh_; obtain ⟨hk0_, hk1_, hf_⟩ := at_elem (HS59_.out.row 1 rfl) n N0.out N1.out; have hf0_ : w58_.frozen? ⟨g2, n.toNat * 2, none⟩ = false := hf_ 0) | ((with_reducible refine gate_store (t := 3) (p := 22) rfl ?_); refine store_event (t := 3) (p := 22) (v := .tmp 20) (w1 := (w58_.setCell ⟨g2, n.toNat * 2, none⟩ (.int .i64 r))) ?hg ?ho ?hn ?hr ?_; (case ho => rfl); (case hg => rfl); (case hn => rfl); (case hr => first | (go_simp; done) | (go_simp; rfl)); intro w61_ hw_; have HS62_ : Aside0 (St w0 w61_ ((blkA g #[.slice Al l.length cl, .slice (some ⟨g2, 0, none⟩) at_.length ca, .slice Ao o.length co] 128) :: (rowA w0.heap.size k54 54 (.slice (some ⟨g2, 0, none⟩) at_.length ca) (setReg at_ n r)) :: (rowA w0.heap.size (Kd.int .i64) 3 (.slice Ao o.length co) o) :: L)) := ⟨by rw [hw_]; exact put_reg HS59_.out n N0.out N1.out r⟩; clear hw_ hk0_ hk1_ hf_ hf0_ HS59_ c60_))
    first | go_end0 | ((try simp only [Exit.inBlock, Exit.then]); refine bodyPost_ret (results_none rfl _ _ _) rfl ?_)
    exact ⟨rfl, HS62_.out⟩
  rw [if_neg c1] at h
  have hc1 : decide (r < regs) = false := decide_eq_false c1
  obtain ⟨k, hlg, h⟩ := Option.bind_eq_some_iff.1 h
  have HLG := Aside0.mk hlg
  by_cases c2 : k = n
  · rw [if_pos c2] at h
    have hc2 : (k == n) = true := beq_iff_eq.mpr c2
    have hc3 : (k != n) = false := bne_eq_false_iff_eq.mpr c2
    obtain rfl := Option.some.inj h
    clear hb hle c1 h hlg c2
    go_enter Try.func88, Try.ntmps88
    go_wp2_with (first | (go_at_call 90; refine (busy_walk w0 w L g Al cl l (some ⟨g2, 0, none⟩) ca at_ Ao co o n 149 (fun x => x.f0) s HL.out (fun _ _ => rfl) (fun x W => scan_reg.calls x.f0 x.f1 x.f0 W rfl) HS0.out HB.out).mono ?_; rintro e_ w63_ ⟨gm, rfl, nn, hS'⟩; have HS2 := Aside0.mk hS'; clear hS' HS0) | (go_at_call 89; obtain ⟨D, ho_, hh_⟩ := HS2.out.setR 0 rfl; refine (least_walk 1000 gm nn s D r _ ho_ hh_ HLE.out).mono ?_; rintro e_ w64_ ⟨rfl, hb_⟩; have HS65_ : Aside0 (St w0 w64_ ((blkA g #[.slice Al l.length cl, .slice (some ⟨g2, 0, none⟩) at_.length ca, .slice Ao o.length co] 128) :: (rowA w0.heap.size k54 54 (.slice (some ⟨g2, 0, none⟩) at_.length ca) at_) :: (rowA w0.heap.size (Kd.int .i64) 3 (.slice Ao o.length co) o) :: L)) := ⟨(HS2.out.call hb_).tail⟩; skip; clear hb_ HS2 ho_ hh_) | (go_at_call 150; refine (longest_walk w0 _ L g Al cl l (some ⟨g2, 0, none⟩) ca at_ Ao co o n k HL.out HS65_.out HLG.out).mono ?_; rintro e_ w66_ ⟨rfl, hS'⟩; have HS67_ : Aside0 (St w0 w66_ ((blkA g #[.slice Al l.length cl, .slice (some ⟨g2, 0, none⟩) at_.length ca, .slice Ao o.length co] 128) :: (rowA w0.heap.size k54 54 (.slice (some ⟨g2, 0, none⟩) at_.length ca) at_) :: (rowA w0.heap.size (Kd.int .i64) 3 (.slice Ao o.length co) o) :: L)) := ⟨hS'⟩; skip; clear hS' HS65_))
    first | go_end0 | ((try simp only [Exit.inBlock, Exit.then]); refine bodyPost_ret (results_none rfl _ _ _) rfl ?_)
    exact ⟨rfl, HS67_.out⟩
  rw [if_neg c2] at h
  have hc2 : (k == n) = false := beq_eq_false_iff_ne.mpr c2
  have hc3 : (k != n) = true := bne_iff_ne.mpr c2
  split at h
  case isFalse => cases h
  rename_i hk
  have hk0 := hk.1
  have hk1 := hk.2
  have K0 := Aside0.mk hk0
  have K1 := Aside0.mk hk1
  obtain ⟨v, hv⟩ : ∃ v, (rd_T54 at_ k).f0 = v := ⟨_, rfl⟩
  rw [hv] at h
  have HV := Aside0.mk hv
  obtain rfl := Option.some.inj h
  clear hb hle c1 h hlg c2 hv hk
  go_enter Try.func88, Try.ntmps88
  go_wp2_with (first | (go_at_call 90; refine (busy_walk w0 w L g Al cl l (some ⟨g2, 0, none⟩) ca at_ Ao co o n 149 (fun x => x.f0) s HL.out (fun _ _ => rfl) (fun x W => scan_reg.calls x.f0 x.f1 x.f0 W rfl) HS0.out HB.out).mono ?_; rintro e_ w68_ ⟨gm, rfl, nn, hS'⟩; have HS2 := Aside0.mk hS'; clear hS' HS0) | (go_at_call 89; obtain ⟨D, ho_, hh_⟩ := HS2.out.setR 0 rfl; refine (least_walk 1000 gm nn s D r _ ho_ hh_ HLE.out).mono ?_; rintro e_ w69_ ⟨rfl, hb_⟩; have HS70_ : Aside0 (St w0 w69_ ((blkA g #[.slice Al l.length cl, .slice (some ⟨g2, 0, none⟩) at_.length ca, .slice Ao o.length co] 128) :: (rowA w0.heap.size k54 54 (.slice (some ⟨g2, 0, none⟩) at_.length ca) at_) :: (rowA w0.heap.size (Kd.int .i64) 3 (.slice Ao o.length co) o) :: L)) := ⟨(HS2.out.call hb_).tail⟩; skip; clear hb_ HS2 ho_ hh_) | (go_at_call 150; refine (longest_walk w0 _ L g Al cl l (some ⟨g2, 0, none⟩) ca at_ Ao co o n k HL.out HS70_.out HLG.out).mono ?_; rintro e_ w71_ ⟨rfl, hS'⟩; have HS72_ : Aside0 (St w0 w71_ ((blkA g #[.slice Al l.length cl, .slice (some ⟨g2, 0, none⟩) at_.length ca, .slice Ao o.length co] 128) :: (rowA w0.heap.size k54 54 (.slice (some ⟨g2, 0, none⟩) at_.length ca) at_) :: (rowA w0.heap.size (Kd.int .i64) 3 (.slice Ao o.length co) o) :: L)) := ⟨hS'⟩; skip; clear hS' HS70_))
  refine std_ [20, 23] (fun w' => St w0 w' ((blkA g #[.slice Al l.length cl, .slice (some ⟨g2, 0, none⟩) at_.length ca, .slice Ao o.length co] 128) :: (rowA w0.heap.size k54 54 (.slice (some ⟨g2, 0, none⟩) at_.length ca) at_) :: (rowA w0.heap.size (Kd.int .i64) 3 (.slice Ao o.length co) o) :: L)) scan_scanner_take.tab5 scan_scanner_take.bits5 HS72_.out.drew (fun HT_ HW_ hHeld => ?_)
  clear HS72_
  generalize w71_.drew = w73_ at hHeld ⊢
  have HS74_ := Aside0.mk (show St w0 w73_ ((blkA g #[.slice Al l.length cl, .slice (some ⟨g2, 0, none⟩) at_.length ca, .slice Ao o.length co] 128) :: (rowA w0.heap.size k54 54 (.slice (some ⟨g2, 0, none⟩) at_.length ca) at_) :: (rowA w0.heap.size (Kd.int .i64) 3 (.slice Ao o.length co) o) :: L) from hHeld)
  refine pu_ (v := ?_) (a' := ?_) HT_.out 0 (some 29) ?_ ?_ ?_; rotate_left 2; (intro w'; go_simp; with_reducible rfl); (simp only [Act.put, List.setIfInBounds_toArray, List.set_cons_zero, List.set_cons_succ, i64_w, i32_w]; rfl)
  refine pu_ (v := ?_) (a' := ?_) HT_.out 1 (some 30) ?_ ?_ ?_; rotate_left 2; (intro w'; go_simp; with_reducible rfl); (simp only [Act.put, List.setIfInBounds_toArray, List.set_cons_zero, List.set_cons_succ, i64_w, i32_w]; rfl)
  refine pu_ (v := ?_) (a' := ?_) HT_.out 2 (some 31) ?_ ?_ ?_; rotate_left 2; (intro w'; go_simp; with_reducible rfl); (simp only [Act.put, List.setIfInBounds_toArray, List.set_cons_zero, List.set_cons_succ, i64_w, i32_w]; rfl)
  refine pu_ (v := ?_) (a' := ?_) HT_.out 4 (some 33) ?_ ?_ ?_; rotate_left 2; (intro w'; go_simp; with_reducible rfl); (simp only [Act.put, List.setIfInBounds_toArray, List.set_cons_zero, List.set_cons_succ, i64_w, i32_w]; rfl)
  refine pu_ (v := ?_) (a' := ?_) HT_.out 5 (some 34) ?_ ?_ ?_; rotate_left 2; (intro w'; go_simp; with_reducible rfl); (simp only [Act.put, List.setIfInBounds_toArray, List.set_cons_zero, List.set_cons_succ, i64_w, i32_w]; rfl)
  refine pu_ (v := ?_) (a' := ?_) HT_.out 6 (some 35) ?_ ?_ ?_; rotate_left 2; (intro w'; go_simp; with_reducible rfl); (simp only [Act.put, List.setIfInBounds_toArray, List.set_cons_zero, List.set_cons_succ, i64_w, i32_w]; rfl)
  refine pu_ (v := ?_) (a' := ?_) HT_.out 7 (some 36) ?_ ?_ ?_; rotate_left 2; (intro w'; go_simp; with_reducible rfl); (simp only [Act.put, List.setIfInBounds_toArray, List.set_cons_zero, List.set_cons_succ, i64_w, i32_w]; rfl)
  refine pu_ (v := ?_) (a' := ?_) HT_.out 9 (some 38) ?_ ?_ ?_; rotate_left 2; (intro w'; go_simp; with_reducible rfl); (simp only [Act.put, List.setIfInBounds_toArray, List.set_cons_zero, List.set_cons_succ, i64_w, i32_w]; rfl)
  refine pu_ (v := ?_) (a' := ?_) HT_.out 10 (some 39) ?_ ?_ ?_; rotate_left 2; (intro w'; go_simp; with_reducible rfl); (simp only [Act.put, List.setIfInBounds_toArray, List.set_cons_zero, List.set_cons_succ, i64_w, i32_w]; rfl)
  refine pu_ (v := ?_) (a' := ?_) HT_.out 11 (some 40) ?_ ?_ ?_; rotate_left 2; (intro w'; go_simp; with_reducible rfl); (simp only [Act.put, List.setIfInBounds_toArray, List.set_cons_zero, List.set_cons_succ, i64_w, i32_w]; rfl)
  refine pu_ (v := ?_) (a' := ?_) HT_.out 12 (some 41) ?_ ?_ ?_; rotate_left 2; (intro w'; go_simp; with_reducible rfl); (simp only [Act.put, List.setIfInBounds_toArray, List.set_cons_zero, List.set_cons_succ, i64_w, i32_w]; rfl)
  refine pu_ (v := ?_) (a' := ?_) HT_.out 14 (some 43) ?_ ?_ ?_; rotate_left 2; (intro w'; go_simp; with_reducible rfl); (simp only [Act.put, List.setIfInBounds_toArray, List.set_cons_zero, List.set_cons_succ, i64_w, i32_w]; rfl)
  refine tk_ (v := ?_) (a' := ?_) HT_.out HW_.out hHeld 3 (some 32) ?_ ?_ ?_; rotate_left 2; (intro w' hS; have s0 : w'.cell? ⟨g, 1, none⟩ = some _ := hS.cell 0 rfl 1; go_simp; with_reducible rfl); (simp only [Act.put, List.setIfInBounds_toArray, List.set_cons_zero, List.set_cons_succ, i64_w, i32_w]; rfl)
  refine tk_ (v := ?_) (a' := ?_) HT_.out HW_.out hHeld 8 (some 37) ?_ ?_ ?_; rotate_left 2; (intro w' hS; have s0 : w'.cell? ⟨g, 1, none⟩ = some _ := hS.cell 0 rfl 1; go_simp; with_reducible rfl); (simp only [Act.put, List.setIfInBounds_toArray, List.set_cons_zero, List.set_cons_succ, i64_w, i32_w]; rfl)
  refine tk_ (v := ?_) (a' := ?_) HT_.out HW_.out hHeld 13 (some 42) ?_ ?_ ?_; rotate_left 2; (intro w' hS; have s0 : w'.cell? ⟨g, 1, none⟩ = some _ := hS.cell 0 rfl 1; go_simp; with_reducible rfl); (simp only [Act.put, List.setIfInBounds_toArray, List.set_cons_zero, List.set_cons_succ, i64_w, i32_w]; rfl)
  refine pu_ (v := ?_) (a' := ?_) HT_.out 15 (some 44) ?_ ?_ ?_; rotate_left 2; (intro w'; go_simp; with_reducible rfl); (simp only [Act.put, List.setIfInBounds_toArray, List.set_cons_zero, List.set_cons_succ, i64_w, i32_w]; rfl)
  refine pu_ (v := ?_) (a' := ?_) HT_.out 16 (some 45) ?_ ?_ ?_; rotate_left 2; (intro w'; go_simp; with_reducible rfl); (simp only [Act.put, List.setIfInBounds_toArray, List.set_cons_zero, List.set_cons_succ, i64_w, i32_w]; rfl)
  refine tk_ (v := ?_) (a' := ?_) HT_.out HW_.out hHeld 17 (some 46) ?_ ?_ ?_; rotate_left 2; (intro w' hS; have s0 : w'.cell? ⟨g2, k.toNat * 2, none⟩ = some (.int .i64 v) := (by rw [(at_elem (hS.row 1 rfl) k K0.out K1.out).1, HV.out]); go_simp; with_reducible rfl); (simp only [Act.put, List.setIfInBounds_toArray, List.set_cons_zero, List.set_cons_succ, i64_w, i32_w]; rfl)
  refine pu_ (v := ?_) (a' := ?_) HT_.out 18 (some 47) ?_ ?_ ?_; rotate_left 2; (intro w'; go_simp; with_reducible rfl); (simp only [Act.put, List.setIfInBounds_toArray, List.set_cons_zero, List.set_cons_succ, i64_w, i32_w]; rfl)
  refine pu_ (v := ?_) (a' := ?_) HT_.out 19 (some 48) ?_ ?_ ?_; rotate_left 2; (intro w'; go_simp; with_reducible rfl); (simp only [Act.put, List.setIfInBounds_toArray, List.set_cons_zero, List.set_cons_succ, i64_w, i32_w]; rfl)
  refine la_ HT_.out 20 none (fun K hK => ?_)
  obtain ⟨hk0_, hk1_, hf_⟩ := at_elem (HS74_.out.row 1 rfl) n N0.out N1.out
  have hf0_ : w73_.frozen? ⟨g2, n.toNat * 2, none⟩ = false := hf_ 0
  refine skip_ (w1 := ?_) (by rfl) rfl ?_ ?_; rotate_left; (go_simp; rfl)
  have HS77_ : Aside0 (St w0 (w73_.setCell ⟨g2, n.toNat * 2, none⟩ (.int .i64 v)) ((blkA g #[.slice Al l.length cl, .slice (some ⟨g2, 0, none⟩) at_.length ca, .slice Ao o.length co] 128) :: (rowA w0.heap.size k54 54 (.slice (some ⟨g2, 0, none⟩) at_.length ca) (setReg at_ n v)) :: (rowA w0.heap.size (Kd.int .i64) 3 (.slice Ao o.length co) o) :: L)) := ⟨put_reg HS74_.out n N0.out N1.out (v)⟩
  clear HS74_ hk0_ hk1_ hf_ hf0_
  refine hK.out _ _ ?_
  clear hK K
  refine pu_ (v := ?_) (a' := ?_) HT_.out 21 (some 49) ?_ ?_ ?_; rotate_left 2; (intro w'; go_simp; with_reducible rfl); (simp only [Act.put, List.setIfInBounds_toArray, List.set_cons_zero, List.set_cons_succ, i64_w, i32_w]; rfl)
  refine pu_ (v := ?_) (a' := ?_) HT_.out 22 (some 50) ?_ ?_ ?_; rotate_left 2; (intro w'; go_simp; with_reducible rfl); (simp only [Act.put, List.setIfInBounds_toArray, List.set_cons_zero, List.set_cons_succ, i64_w, i32_w]; rfl)
  refine la_ HT_.out 23 none (fun K hK => ?_)
  obtain ⟨hk0_, hk1_, hf_⟩ := at_elem (HS77_.out.row 1 rfl) k K0.out K1.out
  have hf0_ : (w73_.setCell ⟨g2, n.toNat * 2, none⟩ (.int .i64 v)).frozen? ⟨g2, k.toNat * 2, none⟩ = false := hf_ 0
  refine skip_ (w1 := ?_) (by rfl) rfl ?_ ?_; rotate_left; (go_simp; rfl)
  have HS80_ : Aside0 (St w0 ((w73_.setCell ⟨g2, n.toNat * 2, none⟩ (.int .i64 v)).setCell ⟨g2, k.toNat * 2, none⟩ (.int .i64 (-1))) ((blkA g #[.slice Al l.length cl, .slice (some ⟨g2, 0, none⟩) at_.length ca, .slice Ao o.length co] 128) :: (rowA w0.heap.size k54 54 (.slice (some ⟨g2, 0, none⟩) at_.length ca) (setReg (setReg at_ n v) k (-1))) :: (rowA w0.heap.size (Kd.int .i64) 3 (.slice Ao o.length co) o) :: L)) := ⟨put_reg HS77_.out k K0.out K1.out ((-1))⟩
  clear HS77_ hk0_ hk1_ hf_ hf0_
  refine hK.out _ _ ?_
  clear hK K
  refine dn_ HT_.out ?_
  clear HT_ HW_
  first | go_end0 | ((try simp only [Exit.inBlock, Exit.then]); refine bodyPost_ret (results_none rfl _ _ _) rfl ?_) | (go_wp2; first | go_end0 | ((try simp only [Exit.inBlock, Exit.then]); refine bodyPost_ret (results_none rfl _ _ _) rfl ?_))
  exact ⟨rfl, HS80_.out⟩
end

/-! ### scan_slot: function 91 -/
def scan_slot.f (a0_0 : Int) (a0_1 : Int) : Option (Int) := some a0_1
set_option maxHeartbeats 8000000 in
set_option maxRecDepth 100000 in
theorem scan_slot.calls (a0_0 : Int) (a0_1 : Int) (r : Int) (w : World) (h : scan_slot.f a0_0 a0_1 = some r) :
    Calls Try.prog 91 #[.agg #[.int .i64 a0_0, .int .i64 a0_1]] w fun e w' => e = .returned (.int .i64 r) ∧ Below w.heap.size w w' := by
  have hu54 := Try.underlying54
  have HB := Aside0.mk (Below.refl w.heap.size w)
  have H : (some a0_1) = some r := h
  clear h
  obtain rfl := Option.some.inj H
  go_enter Try.func91, Try.ntmps91
  go_wp2_with (first | ((with_reducible refine gate_dst (N := 1) rfl ?_); refine box_event ?hg (N := 1) ?hd (cs := #[.int .i64 a0_0, .int .i64 a0_1]) (t := 54) ?hr ?_; (case hd => rfl); (case hg => rfl); (case hr => first | (go_simp; done) | (go_simp; rfl)); intro gb109 hg w2 hbox hb; have n0_ := Aside0.mk (below_step (by repeat (first | (with_reducible first | exact HB.out | apply below_alloc | apply pw_below_drewN | apply below_drew1) | exact HB.out)) hb); have n1_ := Aside0.mk (hbox); have n2_ := Aside0.mk ((by rw [hg]; exact (below_size (by repeat (first | (with_reducible first | exact HB.out | apply below_alloc | apply pw_below_drewN | apply below_drew1) | exact HB.out))) : w.heap.size ≤ gb109)); have n3_ := Aside0.mk ((by rw [hg]; exact (below_size (by repeat (first | (with_reducible first | exact HB.out | apply below_alloc | apply pw_below_drewN | apply below_drew1) | exact HB.out))) : w.heap.size ≤ gb109)); clear HB; have HB := n0_; have BK109 := n1_; have GW109 := n2_; have GE109 := n3_; clear n0_ n1_ n2_ n3_; clear hb hbox hg; have hcz3_0 : w2.cell? ⟨gb109, 0, none⟩ = some (.int .i64 a0_0) := (blk_cell BK109.out 0).trans rfl; have hcz3_1 : w2.cell? ⟨gb109, 1, none⟩ = some (.int .i64 a0_1) := (blk_cell BK109.out 1).trans rfl; have hfz3_0 := blk_frozen BK109.out 0; have hfz3_1 := blk_frozen BK109.out 1))
  go_ret
  exact ⟨by first | rfl | (simp [errW_none, errW_some] <;> rfl) | (simp [*, errW_none, errW_some] <;> rfl), by repeat (first | (with_reducible first | exact HB.out | apply below_alloc | apply pw_below_drewN | apply below_drew1 | refine below_set ?_ GE109.out) | exact HB.out)⟩

end Go.Proofs.Ytlojkphocbbjdab.PScanClash
