/- ScanClash: for every row of spans and every row of places the law's printed function answers true. -/
import Derived.Test.YtlojkphocbbjdabPScanClasho
import Derived.Test.YtlojkphocbbjdabHPure
namespace Go.Proofs.Ytlojkphocbbjdab.Pure
open Go.RowKit Go.Proofs.Ytlojkphocbbjdab.PScanClash Go.Proofs.YtlojkphocbbjdabW Go.Proofs.YtlojkphocbbjdabW.PrintWords Go.Proofs.YtlojkphocbbjdabW.PrintLast Go.Proofs.YtlojkphocbbjdabW.PrintMore
set_option linter.unusedVariables false
set_option linter.unusedSimpArgs false

theorem cnt_eq (x y : Int) : scan_counts.f x y = some (cntB x y) := by
  unfold scan_counts.f cntB
  split <;> rfl
theorem meet_eq (a b c d : Int) : scan_meet.f a b c d = some (meetB a b c d) := by
  unfold scan_meet.f meetB
  split <;> rfl
theorem same_eq (p q : S54) : scan_same.f p.f0 p.f1 q.f0 q.f1 = some (sameB p q) := by
  unfold scan_same.f sameB
  split
  · rfl
  · split
    · rfl
    · split
      · split
        · split <;> rfl
        · rfl
      · rfl
section
variable (l : List S60) (at_ : List S54)
theorem cl1 (N a : Int) (ha0 : 0 ≤ a) (ha : a < N) (h1 : N ≤ l.length) (h2 : N ≤ at_.length) (hN : N ≤ 1000) (r : Option (Int × Int)) (hr : Ev (fun k => scan_Clash.l0 k l at_ N N (a + 1)) (resS r)) : ∀ (d : Nat) (b : Int), 0 ≤ b → b + d = N →
    Ev (fun k => scan_Clash.l1 k l at_ N a b N a) (resS (match inF (hitB l at_ a) d b with | some b => some (a, b) | none => r))
  | 0, b, hb0, hb => by
    have hw : wrap64 (a + 1) = a + 1 := by unfold wrap64; omega
    refine Ev.step (f := fun k => scan_Clash.l0 k l at_ N N (a + 1)) (fun k => ?_) hr
    show scan_Clash.l1 (k + 1) l at_ N a b N a = _
    rw [scan_Clash.l1, if_neg (by omega), hw]
  | d + 1, b, hb0, hb => by
    have hw : wrap64 (b + 1) = b + 1 := by unfold wrap64; omega
    have ih := cl1 N a ha0 ha h1 h2 hN r hr d (b + 1) (by omega) (by omega)
    have e : ∀ k, scan_Clash.l1 (k + 1) l at_ N a b N a = if hitB l at_ a b = true then some (a, b, true) else scan_Clash.l1 k l at_ N a (b + 1) N a := fun k => by
      rw [scan_Clash.l1, if_pos (by omega), if_pos (by omega), if_pos (by omega), hw]
      simp only [cnt_eq, meet_eq, same_eq, Option.bind_some]
      unfold hitB
      cases cntB (rd_T60 l a).f0 (rd_T60 l a).f1 with
      | false => rfl
      | true =>
        simp only [if_true, Bool.true_and]
        rw [if_pos (by omega), if_pos (by omega)]
        cases cntB (rd_T60 l b).f0 (rd_T60 l b).f1 with
        | false => rfl
        | true =>
          simp only [if_true, Bool.true_and]
          cases meetB (rd_T60 l a).f0 (rd_T60 l a).f1 (rd_T60 l b).f0 (rd_T60 l b).f1 with
          | false => rfl
          | true =>
            simp only [if_true, Bool.true_and]
            rw [if_pos (by omega), if_pos (by omega)]
    rw [inF]
    by_cases h : hitB l at_ a b = true
    · rw [if_pos h]
      refine Ev.step (f := fun _ => some _) (fun k => ?_) (Ev.now _)
      show scan_Clash.l1 (k + 1) l at_ N a b N a = _
      rw [e, if_pos h]
      rfl
    · rw [if_neg h]
      refine Ev.step (f := fun k => scan_Clash.l1 k l at_ N a (b + 1) N a) (fun k => ?_) ih
      show scan_Clash.l1 (k + 1) l at_ N a b N a = _
      rw [e, if_neg h]
theorem cl0 (N : Int) (hN0 : 0 ≤ N) (h1 : N ≤ l.length) (h2 : N ≤ at_.length) (hN : N ≤ 1000) : ∀ (d : Nat) (a : Int), 0 ≤ a → a + d = N → Ev (fun k => scan_Clash.l0 k l at_ N N a) (resS (outF l at_ N d a))
  | 0, a, ha0, ha => by
    refine Ev.step (f := fun _ => some _) (fun k => ?_) (Ev.now _)
    show scan_Clash.l0 (k + 1) l at_ N N a = _
    rw [scan_Clash.l0, if_neg (by omega)]
    rfl
  | d + 1, a, ha0, ha => by
    have hw : wrap64 (a + 1) = a + 1 := by unfold wrap64; omega
    have ih := cl0 N hN0 h1 h2 hN d (a + 1) (by omega) (by omega)
    have h := cl1 l at_ N a ha0 (by omega) h1 h2 hN _ ih (N - (a + 1)).toNat (a + 1) (by omega) (by omega)
    rw [outF]
    refine Ev.step (f := fun k => scan_Clash.l1 k l at_ N a (a + 1) N a) (fun k => ?_) ?_
    · show scan_Clash.l0 (k + 1) l at_ N N a = _
      rw [scan_Clash.l0, if_pos (by omega), hw]
    · cases hi : inF (hitB l at_ a) (N - (a + 1)).toNat (a + 1) with
      | none => rw [hi] at h; exact h
      | some b => rw [hi] at h; exact h
end
theorem scanned_ev : Ev (fun k => backstitchlaw3_scanned.f k) true := Ev.of (fun k => backstitchlaw3_scanned.mono k) (k := 10) (by kernel_rfl)
theorem mn_nat (m n : Nat) : mn (m : Int) (n : Int) = ((min m n : Nat) : Int) := by
  unfold mn
  split <;> omega
theorem ScanClash : backstitchlaw3_ScanClash.Pure := by
  intro x0 x1 _ _
  refine Ev.rounds (g := fun k => backstitchlaw3_ScanClash.f k x0 x1) ?_
  unfold backstitchlaw3_ScanClash.f
  refine Ev.bind scanned_ev ?_
  have hm : mn (x0.length : Int) 40 = ((min x0.length 40 : Nat) : Int) := mn_nat x0.length 40
  simp only [if_true, hm, Int.toNat_natCast]
  have hl : (x0.take (min x0.length 40)).length ≤ 40 := by rw [List.length_take]; omega
  generalize x0.take (min x0.length 40) = l at *
  have hN := mn_nat l.length x1.length
  have hc : Ev (fun k => scan_Clash.f k l x1) (resS (lawS l x1)) := by
    unfold scan_Clash.f lawS
    rw [hN]
    have h := cl0 l x1 ((min l.length x1.length : Nat) : Int) (by omega) (by omega) (by omega) (by omega) (min l.length x1.length) 0 (by omega) (by omega)
    rwa [Int.toNat_natCast]
  refine Ev.bind hc ?_
  simp only [if_true]
  exact Ev.now _
end Go.Proofs.Ytlojkphocbbjdab.Pure
