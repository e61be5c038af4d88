/- Values in words: what the program's Box and Unbox, and the reference's, answer: the same plain functions of numbers. -/
import Derived.Test.YtlojkphocbbjdaaPHaulTellso
import Derived.Test.YtlojkphocbbjdaaHPure
import Derived.KernelRfl
namespace Go.Proofs.Ytlojkphocbbjdaa.Pure
open Go.RowKit Go.Proofs.Ytlojkphocbbjdaa.PHaulTells Go.Proofs.YtlojkphocbbjdaaW Go.Proofs.YtlojkphocbbjdaaW.PrintWords Go.Proofs.YtlojkphocbbjdaaW.PrintLast
set_option linter.unusedVariables false
set_option linter.unusedSimpArgs false

def oddW (w : Int) : Prop := w / 4503599627370496 % 2048 = 2047 ∧ w % 4503599627370496 ≠ 0
instance (w : Int) : Decidable (oddW w) := by unfold oddW; exact inferInstance
def tagS (k : Int) : Int := if k > 3 then 65528 + k else 65529 + k
def loS (k : Int) : Int := if k = 2 then -2147483648 else 0
def hiS (k : Int) : Int := if k = 0 then 0 else if k = 1 then 1 else if k = 2 then 2147483647 else 4294967295
/-- A value's word, and the error. -/
def boxS (k n : Int) : Int × Int :=
  if k < 0 ∨ k > 6 then (0, 7) else if k = 3 then (if oddW (n % 18446744073709551616) then (9221120237041090561, 0) else (n % 18446744073709551616, 0))
  else if n < loS k ∨ n > hiS k then (0, 1) else (tagS k * 281474976710656 + n % 4294967296, 0)

theorem spoilt_eq (w : Int) (h0 : 0 ≤ w) (h1 : w < 18446744073709551616) : nanbox_spoilt.f w = some (decide (oddW w)) := by
  unfold nanbox_spoilt.f
  have e : Go.bits .and .u64 w 9223372036854775807 = w % 9223372036854775808 := bits_mask .u64 64 (by decide) (fun n h h' => by rw [IntKind.wrap_u64]; omega) 63 (by decide) w h0 (by omega)
  rw [e]
  congr 1
  apply decide_eq_decide.2
  unfold oddW
  omega
theorem odd_eq (w : Int) (h0 : 0 ≤ w) (h1 : w < 18446744073709551616) : backstitchref3_Odd.f w = some (decide (oddW w)) := by
  unfold backstitchref3_Odd.f
  rw [Int.tmod_eq_emod_of_nonneg (by omega), IntKind.wrap_u64]
  by_cases h : w / 4503599627370496 % 2048 = 2047
  · rw [if_pos h]
    congr 1
    by_cases h2 : w % 4503599627370496 = 0
    · rw [decide_eq_false (by unfold oddW; omega)]
      simp
      omega
    · rw [decide_eq_true (by unfold oddW; omega)]
      simp
      omega
  · rw [if_neg h, decide_eq_false (by unfold oddW; omega)]
theorem join_eq (a b : Int) (h0 : 0 ≤ a) (h1 : a < 18446744073709551616) (hm : a % 281474976710656 = 0) (g0 : 0 ≤ b) (g1 : b < 4294967296) : Go.bits .or .u64 a b = a + b := by
  have := bits_join .u64 64 (by decide) (fun n h h' => by rw [IntKind.wrap_u64]; omega) 48 a b h0 (by omega) (by omega) g0 (by omega) (by omega)
  exact this
theorem tag_eq (k : Int) (h0 : 0 ≤ k) (h1 : k ≤ 6) : nanbox_tag.f k = some (tagS k * 281474976710656) := by
  unfold nanbox_tag.f tagS
  split
  · congr 1
    simp only [IntKind.wrap_u64, wrap64]
    omega
  · congr 1
    simp only [IntKind.wrap_u64, wrap64]
    omega
theorem rtag_eq (k : Int) (h0 : 0 ≤ k) (h1 : k ≤ 6) (h3 : k ≠ 3) : backstitchref3_Tag.f k = some (tagS k) := by
  obtain rfl | rfl | rfl | rfl | rfl | rfl : k = 0 ∨ k = 1 ∨ k = 2 ∨ k = 4 ∨ k = 5 ∨ k = 6 := by omega
  all_goals (rw [backstitchref3_Tag.f, if_pos (by omega)]; rfl)

theorem box_ev (a n : Int) (hn : -9223372036854775808 ≤ n ∧ n ≤ 9223372036854775807) : Ev (fun k => nanbox_Box.f k a n) (boxS a n) := by
  refine ⟨2, fun k hk => ?_⟩
  obtain ⟨m, rfl⟩ : ∃ m, k = m + 2 := ⟨k - 2, by omega⟩
  unfold boxS
  by_cases h0 : a < 0
  · simp [nanbox_Box.f, nanbox_Box.j0, h0]
  · by_cases h6 : a > 6
    · simp [nanbox_Box.f, nanbox_Box.j0, h0, h6]
    · rw [if_neg (by omega)]
      by_cases h3 : a = 3
      · subst h3
        have hs := spoilt_eq (n % 18446744073709551616) (by omega) (by omega)
        by_cases ho : oddW (n % 18446744073709551616)
        · rw [decide_eq_true ho] at hs
          simp [nanbox_Box.f, nanbox_Box.j0, nanbox_Box.j1, IntKind.wrap_u64, hs, ho]
        · rw [decide_eq_false ho] at hs
          simp [nanbox_Box.f, nanbox_Box.j0, nanbox_Box.j1, IntKind.wrap_u64, hs, ho]
      · have hb : nanbox_bounds.f a = some (loS a, hiS a) := by
          obtain rfl | rfl | rfl | rfl | rfl | rfl : a = 0 ∨ a = 1 ∨ a = 2 ∨ a = 4 ∨ a = 5 ∨ a = 6 := by omega
          all_goals rfl
        have ht : 0 ≤ tagS a ∧ tagS a ≤ 65535 := by unfold tagS; split <;> omega
        have hj := join_eq (tagS a * 281474976710656) (n % 4294967296) (by omega) (by omega) (by omega) (by omega) (by omega)
        simp only [nanbox_Box.f, nanbox_Box.j0, nanbox_Box.j1, h0, h6, h3, hb, tag_eq a (by omega) (by omega), hj, if_false, decide_false, Bool.false_eq_true, Option.bind_some]
        by_cases h4 : n < loS a
        · rw [if_pos h4, if_pos (.inl h4)]
        · rw [if_neg h4]
          by_cases h5 : n > hiS a
          · rw [if_pos h5, if_pos (.inr h5)]
          · rw [if_neg h5, if_neg (by omega)]
theorem rest_eq (n : Int) (hn : -9223372036854775808 ≤ n ∧ n ≤ 9223372036854775807) : backstitchref3_Rest.f n 4294967296 = some (n % 4294967296) := by
  unfold backstitchref3_Rest.f
  rw [if_neg (by decide)]
  have hr := Int.emod_add_mul_ediv n 4294967296
  have hl := Int.emod_nonneg n (show (4294967296 : Int) ≠ 0 by decide)
  have hu := Int.emod_lt_of_pos n (show (0 : Int) < 4294967296 by decide)
  by_cases h : 0 ≤ n
  · rw [Int.tmod_eq_emod_of_nonneg h, if_neg (by omega)]
  · have ht := Int.tmod_eq_emod (a := n) (b := 4294967296)
    rw [ht]
    split
    · rename_i hd
      rcases hd with hd | hd
      · omega
      · have : n % 4294967296 = 0 := Int.emod_eq_zero_of_dvd hd
        rw [this]
        rfl
    · rename_i hd
      have h2 : n % 4294967296 ≠ 0 := fun e => hd (.inr (Int.dvd_of_emod_eq_zero e))
      have : (Int.natAbs 4294967296 : Int) = 4294967296 := by decide
      rw [this, if_pos (by omega)]
      congr 1
      rw [Pur.wrap_id (by omega) (by omega)]
      omega
theorem rbox_ev (a n : Int) (hn : -9223372036854775808 ≤ n ∧ n ≤ 9223372036854775807) : Ev (fun k => backstitchref3_Box.f k a n) (boxS a n) := by
  refine ⟨6, fun k hk => ?_⟩
  obtain ⟨m, rfl⟩ : ∃ m, k = m + 6 := ⟨k - 6, by omega⟩
  unfold boxS
  by_cases h0 : a < 0
  · simp [backstitchref3_Box.f, backstitchref3_Box.j0, h0]
  · by_cases h6 : a > 6
    · simp [backstitchref3_Box.f, backstitchref3_Box.j0, h0, h6]
    · rw [if_neg (by omega)]
      by_cases h3 : a = 3
      · subst h3
        have hs := odd_eq (n % 18446744073709551616) (by omega) (by omega)
        by_cases ho : oddW (n % 18446744073709551616)
        · rw [decide_eq_true ho] at hs
          simp [backstitchref3_Box.f, backstitchref3_Box.j0, IntKind.wrap_u64, hs, ho]
        · rw [decide_eq_false ho] at hs
          simp [backstitchref3_Box.f, backstitchref3_Box.j0, IntKind.wrap_u64, hs, ho]
      · have ht : 65529 ≤ tagS a ∧ tagS a ≤ 65534 := by unfold tagS; split <;> omega
        have e : IntKind.u64.wrap (IntKind.u64.wrap (tagS a * 281474976710656) + IntKind.u64.wrap (n % 4294967296)) = tagS a * 281474976710656 + n % 4294967296 := by
          simp only [IntKind.wrap_u64]
          omega
        have key : ∀ lo hi, backstitchref3_Box.j3 (m + 3) lo hi a n = some (if n < lo ∨ n > hi then (0, 1) else (tagS a * 281474976710656 + n % 4294967296, 0)) := by
          intro lo hi
          simp only [backstitchref3_Box.j3, backstitchref3_Box.j4, rtag_eq a (by omega) (by omega) h3, rest_eq n hn, Option.bind_some, e]
          by_cases h4 : n < lo
          · simp [h4]
          · by_cases h5 : n > hi
            · simp [h4, h5]
            · simp [h4, h5]
        obtain rfl | rfl | rfl | rfl | rfl | rfl : a = 0 ∨ a = 1 ∨ a = 2 ∨ a = 4 ∨ a = 5 ∨ a = 6 := by omega
        all_goals
          simp [backstitchref3_Box.f, backstitchref3_Box.j0, backstitchref3_Box.j1, backstitchref3_Box.j2, key, loS, hiS]
end Go.Proofs.Ytlojkphocbbjdaa.Pure
