-- Printed for this claim by a program of this session (inj.py), beside the kit's print. Not trusted: Lean checks it.
import Derived.Test.YtlojkphocbbjdaaPLiveTellsx0
import Derived.Test.YtlojkphocbbjdaaPLiveTellsx2
import Derived.Test.YtlojkphocbbjdaaPLiveTellsx3
namespace Go.Proofs.Ytlojkphocbbjdaa.PLiveTells
open Go.RowKit Go.Proofs.YtlojkphocbbjdaaW.PrintWords Go.Proofs.YtlojkphocbbjdaaW.PrintLast Go.Proofs.YtlojkphocbbjdaaW.PrintMore
attribute [local go_sem] max2_int min2_int max_two min_two max_three min_three max_four min_four   -- for this text's walks alone
set_option linter.unusedVariables false
set_option linter.unusedSimpArgs false

/-! ### api_TExit_158: function 158 -/
/-- The first one that is so; -1: there is none. -/
def api_TExit_158.idx (p : S31 → Bool) : List (S31) → Int → Int
  | [], _ => -1
  | x :: l, i => if p x then i else api_TExit_158.idx p l (i + 1)
set_option maxHeartbeats 2000000 in
set_option maxRecDepth 100000 in
theorem api_TExit_158.walk (A0 : Option Addr) (c0 : Nat) (l0 : List (S31)) (cid : Nat) (cap : Array Value) (p : S31 → Bool) (w : World) (hr0 : Kd.C k31 w A0 l0.length l0) (hn : l0.length < 4611686018427387904)
    (hcf : ∀ (args : Array Value) (W : World), Sem.run Try.prog (callFunc cid args) W = .ok (.enter cid args) W)
    (hf : ∀ (x : S31) (A2 : Option Addr) (c2 : Nat) (A3 : Option Addr) (c3 : Nat) (W : World), x ∈ l0 → Below w.heap.size w W → x.f2.length ≤ c2 → Kd.C k38 W A2 x.f2.length x.f2 → x.f3.length ≤ c3 → Kd.C k63 W A3 x.f3.length x.f3 → Calls Try.prog cid (#[.agg #[.int .i64 x.f0, .int .i64 x.f1, .slice A2 x.f2.length c2, .slice A3 x.f3.length c3]] ++ cap) W fun e w' => e = .returned (.bool (p x)) ∧ Below W.heap.size W w') :
    Calls Try.prog 158 #[.slice A0 l0.length c0, .func (.func cid) #[] cap] w fun e w' => e = .returned (.int .i64 (api_TExit_158.idx p l0 0)) ∧ Below w.heap.size w w' := by
  have HR0 := Aside0.mk hr0
  have HF := Aside0.mk hf
  have HN := Aside0.mk hn
  clear hr0 hf hn
  go_enter Try.func158, Try.ntmps158
  go_wp2
  go_loopw [8] (fun v8 wr => ∃ i : Int, v8 = .int .i64 i ∧ Aside0 (0 ≤ i ∧ i ≤ l0.length) ∧ Aside0 (api_TExit_158.idx p (l0.drop i.toNat) i = api_TExit_158.idx p l0 0) ∧ Aside0 (Below w.heap.size w wr)) (fun v8 _ => l0.length - (intOf v8).toNat)
  case atStart => exact ⟨0, rfl, ⟨by omega⟩, ⟨by simp⟩, ⟨Below.refl _ _⟩⟩
  case round =>
    obtain ⟨i, rfl, HI, HX, HB⟩ := hrel
    have hi0 : 0 ≤ i := HI.out.1
    by_cases hlt : i < (l0.length : Int)
    · have ht : decide (i < (l0.length : Int)) = true := decide_eq_true hlt
      have hd : l0.drop i.toNat = (rd_T31 l0 i) :: l0.drop (i + 1).toNat := by
        rw [List.drop_eq_getElem_cons (by omega), show (i + 1).toNat = i.toNat + 1 by omega]
        congr 1
        rw [rd_T31, List.getD_eq_getElem?_getD, List.getElem?_eq_getElem (by omega), Option.getD_some]
      have hmem : (rd_T31 l0 i) ∈ l0 := List.mem_of_mem_drop (i := i.toNat) (by rw [hd]; exact List.mem_cons_self)
      have HD := Aside0.mk hd
      clear hd
      obtain ⟨ad, A2, c2, A3, c3, e, h0, h1, h2, h3, hl2, hg2, hl3, hg3⟩ := at_T31 HR0.out i hi0 hlt
      cases e
      replace h0 := (HB.out.cell (World.block_lt_of_cell? w _ h0)).trans h0
      replace h1 := (HB.out.cell (World.block_lt_of_cell? w _ h1)).trans h1
      replace h2 := (HB.out.cell (World.block_lt_of_cell? w _ h2)).trans h2
      replace h3 := (HB.out.cell (World.block_lt_of_cell? w _ h3)).trans h3
      have HC := Aside0.mk (fun (W : World) (hb : Below w.heap.size w W) => HF.out (rd_T31 l0 i) A2 c2 A3 c3 W hmem hb hl2 (Kd.C_below hg2 hb) hl3 (Kd.C_below hg3 hb))
      clear hl2 hg2 hl3 hg3
      have HW := Aside0.mk (show wrap64 (i + 1) = i + 1 by have := HN.out; unfold wrap64; omega)
      rcases hp : p (rd_T31 l0 i) with _ | _
      · have HP := Aside0.mk hp
        have HM := Aside0.mk hmem
        clear hp hmem
        go_wp2_with (refine (HC.out _ ?hb).mono ?_; (case hb => exact HB.out); rintro e w' ⟨rfl, hb2⟩; have HB2 := Aside0.mk (HB.out.trans (hb2.mono HB.out.size)); rw [HP.out]; clear hb2)
        go_roundw
        case rel => exact ⟨i + 1, by first | rw [HW.out] | rfl, ⟨by omega⟩, ⟨by rw [← HX.out, HD.out, api_TExit_158.idx, HP.out]; simp⟩, HB2⟩
        case measure => simp only [intOf]; (try rw [HW.out]); omega
      · have HP := Aside0.mk hp
        have HM := Aside0.mk hmem
        clear hp hmem
        go_wp2_with (refine (HC.out _ ?hb).mono ?_; (case hb => exact HB.out); rintro e w' ⟨rfl, hb2⟩; have HB2 := Aside0.mk (HB.out.trans (hb2.mono HB.out.size)); rw [HP.out]; clear hb2)
        go_ret
        exact ⟨by rw [← HX.out, HD.out, api_TExit_158.idx, HP.out]; simp, HB2.out⟩
    · have ht : decide (i < (l0.length : Int)) = false := decide_eq_false hlt
      go_wp2
      go_ret
      exact ⟨by rw [← HX.out, List.drop_eq_nil_of_le (by omega)]; rfl, HB.out⟩

/-! ### api_TExit_124: function 124 -/
theorem api_TExit_158.idx_ge (p : S31 → Bool) : ∀ (l : List (S31)) (i : Int), 0 ≤ i → decide (0 ≤ api_TExit_158.idx p l i) = l.any p
  | [], i, _ => by simp [api_TExit_158.idx]
  | x :: l, i, h => by
    rw [api_TExit_158.idx, List.any_cons]
    rcases hp : p x with _ | _
    · simp only [Bool.false_eq_true, if_false, Bool.false_or]
      exact api_TExit_158.idx_ge p l (i + 1) (by omega)
    · simp only [if_true, Bool.true_or]
      exact decide_eq_true h
set_option maxHeartbeats 2000000 in
set_option maxRecDepth 100000 in
theorem api_TExit_124.walk (A0 : Option Addr) (c0 : Nat) (l0 : List (S31)) (cid : Nat) (cap : Array Value) (p : S31 → Bool) (w : World) (hr0 : Kd.C k31 w A0 l0.length l0) (hn : l0.length < 4611686018427387904)
    (hcf : ∀ (args : Array Value) (W : World), Sem.run Try.prog (callFunc cid args) W = .ok (.enter cid args) W)
    (hf : ∀ (x : S31) (A2 : Option Addr) (c2 : Nat) (A3 : Option Addr) (c3 : Nat) (W : World), x ∈ l0 → Below w.heap.size w W → x.f2.length ≤ c2 → Kd.C k38 W A2 x.f2.length x.f2 → x.f3.length ≤ c3 → Kd.C k63 W A3 x.f3.length x.f3 → Calls Try.prog cid (#[.agg #[.int .i64 x.f0, .int .i64 x.f1, .slice A2 x.f2.length c2, .slice A3 x.f3.length c3]] ++ cap) W fun e w' => e = .returned (.bool (p x)) ∧ Below W.heap.size W w') :
    Calls Try.prog 124 #[.slice A0 l0.length c0, .func (.func cid) #[] cap] w fun e w' => e = .returned (.bool (l0.any p)) ∧ Below w.heap.size w w' := by
  have HR0 := Aside0.mk hr0
  have HF := Aside0.mk hf
  have HN := Aside0.mk hn
  have HCF := Aside0.mk hcf
  clear hr0 hf hn hcf
  go_enter Try.func124, Try.ntmps124
  go_wp2_with (go_at_call 158; refine (api_TExit_158.walk A0 c0 l0 cid cap p _ HR0.out HN.out HCF.out HF.out).mono ?_; rintro e w' ⟨rfl, hb⟩; have HB := Aside0.mk hb; clear hb)
  go_ret
  exact ⟨by rw [← api_TExit_158.idx_ge p l0 0 (by omega)]; rfl, HB.out⟩

/-! ### api_TMake_167: function 167 -/
/-- The first one that is so; -1: there is none. -/
def api_TMake_167.idx (p : S63 → Bool) : List (S63) → Int → Int
  | [], _ => -1
  | x :: l, i => if p x then i else api_TMake_167.idx p l (i + 1)
set_option maxHeartbeats 2000000 in
set_option maxRecDepth 100000 in
theorem api_TMake_167.walk (A0 : Option Addr) (c0 : Nat) (l0 : List (S63)) (cid : Nat) (cap : Array Value) (p : S63 → Bool) (w : World) (hr0 : Kd.C k63 w A0 l0.length l0) (hn : l0.length < 4611686018427387904)
    (hcf : ∀ (args : Array Value) (W : World), Sem.run Try.prog (callFunc cid args) W = .ok (.enter cid args) W)
    (hf : ∀ (x : S63) (A3 : Option Addr) (c3 : Nat) (W : World), x ∈ l0 → Below w.heap.size w W → x.f3.length ≤ c3 → Kd.C (Kd.int .i64) W A3 x.f3.length x.f3 → Calls Try.prog cid (#[.agg #[.int .i64 x.f0, .int .i64 x.f1, .int .i64 x.f2, .slice A3 x.f3.length c3]] ++ cap) W fun e w' => e = .returned (.bool (p x)) ∧ Below W.heap.size W w') :
    Calls Try.prog 167 #[.slice A0 l0.length c0, .func (.func cid) #[] cap] w fun e w' => e = .returned (.int .i64 (api_TMake_167.idx p l0 0)) ∧ Below w.heap.size w w' := by
  have HR0 := Aside0.mk hr0
  have HF := Aside0.mk hf
  have HN := Aside0.mk hn
  clear hr0 hf hn
  go_enter Try.func167, Try.ntmps167
  go_wp2
  go_loopw [8] (fun v8 wr => ∃ i : Int, v8 = .int .i64 i ∧ Aside0 (0 ≤ i ∧ i ≤ l0.length) ∧ Aside0 (api_TMake_167.idx p (l0.drop i.toNat) i = api_TMake_167.idx p l0 0) ∧ Aside0 (Below w.heap.size w wr)) (fun v8 _ => l0.length - (intOf v8).toNat)
  case atStart => exact ⟨0, rfl, ⟨by omega⟩, ⟨by simp⟩, ⟨Below.refl _ _⟩⟩
  case round =>
    obtain ⟨i, rfl, HI, HX, HB⟩ := hrel
    have hi0 : 0 ≤ i := HI.out.1
    by_cases hlt : i < (l0.length : Int)
    · have ht : decide (i < (l0.length : Int)) = true := decide_eq_true hlt
      have hd : l0.drop i.toNat = (rd_T63 l0 i) :: l0.drop (i + 1).toNat := by
        rw [List.drop_eq_getElem_cons (by omega), show (i + 1).toNat = i.toNat + 1 by omega]
        congr 1
        rw [rd_T63, List.getD_eq_getElem?_getD, List.getElem?_eq_getElem (by omega), Option.getD_some]
      have hmem : (rd_T63 l0 i) ∈ l0 := List.mem_of_mem_drop (i := i.toNat) (by rw [hd]; exact List.mem_cons_self)
      have HD := Aside0.mk hd
      clear hd
      obtain ⟨ad, A3, c3, e, h0, h1, h2, h3, hl3, hg3⟩ := at_T63 HR0.out i hi0 hlt
      cases e
      replace h0 := (HB.out.cell (World.block_lt_of_cell? w _ h0)).trans h0
      replace h1 := (HB.out.cell (World.block_lt_of_cell? w _ h1)).trans h1
      replace h2 := (HB.out.cell (World.block_lt_of_cell? w _ h2)).trans h2
      replace h3 := (HB.out.cell (World.block_lt_of_cell? w _ h3)).trans h3
      have HC := Aside0.mk (fun (W : World) (hb : Below w.heap.size w W) => HF.out (rd_T63 l0 i) A3 c3 W hmem hb hl3 (Kd.C_below hg3 hb))
      clear hl3 hg3
      have HW := Aside0.mk (show wrap64 (i + 1) = i + 1 by have := HN.out; unfold wrap64; omega)
      rcases hp : p (rd_T63 l0 i) with _ | _
      · have HP := Aside0.mk hp
        have HM := Aside0.mk hmem
        clear hp hmem
        go_wp2_with (refine (HC.out _ ?hb).mono ?_; (case hb => exact HB.out); rintro e w' ⟨rfl, hb2⟩; have HB2 := Aside0.mk (HB.out.trans (hb2.mono HB.out.size)); rw [HP.out]; clear hb2)
        go_roundw
        case rel => exact ⟨i + 1, by first | rw [HW.out] | rfl, ⟨by omega⟩, ⟨by rw [← HX.out, HD.out, api_TMake_167.idx, HP.out]; simp⟩, HB2⟩
        case measure => simp only [intOf]; (try rw [HW.out]); omega
      · have HP := Aside0.mk hp
        have HM := Aside0.mk hmem
        clear hp hmem
        go_wp2_with (refine (HC.out _ ?hb).mono ?_; (case hb => exact HB.out); rintro e w' ⟨rfl, hb2⟩; have HB2 := Aside0.mk (HB.out.trans (hb2.mono HB.out.size)); rw [HP.out]; clear hb2)
        go_ret
        exact ⟨by rw [← HX.out, HD.out, api_TMake_167.idx, HP.out]; simp, HB2.out⟩
    · have ht : decide (i < (l0.length : Int)) = false := decide_eq_false hlt
      go_wp2
      go_ret
      exact ⟨by rw [← HX.out, List.drop_eq_nil_of_le (by omega)]; rfl, HB.out⟩

/-! ### api_TMake_159: function 159 -/
theorem api_TMake_167.idx_ge (p : S63 → Bool) : ∀ (l : List (S63)) (i : Int), 0 ≤ i → decide (0 ≤ api_TMake_167.idx p l i) = l.any p
  | [], i, _ => by simp [api_TMake_167.idx]
  | x :: l, i, h => by
    rw [api_TMake_167.idx, List.any_cons]
    rcases hp : p x with _ | _
    · simp only [Bool.false_eq_true, if_false, Bool.false_or]
      exact api_TMake_167.idx_ge p l (i + 1) (by omega)
    · simp only [if_true, Bool.true_or]
      exact decide_eq_true h
set_option maxHeartbeats 2000000 in
set_option maxRecDepth 100000 in
theorem api_TMake_159.walk (A0 : Option Addr) (c0 : Nat) (l0 : List (S63)) (cid : Nat) (cap : Array Value) (p : S63 → Bool) (w : World) (hr0 : Kd.C k63 w A0 l0.length l0) (hn : l0.length < 4611686018427387904)
    (hcf : ∀ (args : Array Value) (W : World), Sem.run Try.prog (callFunc cid args) W = .ok (.enter cid args) W)
    (hf : ∀ (x : S63) (A3 : Option Addr) (c3 : Nat) (W : World), x ∈ l0 → Below w.heap.size w W → x.f3.length ≤ c3 → Kd.C (Kd.int .i64) W A3 x.f3.length x.f3 → Calls Try.prog cid (#[.agg #[.int .i64 x.f0, .int .i64 x.f1, .int .i64 x.f2, .slice A3 x.f3.length c3]] ++ cap) W fun e w' => e = .returned (.bool (p x)) ∧ Below W.heap.size W w') :
    Calls Try.prog 159 #[.slice A0 l0.length c0, .func (.func cid) #[] cap] w fun e w' => e = .returned (.bool (l0.any p)) ∧ Below w.heap.size w w' := by
  have HR0 := Aside0.mk hr0
  have HF := Aside0.mk hf
  have HN := Aside0.mk hn
  have HCF := Aside0.mk hcf
  clear hr0 hf hn hcf
  go_enter Try.func159, Try.ntmps159
  go_wp2_with (go_at_call 167; refine (api_TMake_167.walk A0 c0 l0 cid cap p _ HR0.out HN.out HCF.out HF.out).mono ?_; rintro e w' ⟨rfl, hb⟩; have HB := Aside0.mk hb; clear hb)
  go_ret
  exact ⟨by rw [← api_TMake_167.idx_ge p l0 0 (by omega)]; rfl, HB.out⟩

/-! ### live_large: function 126 -/
section
open Go.Proofs.YtlojkphocbbjdaaW.Sep Go.Proofs.YtlojkphocbbjdaaW.Reg
def largeM (x : S63) : Bool := decide (100 < x.f3.length)
theorem large1_walk (x : S63) (A3 : Option Addr) (c3 : Nat) (w : World) : Calls Try.prog 160 #[.agg #[.int .i64 x.f0, .int .i64 x.f1, .int .i64 x.f2, .slice A3 x.f3.length c3]] w fun e w' => e = .returned (.bool (largeM x)) ∧ Below w.heap.size w w' := by
  have HS0 := Aside0.mk (St.nil (Below.refl w.heap.size w))
  by_cases hc : 100 < x.f3.length
  · have HT := Aside0.mk (show largeM x = true from decide_eq_true hc)
    have hb1 : decide (100 < x.f3.length) = true := decide_eq_true hc
    have hb2 : decide ((100 : Int) < (x.f3.length : Int)) = true := decide_eq_true (by omega)
    clear hc
    go_enter Try.func160, Try.ntmps160
    go_wp2_with (first | ((with_reducible refine gate_dst (N := 1) rfl ?_); (try (refine gate_guard (by rfl) ?_; dsimp only)); refine box_event ?hg (N := 1) ?hd (cs := #[.int .i64 x.f0, .int .i64 x.f1, .int .i64 x.f2, .slice A3 x.f3.length c3]) (t := 63) ?hr ?_; (case hd => rfl); (case hg => rfl); (case hr => first | (go_simp; done) | (go_simp; rfl)); intro gx hg_ w279_ hx_ hb_; have HS280_ := Aside0.mk (HS0.out.box hg_ hx_ hb_); have c281_ : w279_.cell? ⟨gx, 3, none⟩ = some (.slice A3 x.f3.length c3) := (HS280_.out.cell 0 rfl 3).trans rfl; clear hg_ hx_ hb_  HS0))
    go_ret
    exact ⟨by rw [HT.out]; rfl, HS280_.out.below⟩
  · have HT := Aside0.mk (show largeM x = false from decide_eq_false hc)
    have hb1 : decide (100 < x.f3.length) = false := decide_eq_false hc
    have hb2 : decide ((100 : Int) < (x.f3.length : Int)) = false := decide_eq_false (by omega)
    clear hc
    go_enter Try.func160, Try.ntmps160
    go_wp2_with (first | ((with_reducible refine gate_dst (N := 1) rfl ?_); (try (refine gate_guard (by rfl) ?_; dsimp only)); refine box_event ?hg (N := 1) ?hd (cs := #[.int .i64 x.f0, .int .i64 x.f1, .int .i64 x.f2, .slice A3 x.f3.length c3]) (t := 63) ?hr ?_; (case hd => rfl); (case hg => rfl); (case hr => first | (go_simp; done) | (go_simp; rfl)); intro gx hg_ w279_ hx_ hb_; have HS280_ := Aside0.mk (HS0.out.box hg_ hx_ hb_); have c281_ : w279_.cell? ⟨gx, 3, none⟩ = some (.slice A3 x.f3.length c3) := (HS280_.out.cell 0 rfl 3).trans rfl; clear hg_ hx_ hb_  HS0))
    go_ret
    exact ⟨by rw [HT.out]; rfl, HS280_.out.below⟩
def live_large.f (a0_0 : Int) (a0_1 : Int) (l0_2 : List (S38)) (l0_3 : List (S63)) : Option Bool := if l0_3.length < 4611686018427387904 then some (decide (60 < l0_2.length) || decide (300 < l0_3.length) || l0_3.any largeM) else none
set_option maxHeartbeats 1000000 in
set_option maxRecDepth 100000 in
theorem live_large.calls (a0_0 : Int) (a0_1 : Int) (A0_2 : Option Addr) (c0_2 : Nat) (l0_2 : List (S38)) (A0_3 : Option Addr) (c0_3 : Nat) (l0_3 : List (S63)) (r : Bool) (w : World) (hr0_2 : Kd.C k38 w A0_2 l0_2.length l0_2) (hc0_2 : l0_2.length ≤ c0_2) (hr0_3 : Kd.C k63 w A0_3 l0_3.length l0_3) (hc0_3 : l0_3.length ≤ c0_3) (h : live_large.f a0_0 a0_1 l0_2 l0_3 = some r) :
    Calls Try.prog 126 #[.agg #[.int .i64 a0_0, .int .i64 a0_1, .slice A0_2 l0_2.length c0_2, .slice A0_3 l0_3.length c0_3]] w fun e w' => e = .returned (.bool r) ∧ Below w.heap.size w w' := by
  unfold live_large.f at h
  split at h
  case isFalse => cases h
  rename_i hn
  obtain rfl := Option.some.inj h
  have HN := Aside0.mk hn
  have HR3 := Aside0.mk hr0_3
  have HS0 := Aside0.mk (St.nil (Below.refl w.heap.size w))
  clear h hn hr0_2 hc0_2 hr0_3 hc0_3
  by_cases hc : 60 < l0_2.length
  · have hb1 : decide (60 < l0_2.length) = true := decide_eq_true hc
    have hb2 : decide ((60 : Int) < (l0_2.length : Int)) = true := decide_eq_true (by omega)
    have HT := Aside0.mk (show (decide (60 < l0_2.length) || decide (300 < l0_3.length) || l0_3.any largeM) = true by rw [hb1]; rfl)
    clear hc
    go_enter Try.func126, Try.ntmps126
    go_wp2_with (first | ((with_reducible refine gate_dst (N := 1) rfl ?_); (try (refine gate_guard (by rfl) ?_; dsimp only)); refine box_event ?hg (N := 1) ?hd (cs := #[.int .i64 a0_0, .int .i64 a0_1, .slice A0_2 l0_2.length c0_2, .slice A0_3 l0_3.length c0_3]) (t := 31) ?hr ?_; (case hd => rfl); (case hg => rfl); (case hr => first | (go_simp; done) | (go_simp; rfl)); intro gx hg_ w282_ hx_ hb_; have HS283_ := Aside0.mk (HS0.out.box hg_ hx_ hb_); have c284_ : w282_.cell? ⟨gx, 2, none⟩ = some (.slice A0_2 l0_2.length c0_2) := (HS283_.out.cell 0 rfl 2).trans rfl; have c285_ : w282_.cell? ⟨gx, 3, none⟩ = some (.slice A0_3 l0_3.length c0_3) := (HS283_.out.cell 0 rfl 3).trans rfl; clear hg_ hx_ hb_  HS0))
    go_ret
    exact ⟨by rw [HT.out]; rfl, HS283_.out.below⟩
  have hb1 : decide (60 < l0_2.length) = false := decide_eq_false hc
  have hb2 : decide ((60 : Int) < (l0_2.length : Int)) = false := decide_eq_false (by omega)
  by_cases hd : 300 < l0_3.length
  · have hb3 : decide (300 < l0_3.length) = true := decide_eq_true hd
    have hb4 : decide ((300 : Int) < (l0_3.length : Int)) = true := decide_eq_true (by omega)
    have HT := Aside0.mk (show (decide (60 < l0_2.length) || decide (300 < l0_3.length) || l0_3.any largeM) = true by rw [hb1, hb3]; rfl)
    clear hc hd
    go_enter Try.func126, Try.ntmps126
    go_wp2_with (first | ((with_reducible refine gate_dst (N := 1) rfl ?_); (try (refine gate_guard (by rfl) ?_; dsimp only)); refine box_event ?hg (N := 1) ?hd (cs := #[.int .i64 a0_0, .int .i64 a0_1, .slice A0_2 l0_2.length c0_2, .slice A0_3 l0_3.length c0_3]) (t := 31) ?hr ?_; (case hd => rfl); (case hg => rfl); (case hr => first | (go_simp; done) | (go_simp; rfl)); intro gx hg_ w282_ hx_ hb_; have HS283_ := Aside0.mk (HS0.out.box hg_ hx_ hb_); have c284_ : w282_.cell? ⟨gx, 2, none⟩ = some (.slice A0_2 l0_2.length c0_2) := (HS283_.out.cell 0 rfl 2).trans rfl; have c285_ : w282_.cell? ⟨gx, 3, none⟩ = some (.slice A0_3 l0_3.length c0_3) := (HS283_.out.cell 0 rfl 3).trans rfl; clear hg_ hx_ hb_  HS0))
    go_ret
    exact ⟨by rw [HT.out]; rfl, HS283_.out.below⟩
  have hb3 : decide (300 < l0_3.length) = false := decide_eq_false hd
  have hb4 : decide ((300 : Int) < (l0_3.length : Int)) = false := decide_eq_false (by omega)
  have HT := Aside0.mk (show (decide (60 < l0_2.length) || decide (300 < l0_3.length) || l0_3.any largeM) = l0_3.any largeM by rw [hb1, hb3]; rfl)
  clear hc hd
  go_enter Try.func126, Try.ntmps126
  go_wp2_with (first | ((with_reducible refine gate_dst (N := 1) rfl ?_); (try (refine gate_guard (by rfl) ?_; dsimp only)); refine box_event ?hg (N := 1) ?hd (cs := #[.int .i64 a0_0, .int .i64 a0_1, .slice A0_2 l0_2.length c0_2, .slice A0_3 l0_3.length c0_3]) (t := 31) ?hr ?_; (case hd => rfl); (case hg => rfl); (case hr => first | (go_simp; done) | (go_simp; rfl)); intro gx hg_ w282_ hx_ hb_; have HS283_ := Aside0.mk (HS0.out.box hg_ hx_ hb_); have c284_ : w282_.cell? ⟨gx, 2, none⟩ = some (.slice A0_2 l0_2.length c0_2) := (HS283_.out.cell 0 rfl 2).trans rfl; have c285_ : w282_.cell? ⟨gx, 3, none⟩ = some (.slice A0_3 l0_3.length c0_3) := (HS283_.out.cell 0 rfl 3).trans rfl; clear hg_ hx_ hb_  HS0) | (go_at_call 159; refine (api_TMake_159.walk A0_3 c0_3 l0_3 160 #[] largeM _ (Kd.C_below HR3.out HS283_.out.below) HN.out (fun _ _ => rfl) (fun x A3 c3 W2 _ hW _ _ => large1_walk x A3 c3 W2)).mono ?_; rintro e_ w286_ ⟨rfl, hb_⟩; have HS287_ := Aside0.mk (HS283_.out.call hb_); clear hb_; clear c284_ c285_ HS283_))
  go_ret
  exact ⟨by rw [HT.out]; rfl, HS287_.out.below⟩
end

/-! ### live_Check: function 69 -/
section
open Go.Proofs.YtlojkphocbbjdaaW.Sep Go.Proofs.YtlojkphocbbjdaaW.Reg
def okV (k : Nat) (x : S31) : Bool := match live_Values.f k x.f0 x.f1 x.f2 x.f3 with | some l => decide (l.length < 4611686018427387904) && decide (x.f3.length < 4611686018427387904) | none => false
def pv (k : Nat) (ins : List S181) (n : Int) (x : S31) : Bool := match live_Values.f k x.f0 x.f1 x.f2 x.f3 with | some l => l.any (allP ins n) | none => false
theorem okV.get {k : Nat} {x : S31} (ins : List S181) (n : Int) (h : okV k x = true) : ∃ l, live_Values.f k x.f0 x.f1 x.f2 x.f3 = some l ∧ l.length < 4611686018427387904 ∧ pv k ins n x = l.any (allP ins n) := by
  unfold okV at h
  unfold pv
  split at h
  · rename_i l hl
    simp only [Bool.and_eq_true, decide_eq_true_eq] at h
    exact ⟨l, hl, h.1, rfl⟩
  · cases h
theorem okV.len {k : Nat} {x : S31} (h : okV k x = true) : x.f3.length < 4611686018427387904 := by
  unfold okV at h
  split at h
  · simp only [Bool.and_eq_true, decide_eq_true_eq] at h
    exact h.2
  · cases h
def largeX (x : S31) : Bool := decide (60 < x.f2.length) || decide (300 < x.f3.length) || x.f3.any largeM
def TraceAt (w : World) (a0_0 : Int) (a0_1 : Int) (a0_2 : Int) (A0_3 : Option Addr) (c0_3 : Nat) (l0_3 : List (S181)) (A0_4 : Option Addr) (c0_4 : Nat) (l0_4 : List (S31)) (a0_5 : Int) (a0_6 : Int) (A0_7 : Option Addr) (c0_7 : Nat) (l0_7 : List (S38)) (A0_8 : Option Addr) (c0_8 : Nat) (l0_8 : List (S63)) (a0_9 : Int) (a0_10 : Int) (A0_11 : Option Addr) (c0_11 : Nat) (l0_11 : List (S38)) (A0_12 : Option Addr) (c0_12 : Nat) (l0_12 : List (S63)) : Prop := (Kd.C k181 w A0_3 l0_3.length l0_3 ∧ l0_3.length ≤ c0_3) ∧ (Kd.C k31 w A0_4 l0_4.length l0_4 ∧ l0_4.length ≤ c0_4) ∧ (Kd.C k38 w A0_7 l0_7.length l0_7 ∧ l0_7.length ≤ c0_7) ∧ (Kd.C k63 w A0_8 l0_8.length l0_8 ∧ l0_8.length ≤ c0_8) ∧ (Kd.C k38 w A0_11 l0_11.length l0_11 ∧ l0_11.length ≤ c0_11) ∧ (Kd.C k63 w A0_12 l0_12.length l0_12 ∧ l0_12.length ≤ c0_12)
theorem TraceAt.below {w w' : World} (a0_0 : Int) (a0_1 : Int) (a0_2 : Int) (A0_3 : Option Addr) (c0_3 : Nat) (l0_3 : List (S181)) (A0_4 : Option Addr) (c0_4 : Nat) (l0_4 : List (S31)) (a0_5 : Int) (a0_6 : Int) (A0_7 : Option Addr) (c0_7 : Nat) (l0_7 : List (S38)) (A0_8 : Option Addr) (c0_8 : Nat) (l0_8 : List (S63)) (a0_9 : Int) (a0_10 : Int) (A0_11 : Option Addr) (c0_11 : Nat) (l0_11 : List (S38)) (A0_12 : Option Addr) (c0_12 : Nat) (l0_12 : List (S63)) (h : TraceAt w a0_0 a0_1 a0_2 A0_3 c0_3 l0_3 A0_4 c0_4 l0_4 a0_5 a0_6 A0_7 c0_7 l0_7 A0_8 c0_8 l0_8 a0_9 a0_10 A0_11 c0_11 l0_11 A0_12 c0_12 l0_12) (hb : Below w.heap.size w w') : TraceAt w' a0_0 a0_1 a0_2 A0_3 c0_3 l0_3 A0_4 c0_4 l0_4 a0_5 a0_6 A0_7 c0_7 l0_7 A0_8 c0_8 l0_8 a0_9 a0_10 A0_11 c0_11 l0_11 A0_12 c0_12 l0_12 := by
  unfold TraceAt at *
  obtain ⟨⟨h3, k3⟩, ⟨h4, k4⟩, ⟨h7, k7⟩, ⟨h8, k8⟩, ⟨h11, k11⟩, ⟨h12, k12⟩⟩ := h
  exact ⟨⟨Kd.C_below h3 hb, k3⟩, ⟨Kd.C_below h4 hb, k4⟩, ⟨Kd.C_below h7 hb, k7⟩, ⟨Kd.C_below h8 hb, k8⟩, ⟨Kd.C_below h11 hb, k11⟩, ⟨Kd.C_below h12 hb, k12⟩⟩
set_option maxHeartbeats 4000000 in
set_option maxRecDepth 100000 in
theorem check1_walk (k : Nat) (gn gt : Nat) (n : Int) (a0_0 : Int) (a0_1 : Int) (a0_2 : Int) (A0_3 : Option Addr) (c0_3 : Nat) (l0_3 : List (S181)) (A0_4 : Option Addr) (c0_4 : Nat) (l0_4 : List (S31)) (a0_5 : Int) (a0_6 : Int) (A0_7 : Option Addr) (c0_7 : Nat) (l0_7 : List (S38)) (A0_8 : Option Addr) (c0_8 : Nat) (l0_8 : List (S63)) (a0_9 : Int) (a0_10 : Int) (A0_11 : Option Addr) (c0_11 : Nat) (l0_11 : List (S38)) (A0_12 : Option Addr) (c0_12 : Nat) (l0_12 : List (S63)) (x : S31) (A2 : Option Addr) (c2 : Nat) (A3 : Option Addr) (c3 : Nat) (w : World) (hn : w.cell? ⟨gn, 0, none⟩ = some (.int .i64 n)) (ht0 : w.cell? ⟨gt, 0, none⟩ = some (.int .i64 a0_0)) (ht1 : w.cell? ⟨gt, 1, none⟩ = some (.int .i64 a0_1)) (ht2 : w.cell? ⟨gt, 2, none⟩ = some (.int .i64 a0_2)) (ht3 : w.cell? ⟨gt, 3, none⟩ = some (.slice A0_3 l0_3.length c0_3)) (ht4 : w.cell? ⟨gt, 4, none⟩ = some (.slice A0_4 l0_4.length c0_4)) (ht5 : w.cell? ⟨gt, 5, none⟩ = some (.int .i64 a0_5)) (ht6 : w.cell? ⟨gt, 6, none⟩ = some (.int .i64 a0_6)) (ht7 : w.cell? ⟨gt, 7, none⟩ = some (.slice A0_7 l0_7.length c0_7)) (ht8 : w.cell? ⟨gt, 8, none⟩ = some (.slice A0_8 l0_8.length c0_8)) (ht9 : w.cell? ⟨gt, 9, none⟩ = some (.int .i64 a0_9)) (ht10 : w.cell? ⟨gt, 10, none⟩ = some (.int .i64 a0_10)) (ht11 : w.cell? ⟨gt, 11, none⟩ = some (.slice A0_11 l0_11.length c0_11)) (ht12 : w.cell? ⟨gt, 12, none⟩ = some (.slice A0_12 l0_12.length c0_12)) (hT : TraceAt w a0_0 a0_1 a0_2 A0_3 c0_3 l0_3 A0_4 c0_4 l0_4 a0_5 a0_6 A0_7 c0_7 l0_7 A0_8 c0_8 l0_8 a0_9 a0_10 A0_11 c0_11 l0_11 A0_12 c0_12 l0_12) (h2 : x.f2.length ≤ c2) (hC2 : Kd.C k38 w A2 x.f2.length x.f2) (h3 : x.f3.length ≤ c3) (hC3 : Kd.C k63 w A3 x.f3.length x.f3) (hok : okV k x = true) :
    Calls Try.prog 125 #[.agg #[.int .i64 x.f0, .int .i64 x.f1, .slice A2 x.f2.length c2, .slice A3 x.f3.length c3], .pointer (some ⟨gt, 0, none⟩), .pointer (some ⟨gn, 0, none⟩)] w fun e w' => e = .returned (.bool (pv k l0_3 n x)) ∧ Below w.heap.size w w' := by
  obtain ⟨l, hl, hll, hpv⟩ := okV.get l0_3 n hok
  have HS0 := Aside0.mk (St.nil (Below.refl w.heap.size w))
  have HL := Aside0.mk hl
  have HLL := Aside0.mk hll
  have HPV := Aside0.mk hpv
  have HT := Aside0.mk hT
  have H2 := Aside0.mk h2
  have H3 := Aside0.mk h3
  have HC2 := Aside0.mk hC2
  have HC3 := Aside0.mk hC3
  clear hok hl hll hpv hT h2 h3 hC2 hC3
  go_enter Try.func125, Try.ntmps125
  go_wp2_with (first | ((with_reducible refine gate_dst (N := 3) rfl ?_); (try (refine gate_guard (by rfl) ?_; dsimp only)); refine box_event ?hg (N := 3) ?hd (cs := #[.int .i64 x.f0, .int .i64 x.f1, .slice A2 x.f2.length c2, .slice A3 x.f3.length c3]) (t := 31) ?hr ?_; (case hd => rfl); (case hg => rfl); (case hr => first | (go_simp; done) | (go_simp; rfl)); intro gx hg_ w1 hx_ hb_; have HS288_ := Aside0.mk (HS0.out.box hg_ hx_ hb_); have hbx_ := hb_; clear hg_ hx_ hb_  HS0; replace hn := (hbx_.cell (World.block_lt_of_cell? w _ hn)).trans hn; replace ht0 := (hbx_.cell (World.block_lt_of_cell? w _ ht0)).trans ht0; replace ht1 := (hbx_.cell (World.block_lt_of_cell? w _ ht1)).trans ht1; replace ht2 := (hbx_.cell (World.block_lt_of_cell? w _ ht2)).trans ht2; replace ht3 := (hbx_.cell (World.block_lt_of_cell? w _ ht3)).trans ht3; replace ht4 := (hbx_.cell (World.block_lt_of_cell? w _ ht4)).trans ht4; replace ht5 := (hbx_.cell (World.block_lt_of_cell? w _ ht5)).trans ht5; replace ht6 := (hbx_.cell (World.block_lt_of_cell? w _ ht6)).trans ht6; replace ht7 := (hbx_.cell (World.block_lt_of_cell? w _ ht7)).trans ht7; replace ht8 := (hbx_.cell (World.block_lt_of_cell? w _ ht8)).trans ht8; replace ht9 := (hbx_.cell (World.block_lt_of_cell? w _ ht9)).trans ht9; replace ht10 := (hbx_.cell (World.block_lt_of_cell? w _ ht10)).trans ht10; replace ht11 := (hbx_.cell (World.block_lt_of_cell? w _ ht11)).trans ht11; replace ht12 := (hbx_.cell (World.block_lt_of_cell? w _ ht12)).trans ht12; clear hbx_))
  have hx0 : w1.cell? ⟨gx, 0, none⟩ = some (.int .i64 x.f0) := (HS288_.out.cell 0 rfl 0).trans rfl
  have hx1 : w1.cell? ⟨gx, 1, none⟩ = some (.int .i64 x.f1) := (HS288_.out.cell 0 rfl 1).trans rfl
  have hx2 : w1.cell? ⟨gx, 2, none⟩ = some (.slice A2 x.f2.length c2) := (HS288_.out.cell 0 rfl 2).trans rfl
  have hx3 : w1.cell? ⟨gx, 3, none⟩ = some (.slice A3 x.f3.length c3) := (HS288_.out.cell 0 rfl 3).trans rfl
  have hnd : w1.drew.cell? ⟨gn, 0, none⟩ = _ := hn
  have ht0d : w1.drew.cell? ⟨gt, 0, none⟩ = _ := ht0
  have ht1d : w1.drew.cell? ⟨gt, 1, none⟩ = _ := ht1
  have ht2d : w1.drew.cell? ⟨gt, 2, none⟩ = _ := ht2
  have ht3d : w1.drew.cell? ⟨gt, 3, none⟩ = _ := ht3
  have ht4d : w1.drew.cell? ⟨gt, 4, none⟩ = _ := ht4
  have ht5d : w1.drew.cell? ⟨gt, 5, none⟩ = _ := ht5
  have ht6d : w1.drew.cell? ⟨gt, 6, none⟩ = _ := ht6
  have ht7d : w1.drew.cell? ⟨gt, 7, none⟩ = _ := ht7
  have ht8d : w1.drew.cell? ⟨gt, 8, none⟩ = _ := ht8
  have ht9d : w1.drew.cell? ⟨gt, 9, none⟩ = _ := ht9
  have ht10d : w1.drew.cell? ⟨gt, 10, none⟩ = _ := ht10
  have ht11d : w1.drew.cell? ⟨gt, 11, none⟩ = _ := ht11
  have ht12d : w1.drew.cell? ⟨gt, 12, none⟩ = _ := ht12
  have hx0d : w1.drew.cell? ⟨gx, 0, none⟩ = _ := hx0
  have hx1d : w1.drew.cell? ⟨gx, 1, none⟩ = _ := hx1
  have hx2d : w1.drew.cell? ⟨gx, 2, none⟩ = _ := hx2
  have hx3d : w1.drew.cell? ⟨gx, 3, none⟩ = _ := hx3
  have HB1d := Aside0.mk (below_drew HS288_.out.below)
  have HC2d := Aside0.mk (Kd.C_drew (Kd.C_below HC2.out HS288_.out.below))
  have HC3d := Aside0.mk (Kd.C_drew (Kd.C_below HC3.out HS288_.out.below))
  go_region_held3 (fun w' => w'.cell? ⟨gn, 0, none⟩ = some (.int .i64 n) ∧ w'.cell? ⟨gt, 0, none⟩ = some (.int .i64 a0_0) ∧ w'.cell? ⟨gt, 1, none⟩ = some (.int .i64 a0_1) ∧ w'.cell? ⟨gt, 2, none⟩ = some (.int .i64 a0_2) ∧ w'.cell? ⟨gt, 3, none⟩ = some (.slice A0_3 l0_3.length c0_3) ∧ w'.cell? ⟨gt, 4, none⟩ = some (.slice A0_4 l0_4.length c0_4) ∧ w'.cell? ⟨gt, 5, none⟩ = some (.int .i64 a0_5) ∧ w'.cell? ⟨gt, 6, none⟩ = some (.int .i64 a0_6) ∧ w'.cell? ⟨gt, 7, none⟩ = some (.slice A0_7 l0_7.length c0_7) ∧ w'.cell? ⟨gt, 8, none⟩ = some (.slice A0_8 l0_8.length c0_8) ∧ w'.cell? ⟨gt, 9, none⟩ = some (.int .i64 a0_9) ∧ w'.cell? ⟨gt, 10, none⟩ = some (.int .i64 a0_10) ∧ w'.cell? ⟨gt, 11, none⟩ = some (.slice A0_11 l0_11.length c0_11) ∧ w'.cell? ⟨gt, 12, none⟩ = some (.slice A0_12 l0_12.length c0_12) ∧ w'.cell? ⟨gx, 0, none⟩ = some (.int .i64 x.f0) ∧ w'.cell? ⟨gx, 1, none⟩ = some (.int .i64 x.f1) ∧ w'.cell? ⟨gx, 2, none⟩ = some (.slice A2 x.f2.length c2) ∧ w'.cell? ⟨gx, 3, none⟩ = some (.slice A3 x.f3.length c3)) (first | go_keep | exact ⟨hng, ht0g, ht1g, ht2g, ht3g, ht4g, ht5g, ht6g, ht7g, ht8g, ht9g, ht10g, ht11g, ht12g, hx0g, hx1g, hx2g, hx3g⟩ | exact ⟨hne, ht0e, ht1e, ht2e, ht3e, ht4e, ht5e, ht6e, ht7e, ht8e, ht9e, ht10e, ht11e, ht12e, hx0e, hx1e, hx2e, hx3e⟩) ((first | (go_at_call 121; with_reducible refine (live_Values.calls k x.f0 x.f1 A2 c2 x.f2 A3 c3 x.f3 l _ ?s1 ?s2 ?s3 ?s4 HL.out).mono ?_; (case s1 => exact HC2d.out); (case s2 => exact H2.out); (case s3 => exact HC3d.out); (case s4 => exact H3.out); rintro e w4 ⟨v4, rfl, hr4, hb4⟩; have HBV := Aside0.mk (below_step HB1d.out hb4); have HV := Aside0.mk hr4; obtain ⟨A4, c4, rfl⟩ := Kd.R_slice hr4; have hne := (hb4.cell (World.block_lt_of_cell? _ _ hnd)).trans hnd; have ht0e := (hb4.cell (World.block_lt_of_cell? _ _ ht0d)).trans ht0d; have ht1e := (hb4.cell (World.block_lt_of_cell? _ _ ht1d)).trans ht1d; have ht2e := (hb4.cell (World.block_lt_of_cell? _ _ ht2d)).trans ht2d; have ht3e := (hb4.cell (World.block_lt_of_cell? _ _ ht3d)).trans ht3d; have ht4e := (hb4.cell (World.block_lt_of_cell? _ _ ht4d)).trans ht4d; have ht5e := (hb4.cell (World.block_lt_of_cell? _ _ ht5d)).trans ht5d; have ht6e := (hb4.cell (World.block_lt_of_cell? _ _ ht6d)).trans ht6d; have ht7e := (hb4.cell (World.block_lt_of_cell? _ _ ht7d)).trans ht7d; have ht8e := (hb4.cell (World.block_lt_of_cell? _ _ ht8d)).trans ht8d; have ht9e := (hb4.cell (World.block_lt_of_cell? _ _ ht9d)).trans ht9d; have ht10e := (hb4.cell (World.block_lt_of_cell? _ _ ht10d)).trans ht10d; have ht11e := (hb4.cell (World.block_lt_of_cell? _ _ ht11d)).trans ht11d; have ht12e := (hb4.cell (World.block_lt_of_cell? _ _ ht12d)).trans ht12d; have hx0e := (hb4.cell (World.block_lt_of_cell? _ _ hx0d)).trans hx0d; have hx1e := (hb4.cell (World.block_lt_of_cell? _ _ hx1d)).trans hx1d; have hx2e := (hb4.cell (World.block_lt_of_cell? _ _ hx2d)).trans hx2d; have hx3e := (hb4.cell (World.block_lt_of_cell? _ _ hx3d)).trans hx3d; clear hr4 hb4) | (go_at_call 123; have HTV := TraceAt.below a0_0 a0_1 a0_2 A0_3 c0_3 l0_3 A0_4 c0_4 l0_4 a0_5 a0_6 A0_7 c0_7 l0_7 A0_8 c0_8 l0_8 a0_9 a0_10 A0_11 c0_11 l0_11 A0_12 c0_12 l0_12 HT.out HBV.out; unfold TraceAt at HTV; with_reducible refine (live_all.calls a0_0 a0_1 a0_2 A0_3 c0_3 l0_3 A0_4 c0_4 l0_4 a0_5 a0_6 A0_7 c0_7 l0_7 A0_8 c0_8 l0_8 a0_9 a0_10 A0_11 c0_11 l0_11 A0_12 c0_12 l0_12 A4 c4 l n (!l.any (allP l0_3 n)) _ HTV.1.1 HTV.1.2 HTV.2.1.1 HTV.2.1.2 HTV.2.2.1.1 HTV.2.2.1.2 HTV.2.2.2.1.1 HTV.2.2.2.1.2 HTV.2.2.2.2.1.1 HTV.2.2.2.2.1.2 HTV.2.2.2.2.2.1 HTV.2.2.2.2.2.2 (Kd.R_reads' HV.out).2.2 (Kd.R_reads' HV.out).2.1 ?s9).mono ?_; (case s9 => unfold live_all.f; rw [if_pos HLL.out]); rintro e w6 ⟨rfl, hb6⟩; have HBB := Aside0.mk (below_step HBV.out hb6); have hng := (hb6.cell (World.block_lt_of_cell? _ _ hne)).trans hne; have ht0g := (hb6.cell (World.block_lt_of_cell? _ _ ht0e)).trans ht0e; have ht1g := (hb6.cell (World.block_lt_of_cell? _ _ ht1e)).trans ht1e; have ht2g := (hb6.cell (World.block_lt_of_cell? _ _ ht2e)).trans ht2e; have ht3g := (hb6.cell (World.block_lt_of_cell? _ _ ht3e)).trans ht3e; have ht4g := (hb6.cell (World.block_lt_of_cell? _ _ ht4e)).trans ht4e; have ht5g := (hb6.cell (World.block_lt_of_cell? _ _ ht5e)).trans ht5e; have ht6g := (hb6.cell (World.block_lt_of_cell? _ _ ht6e)).trans ht6e; have ht7g := (hb6.cell (World.block_lt_of_cell? _ _ ht7e)).trans ht7e; have ht8g := (hb6.cell (World.block_lt_of_cell? _ _ ht8e)).trans ht8e; have ht9g := (hb6.cell (World.block_lt_of_cell? _ _ ht9e)).trans ht9e; have ht10g := (hb6.cell (World.block_lt_of_cell? _ _ ht10e)).trans ht10e; have ht11g := (hb6.cell (World.block_lt_of_cell? _ _ ht11e)).trans ht11e; have ht12g := (hb6.cell (World.block_lt_of_cell? _ _ ht12e)).trans ht12e; have hx0g := (hb6.cell (World.block_lt_of_cell? _ _ hx0e)).trans hx0e; have hx1g := (hb6.cell (World.block_lt_of_cell? _ _ hx1e)).trans hx1e; have hx2g := (hb6.cell (World.block_lt_of_cell? _ _ hx2e)).trans hx2e; have hx3g := (hb6.cell (World.block_lt_of_cell? _ _ hx3e)).trans hx3e; clear hb6)))
  all_goals
    go_wp2
    go_ret
    exact ⟨by rw [HPV.out]; simp, HBB.out⟩
theorem exitK {w W : World} {xs : List (List Value)} {a0_0 : Int} {a0_1 : Int} {a0_2 : Int} {A0_3 : Option Addr} {c0_3 : Nat} {l0_3 : List (S181)} {A0_4 : Option Addr} {c0_4 : Nat} {l0_4 : List (S31)} {a0_5 : Int} {a0_6 : Int} {A0_7 : Option Addr} {c0_7 : Nat} {l0_7 : List (S38)} {A0_8 : Option Addr} {c0_8 : Nat} {l0_8 : List (S63)} {a0_9 : Int} {a0_10 : Int} {A0_11 : Option Addr} {c0_11 : Nat} {l0_11 : List (S38)} {A0_12 : Option Addr} {c0_12 : Nat} {l0_12 : List (S63)} (hxf : ∀ (j : Nat) (x : S31) (c : List Value), l0_4[j]? = some x → xs[j]? = some c → k31.K w x c) (hT : TraceAt w a0_0 a0_1 a0_2 A0_3 c0_3 l0_3 A0_4 c0_4 l0_4 a0_5 a0_6 A0_7 c0_7 l0_7 A0_8 c0_8 l0_8 a0_9 a0_10 A0_11 c0_11 l0_11 A0_12 c0_12 l0_12) (hb : Below w.heap.size w W) :
    ∀ (j : Nat) (x : S31) (c : List Value), ((⟨a0_9, a0_10, l0_11, l0_12⟩ : S31) :: l0_4)[j]? = some x → ([[.int .i64 a0_9, .int .i64 a0_10, .slice A0_11 l0_11.length c0_11, .slice A0_12 l0_12.length c0_12]] ++ xs)[j]? = some c → k31.K W x c := by
  intro j x c hx hc
  unfold TraceAt at hT
  cases j with
  | zero =>
    obtain rfl := Option.some.inj hx
    obtain rfl := Option.some.inj hc
    exact k31_mk _ (⟨a0_9, a0_10, l0_11, l0_12⟩ : S31) hT.2.2.2.2.1.2 (Kd.C_below hT.2.2.2.2.1.1 hb) hT.2.2.2.2.2.2 (Kd.C_below hT.2.2.2.2.2.1 hb)
  | succ j =>
    simp only [List.getElem?_cons_succ, List.singleton_append] at hx hc
    exact k31.K_below hb (hxf j x c hx hc)
theorem exitK2 {w W : World} {xs : List (List Value)} {a0_0 : Int} {a0_1 : Int} {a0_2 : Int} {A0_3 : Option Addr} {c0_3 : Nat} {l0_3 : List (S181)} {A0_4 : Option Addr} {c0_4 : Nat} {l0_4 : List (S31)} {a0_5 : Int} {a0_6 : Int} {A0_7 : Option Addr} {c0_7 : Nat} {l0_7 : List (S38)} {A0_8 : Option Addr} {c0_8 : Nat} {l0_8 : List (S63)} {a0_9 : Int} {a0_10 : Int} {A0_11 : Option Addr} {c0_11 : Nat} {l0_11 : List (S38)} {A0_12 : Option Addr} {c0_12 : Nat} {l0_12 : List (S63)} (hxl : xs.length = l0_4.length) (hxf : ∀ (j : Nat) (x : S31) (c : List Value), l0_4[j]? = some x → xs[j]? = some c → k31.K w x c) (hT : TraceAt w a0_0 a0_1 a0_2 A0_3 c0_3 l0_3 A0_4 c0_4 l0_4 a0_5 a0_6 A0_7 c0_7 l0_7 A0_8 c0_8 l0_8 a0_9 a0_10 A0_11 c0_11 l0_11 A0_12 c0_12 l0_12) (hb : Below w.heap.size w W) :
    ∀ (j : Nat) (x : S31) (c : List Value), (((⟨a0_9, a0_10, l0_11, l0_12⟩ : S31) :: l0_4) ++ [(⟨a0_5, a0_6, l0_7, l0_8⟩ : S31)])[j]? = some x → (([[.int .i64 a0_9, .int .i64 a0_10, .slice A0_11 l0_11.length c0_11, .slice A0_12 l0_12.length c0_12]] ++ xs) ++ [[.int .i64 a0_5, .int .i64 a0_6, .slice A0_7 l0_7.length c0_7, .slice A0_8 l0_8.length c0_8]])[j]? = some c → k31.K W x c := by
  intro j x c hx hc
  by_cases hj : j < ((⟨a0_9, a0_10, l0_11, l0_12⟩ : S31) :: l0_4).length
  · rw [List.getElem?_append_left hj] at hx
    rw [List.getElem?_append_left (by simp [hxl]; simpa using hj)] at hc
    exact exitK hxf hT hb j x c hx hc
  · have hj2 : j = ((⟨a0_9, a0_10, l0_11, l0_12⟩ : S31) :: l0_4).length := by
      have := (List.getElem?_eq_some_iff.1 hx).1
      simp at this hj ⊢
      omega
    subst hj2
    rw [List.getElem?_append_right (Nat.le_refl _), Nat.sub_self] at hx
    rw [List.getElem?_append_right (by simp [hxl]), show ((⟨a0_9, a0_10, l0_11, l0_12⟩ : S31) :: l0_4).length - (([[.int .i64 a0_9, .int .i64 a0_10, .slice A0_11 l0_11.length c0_11, .slice A0_12 l0_12.length c0_12]] : List (List Value)) ++ xs).length = 0 by simp [hxl]] at hc
    obtain rfl := Option.some.inj hx
    obtain rfl := Option.some.inj hc
    unfold TraceAt at hT
    exact k31_mk _ (⟨a0_5, a0_6, l0_7, l0_8⟩ : S31) hT.2.2.1.2 (Kd.C_below hT.2.2.1.1 hb) hT.2.2.2.1.2 (Kd.C_below hT.2.2.2.1.1 hb)
def onesL (k : Nat) (a0_0 : Int) (a0_1 : Int) (a0_2 : Int) (l0_3 : List (S181)) (l0_4 : List (S31)) (a0_5 : Int) (a0_6 : Int) (l0_7 : List (S38)) (l0_8 : List (S63)) (a0_9 : Int) (a0_10 : Int) (l0_11 : List (S38)) (l0_12 : List (S63)) : Nat → Int → Option Int
  | 0, _ => some 0
  | d + 1, i => (live_one.f k a0_0 a0_1 a0_2 l0_3 l0_4 a0_5 a0_6 l0_7 l0_8 a0_9 a0_10 l0_11 l0_12 i).bind fun e => if e = 0 then onesL k a0_0 a0_1 a0_2 l0_3 l0_4 a0_5 a0_6 l0_7 l0_8 a0_9 a0_10 l0_11 l0_12 d (i + 1) else some e
theorem onesL.mono (a0_0 : Int) (a0_1 : Int) (a0_2 : Int) (l0_3 : List (S181)) (l0_4 : List (S31)) (a0_5 : Int) (a0_6 : Int) (l0_7 : List (S38)) (l0_8 : List (S63)) (a0_9 : Int) (a0_10 : Int) (l0_11 : List (S38)) (l0_12 : List (S63)) : ∀ (d : Nat) (i : Int) (k : Nat), LeO (onesL k a0_0 a0_1 a0_2 l0_3 l0_4 a0_5 a0_6 l0_7 l0_8 a0_9 a0_10 l0_11 l0_12 d i) (onesL (k + 1) a0_0 a0_1 a0_2 l0_3 l0_4 a0_5 a0_6 l0_7 l0_8 a0_9 a0_10 l0_11 l0_12 d i)
  | 0, i, k => LeO.refl _
  | d + 1, i, k => by
    unfold onesL
    exact LeO.bind (live_one.mono a0_0 a0_1 a0_2 l0_3 l0_4 a0_5 a0_6 l0_7 l0_8 a0_9 a0_10 l0_11 l0_12 i k) (fun e => LeO.ite (onesL.mono a0_0 a0_1 a0_2 l0_3 l0_4 a0_5 a0_6 l0_7 l0_8 a0_9 a0_10 l0_11 l0_12 d (i + 1) k) (LeO.refl _))
def chkX (k : Nat) (a0_0 : Int) (a0_1 : Int) (a0_2 : Int) (l0_3 : List (S181)) (l0_4 : List (S31)) (a0_5 : Int) (a0_6 : Int) (l0_7 : List (S38)) (l0_8 : List (S63)) (a0_9 : Int) (a0_10 : Int) (l0_11 : List (S38)) (l0_12 : List (S63)) : Int := if 0 < a0_2 ∧ pv k l0_3 a0_2 (⟨a0_5, a0_6, l0_7, l0_8⟩ : S31) = true then 3 else if ((⟨a0_9, a0_10, l0_11, l0_12⟩ : S31) :: l0_4).any (pv k l0_3 l0_3.length) = true then 3 else if (((⟨a0_9, a0_10, l0_11, l0_12⟩ : S31) :: l0_4) ++ [(⟨a0_5, a0_6, l0_7, l0_8⟩ : S31)]).any largeX = true then 2 else 0
def chkOk (k : Nat) (a0_0 : Int) (a0_1 : Int) (a0_2 : Int) (l0_3 : List (S181)) (l0_4 : List (S31)) (a0_5 : Int) (a0_6 : Int) (l0_7 : List (S38)) (l0_8 : List (S63)) (a0_9 : Int) (a0_10 : Int) (l0_11 : List (S38)) (l0_12 : List (S63)) : Bool := decide (l0_4.length < 2147483648) && (((⟨a0_9, a0_10, l0_11, l0_12⟩ : S31) :: l0_4) ++ [(⟨a0_5, a0_6, l0_7, l0_8⟩ : S31)]).all (okV k)
def live_Check.f (k : Nat) (a0_0 : Int) (a0_1 : Int) (a0_2 : Int) (l0_3 : List (S181)) (l0_4 : List (S31)) (a0_5 : Int) (a0_6 : Int) (l0_7 : List (S38)) (l0_8 : List (S63)) (a0_9 : Int) (a0_10 : Int) (l0_11 : List (S38)) (l0_12 : List (S63)) : Option Int := if 300 < l0_3.length ∨ 200 < l0_4.length then some 2 else if a0_2 < 0 ∨ (l0_3.length : Int) < a0_2 then some 3 else (onesL k a0_0 a0_1 a0_2 l0_3 l0_4 a0_5 a0_6 l0_7 l0_8 a0_9 a0_10 l0_11 l0_12 l0_3.length 0).bind fun e => if e = 0 then (if chkOk k a0_0 a0_1 a0_2 l0_3 l0_4 a0_5 a0_6 l0_7 l0_8 a0_9 a0_10 l0_11 l0_12 = true then some (chkX k a0_0 a0_1 a0_2 l0_3 l0_4 a0_5 a0_6 l0_7 l0_8 a0_9 a0_10 l0_11 l0_12) else none) else some e
theorem okV.up {k : Nat} {x : S31} (h : okV k x = true) : okV (k + 1) x = true ∧ ∀ ins n, pv (k + 1) ins n x = pv k ins n x := by
  obtain ⟨l, hl, _⟩ := okV.get [] 0 h
  have h2 := live_Values.mono x.f0 x.f1 x.f2 x.f3 k _ hl
  unfold okV pv at *
  rw [hl] at h
  rw [h2, hl]
  exact ⟨h, fun _ _ => rfl⟩
theorem chkOk.up {k : Nat} (a0_0 : Int) (a0_1 : Int) (a0_2 : Int) (l0_3 : List (S181)) (l0_4 : List (S31)) (a0_5 : Int) (a0_6 : Int) (l0_7 : List (S38)) (l0_8 : List (S63)) (a0_9 : Int) (a0_10 : Int) (l0_11 : List (S38)) (l0_12 : List (S63)) (h : chkOk k a0_0 a0_1 a0_2 l0_3 l0_4 a0_5 a0_6 l0_7 l0_8 a0_9 a0_10 l0_11 l0_12 = true) : chkOk (k + 1) a0_0 a0_1 a0_2 l0_3 l0_4 a0_5 a0_6 l0_7 l0_8 a0_9 a0_10 l0_11 l0_12 = true ∧ chkX (k + 1) a0_0 a0_1 a0_2 l0_3 l0_4 a0_5 a0_6 l0_7 l0_8 a0_9 a0_10 l0_11 l0_12 = chkX k a0_0 a0_1 a0_2 l0_3 l0_4 a0_5 a0_6 l0_7 l0_8 a0_9 a0_10 l0_11 l0_12 := by
  unfold chkOk at *
  simp only [Bool.and_eq_true, List.all_eq_true] at h ⊢
  have hp : ∀ x ∈ ((⟨a0_9, a0_10, l0_11, l0_12⟩ : S31) :: l0_4) ++ [(⟨a0_5, a0_6, l0_7, l0_8⟩ : S31)], ∀ ins n, pv (k + 1) ins n x = pv k ins n x := fun x hx => (okV.up (h.2 x hx)).2
  refine ⟨⟨h.1, fun x hx => (okV.up (h.2 x hx)).1⟩, ?_⟩
  unfold chkX
  rw [hp (⟨a0_5, a0_6, l0_7, l0_8⟩ : S31) (by simp)]
  have : ((⟨a0_9, a0_10, l0_11, l0_12⟩ : S31) :: l0_4).any (pv (k + 1) l0_3 l0_3.length) = ((⟨a0_9, a0_10, l0_11, l0_12⟩ : S31) :: l0_4).any (pv k l0_3 l0_3.length) := by
    rw [Bool.eq_iff_iff, List.any_eq_true, List.any_eq_true]
    constructor
    · rintro ⟨x, hx, hy⟩
      exact ⟨x, hx, by rw [← hp x (List.mem_append_left _ hx)]; exact hy⟩
    · rintro ⟨x, hx, hy⟩
      exact ⟨x, hx, by rw [hp x (List.mem_append_left _ hx)]; exact hy⟩
  rw [this]
theorem live_Check.mono : ∀ a0_0 a0_1 a0_2 l0_3 l0_4 a0_5 a0_6 l0_7 l0_8 a0_9 a0_10 l0_11 l0_12 k, LeO (live_Check.f k a0_0 a0_1 a0_2 l0_3 l0_4 a0_5 a0_6 l0_7 l0_8 a0_9 a0_10 l0_11 l0_12) (live_Check.f (k + 1) a0_0 a0_1 a0_2 l0_3 l0_4 a0_5 a0_6 l0_7 l0_8 a0_9 a0_10 l0_11 l0_12) := by
  intro a0_0 a0_1 a0_2 l0_3 l0_4 a0_5 a0_6 l0_7 l0_8 a0_9 a0_10 l0_11 l0_12 k
  unfold live_Check.f
  refine LeO.ite (LeO.refl _) (LeO.ite (LeO.refl _) (LeO.bind (onesL.mono a0_0 a0_1 a0_2 l0_3 l0_4 a0_5 a0_6 l0_7 l0_8 a0_9 a0_10 l0_11 l0_12 _ _ _) (fun e => LeO.ite ?_ (LeO.refl _))))
  intro r hr
  split at hr
  · rename_i hc
    obtain ⟨h1, h2⟩ := chkOk.up a0_0 a0_1 a0_2 l0_3 l0_4 a0_5 a0_6 l0_7 l0_8 a0_9 a0_10 l0_11 l0_12 hc
    rw [if_pos h1, h2]
    exact hr
  · cases hr
set_option maxHeartbeats 16000000 in
set_option maxRecDepth 100000 in
theorem live_Check.calls (k : Nat) (a0_0 : Int) (a0_1 : Int) (a0_2 : Int) (A0_3 : Option Addr) (c0_3 : Nat) (l0_3 : List (S181)) (A0_4 : Option Addr) (c0_4 : Nat) (l0_4 : List (S31)) (a0_5 : Int) (a0_6 : Int) (A0_7 : Option Addr) (c0_7 : Nat) (l0_7 : List (S38)) (A0_8 : Option Addr) (c0_8 : Nat) (l0_8 : List (S63)) (a0_9 : Int) (a0_10 : Int) (A0_11 : Option Addr) (c0_11 : Nat) (l0_11 : List (S38)) (A0_12 : Option Addr) (c0_12 : Nat) (l0_12 : List (S63)) (r : Int) (w : World) (hr0_3 : Kd.C k181 w A0_3 l0_3.length l0_3) (hc0_3 : l0_3.length ≤ c0_3) (hr0_4 : Kd.C k31 w A0_4 l0_4.length l0_4) (hc0_4 : l0_4.length ≤ c0_4) (hr0_7 : Kd.C k38 w A0_7 l0_7.length l0_7) (hc0_7 : l0_7.length ≤ c0_7) (hr0_8 : Kd.C k63 w A0_8 l0_8.length l0_8) (hc0_8 : l0_8.length ≤ c0_8) (hr0_11 : Kd.C k38 w A0_11 l0_11.length l0_11) (hc0_11 : l0_11.length ≤ c0_11) (hr0_12 : Kd.C k63 w A0_12 l0_12.length l0_12) (hc0_12 : l0_12.length ≤ c0_12) (h : live_Check.f k a0_0 a0_1 a0_2 l0_3 l0_4 a0_5 a0_6 l0_7 l0_8 a0_9 a0_10 l0_11 l0_12 = some r) :
    Calls Try.prog 69 #[.agg #[.int .i64 a0_0, .int .i64 a0_1, .int .i64 a0_2, .slice A0_3 l0_3.length c0_3, .slice A0_4 l0_4.length c0_4, .int .i64 a0_5, .int .i64 a0_6, .slice A0_7 l0_7.length c0_7, .slice A0_8 l0_8.length c0_8, .int .i64 a0_9, .int .i64 a0_10, .slice A0_11 l0_11.length c0_11, .slice A0_12 l0_12.length c0_12]] w fun e w' => e = .returned (.int .i64 r) ∧ Below w.heap.size w w' := by
  have HT := Aside0.mk (show TraceAt w a0_0 a0_1 a0_2 A0_3 c0_3 l0_3 A0_4 c0_4 l0_4 a0_5 a0_6 A0_7 c0_7 l0_7 A0_8 c0_8 l0_8 a0_9 a0_10 A0_11 c0_11 l0_11 A0_12 c0_12 l0_12 from ⟨⟨hr0_3, hc0_3⟩, ⟨hr0_4, hc0_4⟩, ⟨hr0_7, hc0_7⟩, ⟨hr0_8, hc0_8⟩, ⟨hr0_11, hc0_11⟩, ⟨hr0_12, hc0_12⟩⟩)
  have HS0 := Aside0.mk (St.nil (Below.refl w.heap.size w))
  have HR4 := Aside0.mk hr0_4
  clear hr0_3 hc0_3 hr0_4 hc0_4 hr0_7 hc0_7 hr0_8 hc0_8 hr0_11 hc0_11 hr0_12 hc0_12
  unfold live_Check.f at h
  by_cases c1 : 300 < l0_3.length
  · rw [if_pos (.inl c1)] at h
    obtain rfl := Option.some.inj h
    have hb1 : decide (300 < l0_3.length) = true := decide_eq_true c1
    have hb2 : decide ((300 : Int) < (l0_3.length : Int)) = true := decide_eq_true (by omega)
    clear h c1
    go_enter Try.func69, Try.ntmps69
    go_wp2_with (first | ((with_reducible refine gate_dst (N := 1) rfl ?_); (try (refine gate_guard (by rfl) ?_; dsimp only)); refine box_event ?hg (N := 1) ?hd (cs := #[.int .i64 a0_0, .int .i64 a0_1, .int .i64 a0_2, .slice A0_3 l0_3.length c0_3, .slice A0_4 l0_4.length c0_4, .int .i64 a0_5, .int .i64 a0_6, .slice A0_7 l0_7.length c0_7, .slice A0_8 l0_8.length c0_8, .int .i64 a0_9, .int .i64 a0_10, .slice A0_11 l0_11.length c0_11, .slice A0_12 l0_12.length c0_12]) (t := 123) ?hr ?_; (case hd => rfl); (case hg => rfl); (case hr => first | (go_simp; done) | (go_simp; rfl)); intro gt hg_ w289_ hx_ hb_; have HS290_ := Aside0.mk (HS0.out.box hg_ hx_ hb_); have c291_ : w289_.cell? ⟨gt, 3, none⟩ = some (.slice A0_3 l0_3.length c0_3) := (HS290_.out.cell 0 rfl 3).trans rfl; clear hg_ hx_ hb_  HS0) | ((with_reducible refine gate_dst (N := 3) rfl ?_); (try (refine gate_guard (by rfl) ?_; dsimp only)); refine box_event ?hg (N := 3) ?hd (cs := #[.int .i64 0]) (t := 3) ?hr ?_; (case hd => rfl); (case hg => rfl); (case hr => first | (go_simp; done) | (go_simp; rfl)); intro gn hg_ w292_ hx_ hb_; have HS293_ := Aside0.mk (HS290_.out.box hg_ hx_ hb_); have c294_ : w292_.cell? ⟨gn, 0, none⟩ = some (.int .i64 0) := (HS293_.out.cell 0 rfl 0).trans rfl; have f295_ : w292_.frozen? ⟨gn, 0, none⟩ = false := HS293_.out.frz 0 rfl 0; clear hg_ hx_ hb_ c291_ HS290_) | ((with_reducible refine gate_store (t := 3) (p := 3) rfl ?_); refine store_event (t := 3) (p := 3) (v := .tmp 9) (w1 := (w292_.setCell ⟨gn, 0, none⟩ (.int .i64 (l0_3.length : Int)))) ?hg ?ho ?hn ?hr ?_; (case ho => rfl); (case hg => rfl); (case hn => rfl); (case hr => first | (go_simp; done) | (go_simp; rfl)); intro w296_ hw_; have HS297_ : Aside0 (St w w296_ ((blkA gn #[.int .i64 (l0_3.length : Int)] 3) :: (blkA gt #[.int .i64 a0_0, .int .i64 a0_1, .int .i64 a0_2, .slice A0_3 l0_3.length c0_3, .slice A0_4 l0_4.length c0_4, .int .i64 a0_5, .int .i64 a0_6, .slice A0_7 l0_7.length c0_7, .slice A0_8 l0_8.length c0_8, .int .i64 a0_9, .int .i64 a0_10, .slice A0_11 l0_11.length c0_11, .slice A0_12 l0_12.length c0_12] 123) :: [])) := ⟨by rw [hw_]; exact (HS293_.out.put 0 rfl 0 (.int .i64 (l0_3.length : Int)) rfl)⟩; have c298_ : w296_.cell? ⟨gn, 0, none⟩ = some (.int .i64 (l0_3.length : Int)) := (HS297_.out.cell 0 rfl 0).trans rfl; have c299_ : w296_.cell? ⟨gt, 0, none⟩ = some (.int .i64 a0_0) := (HS297_.out.cell 1 rfl 0).trans rfl; have c300_ : w296_.cell? ⟨gt, 1, none⟩ = some (.int .i64 a0_1) := (HS297_.out.cell 1 rfl 1).trans rfl; have c301_ : w296_.cell? ⟨gt, 2, none⟩ = some (.int .i64 a0_2) := (HS297_.out.cell 1 rfl 2).trans rfl; have c302_ : w296_.cell? ⟨gt, 3, none⟩ = some (.slice A0_3 l0_3.length c0_3) := (HS297_.out.cell 1 rfl 3).trans rfl; have c303_ : w296_.cell? ⟨gt, 4, none⟩ = some (.slice A0_4 l0_4.length c0_4) := (HS297_.out.cell 1 rfl 4).trans rfl; have c304_ : w296_.cell? ⟨gt, 5, none⟩ = some (.int .i64 a0_5) := (HS297_.out.cell 1 rfl 5).trans rfl; have c305_ : w296_.cell? ⟨gt, 6, none⟩ = some (.int .i64 a0_6) := (HS297_.out.cell 1 rfl 6).trans rfl; have c306_ : w296_.cell? ⟨gt, 7, none⟩ = some (.slice A0_7 l0_7.length c0_7) := (HS297_.out.cell 1 rfl 7).trans rfl; have c307_ : w296_.cell? ⟨gt, 8, none⟩ = some (.slice A0_8 l0_8.length c0_8) := (HS297_.out.cell 1 rfl 8).trans rfl; have c308_ : w296_.cell? ⟨gt, 9, none⟩ = some (.int .i64 a0_9) := (HS297_.out.cell 1 rfl 9).trans rfl; have c309_ : w296_.cell? ⟨gt, 10, none⟩ = some (.int .i64 a0_10) := (HS297_.out.cell 1 rfl 10).trans rfl; have c310_ : w296_.cell? ⟨gt, 11, none⟩ = some (.slice A0_11 l0_11.length c0_11) := (HS297_.out.cell 1 rfl 11).trans rfl; have c311_ : w296_.cell? ⟨gt, 12, none⟩ = some (.slice A0_12 l0_12.length c0_12) := (HS297_.out.cell 1 rfl 12).trans rfl; clear hw_ c294_ f295_ HS293_))
    go_ret
    exact ⟨rfl, HS297_.out.below⟩
  have hb1 : decide (300 < l0_3.length) = false := decide_eq_false c1
  have hb2 : decide ((300 : Int) < (l0_3.length : Int)) = false := decide_eq_false (by omega)
  by_cases c2 : 200 < l0_4.length
  · rw [if_pos (.inr c2)] at h
    obtain rfl := Option.some.inj h
    have hb3 : decide (200 < l0_4.length) = true := decide_eq_true c2
    have hb4 : decide ((200 : Int) < (l0_4.length : Int)) = true := decide_eq_true (by omega)
    clear h c1 c2
    go_enter Try.func69, Try.ntmps69
    go_wp2_with (first | ((with_reducible refine gate_dst (N := 1) rfl ?_); (try (refine gate_guard (by rfl) ?_; dsimp only)); refine box_event ?hg (N := 1) ?hd (cs := #[.int .i64 a0_0, .int .i64 a0_1, .int .i64 a0_2, .slice A0_3 l0_3.length c0_3, .slice A0_4 l0_4.length c0_4, .int .i64 a0_5, .int .i64 a0_6, .slice A0_7 l0_7.length c0_7, .slice A0_8 l0_8.length c0_8, .int .i64 a0_9, .int .i64 a0_10, .slice A0_11 l0_11.length c0_11, .slice A0_12 l0_12.length c0_12]) (t := 123) ?hr ?_; (case hd => rfl); (case hg => rfl); (case hr => first | (go_simp; done) | (go_simp; rfl)); intro gt hg_ w289_ hx_ hb_; have HS290_ := Aside0.mk (HS0.out.box hg_ hx_ hb_); have c291_ : w289_.cell? ⟨gt, 3, none⟩ = some (.slice A0_3 l0_3.length c0_3) := (HS290_.out.cell 0 rfl 3).trans rfl; clear hg_ hx_ hb_  HS0) | ((with_reducible refine gate_dst (N := 3) rfl ?_); (try (refine gate_guard (by rfl) ?_; dsimp only)); refine box_event ?hg (N := 3) ?hd (cs := #[.int .i64 0]) (t := 3) ?hr ?_; (case hd => rfl); (case hg => rfl); (case hr => first | (go_simp; done) | (go_simp; rfl)); intro gn hg_ w292_ hx_ hb_; have HS293_ := Aside0.mk (HS290_.out.box hg_ hx_ hb_); have c294_ : w292_.cell? ⟨gn, 0, none⟩ = some (.int .i64 0) := (HS293_.out.cell 0 rfl 0).trans rfl; have f295_ : w292_.frozen? ⟨gn, 0, none⟩ = false := HS293_.out.frz 0 rfl 0; clear hg_ hx_ hb_ c291_ HS290_) | ((with_reducible refine gate_store (t := 3) (p := 3) rfl ?_); refine store_event (t := 3) (p := 3) (v := .tmp 9) (w1 := (w292_.setCell ⟨gn, 0, none⟩ (.int .i64 (l0_3.length : Int)))) ?hg ?ho ?hn ?hr ?_; (case ho => rfl); (case hg => rfl); (case hn => rfl); (case hr => first | (go_simp; done) | (go_simp; rfl)); intro w296_ hw_; have HS297_ : Aside0 (St w w296_ ((blkA gn #[.int .i64 (l0_3.length : Int)] 3) :: (blkA gt #[.int .i64 a0_0, .int .i64 a0_1, .int .i64 a0_2, .slice A0_3 l0_3.length c0_3, .slice A0_4 l0_4.length c0_4, .int .i64 a0_5, .int .i64 a0_6, .slice A0_7 l0_7.length c0_7, .slice A0_8 l0_8.length c0_8, .int .i64 a0_9, .int .i64 a0_10, .slice A0_11 l0_11.length c0_11, .slice A0_12 l0_12.length c0_12] 123) :: [])) := ⟨by rw [hw_]; exact (HS293_.out.put 0 rfl 0 (.int .i64 (l0_3.length : Int)) rfl)⟩; have c298_ : w296_.cell? ⟨gn, 0, none⟩ = some (.int .i64 (l0_3.length : Int)) := (HS297_.out.cell 0 rfl 0).trans rfl; have c299_ : w296_.cell? ⟨gt, 0, none⟩ = some (.int .i64 a0_0) := (HS297_.out.cell 1 rfl 0).trans rfl; have c300_ : w296_.cell? ⟨gt, 1, none⟩ = some (.int .i64 a0_1) := (HS297_.out.cell 1 rfl 1).trans rfl; have c301_ : w296_.cell? ⟨gt, 2, none⟩ = some (.int .i64 a0_2) := (HS297_.out.cell 1 rfl 2).trans rfl; have c302_ : w296_.cell? ⟨gt, 3, none⟩ = some (.slice A0_3 l0_3.length c0_3) := (HS297_.out.cell 1 rfl 3).trans rfl; have c303_ : w296_.cell? ⟨gt, 4, none⟩ = some (.slice A0_4 l0_4.length c0_4) := (HS297_.out.cell 1 rfl 4).trans rfl; have c304_ : w296_.cell? ⟨gt, 5, none⟩ = some (.int .i64 a0_5) := (HS297_.out.cell 1 rfl 5).trans rfl; have c305_ : w296_.cell? ⟨gt, 6, none⟩ = some (.int .i64 a0_6) := (HS297_.out.cell 1 rfl 6).trans rfl; have c306_ : w296_.cell? ⟨gt, 7, none⟩ = some (.slice A0_7 l0_7.length c0_7) := (HS297_.out.cell 1 rfl 7).trans rfl; have c307_ : w296_.cell? ⟨gt, 8, none⟩ = some (.slice A0_8 l0_8.length c0_8) := (HS297_.out.cell 1 rfl 8).trans rfl; have c308_ : w296_.cell? ⟨gt, 9, none⟩ = some (.int .i64 a0_9) := (HS297_.out.cell 1 rfl 9).trans rfl; have c309_ : w296_.cell? ⟨gt, 10, none⟩ = some (.int .i64 a0_10) := (HS297_.out.cell 1 rfl 10).trans rfl; have c310_ : w296_.cell? ⟨gt, 11, none⟩ = some (.slice A0_11 l0_11.length c0_11) := (HS297_.out.cell 1 rfl 11).trans rfl; have c311_ : w296_.cell? ⟨gt, 12, none⟩ = some (.slice A0_12 l0_12.length c0_12) := (HS297_.out.cell 1 rfl 12).trans rfl; clear hw_ c294_ f295_ HS293_))
    go_ret
    exact ⟨rfl, HS297_.out.below⟩
  rw [if_neg (by omega)] at h
  have hb3 : decide (200 < l0_4.length) = false := decide_eq_false c2
  have hb4 : decide ((200 : Int) < (l0_4.length : Int)) = false := decide_eq_false (by omega)
  by_cases c3 : a0_2 < 0
  · rw [if_pos (.inl c3)] at h
    obtain rfl := Option.some.inj h
    have hb5 : decide (a0_2 < 0) = true := decide_eq_true c3
    clear h c1 c2 c3
    go_enter Try.func69, Try.ntmps69
    go_wp2_with (first | ((with_reducible refine gate_dst (N := 1) rfl ?_); (try (refine gate_guard (by rfl) ?_; dsimp only)); refine box_event ?hg (N := 1) ?hd (cs := #[.int .i64 a0_0, .int .i64 a0_1, .int .i64 a0_2, .slice A0_3 l0_3.length c0_3, .slice A0_4 l0_4.length c0_4, .int .i64 a0_5, .int .i64 a0_6, .slice A0_7 l0_7.length c0_7, .slice A0_8 l0_8.length c0_8, .int .i64 a0_9, .int .i64 a0_10, .slice A0_11 l0_11.length c0_11, .slice A0_12 l0_12.length c0_12]) (t := 123) ?hr ?_; (case hd => rfl); (case hg => rfl); (case hr => first | (go_simp; done) | (go_simp; rfl)); intro gt hg_ w289_ hx_ hb_; have HS290_ := Aside0.mk (HS0.out.box hg_ hx_ hb_); have c291_ : w289_.cell? ⟨gt, 3, none⟩ = some (.slice A0_3 l0_3.length c0_3) := (HS290_.out.cell 0 rfl 3).trans rfl; clear hg_ hx_ hb_  HS0) | ((with_reducible refine gate_dst (N := 3) rfl ?_); (try (refine gate_guard (by rfl) ?_; dsimp only)); refine box_event ?hg (N := 3) ?hd (cs := #[.int .i64 0]) (t := 3) ?hr ?_; (case hd => rfl); (case hg => rfl); (case hr => first | (go_simp; done) | (go_simp; rfl)); intro gn hg_ w292_ hx_ hb_; have HS293_ := Aside0.mk (HS290_.out.box hg_ hx_ hb_); have c294_ : w292_.cell? ⟨gn, 0, none⟩ = some (.int .i64 0) := (HS293_.out.cell 0 rfl 0).trans rfl; have f295_ : w292_.frozen? ⟨gn, 0, none⟩ = false := HS293_.out.frz 0 rfl 0; clear hg_ hx_ hb_ c291_ HS290_) | ((with_reducible refine gate_store (t := 3) (p := 3) rfl ?_); refine store_event (t := 3) (p := 3) (v := .tmp 9) (w1 := (w292_.setCell ⟨gn, 0, none⟩ (.int .i64 (l0_3.length : Int)))) ?hg ?ho ?hn ?hr ?_; (case ho => rfl); (case hg => rfl); (case hn => rfl); (case hr => first | (go_simp; done) | (go_simp; rfl)); intro w296_ hw_; have HS297_ : Aside0 (St w w296_ ((blkA gn #[.int .i64 (l0_3.length : Int)] 3) :: (blkA gt #[.int .i64 a0_0, .int .i64 a0_1, .int .i64 a0_2, .slice A0_3 l0_3.length c0_3, .slice A0_4 l0_4.length c0_4, .int .i64 a0_5, .int .i64 a0_6, .slice A0_7 l0_7.length c0_7, .slice A0_8 l0_8.length c0_8, .int .i64 a0_9, .int .i64 a0_10, .slice A0_11 l0_11.length c0_11, .slice A0_12 l0_12.length c0_12] 123) :: [])) := ⟨by rw [hw_]; exact (HS293_.out.put 0 rfl 0 (.int .i64 (l0_3.length : Int)) rfl)⟩; have c298_ : w296_.cell? ⟨gn, 0, none⟩ = some (.int .i64 (l0_3.length : Int)) := (HS297_.out.cell 0 rfl 0).trans rfl; have c299_ : w296_.cell? ⟨gt, 0, none⟩ = some (.int .i64 a0_0) := (HS297_.out.cell 1 rfl 0).trans rfl; have c300_ : w296_.cell? ⟨gt, 1, none⟩ = some (.int .i64 a0_1) := (HS297_.out.cell 1 rfl 1).trans rfl; have c301_ : w296_.cell? ⟨gt, 2, none⟩ = some (.int .i64 a0_2) := (HS297_.out.cell 1 rfl 2).trans rfl; have c302_ : w296_.cell? ⟨gt, 3, none⟩ = some (.slice A0_3 l0_3.length c0_3) := (HS297_.out.cell 1 rfl 3).trans rfl; have c303_ : w296_.cell? ⟨gt, 4, none⟩ = some (.slice A0_4 l0_4.length c0_4) := (HS297_.out.cell 1 rfl 4).trans rfl; have c304_ : w296_.cell? ⟨gt, 5, none⟩ = some (.int .i64 a0_5) := (HS297_.out.cell 1 rfl 5).trans rfl; have c305_ : w296_.cell? ⟨gt, 6, none⟩ = some (.int .i64 a0_6) := (HS297_.out.cell 1 rfl 6).trans rfl; have c306_ : w296_.cell? ⟨gt, 7, none⟩ = some (.slice A0_7 l0_7.length c0_7) := (HS297_.out.cell 1 rfl 7).trans rfl; have c307_ : w296_.cell? ⟨gt, 8, none⟩ = some (.slice A0_8 l0_8.length c0_8) := (HS297_.out.cell 1 rfl 8).trans rfl; have c308_ : w296_.cell? ⟨gt, 9, none⟩ = some (.int .i64 a0_9) := (HS297_.out.cell 1 rfl 9).trans rfl; have c309_ : w296_.cell? ⟨gt, 10, none⟩ = some (.int .i64 a0_10) := (HS297_.out.cell 1 rfl 10).trans rfl; have c310_ : w296_.cell? ⟨gt, 11, none⟩ = some (.slice A0_11 l0_11.length c0_11) := (HS297_.out.cell 1 rfl 11).trans rfl; have c311_ : w296_.cell? ⟨gt, 12, none⟩ = some (.slice A0_12 l0_12.length c0_12) := (HS297_.out.cell 1 rfl 12).trans rfl; clear hw_ c294_ f295_ HS293_))
    go_ret
    exact ⟨rfl, HS297_.out.below⟩
  have hb5 : decide (a0_2 < 0) = false := decide_eq_false c3
  by_cases c4 : (l0_3.length : Int) < a0_2
  · rw [if_pos (.inr c4)] at h
    obtain rfl := Option.some.inj h
    have hb6 : decide ((l0_3.length : Int) < a0_2) = true := decide_eq_true c4
    clear h c1 c2 c3 c4
    go_enter Try.func69, Try.ntmps69
    go_wp2_with (first | ((with_reducible refine gate_dst (N := 1) rfl ?_); (try (refine gate_guard (by rfl) ?_; dsimp only)); refine box_event ?hg (N := 1) ?hd (cs := #[.int .i64 a0_0, .int .i64 a0_1, .int .i64 a0_2, .slice A0_3 l0_3.length c0_3, .slice A0_4 l0_4.length c0_4, .int .i64 a0_5, .int .i64 a0_6, .slice A0_7 l0_7.length c0_7, .slice A0_8 l0_8.length c0_8, .int .i64 a0_9, .int .i64 a0_10, .slice A0_11 l0_11.length c0_11, .slice A0_12 l0_12.length c0_12]) (t := 123) ?hr ?_; (case hd => rfl); (case hg => rfl); (case hr => first | (go_simp; done) | (go_simp; rfl)); intro gt hg_ w289_ hx_ hb_; have HS290_ := Aside0.mk (HS0.out.box hg_ hx_ hb_); have c291_ : w289_.cell? ⟨gt, 3, none⟩ = some (.slice A0_3 l0_3.length c0_3) := (HS290_.out.cell 0 rfl 3).trans rfl; clear hg_ hx_ hb_  HS0) | ((with_reducible refine gate_dst (N := 3) rfl ?_); (try (refine gate_guard (by rfl) ?_; dsimp only)); refine box_event ?hg (N := 3) ?hd (cs := #[.int .i64 0]) (t := 3) ?hr ?_; (case hd => rfl); (case hg => rfl); (case hr => first | (go_simp; done) | (go_simp; rfl)); intro gn hg_ w292_ hx_ hb_; have HS293_ := Aside0.mk (HS290_.out.box hg_ hx_ hb_); have c294_ : w292_.cell? ⟨gn, 0, none⟩ = some (.int .i64 0) := (HS293_.out.cell 0 rfl 0).trans rfl; have f295_ : w292_.frozen? ⟨gn, 0, none⟩ = false := HS293_.out.frz 0 rfl 0; clear hg_ hx_ hb_ c291_ HS290_) | ((with_reducible refine gate_store (t := 3) (p := 3) rfl ?_); refine store_event (t := 3) (p := 3) (v := .tmp 9) (w1 := (w292_.setCell ⟨gn, 0, none⟩ (.int .i64 (l0_3.length : Int)))) ?hg ?ho ?hn ?hr ?_; (case ho => rfl); (case hg => rfl); (case hn => rfl); (case hr => first | (go_simp; done) | (go_simp; rfl)); intro w296_ hw_; have HS297_ : Aside0 (St w w296_ ((blkA gn #[.int .i64 (l0_3.length : Int)] 3) :: (blkA gt #[.int .i64 a0_0, .int .i64 a0_1, .int .i64 a0_2, .slice A0_3 l0_3.length c0_3, .slice A0_4 l0_4.length c0_4, .int .i64 a0_5, .int .i64 a0_6, .slice A0_7 l0_7.length c0_7, .slice A0_8 l0_8.length c0_8, .int .i64 a0_9, .int .i64 a0_10, .slice A0_11 l0_11.length c0_11, .slice A0_12 l0_12.length c0_12] 123) :: [])) := ⟨by rw [hw_]; exact (HS293_.out.put 0 rfl 0 (.int .i64 (l0_3.length : Int)) rfl)⟩; have c298_ : w296_.cell? ⟨gn, 0, none⟩ = some (.int .i64 (l0_3.length : Int)) := (HS297_.out.cell 0 rfl 0).trans rfl; have c299_ : w296_.cell? ⟨gt, 0, none⟩ = some (.int .i64 a0_0) := (HS297_.out.cell 1 rfl 0).trans rfl; have c300_ : w296_.cell? ⟨gt, 1, none⟩ = some (.int .i64 a0_1) := (HS297_.out.cell 1 rfl 1).trans rfl; have c301_ : w296_.cell? ⟨gt, 2, none⟩ = some (.int .i64 a0_2) := (HS297_.out.cell 1 rfl 2).trans rfl; have c302_ : w296_.cell? ⟨gt, 3, none⟩ = some (.slice A0_3 l0_3.length c0_3) := (HS297_.out.cell 1 rfl 3).trans rfl; have c303_ : w296_.cell? ⟨gt, 4, none⟩ = some (.slice A0_4 l0_4.length c0_4) := (HS297_.out.cell 1 rfl 4).trans rfl; have c304_ : w296_.cell? ⟨gt, 5, none⟩ = some (.int .i64 a0_5) := (HS297_.out.cell 1 rfl 5).trans rfl; have c305_ : w296_.cell? ⟨gt, 6, none⟩ = some (.int .i64 a0_6) := (HS297_.out.cell 1 rfl 6).trans rfl; have c306_ : w296_.cell? ⟨gt, 7, none⟩ = some (.slice A0_7 l0_7.length c0_7) := (HS297_.out.cell 1 rfl 7).trans rfl; have c307_ : w296_.cell? ⟨gt, 8, none⟩ = some (.slice A0_8 l0_8.length c0_8) := (HS297_.out.cell 1 rfl 8).trans rfl; have c308_ : w296_.cell? ⟨gt, 9, none⟩ = some (.int .i64 a0_9) := (HS297_.out.cell 1 rfl 9).trans rfl; have c309_ : w296_.cell? ⟨gt, 10, none⟩ = some (.int .i64 a0_10) := (HS297_.out.cell 1 rfl 10).trans rfl; have c310_ : w296_.cell? ⟨gt, 11, none⟩ = some (.slice A0_11 l0_11.length c0_11) := (HS297_.out.cell 1 rfl 11).trans rfl; have c311_ : w296_.cell? ⟨gt, 12, none⟩ = some (.slice A0_12 l0_12.length c0_12) := (HS297_.out.cell 1 rfl 12).trans rfl; clear hw_ c294_ f295_ HS293_))
    go_ret
    exact ⟨rfl, HS297_.out.below⟩
  rw [if_neg (by omega)] at h
  have hb6 : decide ((l0_3.length : Int) < a0_2) = false := decide_eq_false c4
  have HLEN := Aside0.mk (show l0_3.length ≤ 300 ∧ l0_4.length ≤ 200 ∧ 0 ≤ a0_2 ∧ a0_2 ≤ l0_3.length by omega)
  have HH := Aside0.mk h
  clear h c1 c2 c3 c4
  go_enter Try.func69, Try.ntmps69
  go_wp2_with (first | ((with_reducible refine gate_dst (N := 1) rfl ?_); (try (refine gate_guard (by rfl) ?_; dsimp only)); refine box_event ?hg (N := 1) ?hd (cs := #[.int .i64 a0_0, .int .i64 a0_1, .int .i64 a0_2, .slice A0_3 l0_3.length c0_3, .slice A0_4 l0_4.length c0_4, .int .i64 a0_5, .int .i64 a0_6, .slice A0_7 l0_7.length c0_7, .slice A0_8 l0_8.length c0_8, .int .i64 a0_9, .int .i64 a0_10, .slice A0_11 l0_11.length c0_11, .slice A0_12 l0_12.length c0_12]) (t := 123) ?hr ?_; (case hd => rfl); (case hg => rfl); (case hr => first | (go_simp; done) | (go_simp; rfl)); intro gt hg_ w289_ hx_ hb_; have HS290_ := Aside0.mk (HS0.out.box hg_ hx_ hb_); have c291_ : w289_.cell? ⟨gt, 3, none⟩ = some (.slice A0_3 l0_3.length c0_3) := (HS290_.out.cell 0 rfl 3).trans rfl; clear hg_ hx_ hb_  HS0) | ((with_reducible refine gate_dst (N := 3) rfl ?_); (try (refine gate_guard (by rfl) ?_; dsimp only)); refine box_event ?hg (N := 3) ?hd (cs := #[.int .i64 0]) (t := 3) ?hr ?_; (case hd => rfl); (case hg => rfl); (case hr => first | (go_simp; done) | (go_simp; rfl)); intro gn hg_ w292_ hx_ hb_; have HS293_ := Aside0.mk (HS290_.out.box hg_ hx_ hb_); have c294_ : w292_.cell? ⟨gn, 0, none⟩ = some (.int .i64 0) := (HS293_.out.cell 0 rfl 0).trans rfl; have f295_ : w292_.frozen? ⟨gn, 0, none⟩ = false := HS293_.out.frz 0 rfl 0; clear hg_ hx_ hb_ c291_ HS290_) | ((with_reducible refine gate_store (t := 3) (p := 3) rfl ?_); refine store_event (t := 3) (p := 3) (v := .tmp 9) (w1 := (w292_.setCell ⟨gn, 0, none⟩ (.int .i64 (l0_3.length : Int)))) ?hg ?ho ?hn ?hr ?_; (case ho => rfl); (case hg => rfl); (case hn => rfl); (case hr => first | (go_simp; done) | (go_simp; rfl)); intro w296_ hw_; have HS297_ : Aside0 (St w w296_ ((blkA gn #[.int .i64 (l0_3.length : Int)] 3) :: (blkA gt #[.int .i64 a0_0, .int .i64 a0_1, .int .i64 a0_2, .slice A0_3 l0_3.length c0_3, .slice A0_4 l0_4.length c0_4, .int .i64 a0_5, .int .i64 a0_6, .slice A0_7 l0_7.length c0_7, .slice A0_8 l0_8.length c0_8, .int .i64 a0_9, .int .i64 a0_10, .slice A0_11 l0_11.length c0_11, .slice A0_12 l0_12.length c0_12] 123) :: [])) := ⟨by rw [hw_]; exact (HS293_.out.put 0 rfl 0 (.int .i64 (l0_3.length : Int)) rfl)⟩; have c298_ : w296_.cell? ⟨gn, 0, none⟩ = some (.int .i64 (l0_3.length : Int)) := (HS297_.out.cell 0 rfl 0).trans rfl; have c299_ : w296_.cell? ⟨gt, 0, none⟩ = some (.int .i64 a0_0) := (HS297_.out.cell 1 rfl 0).trans rfl; have c300_ : w296_.cell? ⟨gt, 1, none⟩ = some (.int .i64 a0_1) := (HS297_.out.cell 1 rfl 1).trans rfl; have c301_ : w296_.cell? ⟨gt, 2, none⟩ = some (.int .i64 a0_2) := (HS297_.out.cell 1 rfl 2).trans rfl; have c302_ : w296_.cell? ⟨gt, 3, none⟩ = some (.slice A0_3 l0_3.length c0_3) := (HS297_.out.cell 1 rfl 3).trans rfl; have c303_ : w296_.cell? ⟨gt, 4, none⟩ = some (.slice A0_4 l0_4.length c0_4) := (HS297_.out.cell 1 rfl 4).trans rfl; have c304_ : w296_.cell? ⟨gt, 5, none⟩ = some (.int .i64 a0_5) := (HS297_.out.cell 1 rfl 5).trans rfl; have c305_ : w296_.cell? ⟨gt, 6, none⟩ = some (.int .i64 a0_6) := (HS297_.out.cell 1 rfl 6).trans rfl; have c306_ : w296_.cell? ⟨gt, 7, none⟩ = some (.slice A0_7 l0_7.length c0_7) := (HS297_.out.cell 1 rfl 7).trans rfl; have c307_ : w296_.cell? ⟨gt, 8, none⟩ = some (.slice A0_8 l0_8.length c0_8) := (HS297_.out.cell 1 rfl 8).trans rfl; have c308_ : w296_.cell? ⟨gt, 9, none⟩ = some (.int .i64 a0_9) := (HS297_.out.cell 1 rfl 9).trans rfl; have c309_ : w296_.cell? ⟨gt, 10, none⟩ = some (.int .i64 a0_10) := (HS297_.out.cell 1 rfl 10).trans rfl; have c310_ : w296_.cell? ⟨gt, 11, none⟩ = some (.slice A0_11 l0_11.length c0_11) := (HS297_.out.cell 1 rfl 11).trans rfl; have c311_ : w296_.cell? ⟨gt, 12, none⟩ = some (.slice A0_12 l0_12.length c0_12) := (HS297_.out.cell 1 rfl 12).trans rfl; clear hw_ c294_ f295_ HS293_))
  clear c298_ c299_ c300_ c301_ c302_ c303_ c304_ c305_ c306_ c307_ c308_ c309_ c310_ c311_
  go_loopw [30] (fun v30 wr => ∃ i : Int, v30 = .int .i64 i ∧ Aside0 (0 ≤ i ∧ i ≤ l0_3.length) ∧ Aside0 ((onesL k a0_0 a0_1 a0_2 l0_3 l0_4 a0_5 a0_6 l0_7 l0_8 a0_9 a0_10 l0_11 l0_12 (l0_3.length - i.toNat) i).bind (fun e => if e = 0 then (if chkOk k a0_0 a0_1 a0_2 l0_3 l0_4 a0_5 a0_6 l0_7 l0_8 a0_9 a0_10 l0_11 l0_12 = true then some (chkX k a0_0 a0_1 a0_2 l0_3 l0_4 a0_5 a0_6 l0_7 l0_8 a0_9 a0_10 l0_11 l0_12) else none) else some e) = some r) ∧ Aside0 (St w wr ((blkA gn #[.int .i64 (l0_3.length : Int)] 3) :: (blkA gt #[.int .i64 a0_0, .int .i64 a0_1, .int .i64 a0_2, .slice A0_3 l0_3.length c0_3, .slice A0_4 l0_4.length c0_4, .int .i64 a0_5, .int .i64 a0_6, .slice A0_7 l0_7.length c0_7, .slice A0_8 l0_8.length c0_8, .int .i64 a0_9, .int .i64 a0_10, .slice A0_11 l0_11.length c0_11, .slice A0_12 l0_12.length c0_12] 123) :: []))) (fun v30 _ => l0_3.length - (intOf v30).toNat)
  case atStart => exact ⟨0, rfl, ⟨by omega⟩, HH, HS297_⟩
  case round =>
    obtain ⟨i, rfl, Hi, HX, HSr⟩ := hrel
    have hi0 : 0 ≤ i := Hi.out.1
    by_cases hlt : i < (l0_3.length : Int)
    · have ht : decide (i < (l0_3.length : Int)) = true := decide_eq_true hlt
      have HW := Aside0.mk (show wrap64 (i + 1) = i + 1 by have := HLEN.out; unfold wrap64; omega)
      have hx := HX.out
      rw [show l0_3.length - i.toNat = (l0_3.length - (i + 1).toNat) + 1 by omega, onesL] at hx
      obtain ⟨e1, hx1, hx2⟩ := Option.bind_eq_some_iff.1 hx
      obtain ⟨e0, he0, hx3⟩ := Option.bind_eq_some_iff.1 hx1
      have HE := Aside0.mk he0
      clear hx hx1 he0 HX
      have c312_ : wr.cell? ⟨gn, 0, none⟩ = some (.int .i64 (l0_3.length : Int)) := (HSr.out.cell 0 rfl 0).trans rfl
      have c313_ : wr.cell? ⟨gt, 0, none⟩ = some (.int .i64 a0_0) := (HSr.out.cell 1 rfl 0).trans rfl
      have c314_ : wr.cell? ⟨gt, 1, none⟩ = some (.int .i64 a0_1) := (HSr.out.cell 1 rfl 1).trans rfl
      have c315_ : wr.cell? ⟨gt, 2, none⟩ = some (.int .i64 a0_2) := (HSr.out.cell 1 rfl 2).trans rfl
      have c316_ : wr.cell? ⟨gt, 3, none⟩ = some (.slice A0_3 l0_3.length c0_3) := (HSr.out.cell 1 rfl 3).trans rfl
      have c317_ : wr.cell? ⟨gt, 4, none⟩ = some (.slice A0_4 l0_4.length c0_4) := (HSr.out.cell 1 rfl 4).trans rfl
      have c318_ : wr.cell? ⟨gt, 5, none⟩ = some (.int .i64 a0_5) := (HSr.out.cell 1 rfl 5).trans rfl
      have c319_ : wr.cell? ⟨gt, 6, none⟩ = some (.int .i64 a0_6) := (HSr.out.cell 1 rfl 6).trans rfl
      have c320_ : wr.cell? ⟨gt, 7, none⟩ = some (.slice A0_7 l0_7.length c0_7) := (HSr.out.cell 1 rfl 7).trans rfl
      have c321_ : wr.cell? ⟨gt, 8, none⟩ = some (.slice A0_8 l0_8.length c0_8) := (HSr.out.cell 1 rfl 8).trans rfl
      have c322_ : wr.cell? ⟨gt, 9, none⟩ = some (.int .i64 a0_9) := (HSr.out.cell 1 rfl 9).trans rfl
      have c323_ : wr.cell? ⟨gt, 10, none⟩ = some (.int .i64 a0_10) := (HSr.out.cell 1 rfl 10).trans rfl
      have c324_ : wr.cell? ⟨gt, 11, none⟩ = some (.slice A0_11 l0_11.length c0_11) := (HSr.out.cell 1 rfl 11).trans rfl
      have c325_ : wr.cell? ⟨gt, 12, none⟩ = some (.slice A0_12 l0_12.length c0_12) := (HSr.out.cell 1 rfl 12).trans rfl
      by_cases hc : e0 = 0
      · subst hc
        rw [if_pos rfl] at hx3
        have HX4 := Aside0.mk (show (onesL k a0_0 a0_1 a0_2 l0_3 l0_4 a0_5 a0_6 l0_7 l0_8 a0_9 a0_10 l0_11 l0_12 (l0_3.length - (i + 1).toNat) (i + 1)).bind (fun e => if e = 0 then (if chkOk k a0_0 a0_1 a0_2 l0_3 l0_4 a0_5 a0_6 l0_7 l0_8 a0_9 a0_10 l0_11 l0_12 = true then some (chkX k a0_0 a0_1 a0_2 l0_3 l0_4 a0_5 a0_6 l0_7 l0_8 a0_9 a0_10 l0_11 l0_12) else none) else some e) = some r by rw [hx3]; exact hx2)
        clear hx2 hx3
        go_wp2_with (first | (go_at_call 122; have HTV := TraceAt.below a0_0 a0_1 a0_2 A0_3 c0_3 l0_3 A0_4 c0_4 l0_4 a0_5 a0_6 A0_7 c0_7 l0_7 A0_8 c0_8 l0_8 a0_9 a0_10 A0_11 c0_11 l0_11 A0_12 c0_12 l0_12 HT.out HSr.out.below; unfold TraceAt at HTV; refine (live_one.calls k a0_0 a0_1 a0_2 A0_3 c0_3 l0_3 A0_4 c0_4 l0_4 a0_5 a0_6 A0_7 c0_7 l0_7 A0_8 c0_8 l0_8 a0_9 a0_10 A0_11 c0_11 l0_11 A0_12 c0_12 l0_12 i 0 _ HTV.1.1 HTV.1.2 HTV.2.1.1 HTV.2.1.2 HTV.2.2.1.1 HTV.2.2.1.2 HTV.2.2.2.1.1 HTV.2.2.2.1.2 HTV.2.2.2.2.1.1 HTV.2.2.2.2.1.2 HTV.2.2.2.2.2.1 HTV.2.2.2.2.2.2 HE.out).mono ?_; rintro e w6 ⟨rfl, hb6⟩; have HS6 := Aside0.mk (HSr.out.call hb6); clear hb6 HTV c312_ c313_ c314_ c315_ c316_ c317_ c318_ c319_ c320_ c321_ c322_ c323_ c324_ c325_))
        go_roundw
        case rel => exact ⟨i + 1, by first | rw [HW.out] | rfl, ⟨by omega⟩, HX4, HS6⟩
        case measure => simp only [intOf]; (try rw [HW.out]); omega
      · rw [if_neg hc] at hx3
        obtain rfl := Option.some.inj hx3
        rw [if_neg hc] at hx2
        obtain rfl := Option.some.inj hx2
        have he1 : (e0 == 0) = false := beq_eq_false_iff_ne.mpr hc
        have he2 : (e0 != 0) = true := bne_iff_ne.mpr hc
        clear hx2 hx3 hc
        go_wp2_with (first | (go_at_call 122; have HTV := TraceAt.below a0_0 a0_1 a0_2 A0_3 c0_3 l0_3 A0_4 c0_4 l0_4 a0_5 a0_6 A0_7 c0_7 l0_7 A0_8 c0_8 l0_8 a0_9 a0_10 A0_11 c0_11 l0_11 A0_12 c0_12 l0_12 HT.out HSr.out.below; unfold TraceAt at HTV; refine (live_one.calls k a0_0 a0_1 a0_2 A0_3 c0_3 l0_3 A0_4 c0_4 l0_4 a0_5 a0_6 A0_7 c0_7 l0_7 A0_8 c0_8 l0_8 a0_9 a0_10 A0_11 c0_11 l0_11 A0_12 c0_12 l0_12 i e0 _ HTV.1.1 HTV.1.2 HTV.2.1.1 HTV.2.1.2 HTV.2.2.1.1 HTV.2.2.1.2 HTV.2.2.2.1.1 HTV.2.2.2.1.2 HTV.2.2.2.2.1.1 HTV.2.2.2.2.1.2 HTV.2.2.2.2.2.1 HTV.2.2.2.2.2.2 HE.out).mono ?_; rintro e w6 ⟨rfl, hb6⟩; have HS6 := Aside0.mk (HSr.out.call hb6); clear hb6 HTV c312_ c313_ c314_ c315_ c316_ c317_ c318_ c319_ c320_ c321_ c322_ c323_ c324_ c325_))
        go_ret
        exact ⟨rfl, HS6.out.below⟩
    · have ht : decide (i < (l0_3.length : Int)) = false := decide_eq_false hlt
      have hx := HX.out
      rw [show l0_3.length - i.toNat = 0 by omega, onesL] at hx
      simp only [Option.bind_some, if_true] at hx
      split at hx
      case isFalse => cases hx
      rename_i hok
      obtain rfl := Option.some.inj hx
      have HOK := Aside0.mk hok
      clear hx hok HX
      have hok2 := HOK.out
      unfold chkOk at hok2
      simp only [Bool.and_eq_true, List.all_eq_true, decide_eq_true_eq] at hok2
      have HE4 := Aside0.mk hok2.1
      have HOV := Aside0.mk hok2.2
      obtain ⟨lt_, hlt_, hllt_, hpvt_⟩ := okV.get l0_3 a0_2 (hok2.2 (⟨a0_5, a0_6, l0_7, l0_8⟩ : S31) (by simp))
      have HLT := Aside0.mk hlt_
      have HLLT := Aside0.mk hllt_
      have HPT := Aside0.mk hpvt_
      obtain ⟨xs, hxl, hxr, hxf⟩ := Kd.reads_raw HR4.out (fun x c hk => ⟨k31.K_len hk, k31.K_one hk⟩)
      have HXL := Aside0.mk hxl
      have HXR : Aside0 (Kd.C (Kd.raw 4) w A0_4 xs.length xs) := ⟨by rw [hxl]; exact hxr⟩
      have HXF := Aside0.mk hxf
      clear hok2 hlt_ hllt_ hpvt_ hxl hxr hxf HR4
      have c312_ : wr.cell? ⟨gn, 0, none⟩ = some (.int .i64 (l0_3.length : Int)) := (HSr.out.cell 0 rfl 0).trans rfl
      have c313_ : wr.cell? ⟨gt, 0, none⟩ = some (.int .i64 a0_0) := (HSr.out.cell 1 rfl 0).trans rfl
      have c314_ : wr.cell? ⟨gt, 1, none⟩ = some (.int .i64 a0_1) := (HSr.out.cell 1 rfl 1).trans rfl
      have c315_ : wr.cell? ⟨gt, 2, none⟩ = some (.int .i64 a0_2) := (HSr.out.cell 1 rfl 2).trans rfl
      have c316_ : wr.cell? ⟨gt, 3, none⟩ = some (.slice A0_3 l0_3.length c0_3) := (HSr.out.cell 1 rfl 3).trans rfl
      have c317_ : wr.cell? ⟨gt, 4, none⟩ = some (.slice A0_4 l0_4.length c0_4) := (HSr.out.cell 1 rfl 4).trans rfl
      have c318_ : wr.cell? ⟨gt, 5, none⟩ = some (.int .i64 a0_5) := (HSr.out.cell 1 rfl 5).trans rfl
      have c319_ : wr.cell? ⟨gt, 6, none⟩ = some (.int .i64 a0_6) := (HSr.out.cell 1 rfl 6).trans rfl
      have c320_ : wr.cell? ⟨gt, 7, none⟩ = some (.slice A0_7 l0_7.length c0_7) := (HSr.out.cell 1 rfl 7).trans rfl
      have c321_ : wr.cell? ⟨gt, 8, none⟩ = some (.slice A0_8 l0_8.length c0_8) := (HSr.out.cell 1 rfl 8).trans rfl
      have c322_ : wr.cell? ⟨gt, 9, none⟩ = some (.int .i64 a0_9) := (HSr.out.cell 1 rfl 9).trans rfl
      have c323_ : wr.cell? ⟨gt, 10, none⟩ = some (.int .i64 a0_10) := (HSr.out.cell 1 rfl 10).trans rfl
      have c324_ : wr.cell? ⟨gt, 11, none⟩ = some (.slice A0_11 l0_11.length c0_11) := (HSr.out.cell 1 rfl 11).trans rfl
      have c325_ : wr.cell? ⟨gt, 12, none⟩ = some (.slice A0_12 l0_12.length c0_12) := (HSr.out.cell 1 rfl 12).trans rfl
      by_cases hl0 : 0 < a0_2
      · have hg1 : decide (0 < a0_2) = true := decide_eq_true hl0
        have hg2 : decide (a0_2 > 0) = true := decide_eq_true hl0
        have HL0 := Aside0.mk hl0
        clear hl0
        have HSd := Aside0.mk HSr.out.drew
        have HTd := Aside0.mk (TraceAt.below a0_0 a0_1 a0_2 A0_3 c0_3 l0_3 A0_4 c0_4 l0_4 a0_5 a0_6 A0_7 c0_7 l0_7 A0_8 c0_8 l0_8 a0_9 a0_10 A0_11 c0_11 l0_11 A0_12 c0_12 l0_12 HT.out HSd.out.below)
        have hnw : wr.drew.cell? ⟨gn, 0, none⟩ = _ := c312_
        have htw0 : wr.drew.cell? ⟨gt, 0, none⟩ = _ := c313_
        have htw1 : wr.drew.cell? ⟨gt, 1, none⟩ = _ := c314_
        have htw2 : wr.drew.cell? ⟨gt, 2, none⟩ = _ := c315_
        have htw3 : wr.drew.cell? ⟨gt, 3, none⟩ = _ := c316_
        have htw4 : wr.drew.cell? ⟨gt, 4, none⟩ = _ := c317_
        have htw5 : wr.drew.cell? ⟨gt, 5, none⟩ = _ := c318_
        have htw6 : wr.drew.cell? ⟨gt, 6, none⟩ = _ := c319_
        have htw7 : wr.drew.cell? ⟨gt, 7, none⟩ = _ := c320_
        have htw8 : wr.drew.cell? ⟨gt, 8, none⟩ = _ := c321_
        have htw9 : wr.drew.cell? ⟨gt, 9, none⟩ = _ := c322_
        have htw10 : wr.drew.cell? ⟨gt, 10, none⟩ = _ := c323_
        have htw11 : wr.drew.cell? ⟨gt, 11, none⟩ = _ := c324_
        have htw12 : wr.drew.cell? ⟨gt, 12, none⟩ = _ := c325_
        rcases hpt : pv k l0_3 a0_2 (⟨a0_5, a0_6, l0_7, l0_8⟩ : S31) with _ | _
        · have HPF := Aside0.mk hpt
          have HCX := Aside0.mk (show chkX k a0_0 a0_1 a0_2 l0_3 l0_4 a0_5 a0_6 l0_7 l0_8 a0_9 a0_10 l0_11 l0_12 = if ((⟨a0_9, a0_10, l0_11, l0_12⟩ : S31) :: l0_4).any (pv k l0_3 l0_3.length) = true then 3 else if (((⟨a0_9, a0_10, l0_11, l0_12⟩ : S31) :: l0_4) ++ [(⟨a0_5, a0_6, l0_7, l0_8⟩ : S31)]).any largeX = true then 2 else 0 by unfold chkX; rw [if_neg (by rw [hpt]; simp)])
          have HPT2 := Aside0.mk (show lt_.any (allP l0_3 a0_2) = false by rw [← HPT.out]; exact hpt)
          clear hpt
          go_wp2
          go_region_held3 (fun w' => w'.cell? ⟨gn, 0, none⟩ = some (.int .i64 (l0_3.length : Int)) ∧ w'.cell? ⟨gt, 0, none⟩ = some (.int .i64 a0_0) ∧ w'.cell? ⟨gt, 1, none⟩ = some (.int .i64 a0_1) ∧ w'.cell? ⟨gt, 2, none⟩ = some (.int .i64 a0_2) ∧ w'.cell? ⟨gt, 3, none⟩ = some (.slice A0_3 l0_3.length c0_3) ∧ w'.cell? ⟨gt, 4, none⟩ = some (.slice A0_4 l0_4.length c0_4) ∧ w'.cell? ⟨gt, 5, none⟩ = some (.int .i64 a0_5) ∧ w'.cell? ⟨gt, 6, none⟩ = some (.int .i64 a0_6) ∧ w'.cell? ⟨gt, 7, none⟩ = some (.slice A0_7 l0_7.length c0_7) ∧ w'.cell? ⟨gt, 8, none⟩ = some (.slice A0_8 l0_8.length c0_8) ∧ w'.cell? ⟨gt, 9, none⟩ = some (.int .i64 a0_9) ∧ w'.cell? ⟨gt, 10, none⟩ = some (.int .i64 a0_10) ∧ w'.cell? ⟨gt, 11, none⟩ = some (.slice A0_11 l0_11.length c0_11) ∧ w'.cell? ⟨gt, 12, none⟩ = some (.slice A0_12 l0_12.length c0_12)) (first | go_keep | exact ⟨hnwg, htw0g, htw1g, htw2g, htw3g, htw4g, htw5g, htw6g, htw7g, htw8g, htw9g, htw10g, htw11g, htw12g⟩ | exact ⟨hnwe, htw0e, htw1e, htw2e, htw3e, htw4e, htw5e, htw6e, htw7e, htw8e, htw9e, htw10e, htw11e, htw12e⟩) ((first | (go_at_call 121; have HTV := HTd.out; unfold TraceAt at HTV; with_reducible refine (live_Values.calls k a0_5 a0_6 A0_7 c0_7 l0_7 A0_8 c0_8 l0_8 lt_ _ HTV.2.2.1.1 HTV.2.2.1.2 HTV.2.2.2.1.1 HTV.2.2.2.1.2 HLT.out).mono ?_; rintro e w4 ⟨v4, rfl, hr4, hb4⟩; have HS4 := Aside0.mk (HSd.out.call hb4); have HV := Aside0.mk hr4; obtain ⟨A4, c4, rfl⟩ := Kd.R_slice hr4; have hnwe := (hb4.cell (World.block_lt_of_cell? _ _ hnw)).trans hnw; have htw0e := (hb4.cell (World.block_lt_of_cell? _ _ htw0)).trans htw0; have htw1e := (hb4.cell (World.block_lt_of_cell? _ _ htw1)).trans htw1; have htw2e := (hb4.cell (World.block_lt_of_cell? _ _ htw2)).trans htw2; have htw3e := (hb4.cell (World.block_lt_of_cell? _ _ htw3)).trans htw3; have htw4e := (hb4.cell (World.block_lt_of_cell? _ _ htw4)).trans htw4; have htw5e := (hb4.cell (World.block_lt_of_cell? _ _ htw5)).trans htw5; have htw6e := (hb4.cell (World.block_lt_of_cell? _ _ htw6)).trans htw6; have htw7e := (hb4.cell (World.block_lt_of_cell? _ _ htw7)).trans htw7; have htw8e := (hb4.cell (World.block_lt_of_cell? _ _ htw8)).trans htw8; have htw9e := (hb4.cell (World.block_lt_of_cell? _ _ htw9)).trans htw9; have htw10e := (hb4.cell (World.block_lt_of_cell? _ _ htw10)).trans htw10; have htw11e := (hb4.cell (World.block_lt_of_cell? _ _ htw11)).trans htw11; have htw12e := (hb4.cell (World.block_lt_of_cell? _ _ htw12)).trans htw12; clear hr4 hb4 HTV) | (go_at_call 123; have HTV := TraceAt.below a0_0 a0_1 a0_2 A0_3 c0_3 l0_3 A0_4 c0_4 l0_4 a0_5 a0_6 A0_7 c0_7 l0_7 A0_8 c0_8 l0_8 a0_9 a0_10 A0_11 c0_11 l0_11 A0_12 c0_12 l0_12 HT.out HS4.out.below; unfold TraceAt at HTV; with_reducible refine (live_all.calls a0_0 a0_1 a0_2 A0_3 c0_3 l0_3 A0_4 c0_4 l0_4 a0_5 a0_6 A0_7 c0_7 l0_7 A0_8 c0_8 l0_8 a0_9 a0_10 A0_11 c0_11 l0_11 A0_12 c0_12 l0_12 A4 c4 lt_ a0_2 (!lt_.any (allP l0_3 a0_2)) _ HTV.1.1 HTV.1.2 HTV.2.1.1 HTV.2.1.2 HTV.2.2.1.1 HTV.2.2.1.2 HTV.2.2.2.1.1 HTV.2.2.2.1.2 HTV.2.2.2.2.1.1 HTV.2.2.2.2.1.2 HTV.2.2.2.2.2.1 HTV.2.2.2.2.2.2 (Kd.R_reads' HV.out).2.2 (Kd.R_reads' HV.out).2.1 ?s9).mono ?_; (case s9 => unfold live_all.f; rw [if_pos HLLT.out]); rintro e w6 ⟨rfl, hb6⟩; have HS6 := Aside0.mk (HS4.out.call hb6); have hnwg := (hb6.cell (World.block_lt_of_cell? _ _ hnwe)).trans hnwe; have htw0g := (hb6.cell (World.block_lt_of_cell? _ _ htw0e)).trans htw0e; have htw1g := (hb6.cell (World.block_lt_of_cell? _ _ htw1e)).trans htw1e; have htw2g := (hb6.cell (World.block_lt_of_cell? _ _ htw2e)).trans htw2e; have htw3g := (hb6.cell (World.block_lt_of_cell? _ _ htw3e)).trans htw3e; have htw4g := (hb6.cell (World.block_lt_of_cell? _ _ htw4e)).trans htw4e; have htw5g := (hb6.cell (World.block_lt_of_cell? _ _ htw5e)).trans htw5e; have htw6g := (hb6.cell (World.block_lt_of_cell? _ _ htw6e)).trans htw6e; have htw7g := (hb6.cell (World.block_lt_of_cell? _ _ htw7e)).trans htw7e; have htw8g := (hb6.cell (World.block_lt_of_cell? _ _ htw8e)).trans htw8e; have htw9g := (hb6.cell (World.block_lt_of_cell? _ _ htw9e)).trans htw9e; have htw10g := (hb6.cell (World.block_lt_of_cell? _ _ htw10e)).trans htw10e; have htw11g := (hb6.cell (World.block_lt_of_cell? _ _ htw11e)).trans htw11e; have htw12g := (hb6.cell (World.block_lt_of_cell? _ _ htw12e)).trans htw12e; rw [HPT2.out]; clear hb6 HTV)))
          all_goals
            have HSt := HS6
            generalize w6 = w7 at *
            clear hnwg htw0g htw1g htw2g htw3g htw4g htw5g htw6g htw7g htw8g htw9g htw10g htw11g htw12g hnwe htw0e htw1e htw2e htw3e htw4e htw5e htw6e htw7e htw8e htw9e htw10e htw11e htw12e
            have c326_ : w7.cell? ⟨gt, 4, none⟩ = some (.slice A0_4 l0_4.length c0_4) := (HSt.out.cell 1 rfl 4).trans rfl
            have c327_ : w7.cell? ⟨gt, 9, none⟩ = some (.int .i64 a0_9) := (HSt.out.cell 1 rfl 9).trans rfl
            have c328_ : w7.cell? ⟨gt, 10, none⟩ = some (.int .i64 a0_10) := (HSt.out.cell 1 rfl 10).trans rfl
            have c329_ : w7.cell? ⟨gt, 11, none⟩ = some (.slice A0_11 l0_11.length c0_11) := (HSt.out.cell 1 rfl 11).trans rfl
            have c330_ : w7.cell? ⟨gt, 12, none⟩ = some (.slice A0_12 l0_12.length c0_12) := (HSt.out.cell 1 rfl 12).trans rfl
            have c4a_ : ∀ o, (w7.alloc o).cell? ⟨gt, 4, none⟩ = some (.slice A0_4 l0_4.length c0_4) := fun o => ((HSt.out.alloc o).cell 1 rfl 4).trans rfl
            rcases han : ((⟨a0_9, a0_10, l0_11, l0_12⟩ : S31) :: l0_4).any (pv k l0_3 l0_3.length) with _ | _
            · have HAN := Aside0.mk han
              rcases han2 : (((⟨a0_9, a0_10, l0_11, l0_12⟩ : S31) :: l0_4) ++ [(⟨a0_5, a0_6, l0_7, l0_8⟩ : S31)]).any largeX with _ | _
              all_goals
                have HAN2 := Aside0.mk han2
                have HCY := HCX.out
                rw [HAN.out, HAN2.out] at HCY
                have HCZ := Aside0.mk HCY
                clear han han2 HCY
                go_wp2_with (first | ((with_reducible refine gate_builtin (b := .append) (xs := #[.tmp 55, .tmp 57]) rfl ?_); (try (refine gate_guard (by rfl) ?_; dsimp only)); at_builtin; obtain ⟨ok_, hf_, hr_, hs_⟩ := ((HSt.out.litR 31 4 [.int .i64 a0_9, .int .i64 a0_10, .slice A0_11 l0_11.length c0_11, .slice A0_12 l0_12.length c0_12] rfl (by simp [Value.oneCell']))).app 0 rfl; refine Kd.R_append_rows (Kd.raw 4) (Rr := (Kd.raw 4).K (w7.alloc (.cells [.int .i64 a0_9, .int .i64 a0_10, .slice A0_11 l0_11.length c0_11, .slice A0_12 l0_12.length c0_12].toArray 31))) (w0 := w) w.heap.size rfl (.tmp 55) (.tmp 57) 121 31 ((.agg #[.int .i64 0, .int .i64 0, .slice none 0 0, .slice none 0 0])) 64 rfl Try.underlying121 info31 rfl (by decide) (by omega) (.slice (some ⟨w7.heap.size, 0, none⟩) 1 1) [[.int .i64 a0_9, .int .i64 a0_10, .slice A0_11 l0_11.length c0_11, .slice A0_12 l0_12.length c0_12]] xs A0_4 l0_4.length c0_4 ok_ (fun _ => False) rfl rfl hr_ ?aR ?aM (fun _ hk => hk.elim) hf_ ((HSt.out.litR 31 4 [.int .i64 a0_9, .int .i64 a0_10, .slice A0_11 l0_11.length c0_11, .slice A0_12 l0_12.length c0_12] rfl (by simp [Value.oneCell']))).below ((HSt.out.litR 31 4 [.int .i64 a0_9, .int .i64 a0_10, .slice A0_11 l0_11.length c0_11, .slice A0_12 l0_12.length c0_12] rfl (by simp [Value.oneCell']))).size ?aL ?_; (case aR => exact (by have := HXR.out; rw [HXL.out] at this; exact Kd.C_alloc (Kd.C_below this HSt.out.below) _)); (case aM => exact fun x cs h => h); (case aL => have := HE4.out; have := HXL.out; simp; omega); intro Ap333_ w331_ ho_ hb_ hg_ hat_; have HS332_ := Aside0.mk (hs_ _ _ _ ho_ hb_ hg_); have hN_ := Kd.R_slice ho_; obtain ⟨A334_, c336_, rfl⟩ := hN_; have c337_ : w331_.cell? ⟨gn, 0, none⟩ = some (.int .i64 (l0_3.length : Int)) := (HS332_.out.cell 1 rfl 0).trans rfl; clear ho_ hb_ hg_ hat_ hf_ hr_ hs_ c326_ c327_ c328_ c329_ c330_ c4a_ HSt; have HCE := Aside0.mk (C_of_raw (d := k31) (xs := (⟨a0_9, a0_10, l0_11, l0_12⟩ : S31) :: l0_4) (by have h_ := (Kd.R_reads' (HS332_.out.row 0 rfl)).2.2; rw [show (([[.int .i64 a0_9, .int .i64 a0_10, .slice A0_11 l0_11.length c0_11, .slice A0_12 l0_12.length c0_12]] ++ xs) : List (List Value)).length = ((⟨a0_9, a0_10, l0_11, l0_12⟩ : S31) :: l0_4).length by rw [List.length_append, HXL.out, List.length_cons]; simp; omega] at h_; exact h_) (by rw [List.length_append, HXL.out, List.length_cons]; simp; omega) (exitK HXF.out HT.out HS332_.out.below)); rw [show (([[.int .i64 a0_9, .int .i64 a0_10, .slice A0_11 l0_11.length c0_11, .slice A0_12 l0_12.length c0_12]] ++ xs) : List (List Value)).length = ((⟨a0_9, a0_10, l0_11, l0_12⟩ : S31) :: l0_4).length by rw [List.length_append, HXL.out, List.length_cons]; simp; omega]) | ((with_reducible refine gate_builtin (b := .append) (xs := #[.tmp 62, .tmp 65]) rfl ?_); (try (refine gate_guard (by rfl) ?_; dsimp only)); at_builtin; obtain ⟨ok_, hf_, hr_, hs_⟩ := (HS9.out).app 0 rfl; refine Kd.R_append (Kd.raw 4) (w0 := w) w.heap.size rfl (.tmp 62) (.tmp 65) 121 31 ((.agg #[.int .i64 0, .int .i64 0, .slice none 0 0, .slice none 0 0])) 64 rfl Try.underlying121 info31 rfl (by decide) (by omega) (.slice A334_ (l0_4.length + 1) c336_) ([[.int .i64 a0_9, .int .i64 a0_10, .slice A0_11 l0_11.length c0_11, .slice A0_12 l0_12.length c0_12]] ++ xs) ([.int .i64 a0_5, .int .i64 a0_6, .slice A0_7 l0_7.length c0_7, .slice A0_8 l0_8.length c0_8]) [.int .i64 a0_5, .int .i64 a0_6, .slice A0_7 l0_7.length c0_7, .slice A0_8 l0_8.length c0_8] ok_ (fun _ => False) rfl rfl ⟨rfl, rfl, by simp [Value.oneCell']⟩ (fun _ hk => hk.elim) hf_ hr_ (HS9.out).below (HS9.out).size ?aL ?_; (case aL => have := HE4.out; have := HXL.out; simp; omega); intro Ap344_ w342_ ho_ hb_ hg_ hat_; have HS343_ := Aside0.mk (hs_ _ _ _ ho_ hb_ hg_); have hN_ := Kd.R_slice ho_; obtain ⟨A345_, c347_, rfl⟩ := hN_; clear ho_ hb_ hg_ hat_ hf_ hr_ hs_ c338_ c339_ c340_ c341_ HS9; have HCE2 := Aside0.mk (C_of_raw (d := k31) (xs := ((⟨a0_9, a0_10, l0_11, l0_12⟩ : S31) :: l0_4) ++ [(⟨a0_5, a0_6, l0_7, l0_8⟩ : S31)]) (by have h_ := (Kd.R_reads' (HS343_.out.row 0 rfl)).2.2; rw [show ((([[.int .i64 a0_9, .int .i64 a0_10, .slice A0_11 l0_11.length c0_11, .slice A0_12 l0_12.length c0_12]] ++ xs) ++ [[.int .i64 a0_5, .int .i64 a0_6, .slice A0_7 l0_7.length c0_7, .slice A0_8 l0_8.length c0_8]]) : List (List Value)).length = (((⟨a0_9, a0_10, l0_11, l0_12⟩ : S31) :: l0_4) ++ [(⟨a0_5, a0_6, l0_7, l0_8⟩ : S31)]).length by simp [HXL.out]] at h_; exact h_) (by simp [HXL.out]) (exitK2 HXL.out HXF.out HT.out HS343_.out.below)); rw [show ((([[.int .i64 a0_9, .int .i64 a0_10, .slice A0_11 l0_11.length c0_11, .slice A0_12 l0_12.length c0_12]] ++ xs) ++ [[.int .i64 a0_5, .int .i64 a0_6, .slice A0_7 l0_7.length c0_7, .slice A0_8 l0_8.length c0_8]]) : List (List Value)).length = (((⟨a0_9, a0_10, l0_11, l0_12⟩ : S31) :: l0_4) ++ [(⟨a0_5, a0_6, l0_7, l0_8⟩ : S31)]).length by simp [HXL.out]]) | (go_at_call 124; refine (api_TExit_124.walk A334_ c336_ ((⟨a0_9, a0_10, l0_11, l0_12⟩ : S31) :: l0_4) 125 #[.pointer (some ⟨gt, 0, none⟩), .pointer (some ⟨gn, 0, none⟩)] (pv k l0_3 l0_3.length) _ HCE.out (by have := HE4.out; simp; omega) (fun _ _ => rfl) (fun x A2 c2 A3 c3 W2 hx hW h2 hC2 h3 hC3 => check1_walk k gn gt l0_3.length a0_0 a0_1 a0_2 A0_3 c0_3 l0_3 A0_4 c0_4 l0_4 a0_5 a0_6 A0_7 c0_7 l0_7 A0_8 c0_8 l0_8 a0_9 a0_10 A0_11 c0_11 l0_11 A0_12 c0_12 l0_12 x A2 c2 A3 c3 W2 ((hW.cell (HS332_.out.blkN 1 rfl).2).trans ((HS332_.out.cell 1 rfl 0).trans rfl)) ((hW.cell (HS332_.out.blkN 2 rfl).2).trans ((HS332_.out.cell 2 rfl 0).trans rfl)) ((hW.cell (HS332_.out.blkN 2 rfl).2).trans ((HS332_.out.cell 2 rfl 1).trans rfl)) ((hW.cell (HS332_.out.blkN 2 rfl).2).trans ((HS332_.out.cell 2 rfl 2).trans rfl)) ((hW.cell (HS332_.out.blkN 2 rfl).2).trans ((HS332_.out.cell 2 rfl 3).trans rfl)) ((hW.cell (HS332_.out.blkN 2 rfl).2).trans ((HS332_.out.cell 2 rfl 4).trans rfl)) ((hW.cell (HS332_.out.blkN 2 rfl).2).trans ((HS332_.out.cell 2 rfl 5).trans rfl)) ((hW.cell (HS332_.out.blkN 2 rfl).2).trans ((HS332_.out.cell 2 rfl 6).trans rfl)) ((hW.cell (HS332_.out.blkN 2 rfl).2).trans ((HS332_.out.cell 2 rfl 7).trans rfl)) ((hW.cell (HS332_.out.blkN 2 rfl).2).trans ((HS332_.out.cell 2 rfl 8).trans rfl)) ((hW.cell (HS332_.out.blkN 2 rfl).2).trans ((HS332_.out.cell 2 rfl 9).trans rfl)) ((hW.cell (HS332_.out.blkN 2 rfl).2).trans ((HS332_.out.cell 2 rfl 10).trans rfl)) ((hW.cell (HS332_.out.blkN 2 rfl).2).trans ((HS332_.out.cell 2 rfl 11).trans rfl)) ((hW.cell (HS332_.out.blkN 2 rfl).2).trans ((HS332_.out.cell 2 rfl 12).trans rfl)) (TraceAt.below a0_0 a0_1 a0_2 A0_3 c0_3 l0_3 A0_4 c0_4 l0_4 a0_5 a0_6 A0_7 c0_7 l0_7 A0_8 c0_8 l0_8 a0_9 a0_10 A0_11 c0_11 l0_11 A0_12 c0_12 l0_12 HT.out (below_step HS332_.out.below hW)) h2 hC2 h3 hC3 (HOV.out x (List.mem_append_left _ hx)))).mono ?_; rintro e w9 ⟨rfl, hb9⟩; have HS9 := Aside0.mk (HS332_.out.call hb9); rw [HAN.out]; rw [show (([[.int .i64 a0_9, .int .i64 a0_10, .slice A0_11 l0_11.length c0_11, .slice A0_12 l0_12.length c0_12]] ++ xs) : List (List Value)).length = l0_4.length + 1 by simp [HXL.out]] at HS9; have c338_ : w9.cell? ⟨gt, 5, none⟩ = some (.int .i64 a0_5) := (HS9.out.cell 2 rfl 5).trans rfl; have c339_ : w9.cell? ⟨gt, 6, none⟩ = some (.int .i64 a0_6) := (HS9.out.cell 2 rfl 6).trans rfl; have c340_ : w9.cell? ⟨gt, 7, none⟩ = some (.slice A0_7 l0_7.length c0_7) := (HS9.out.cell 2 rfl 7).trans rfl; have c341_ : w9.cell? ⟨gt, 8, none⟩ = some (.slice A0_8 l0_8.length c0_8) := (HS9.out.cell 2 rfl 8).trans rfl; clear hb9 HCE c337_) | (go_at_call 124; rw [show l0_4.length + 1 + 1 = (((⟨a0_9, a0_10, l0_11, l0_12⟩ : S31) :: l0_4) ++ [(⟨a0_5, a0_6, l0_7, l0_8⟩ : S31)]).length by simp]; refine (api_TExit_124.walk A345_ c347_ (((⟨a0_9, a0_10, l0_11, l0_12⟩ : S31) :: l0_4) ++ [(⟨a0_5, a0_6, l0_7, l0_8⟩ : S31)]) 126 #[] largeX _ HCE2.out (by have := HE4.out; simp; omega) (fun _ _ => rfl) (fun x A2 c2 A3 c3 W2 hx hW h2 hC2 h3 hC3 => live_large.calls x.f0 x.f1 A2 c2 x.f2 A3 c3 x.f3 (largeX x) W2 hC2 h2 hC3 h3 (by unfold live_large.f; rw [if_pos (okV.len (HOV.out x hx))]; rfl))).mono ?_; rintro e w11 ⟨rfl, hb11⟩; have HS11 := Aside0.mk (HS343_.out.call hb11); rw [HAN2.out]; clear hb11 HCE2))
                go_ret
                exact ⟨by rw [HCZ.out]; rfl, HS11.out.below⟩
            · have HAN := Aside0.mk han
              have HCY := HCX.out
              rw [HAN.out] at HCY
              have HCZ := Aside0.mk HCY
              clear han HCY
              go_wp2_with (first | ((with_reducible refine gate_builtin (b := .append) (xs := #[.tmp 55, .tmp 57]) rfl ?_); (try (refine gate_guard (by rfl) ?_; dsimp only)); at_builtin; obtain ⟨ok_, hf_, hr_, hs_⟩ := ((HSt.out.litR 31 4 [.int .i64 a0_9, .int .i64 a0_10, .slice A0_11 l0_11.length c0_11, .slice A0_12 l0_12.length c0_12] rfl (by simp [Value.oneCell']))).app 0 rfl; refine Kd.R_append_rows (Kd.raw 4) (Rr := (Kd.raw 4).K (w7.alloc (.cells [.int .i64 a0_9, .int .i64 a0_10, .slice A0_11 l0_11.length c0_11, .slice A0_12 l0_12.length c0_12].toArray 31))) (w0 := w) w.heap.size rfl (.tmp 55) (.tmp 57) 121 31 ((.agg #[.int .i64 0, .int .i64 0, .slice none 0 0, .slice none 0 0])) 64 rfl Try.underlying121 info31 rfl (by decide) (by omega) (.slice (some ⟨w7.heap.size, 0, none⟩) 1 1) [[.int .i64 a0_9, .int .i64 a0_10, .slice A0_11 l0_11.length c0_11, .slice A0_12 l0_12.length c0_12]] xs A0_4 l0_4.length c0_4 ok_ (fun _ => False) rfl rfl hr_ ?aR ?aM (fun _ hk => hk.elim) hf_ ((HSt.out.litR 31 4 [.int .i64 a0_9, .int .i64 a0_10, .slice A0_11 l0_11.length c0_11, .slice A0_12 l0_12.length c0_12] rfl (by simp [Value.oneCell']))).below ((HSt.out.litR 31 4 [.int .i64 a0_9, .int .i64 a0_10, .slice A0_11 l0_11.length c0_11, .slice A0_12 l0_12.length c0_12] rfl (by simp [Value.oneCell']))).size ?aL ?_; (case aR => exact (by have := HXR.out; rw [HXL.out] at this; exact Kd.C_alloc (Kd.C_below this HSt.out.below) _)); (case aM => exact fun x cs h => h); (case aL => have := HE4.out; have := HXL.out; simp; omega); intro Ap333_ w331_ ho_ hb_ hg_ hat_; have HS332_ := Aside0.mk (hs_ _ _ _ ho_ hb_ hg_); have hN_ := Kd.R_slice ho_; obtain ⟨A334_, c336_, rfl⟩ := hN_; have c337_ : w331_.cell? ⟨gn, 0, none⟩ = some (.int .i64 (l0_3.length : Int)) := (HS332_.out.cell 1 rfl 0).trans rfl; clear ho_ hb_ hg_ hat_ hf_ hr_ hs_ c326_ c327_ c328_ c329_ c330_ c4a_ HSt; have HCE := Aside0.mk (C_of_raw (d := k31) (xs := (⟨a0_9, a0_10, l0_11, l0_12⟩ : S31) :: l0_4) (by have h_ := (Kd.R_reads' (HS332_.out.row 0 rfl)).2.2; rw [show (([[.int .i64 a0_9, .int .i64 a0_10, .slice A0_11 l0_11.length c0_11, .slice A0_12 l0_12.length c0_12]] ++ xs) : List (List Value)).length = ((⟨a0_9, a0_10, l0_11, l0_12⟩ : S31) :: l0_4).length by rw [List.length_append, HXL.out, List.length_cons]; simp; omega] at h_; exact h_) (by rw [List.length_append, HXL.out, List.length_cons]; simp; omega) (exitK HXF.out HT.out HS332_.out.below)); rw [show (([[.int .i64 a0_9, .int .i64 a0_10, .slice A0_11 l0_11.length c0_11, .slice A0_12 l0_12.length c0_12]] ++ xs) : List (List Value)).length = ((⟨a0_9, a0_10, l0_11, l0_12⟩ : S31) :: l0_4).length by rw [List.length_append, HXL.out, List.length_cons]; simp; omega]) | (go_at_call 124; refine (api_TExit_124.walk A334_ c336_ ((⟨a0_9, a0_10, l0_11, l0_12⟩ : S31) :: l0_4) 125 #[.pointer (some ⟨gt, 0, none⟩), .pointer (some ⟨gn, 0, none⟩)] (pv k l0_3 l0_3.length) _ HCE.out (by have := HE4.out; simp; omega) (fun _ _ => rfl) (fun x A2 c2 A3 c3 W2 hx hW h2 hC2 h3 hC3 => check1_walk k gn gt l0_3.length a0_0 a0_1 a0_2 A0_3 c0_3 l0_3 A0_4 c0_4 l0_4 a0_5 a0_6 A0_7 c0_7 l0_7 A0_8 c0_8 l0_8 a0_9 a0_10 A0_11 c0_11 l0_11 A0_12 c0_12 l0_12 x A2 c2 A3 c3 W2 ((hW.cell (HS332_.out.blkN 1 rfl).2).trans ((HS332_.out.cell 1 rfl 0).trans rfl)) ((hW.cell (HS332_.out.blkN 2 rfl).2).trans ((HS332_.out.cell 2 rfl 0).trans rfl)) ((hW.cell (HS332_.out.blkN 2 rfl).2).trans ((HS332_.out.cell 2 rfl 1).trans rfl)) ((hW.cell (HS332_.out.blkN 2 rfl).2).trans ((HS332_.out.cell 2 rfl 2).trans rfl)) ((hW.cell (HS332_.out.blkN 2 rfl).2).trans ((HS332_.out.cell 2 rfl 3).trans rfl)) ((hW.cell (HS332_.out.blkN 2 rfl).2).trans ((HS332_.out.cell 2 rfl 4).trans rfl)) ((hW.cell (HS332_.out.blkN 2 rfl).2).trans ((HS332_.out.cell 2 rfl 5).trans rfl)) ((hW.cell (HS332_.out.blkN 2 rfl).2).trans ((HS332_.out.cell 2 rfl 6).trans rfl)) ((hW.cell (HS332_.out.blkN 2 rfl).2).trans ((HS332_.out.cell 2 rfl 7).trans rfl)) ((hW.cell (HS332_.out.blkN 2 rfl).2).trans ((HS332_.out.cell 2 rfl 8).trans rfl)) ((hW.cell (HS332_.out.blkN 2 rfl).2).trans ((HS332_.out.cell 2 rfl 9).trans rfl)) ((hW.cell (HS332_.out.blkN 2 rfl).2).trans ((HS332_.out.cell 2 rfl 10).trans rfl)) ((hW.cell (HS332_.out.blkN 2 rfl).2).trans ((HS332_.out.cell 2 rfl 11).trans rfl)) ((hW.cell (HS332_.out.blkN 2 rfl).2).trans ((HS332_.out.cell 2 rfl 12).trans rfl)) (TraceAt.below a0_0 a0_1 a0_2 A0_3 c0_3 l0_3 A0_4 c0_4 l0_4 a0_5 a0_6 A0_7 c0_7 l0_7 A0_8 c0_8 l0_8 a0_9 a0_10 A0_11 c0_11 l0_11 A0_12 c0_12 l0_12 HT.out (below_step HS332_.out.below hW)) h2 hC2 h3 hC3 (HOV.out x (List.mem_append_left _ hx)))).mono ?_; rintro e w9 ⟨rfl, hb9⟩; have HS9 := Aside0.mk (HS332_.out.call hb9); rw [HAN.out]; clear hb9 HCE c337_))
              go_ret
              exact ⟨by rw [HCZ.out]; rfl, HS9.out.below⟩
        · have HCX := Aside0.mk (show chkX k a0_0 a0_1 a0_2 l0_3 l0_4 a0_5 a0_6 l0_7 l0_8 a0_9 a0_10 l0_11 l0_12 = 3 by unfold chkX; rw [if_pos ⟨HL0.out, hpt⟩])
          have HPT2 := Aside0.mk (show lt_.any (allP l0_3 a0_2) = true by rw [← HPT.out]; exact hpt)
          clear hpt
          go_wp2
          go_region_held3 (fun w' => w'.cell? ⟨gn, 0, none⟩ = some (.int .i64 (l0_3.length : Int)) ∧ w'.cell? ⟨gt, 0, none⟩ = some (.int .i64 a0_0) ∧ w'.cell? ⟨gt, 1, none⟩ = some (.int .i64 a0_1) ∧ w'.cell? ⟨gt, 2, none⟩ = some (.int .i64 a0_2) ∧ w'.cell? ⟨gt, 3, none⟩ = some (.slice A0_3 l0_3.length c0_3) ∧ w'.cell? ⟨gt, 4, none⟩ = some (.slice A0_4 l0_4.length c0_4) ∧ w'.cell? ⟨gt, 5, none⟩ = some (.int .i64 a0_5) ∧ w'.cell? ⟨gt, 6, none⟩ = some (.int .i64 a0_6) ∧ w'.cell? ⟨gt, 7, none⟩ = some (.slice A0_7 l0_7.length c0_7) ∧ w'.cell? ⟨gt, 8, none⟩ = some (.slice A0_8 l0_8.length c0_8) ∧ w'.cell? ⟨gt, 9, none⟩ = some (.int .i64 a0_9) ∧ w'.cell? ⟨gt, 10, none⟩ = some (.int .i64 a0_10) ∧ w'.cell? ⟨gt, 11, none⟩ = some (.slice A0_11 l0_11.length c0_11) ∧ w'.cell? ⟨gt, 12, none⟩ = some (.slice A0_12 l0_12.length c0_12)) (first | go_keep | exact ⟨hnwg, htw0g, htw1g, htw2g, htw3g, htw4g, htw5g, htw6g, htw7g, htw8g, htw9g, htw10g, htw11g, htw12g⟩ | exact ⟨hnwe, htw0e, htw1e, htw2e, htw3e, htw4e, htw5e, htw6e, htw7e, htw8e, htw9e, htw10e, htw11e, htw12e⟩) ((first | (go_at_call 121; have HTV := HTd.out; unfold TraceAt at HTV; with_reducible refine (live_Values.calls k a0_5 a0_6 A0_7 c0_7 l0_7 A0_8 c0_8 l0_8 lt_ _ HTV.2.2.1.1 HTV.2.2.1.2 HTV.2.2.2.1.1 HTV.2.2.2.1.2 HLT.out).mono ?_; rintro e w4 ⟨v4, rfl, hr4, hb4⟩; have HS4 := Aside0.mk (HSd.out.call hb4); have HV := Aside0.mk hr4; obtain ⟨A4, c4, rfl⟩ := Kd.R_slice hr4; have hnwe := (hb4.cell (World.block_lt_of_cell? _ _ hnw)).trans hnw; have htw0e := (hb4.cell (World.block_lt_of_cell? _ _ htw0)).trans htw0; have htw1e := (hb4.cell (World.block_lt_of_cell? _ _ htw1)).trans htw1; have htw2e := (hb4.cell (World.block_lt_of_cell? _ _ htw2)).trans htw2; have htw3e := (hb4.cell (World.block_lt_of_cell? _ _ htw3)).trans htw3; have htw4e := (hb4.cell (World.block_lt_of_cell? _ _ htw4)).trans htw4; have htw5e := (hb4.cell (World.block_lt_of_cell? _ _ htw5)).trans htw5; have htw6e := (hb4.cell (World.block_lt_of_cell? _ _ htw6)).trans htw6; have htw7e := (hb4.cell (World.block_lt_of_cell? _ _ htw7)).trans htw7; have htw8e := (hb4.cell (World.block_lt_of_cell? _ _ htw8)).trans htw8; have htw9e := (hb4.cell (World.block_lt_of_cell? _ _ htw9)).trans htw9; have htw10e := (hb4.cell (World.block_lt_of_cell? _ _ htw10)).trans htw10; have htw11e := (hb4.cell (World.block_lt_of_cell? _ _ htw11)).trans htw11; have htw12e := (hb4.cell (World.block_lt_of_cell? _ _ htw12)).trans htw12; clear hr4 hb4 HTV) | (go_at_call 123; have HTV := TraceAt.below a0_0 a0_1 a0_2 A0_3 c0_3 l0_3 A0_4 c0_4 l0_4 a0_5 a0_6 A0_7 c0_7 l0_7 A0_8 c0_8 l0_8 a0_9 a0_10 A0_11 c0_11 l0_11 A0_12 c0_12 l0_12 HT.out HS4.out.below; unfold TraceAt at HTV; with_reducible refine (live_all.calls a0_0 a0_1 a0_2 A0_3 c0_3 l0_3 A0_4 c0_4 l0_4 a0_5 a0_6 A0_7 c0_7 l0_7 A0_8 c0_8 l0_8 a0_9 a0_10 A0_11 c0_11 l0_11 A0_12 c0_12 l0_12 A4 c4 lt_ a0_2 (!lt_.any (allP l0_3 a0_2)) _ HTV.1.1 HTV.1.2 HTV.2.1.1 HTV.2.1.2 HTV.2.2.1.1 HTV.2.2.1.2 HTV.2.2.2.1.1 HTV.2.2.2.1.2 HTV.2.2.2.2.1.1 HTV.2.2.2.2.1.2 HTV.2.2.2.2.2.1 HTV.2.2.2.2.2.2 (Kd.R_reads' HV.out).2.2 (Kd.R_reads' HV.out).2.1 ?s9).mono ?_; (case s9 => unfold live_all.f; rw [if_pos HLLT.out]); rintro e w6 ⟨rfl, hb6⟩; have HS6 := Aside0.mk (HS4.out.call hb6); have hnwg := (hb6.cell (World.block_lt_of_cell? _ _ hnwe)).trans hnwe; have htw0g := (hb6.cell (World.block_lt_of_cell? _ _ htw0e)).trans htw0e; have htw1g := (hb6.cell (World.block_lt_of_cell? _ _ htw1e)).trans htw1e; have htw2g := (hb6.cell (World.block_lt_of_cell? _ _ htw2e)).trans htw2e; have htw3g := (hb6.cell (World.block_lt_of_cell? _ _ htw3e)).trans htw3e; have htw4g := (hb6.cell (World.block_lt_of_cell? _ _ htw4e)).trans htw4e; have htw5g := (hb6.cell (World.block_lt_of_cell? _ _ htw5e)).trans htw5e; have htw6g := (hb6.cell (World.block_lt_of_cell? _ _ htw6e)).trans htw6e; have htw7g := (hb6.cell (World.block_lt_of_cell? _ _ htw7e)).trans htw7e; have htw8g := (hb6.cell (World.block_lt_of_cell? _ _ htw8e)).trans htw8e; have htw9g := (hb6.cell (World.block_lt_of_cell? _ _ htw9e)).trans htw9e; have htw10g := (hb6.cell (World.block_lt_of_cell? _ _ htw10e)).trans htw10e; have htw11g := (hb6.cell (World.block_lt_of_cell? _ _ htw11e)).trans htw11e; have htw12g := (hb6.cell (World.block_lt_of_cell? _ _ htw12e)).trans htw12e; rw [HPT2.out]; clear hb6 HTV)))
          all_goals
            go_wp2
            go_ret
            exact ⟨by rw [HCX.out]; rfl, HS6.out.below⟩
      · have hg1 : decide (0 < a0_2) = false := decide_eq_false hl0
        have hg2 : decide (a0_2 > 0) = false := decide_eq_false hl0
        have HCX := Aside0.mk (show chkX k a0_0 a0_1 a0_2 l0_3 l0_4 a0_5 a0_6 l0_7 l0_8 a0_9 a0_10 l0_11 l0_12 = if ((⟨a0_9, a0_10, l0_11, l0_12⟩ : S31) :: l0_4).any (pv k l0_3 l0_3.length) = true then 3 else if (((⟨a0_9, a0_10, l0_11, l0_12⟩ : S31) :: l0_4) ++ [(⟨a0_5, a0_6, l0_7, l0_8⟩ : S31)]).any largeX = true then 2 else 0 by unfold chkX; rw [if_neg (fun h => hl0 h.1)])
        clear hl0
        go_wp2
        go_quiet (fail)
        rename_i nq
        have HSt := Aside0.mk (HSr.out.drewN nq)
        generalize wr.drewN nq = w7 at *
        clear c312_ c313_ c314_ c315_ c316_ c317_ c318_ c319_ c320_ c321_ c322_ c323_ c324_ c325_
        have c348_ : w7.cell? ⟨gt, 4, none⟩ = some (.slice A0_4 l0_4.length c0_4) := (HSt.out.cell 1 rfl 4).trans rfl
        have c349_ : w7.cell? ⟨gt, 9, none⟩ = some (.int .i64 a0_9) := (HSt.out.cell 1 rfl 9).trans rfl
        have c350_ : w7.cell? ⟨gt, 10, none⟩ = some (.int .i64 a0_10) := (HSt.out.cell 1 rfl 10).trans rfl
        have c351_ : w7.cell? ⟨gt, 11, none⟩ = some (.slice A0_11 l0_11.length c0_11) := (HSt.out.cell 1 rfl 11).trans rfl
        have c352_ : w7.cell? ⟨gt, 12, none⟩ = some (.slice A0_12 l0_12.length c0_12) := (HSt.out.cell 1 rfl 12).trans rfl
        have c4a_ : ∀ o, (w7.alloc o).cell? ⟨gt, 4, none⟩ = some (.slice A0_4 l0_4.length c0_4) := fun o => ((HSt.out.alloc o).cell 1 rfl 4).trans rfl
        rcases han : ((⟨a0_9, a0_10, l0_11, l0_12⟩ : S31) :: l0_4).any (pv k l0_3 l0_3.length) with _ | _
        · have HAN := Aside0.mk han
          rcases han2 : (((⟨a0_9, a0_10, l0_11, l0_12⟩ : S31) :: l0_4) ++ [(⟨a0_5, a0_6, l0_7, l0_8⟩ : S31)]).any largeX with _ | _
          all_goals
            have HAN2 := Aside0.mk han2
            have HCY := HCX.out
            rw [HAN.out, HAN2.out] at HCY
            have HCZ := Aside0.mk HCY
            clear han han2 HCY
            go_wp2_with (first | ((with_reducible refine gate_builtin (b := .append) (xs := #[.tmp 55, .tmp 57]) rfl ?_); (try (refine gate_guard (by rfl) ?_; dsimp only)); at_builtin; obtain ⟨ok_, hf_, hr_, hs_⟩ := ((HSt.out.litR 31 4 [.int .i64 a0_9, .int .i64 a0_10, .slice A0_11 l0_11.length c0_11, .slice A0_12 l0_12.length c0_12] rfl (by simp [Value.oneCell']))).app 0 rfl; refine Kd.R_append_rows (Kd.raw 4) (Rr := (Kd.raw 4).K (w7.alloc (.cells [.int .i64 a0_9, .int .i64 a0_10, .slice A0_11 l0_11.length c0_11, .slice A0_12 l0_12.length c0_12].toArray 31))) (w0 := w) w.heap.size rfl (.tmp 55) (.tmp 57) 121 31 ((.agg #[.int .i64 0, .int .i64 0, .slice none 0 0, .slice none 0 0])) 64 rfl Try.underlying121 info31 rfl (by decide) (by omega) (.slice (some ⟨w7.heap.size, 0, none⟩) 1 1) [[.int .i64 a0_9, .int .i64 a0_10, .slice A0_11 l0_11.length c0_11, .slice A0_12 l0_12.length c0_12]] xs A0_4 l0_4.length c0_4 ok_ (fun _ => False) rfl rfl hr_ ?aR ?aM (fun _ hk => hk.elim) hf_ ((HSt.out.litR 31 4 [.int .i64 a0_9, .int .i64 a0_10, .slice A0_11 l0_11.length c0_11, .slice A0_12 l0_12.length c0_12] rfl (by simp [Value.oneCell']))).below ((HSt.out.litR 31 4 [.int .i64 a0_9, .int .i64 a0_10, .slice A0_11 l0_11.length c0_11, .slice A0_12 l0_12.length c0_12] rfl (by simp [Value.oneCell']))).size ?aL ?_; (case aR => exact (by have := HXR.out; rw [HXL.out] at this; exact Kd.C_alloc (Kd.C_below this HSt.out.below) _)); (case aM => exact fun x cs h => h); (case aL => have := HE4.out; have := HXL.out; simp; omega); intro Ap355_ w353_ ho_ hb_ hg_ hat_; have HS354_ := Aside0.mk (hs_ _ _ _ ho_ hb_ hg_); have hN_ := Kd.R_slice ho_; obtain ⟨A356_, c358_, rfl⟩ := hN_; have c359_ : w353_.cell? ⟨gn, 0, none⟩ = some (.int .i64 (l0_3.length : Int)) := (HS354_.out.cell 1 rfl 0).trans rfl; clear ho_ hb_ hg_ hat_ hf_ hr_ hs_ c348_ c349_ c350_ c351_ c352_ c4a_ HSt; have HCE := Aside0.mk (C_of_raw (d := k31) (xs := (⟨a0_9, a0_10, l0_11, l0_12⟩ : S31) :: l0_4) (by have h_ := (Kd.R_reads' (HS354_.out.row 0 rfl)).2.2; rw [show (([[.int .i64 a0_9, .int .i64 a0_10, .slice A0_11 l0_11.length c0_11, .slice A0_12 l0_12.length c0_12]] ++ xs) : List (List Value)).length = ((⟨a0_9, a0_10, l0_11, l0_12⟩ : S31) :: l0_4).length by rw [List.length_append, HXL.out, List.length_cons]; simp; omega] at h_; exact h_) (by rw [List.length_append, HXL.out, List.length_cons]; simp; omega) (exitK HXF.out HT.out HS354_.out.below)); rw [show (([[.int .i64 a0_9, .int .i64 a0_10, .slice A0_11 l0_11.length c0_11, .slice A0_12 l0_12.length c0_12]] ++ xs) : List (List Value)).length = ((⟨a0_9, a0_10, l0_11, l0_12⟩ : S31) :: l0_4).length by rw [List.length_append, HXL.out, List.length_cons]; simp; omega]) | ((with_reducible refine gate_builtin (b := .append) (xs := #[.tmp 62, .tmp 65]) rfl ?_); (try (refine gate_guard (by rfl) ?_; dsimp only)); at_builtin; obtain ⟨ok_, hf_, hr_, hs_⟩ := (HS9.out).app 0 rfl; refine Kd.R_append (Kd.raw 4) (w0 := w) w.heap.size rfl (.tmp 62) (.tmp 65) 121 31 ((.agg #[.int .i64 0, .int .i64 0, .slice none 0 0, .slice none 0 0])) 64 rfl Try.underlying121 info31 rfl (by decide) (by omega) (.slice A356_ (l0_4.length + 1) c358_) ([[.int .i64 a0_9, .int .i64 a0_10, .slice A0_11 l0_11.length c0_11, .slice A0_12 l0_12.length c0_12]] ++ xs) ([.int .i64 a0_5, .int .i64 a0_6, .slice A0_7 l0_7.length c0_7, .slice A0_8 l0_8.length c0_8]) [.int .i64 a0_5, .int .i64 a0_6, .slice A0_7 l0_7.length c0_7, .slice A0_8 l0_8.length c0_8] ok_ (fun _ => False) rfl rfl ⟨rfl, rfl, by simp [Value.oneCell']⟩ (fun _ hk => hk.elim) hf_ hr_ (HS9.out).below (HS9.out).size ?aL ?_; (case aL => have := HE4.out; have := HXL.out; simp; omega); intro Ap366_ w364_ ho_ hb_ hg_ hat_; have HS365_ := Aside0.mk (hs_ _ _ _ ho_ hb_ hg_); have hN_ := Kd.R_slice ho_; obtain ⟨A367_, c369_, rfl⟩ := hN_; clear ho_ hb_ hg_ hat_ hf_ hr_ hs_ c360_ c361_ c362_ c363_ HS9; have HCE2 := Aside0.mk (C_of_raw (d := k31) (xs := ((⟨a0_9, a0_10, l0_11, l0_12⟩ : S31) :: l0_4) ++ [(⟨a0_5, a0_6, l0_7, l0_8⟩ : S31)]) (by have h_ := (Kd.R_reads' (HS365_.out.row 0 rfl)).2.2; rw [show ((([[.int .i64 a0_9, .int .i64 a0_10, .slice A0_11 l0_11.length c0_11, .slice A0_12 l0_12.length c0_12]] ++ xs) ++ [[.int .i64 a0_5, .int .i64 a0_6, .slice A0_7 l0_7.length c0_7, .slice A0_8 l0_8.length c0_8]]) : List (List Value)).length = (((⟨a0_9, a0_10, l0_11, l0_12⟩ : S31) :: l0_4) ++ [(⟨a0_5, a0_6, l0_7, l0_8⟩ : S31)]).length by simp [HXL.out]] at h_; exact h_) (by simp [HXL.out]) (exitK2 HXL.out HXF.out HT.out HS365_.out.below)); rw [show ((([[.int .i64 a0_9, .int .i64 a0_10, .slice A0_11 l0_11.length c0_11, .slice A0_12 l0_12.length c0_12]] ++ xs) ++ [[.int .i64 a0_5, .int .i64 a0_6, .slice A0_7 l0_7.length c0_7, .slice A0_8 l0_8.length c0_8]]) : List (List Value)).length = (((⟨a0_9, a0_10, l0_11, l0_12⟩ : S31) :: l0_4) ++ [(⟨a0_5, a0_6, l0_7, l0_8⟩ : S31)]).length by simp [HXL.out]]) | (go_at_call 124; refine (api_TExit_124.walk A356_ c358_ ((⟨a0_9, a0_10, l0_11, l0_12⟩ : S31) :: l0_4) 125 #[.pointer (some ⟨gt, 0, none⟩), .pointer (some ⟨gn, 0, none⟩)] (pv k l0_3 l0_3.length) _ HCE.out (by have := HE4.out; simp; omega) (fun _ _ => rfl) (fun x A2 c2 A3 c3 W2 hx hW h2 hC2 h3 hC3 => check1_walk k gn gt l0_3.length a0_0 a0_1 a0_2 A0_3 c0_3 l0_3 A0_4 c0_4 l0_4 a0_5 a0_6 A0_7 c0_7 l0_7 A0_8 c0_8 l0_8 a0_9 a0_10 A0_11 c0_11 l0_11 A0_12 c0_12 l0_12 x A2 c2 A3 c3 W2 ((hW.cell (HS354_.out.blkN 1 rfl).2).trans ((HS354_.out.cell 1 rfl 0).trans rfl)) ((hW.cell (HS354_.out.blkN 2 rfl).2).trans ((HS354_.out.cell 2 rfl 0).trans rfl)) ((hW.cell (HS354_.out.blkN 2 rfl).2).trans ((HS354_.out.cell 2 rfl 1).trans rfl)) ((hW.cell (HS354_.out.blkN 2 rfl).2).trans ((HS354_.out.cell 2 rfl 2).trans rfl)) ((hW.cell (HS354_.out.blkN 2 rfl).2).trans ((HS354_.out.cell 2 rfl 3).trans rfl)) ((hW.cell (HS354_.out.blkN 2 rfl).2).trans ((HS354_.out.cell 2 rfl 4).trans rfl)) ((hW.cell (HS354_.out.blkN 2 rfl).2).trans ((HS354_.out.cell 2 rfl 5).trans rfl)) ((hW.cell (HS354_.out.blkN 2 rfl).2).trans ((HS354_.out.cell 2 rfl 6).trans rfl)) ((hW.cell (HS354_.out.blkN 2 rfl).2).trans ((HS354_.out.cell 2 rfl 7).trans rfl)) ((hW.cell (HS354_.out.blkN 2 rfl).2).trans ((HS354_.out.cell 2 rfl 8).trans rfl)) ((hW.cell (HS354_.out.blkN 2 rfl).2).trans ((HS354_.out.cell 2 rfl 9).trans rfl)) ((hW.cell (HS354_.out.blkN 2 rfl).2).trans ((HS354_.out.cell 2 rfl 10).trans rfl)) ((hW.cell (HS354_.out.blkN 2 rfl).2).trans ((HS354_.out.cell 2 rfl 11).trans rfl)) ((hW.cell (HS354_.out.blkN 2 rfl).2).trans ((HS354_.out.cell 2 rfl 12).trans rfl)) (TraceAt.below a0_0 a0_1 a0_2 A0_3 c0_3 l0_3 A0_4 c0_4 l0_4 a0_5 a0_6 A0_7 c0_7 l0_7 A0_8 c0_8 l0_8 a0_9 a0_10 A0_11 c0_11 l0_11 A0_12 c0_12 l0_12 HT.out (below_step HS354_.out.below hW)) h2 hC2 h3 hC3 (HOV.out x (List.mem_append_left _ hx)))).mono ?_; rintro e w9 ⟨rfl, hb9⟩; have HS9 := Aside0.mk (HS354_.out.call hb9); rw [HAN.out]; rw [show (([[.int .i64 a0_9, .int .i64 a0_10, .slice A0_11 l0_11.length c0_11, .slice A0_12 l0_12.length c0_12]] ++ xs) : List (List Value)).length = l0_4.length + 1 by simp [HXL.out]] at HS9; have c360_ : w9.cell? ⟨gt, 5, none⟩ = some (.int .i64 a0_5) := (HS9.out.cell 2 rfl 5).trans rfl; have c361_ : w9.cell? ⟨gt, 6, none⟩ = some (.int .i64 a0_6) := (HS9.out.cell 2 rfl 6).trans rfl; have c362_ : w9.cell? ⟨gt, 7, none⟩ = some (.slice A0_7 l0_7.length c0_7) := (HS9.out.cell 2 rfl 7).trans rfl; have c363_ : w9.cell? ⟨gt, 8, none⟩ = some (.slice A0_8 l0_8.length c0_8) := (HS9.out.cell 2 rfl 8).trans rfl; clear hb9 HCE c359_) | (go_at_call 124; rw [show l0_4.length + 1 + 1 = (((⟨a0_9, a0_10, l0_11, l0_12⟩ : S31) :: l0_4) ++ [(⟨a0_5, a0_6, l0_7, l0_8⟩ : S31)]).length by simp]; refine (api_TExit_124.walk A367_ c369_ (((⟨a0_9, a0_10, l0_11, l0_12⟩ : S31) :: l0_4) ++ [(⟨a0_5, a0_6, l0_7, l0_8⟩ : S31)]) 126 #[] largeX _ HCE2.out (by have := HE4.out; simp; omega) (fun _ _ => rfl) (fun x A2 c2 A3 c3 W2 hx hW h2 hC2 h3 hC3 => live_large.calls x.f0 x.f1 A2 c2 x.f2 A3 c3 x.f3 (largeX x) W2 hC2 h2 hC3 h3 (by unfold live_large.f; rw [if_pos (okV.len (HOV.out x hx))]; rfl))).mono ?_; rintro e w11 ⟨rfl, hb11⟩; have HS11 := Aside0.mk (HS365_.out.call hb11); rw [HAN2.out]; clear hb11 HCE2))
            go_ret
            exact ⟨by rw [HCZ.out]; rfl, HS11.out.below⟩
        · have HAN := Aside0.mk han
          have HCY := HCX.out
          rw [HAN.out] at HCY
          have HCZ := Aside0.mk HCY
          clear han HCY
          go_wp2_with (first | ((with_reducible refine gate_builtin (b := .append) (xs := #[.tmp 55, .tmp 57]) rfl ?_); (try (refine gate_guard (by rfl) ?_; dsimp only)); at_builtin; obtain ⟨ok_, hf_, hr_, hs_⟩ := ((HSt.out.litR 31 4 [.int .i64 a0_9, .int .i64 a0_10, .slice A0_11 l0_11.length c0_11, .slice A0_12 l0_12.length c0_12] rfl (by simp [Value.oneCell']))).app 0 rfl; refine Kd.R_append_rows (Kd.raw 4) (Rr := (Kd.raw 4).K (w7.alloc (.cells [.int .i64 a0_9, .int .i64 a0_10, .slice A0_11 l0_11.length c0_11, .slice A0_12 l0_12.length c0_12].toArray 31))) (w0 := w) w.heap.size rfl (.tmp 55) (.tmp 57) 121 31 ((.agg #[.int .i64 0, .int .i64 0, .slice none 0 0, .slice none 0 0])) 64 rfl Try.underlying121 info31 rfl (by decide) (by omega) (.slice (some ⟨w7.heap.size, 0, none⟩) 1 1) [[.int .i64 a0_9, .int .i64 a0_10, .slice A0_11 l0_11.length c0_11, .slice A0_12 l0_12.length c0_12]] xs A0_4 l0_4.length c0_4 ok_ (fun _ => False) rfl rfl hr_ ?aR ?aM (fun _ hk => hk.elim) hf_ ((HSt.out.litR 31 4 [.int .i64 a0_9, .int .i64 a0_10, .slice A0_11 l0_11.length c0_11, .slice A0_12 l0_12.length c0_12] rfl (by simp [Value.oneCell']))).below ((HSt.out.litR 31 4 [.int .i64 a0_9, .int .i64 a0_10, .slice A0_11 l0_11.length c0_11, .slice A0_12 l0_12.length c0_12] rfl (by simp [Value.oneCell']))).size ?aL ?_; (case aR => exact (by have := HXR.out; rw [HXL.out] at this; exact Kd.C_alloc (Kd.C_below this HSt.out.below) _)); (case aM => exact fun x cs h => h); (case aL => have := HE4.out; have := HXL.out; simp; omega); intro Ap355_ w353_ ho_ hb_ hg_ hat_; have HS354_ := Aside0.mk (hs_ _ _ _ ho_ hb_ hg_); have hN_ := Kd.R_slice ho_; obtain ⟨A356_, c358_, rfl⟩ := hN_; have c359_ : w353_.cell? ⟨gn, 0, none⟩ = some (.int .i64 (l0_3.length : Int)) := (HS354_.out.cell 1 rfl 0).trans rfl; clear ho_ hb_ hg_ hat_ hf_ hr_ hs_ c348_ c349_ c350_ c351_ c352_ c4a_ HSt; have HCE := Aside0.mk (C_of_raw (d := k31) (xs := (⟨a0_9, a0_10, l0_11, l0_12⟩ : S31) :: l0_4) (by have h_ := (Kd.R_reads' (HS354_.out.row 0 rfl)).2.2; rw [show (([[.int .i64 a0_9, .int .i64 a0_10, .slice A0_11 l0_11.length c0_11, .slice A0_12 l0_12.length c0_12]] ++ xs) : List (List Value)).length = ((⟨a0_9, a0_10, l0_11, l0_12⟩ : S31) :: l0_4).length by rw [List.length_append, HXL.out, List.length_cons]; simp; omega] at h_; exact h_) (by rw [List.length_append, HXL.out, List.length_cons]; simp; omega) (exitK HXF.out HT.out HS354_.out.below)); rw [show (([[.int .i64 a0_9, .int .i64 a0_10, .slice A0_11 l0_11.length c0_11, .slice A0_12 l0_12.length c0_12]] ++ xs) : List (List Value)).length = ((⟨a0_9, a0_10, l0_11, l0_12⟩ : S31) :: l0_4).length by rw [List.length_append, HXL.out, List.length_cons]; simp; omega]) | (go_at_call 124; refine (api_TExit_124.walk A356_ c358_ ((⟨a0_9, a0_10, l0_11, l0_12⟩ : S31) :: l0_4) 125 #[.pointer (some ⟨gt, 0, none⟩), .pointer (some ⟨gn, 0, none⟩)] (pv k l0_3 l0_3.length) _ HCE.out (by have := HE4.out; simp; omega) (fun _ _ => rfl) (fun x A2 c2 A3 c3 W2 hx hW h2 hC2 h3 hC3 => check1_walk k gn gt l0_3.length a0_0 a0_1 a0_2 A0_3 c0_3 l0_3 A0_4 c0_4 l0_4 a0_5 a0_6 A0_7 c0_7 l0_7 A0_8 c0_8 l0_8 a0_9 a0_10 A0_11 c0_11 l0_11 A0_12 c0_12 l0_12 x A2 c2 A3 c3 W2 ((hW.cell (HS354_.out.blkN 1 rfl).2).trans ((HS354_.out.cell 1 rfl 0).trans rfl)) ((hW.cell (HS354_.out.blkN 2 rfl).2).trans ((HS354_.out.cell 2 rfl 0).trans rfl)) ((hW.cell (HS354_.out.blkN 2 rfl).2).trans ((HS354_.out.cell 2 rfl 1).trans rfl)) ((hW.cell (HS354_.out.blkN 2 rfl).2).trans ((HS354_.out.cell 2 rfl 2).trans rfl)) ((hW.cell (HS354_.out.blkN 2 rfl).2).trans ((HS354_.out.cell 2 rfl 3).trans rfl)) ((hW.cell (HS354_.out.blkN 2 rfl).2).trans ((HS354_.out.cell 2 rfl 4).trans rfl)) ((hW.cell (HS354_.out.blkN 2 rfl).2).trans ((HS354_.out.cell 2 rfl 5).trans rfl)) ((hW.cell (HS354_.out.blkN 2 rfl).2).trans ((HS354_.out.cell 2 rfl 6).trans rfl)) ((hW.cell (HS354_.out.blkN 2 rfl).2).trans ((HS354_.out.cell 2 rfl 7).trans rfl)) ((hW.cell (HS354_.out.blkN 2 rfl).2).trans ((HS354_.out.cell 2 rfl 8).trans rfl)) ((hW.cell (HS354_.out.blkN 2 rfl).2).trans ((HS354_.out.cell 2 rfl 9).trans rfl)) ((hW.cell (HS354_.out.blkN 2 rfl).2).trans ((HS354_.out.cell 2 rfl 10).trans rfl)) ((hW.cell (HS354_.out.blkN 2 rfl).2).trans ((HS354_.out.cell 2 rfl 11).trans rfl)) ((hW.cell (HS354_.out.blkN 2 rfl).2).trans ((HS354_.out.cell 2 rfl 12).trans rfl)) (TraceAt.below a0_0 a0_1 a0_2 A0_3 c0_3 l0_3 A0_4 c0_4 l0_4 a0_5 a0_6 A0_7 c0_7 l0_7 A0_8 c0_8 l0_8 a0_9 a0_10 A0_11 c0_11 l0_11 A0_12 c0_12 l0_12 HT.out (below_step HS354_.out.below hW)) h2 hC2 h3 hC3 (HOV.out x (List.mem_append_left _ hx)))).mono ?_; rintro e w9 ⟨rfl, hb9⟩; have HS9 := Aside0.mk (HS354_.out.call hb9); rw [HAN.out]; clear hb9 HCE c359_))
          go_ret
          exact ⟨by rw [HCZ.out]; rfl, HS9.out.below⟩
end

/-! ### bits_Mul32: function 164 -/
/-! ### bits_Mul64: function 165 -/
def bits_Mul64.f (a0 : Int) (a1 : Int) : Option (Int × Int) := some (IntKind.u64.wrap ((IntKind.u64.wrap ((IntKind.u64.wrap ((a0 / 4294967296) * (a1 / 4294967296))) + ((IntKind.u64.wrap ((IntKind.u64.wrap ((a0 / 4294967296) * (Go.bits .and .u64 a1 4294967295))) + ((IntKind.u64.wrap ((Go.bits .and .u64 a0 4294967295) * (Go.bits .and .u64 a1 4294967295))) / 4294967296))) / 4294967296))) + ((IntKind.u64.wrap ((Go.bits .and .u64 (IntKind.u64.wrap ((IntKind.u64.wrap ((a0 / 4294967296) * (Go.bits .and .u64 a1 4294967295))) + ((IntKind.u64.wrap ((Go.bits .and .u64 a0 4294967295) * (Go.bits .and .u64 a1 4294967295))) / 4294967296))) 4294967295) + (IntKind.u64.wrap ((Go.bits .and .u64 a0 4294967295) * (a1 / 4294967296))))) / 4294967296)), IntKind.u64.wrap (a0 * a1))
set_option maxHeartbeats 8000000 in
set_option maxRecDepth 100000 in
theorem bits_Mul64.calls (a0 : Int) (a1 : Int) (r1 : Int) (r2 : Int) (w : World) (h : bits_Mul64.f a0 a1 = some (r1, r2)) :
    Calls Try.prog 165 #[.int .u64 a0, .int .u64 a1] w fun e w' => e = .returned (.tuple #[.int .u64 r1, .int .u64 r2]) ∧ Drawn0 w w' := by
  have H : (some (IntKind.u64.wrap ((IntKind.u64.wrap ((IntKind.u64.wrap ((a0 / 4294967296) * (a1 / 4294967296))) + ((IntKind.u64.wrap ((IntKind.u64.wrap ((a0 / 4294967296) * (Go.bits .and .u64 a1 4294967295))) + ((IntKind.u64.wrap ((Go.bits .and .u64 a0 4294967295) * (Go.bits .and .u64 a1 4294967295))) / 4294967296))) / 4294967296))) + ((IntKind.u64.wrap ((Go.bits .and .u64 (IntKind.u64.wrap ((IntKind.u64.wrap ((a0 / 4294967296) * (Go.bits .and .u64 a1 4294967295))) + ((IntKind.u64.wrap ((Go.bits .and .u64 a0 4294967295) * (Go.bits .and .u64 a1 4294967295))) / 4294967296))) 4294967295) + (IntKind.u64.wrap ((Go.bits .and .u64 a0 4294967295) * (a1 / 4294967296))))) / 4294967296)), IntKind.u64.wrap (a0 * a1))) = some (r1, r2) := h
  clear h
  simp only [Option.some.injEq, Prod.mk.injEq] at H
  obtain ⟨rfl, rfl⟩ := H
  go_enter Try.func165, Try.ntmps165
  go_wp2
  go_ret2
  exact ⟨by first | rfl | (simp; done) | (simp [*]; done), by repeat (first | exact Drawn0.refl _ | apply Drawn0.step)⟩

/-! ### bits_Mul: function 152 -/
def bits_Mul.f (a0 : Int) (a1 : Int) : Option (Int × Int) := (bits_Mul64.f a0 a1).bind fun bt115 => (some (bt115.1, bt115.2))
set_option maxHeartbeats 8000000 in
set_option maxRecDepth 100000 in
theorem bits_Mul.calls (a0 : Int) (a1 : Int) (r1 : Int) (r2 : Int) (w : World) (h : bits_Mul.f a0 a1 = some (r1, r2)) :
    Calls Try.prog 152 #[.int .u64 a0, .int .u64 a1] w fun e w' => e = .returned (.tuple #[.int .u64 r1, .int .u64 r2]) ∧ Drawn0 w w' := by
  have H : ((bits_Mul64.f a0 a1).bind fun bt115 => (some (bt115.1, bt115.2))) = some (r1, r2) := h
  clear h
  replace H := Option.bind_eq_some_iff.mp H
  obtain ⟨⟨t115, t116⟩, A30, H⟩ := H
  replace H : (some (t115, t116)) = some (r1, r2) := H
  have A3 := Aside0.mk A30
  clear A30
  simp only [Option.some.injEq, Prod.mk.injEq] at H
  obtain ⟨rfl, rfl⟩ := H
  go_enter Try.func152, Try.ntmps152
  go_wp2_with (first | ((with_reducible refine gate_callee (f := 165) rfl ?_); refine goesL_ (some 25) rfl rfl Try.func165 (by kernel_rfl) rfl #[.int .u64 a0, .int .u64 a1] rfl (by (try simp only [List.map_toArray, List.map_cons, List.map_nil]); first | done | rfl | (simp only [List.length_drop, List.length_take]; rfl)) ?_; (with_reducible refine (bits_Mul64.calls a0 a1 t115 t116 _ A3.out).mono ?_); rintro e w' ⟨rfl, ⟨nd, rfl⟩⟩; refine ⟨_, rfl, ?_⟩))
  go_ret2
  exact ⟨by first | rfl | (simp; done) | (simp [*]; done), by repeat (first | exact Drawn0.refl _ | apply Drawn0.step)⟩

/-! ### api_RSpan_118: function 118 -/
theorem api_RSpan_118.mul1 (a : Int) (h0 : 0 ≤ a) (h1 : a < 4294967296) : bits_Mul.f 1 a = some (0, a) := by
  have e1 : a / 4294967296 = 0 := by omega
  have e2 : Go.bits .and .u64 a 4294967295 = a := by
    have := bits_mask .u64 64 (by decide) (fun n h0 h1 => by simp [IntKind.wrap, IntKind.signed, IntKind.bits]; omega) 32 (by decide) a h0 (by omega)
    have h2 : (2 : Int) ^ 32 - 1 = 4294967295 := by decide
    rw [h2] at this
    rw [this]
    omega
  have e3 : Go.bits .and .u64 1 4294967295 = 1 := by decide
  have w : ∀ n : Int, 0 ≤ n → n < 18446744073709551616 → IntKind.u64.wrap n = n := fun n h0 h1 => by simp [IntKind.wrap, IntKind.signed, IntKind.bits]; omega
  unfold bits_Mul.f bits_Mul64.f
  simp only [Option.bind_some, e1, e2, e3, show (1 : Int) / 4294967296 = 0 by decide, Int.zero_mul, Int.mul_zero, Int.one_mul, w 0 (by decide) (by decide), w a h0 (by omega), Int.zero_add, Int.add_zero, Int.zero_ediv]
  rw [show Go.bits .and .u64 0 4294967295 = 0 by decide]
  simp [w 0 (by decide) (by decide)]
def api_RSpan_118.f (l0 : List (S129)) (n : Int) : Option (List (S129)) := if l0.length = 1 ∧ 0 ≤ n ∧ n < 2147483648 then some (List.replicate n.toNat (rd_T129 l0 0)) else none
theorem api_RSpan_118.flat : YtlojkphocbbjdaaW.Cpy.Flat k129 := (fun h => by rw [k129_openM h]; exact k129_mkM _ _ _ _)
set_option maxHeartbeats 4000000 in
set_option maxRecDepth 100000 in
theorem api_RSpan_118.calls (A0 : Option Addr) (c0 : Nat) (l0 : List (S129)) (a1 : Int) (r : List (S129)) (w : World) (hr0 : Kd.C k129 w A0 l0.length l0) (hc0 : l0.length ≤ c0) (h : api_RSpan_118.f l0 a1 = some r) :
    Calls Try.prog 118 #[.slice A0 l0.length c0, .int .i64 a1] w fun e w' => ∃ v0_ : Value, e = .returned v0_ ∧ Kd.R k129 129 w' w.heap.size (fun _ => True) v0_ r ∧ Below w.heap.size w w' := by
  unfold api_RSpan_118.f at h
  split at h
  case isFalse => cases h
  rename_i hok
  obtain ⟨hl1, hn0, hn1⟩ := hok
  obtain rfl := Option.some.inj h
  obtain ⟨ad, cs, e, hcl, hKx, hcx⟩ := Kd.C_get hr0 z129 0 (by omega) (by omega)
  cases e
  rw [hl1] at hr0 hc0 ⊢
  have hKx2 : k129.K w (rd_T129 l0 0) cs := hKx
  generalize (rd_T129 l0 0) = x at *
  have HMUL := Aside0.mk (api_RSpan_118.mul1 a1 hn0 (by omega))
  have HM : Aside0 (∀ (W : World) (b : Nat) (ok : Nat → Prop), k129.M W b ok x cs) := ⟨fun W b ok => (by rw [k129_open hKx2]; exact k129_mkM _ _ _ _)⟩
  have HCX : Aside0 (∀ j u, cs[j]? = some u → w.cell? (ad.add j) = some u) := ⟨fun j u hj => by have := hcx j u hj; simpa using this⟩
  obtain ⟨i0, hi0, hz0⟩ := Option.map_eq_some_iff.1 info129
  have HSZ : Aside0 ((Try.prog.info? 129).map (·.size) = some k129.sz) := ⟨by rw [hi0]; simp only [Prod.mk.injEq] at hz0; simp only [Option.map_some]; rw [hz0.2.1]; rfl⟩
  have HI0 := Aside0.mk hi0
  have HZ0 := Aside0.mk (show i0.size = 2 by simp only [Prod.mk.injEq] at hz0; exact hz0.2.1)
  clear h hr0 hl1 hc0 hKx hKx2 hcx hcl hi0 hz0
  have hwu : IntKind.u64.wrap a1 = a1 := by simp [IntKind.wrap, IntKind.signed, IntKind.bits]; omega
  have hwi : IntKind.i64.wrap a1 = a1 := by simp [IntKind.wrap, IntKind.signed, IntKind.bits]; omega
  have hlt0 : decide (a1 < 0) = false := decide_eq_false (by omega)
  have hgt : decide (a1 > 9223372036854775807) = false := decide_eq_false (by omega)
  have hgt2 : decide ((9223372036854775807 : Int) < a1) = false := decide_eq_false (by omega)
  have HN0 := Aside0.mk hn0
  have HN1 := Aside0.mk hn1
  rcases Int.lt_or_le 0 a1 with hp | hp
  · obtain ⟨N, hN⟩ : ∃ N : Nat, N = a1.toNat := ⟨_, rfl⟩
    have HNN := Aside0.mk hN
    have HNP := Aside0.mk (show 0 < N by omega)
    have HNA := Aside0.mk (show a1 = (N : Int) by omega)
    clear hN hp
    go_enter Try.func118, Try.ntmps118
    go_wp2_with (first | (go_at_call 152; refine (bits_Mul.calls 1 a1 0 a1 _ HMUL.out).mono ?_; rintro e w2 ⟨rfl, hd⟩; have HB2 := Aside0.mk hd.below; clear hd) | ((with_reducible refine gate_dst (N := 30) rfl ?_); refine Kd.R_make k129 (w0 := w) w.heap.size 129 rfl (N := 30) rfl 125 (.tmp 29) (.tmp 29) rfl a1 rfl rfl Try.underlying125 ((.agg #[(.int .i64 0), (.int .i64 0)])) 16 info129 rfl (by decide) (by decide) z129 (ok := fun _ => True) (okp := fun _ => False) (k129_mkM _ _ _ z129) (fun _ h => h.elim) trivial HN0.out ?aL HB2.out HB2.out.size ?_; (case aL => have := HN1.out; omega); intro v1 w3 hr hb hg hat; obtain ⟨g, cp, hv, hgb, hgl, _⟩ := Kd.R_form hr (by rw [List.length_replicate]; have := HNN.out; have := HNP.out; omega); rw [List.length_replicate, ← HNN.out] at hv; subst hv; rw [← HNN.out, ← YtlojkphocbbjdaaW.Cpy.fill_none x z129 N] at hr; have HR3 := Aside0.mk hr; have HB3 := Aside0.mk hb; have HGB := Aside0.mk hgb; clear hr hb hg hat hgb hgl) | ((with_reducible refine gate_builtin (b := .copy) (xs := #[.tmp 31, .tmp 32]) rfl ?_); obtain ⟨w4, hrun, hr4, hg4⟩ := YtlojkphocbbjdaaW.Cpy.copy_first (P := Try.prog) api_RSpan_118.flat (by decide) HR3.out HNP.out (HM.out _ _ _) (fun j v hj => (HB3.out.cell (World.block_lt_of_cell? w _ (HCX.out j v hj))).trans (HCX.out j v hj)) 125 3 c0 Try.underlying125 HSZ.out; refine YtlojkphocbbjdaaW.Cpy.copy_event rfl (.tmp 31) (.tmp 32) 125 125 (.slice (some ⟨g, 0, none⟩) N cp) (.slice (some ad) 1 c0) rfl rfl rfl hrun ?_; have HR4 := Aside0.mk hr4; have HB4 := Aside0.mk (HB3.out.grown hg4 HB3.out.size (fun k hk => by injection hk with hk; rw [← hk]; exact HGB.out)); clear HR3 HB3 hrun hr4 hg4))
    go_loopw [8] (fun v8 wr => ∃ i : Int, v8 = .int .i64 i ∧ Aside0 (1 ≤ i ∧ i ≤ N) ∧ Aside0 (Kd.R k129 129 wr w.heap.size (fun _ => True) (.slice (some ⟨g, 0, none⟩) N cp) (YtlojkphocbbjdaaW.Cpy.fill x z129 N i.toNat)) ∧ Aside0 (Below w.heap.size w wr)) (fun v8 _ => N - (intOf v8).toNat)
    case atStart => exact ⟨1, rfl, ⟨by have := HNP.out; omega⟩, HR4, HB4⟩
    case round =>
      clear HR4 HB4
      obtain ⟨i, rfl, Hi, HR, HB⟩ := hrel
      have hi1 : 1 ≤ i := Hi.out.1
      have hi0 : 0 ≤ i := by omega
      have HCP := Aside0.mk (Kd.R_reads' HR.out).2.1
      by_cases hlt : i < (N : Int)
      · have ht : decide (i < (N : Int)) = true := decide_eq_true hlt
        have hs1 : ∀ W : World, (Instr.slice 125 (.slice (some ⟨g, 0, none⟩) N cp) (some (.int .i64 i)) none none).run Try.prog W = .ok (.slice (some ⟨g, i.toNat * 2, none⟩) (N - i.toNat) (cp - i.toNat)) W := by
          intro W
          rw [cut_from 125 129 .i64 Try.underlying125 HI0.out 2 HZ0.out (some ⟨g, 0, none⟩) N cp i hi0 (by omega) W, if_neg (by have := HCP.out; omega)]
          simp only [Option.map_some, Addr.add]
          rw [if_neg (by omega), Nat.zero_add]
        have hs2 : ∀ W : World, (Instr.slice 125 (.slice (some ⟨g, 0, none⟩) N cp) none (some (.int .i64 i)) none).run Try.prog W = .ok (.slice (some ⟨g, 0, none⟩) i.toNat cp) W :=
          cut_to 125 129 .i64 Try.underlying125 HI0.out (some ⟨g, 0, none⟩) N cp i hi0 (by omega) HCP.out
        have HR5 := Aside0.mk (Kd.R_drew HR.out)
        have HB5 := Aside0.mk (below_drew HB.out)
        obtain ⟨w6, m, hrun, hm1, hm2, hr6, hg6⟩ := YtlojkphocbbjdaaW.Cpy.copy_self (P := Try.prog) api_RSpan_118.flat (by decide) HR5.out hi1 hlt 125 3 (cp - i.toNat) cp Try.underlying125 HSZ.out
        have HRUN := Aside0.mk hrun
        have HR6 := Aside0.mk hr6
        have HB6 := Aside0.mk (HB5.out.grown hg6 HB5.out.size (fun k hk => by injection hk with hk; rw [← hk]; exact HGB.out))
        have HW := Aside0.mk (show wrap64 (i + m) = i + m by have := HN1.out; have := HNA.out; unfold wrap64; omega)
        have HW2 := Aside0.mk (show IntKind.i64.wrap (i + m) = i + m by have := HN1.out; have := HNA.out; simp [IntKind.wrap, IntKind.signed, IntKind.bits]; omega)
        clear hrun hr6 hg6
        go_wp2
        go_region_held3 (fun _ => True) (trivial) ((refine YtlojkphocbbjdaaW.Cpy.step_copy rfl (.tmp 41) (.tmp 44) 125 125 (.slice (some ⟨g, i.toNat * 2, none⟩) (N - i.toNat) (cp - i.toNat)) (.slice (some ⟨g, 0, none⟩) i.toNat cp) rfl rfl rfl HRUN.out ?_))
        all_goals
          go_wp2
          go_roundw
          case rel => exact ⟨i + m, by first | rw [HW2.out] | rw [HW.out] | rfl, ⟨by omega⟩, HR6, HB6⟩
          case measure => simp only [intOf]; (try rw [HW2.out]); (try rw [HW.out]); omega
      · have ht : decide (i < (N : Int)) = false := decide_eq_false hlt
        obtain rfl : i = (N : Int) := by have := Hi.out.2; omega
        have hr := HR.out
        rw [Int.toNat_natCast, YtlojkphocbbjdaaW.Cpy.fill_all, HNN.out] at hr
        rw [← HNN.out] at hr
        have HR2 := Aside0.mk hr
        clear hr HR
        go_wp2
        go_ret
        exact ⟨_, rfl, by rw [← HNN.out]; exact HR2.out, HB.out⟩
  · obtain rfl : a1 = 0 := by omega
    go_enter Try.func118, Try.ntmps118
    go_wp2_with (first | (go_at_call 152; refine (bits_Mul.calls 1 0 0 0 _ HMUL.out).mono ?_; rintro e w2 ⟨rfl, hd⟩; have HB2 := Aside0.mk hd.below; clear hd) | ((with_reducible refine gate_dst (N := 30) rfl ?_); refine Kd.R_make k129 (w0 := w) w.heap.size 129 rfl (N := 30) rfl 125 (.tmp 29) (.tmp 29) rfl 0 rfl rfl Try.underlying125 ((.agg #[(.int .i64 0), (.int .i64 0)])) 16 info129 rfl (by decide) (by decide) z129 (ok := fun _ => True) (okp := fun _ => False) (k129_mkM _ _ _ z129) (fun _ h => h.elim) trivial HN0.out ?aL HB2.out HB2.out.size ?_; (case aL => simp); intro v1 w3 hr hb hg hat; obtain ⟨A1, c1, hv⟩ := Kd.R_slice hr; subst hv; have HR3 := Aside0.mk hr; have HB3 := Aside0.mk hb; clear hr hb hg hat) | ((with_reducible refine gate_builtin (b := .copy) (xs := #[.tmp 31, .tmp 32]) rfl ?_); refine YtlojkphocbbjdaaW.Cpy.copy_event rfl (.tmp 31) (.tmp 32) 125 125 (.slice A1 0 c1) (.slice (some ad) 1 c0) rfl rfl rfl (YtlojkphocbbjdaaW.Cpy.run_copy_nil _ 125 125 _ 129 _ _ _ _ _ _ _ Try.underlying125 HSZ.out rfl) ?_))
    go_loopw [8] (fun v8 wr => v8 = .int .i64 0 ∧ Aside0 (wr = w3)) (fun v8 _ => 0)
    case atStart => exact ⟨rfl, ⟨rfl⟩⟩
    case round =>
      obtain ⟨rfl, Hw⟩ := hrel
      go_wp2
      go_ret
      exact ⟨_, rfl, by rw [Hw.out]; exact HR3.out, by rw [Hw.out]; exact HB3.out⟩

end Go.Proofs.Ytlojkphocbbjdaa.PLiveTells
