-- Printed for this claim by a program of this session (inj.py), beside the kit's print. Not trusted: Lean checks it.
import Derived.Test.YtlojkphocbbjdaaPWeakTellsx0
import Derived.Test.YtlojkphocbbjdaaPWeakTellsx2
namespace Go.Proofs.Ytlojkphocbbjdaa.PWeakTells
open Go.RowKit Go.Proofs.YtlojkphocbbjdaaW.PrintWords Go.Proofs.YtlojkphocbbjdaaW.PrintLast Go.Proofs.YtlojkphocbbjdaaW.PrintMore
attribute [local go_sem] max2_int min2_int max_two min_two max_three min_three max_four min_four   -- for this text's walks alone
set_option linter.unusedVariables false
set_option linter.unusedSimpArgs false

/-! ### weak_reacher_reach: function 142 -/
/-- The reacher at block b: what it goes over, what was seen, what is to be done. -/
structure ReIs (w : World) (base b : Nat) (H : Value) (R : Value) (vs vt : Value) (seen : List Bool) (todo : List Int) : Prop where
  blk : w.heap[b]? = some (.cells #[H, R, vs, vt] 204 (0, 0))
  hb : base ≤ b
  seen : Kd.R Kd.bool 4 w base (fun _ => True) vs seen
  todo : Kd.R (Kd.int .i64) 3 w base (fun _ => True) vt todo
/-- What is written: the reacher's own. -/
def ReOwn (b : Nat) (vs vt : Value) (k : Nat) : Prop := k = b ∨ some k = vs.ownBlock ∨ some k = vt.ownBlock
/-- Some numbers are reached: none if one is no thing's. -/
def reachS : List Int → List Bool → List Int → Option (List Bool × List Int)
  | [], s, t => some (s, t)
  | n :: l, s, t => if 0 ≤ n ∧ n < s.length then (if rdOf false s n = true then reachS l s t else if t.length < 17592186044416 then reachS l (s.set n.toNat true) (t ++ [n]) else none) else none
theorem ReIs.drewN {w : World} {base b : Nat} {H R vs vt : Value} {seen : List Bool} {todo : List Int} (h : ReIs w base b H R vs vt seen todo) (n : Nat) : ReIs (w.drewN n) base b H R vs vt seen todo :=
  ⟨h.blk, h.hb, Kd.R_drewN h.seen n, Kd.R_drewN h.todo n⟩
theorem ReIs.alloc {w : World} {base b : Nat} {H R vs vt : Value} {seen : List Bool} {todo : List Int} (h : ReIs w base b H R vs vt seen todo) (o : Obj) : ReIs (w.alloc o) base b H R vs vt seen todo :=
  ⟨blk_alloc h.blk o, h.hb, Kd.R_alloc h.seen o, Kd.R_alloc h.todo o⟩
theorem ReIs.ne_s {w : World} {base b : Nat} {H R vs vt : Value} {seen : List Bool} {todo : List Int} (h : ReIs w base b H R vs vt seen todo) : some b ≠ vs.ownBlock := Kd.R_ne h.seen h.blk (by decide)
theorem ReIs.ne_t {w : World} {base b : Nat} {H R vs vt : Value} {seen : List Bool} {todo : List Int} (h : ReIs w base b H R vs vt seen todo) : some b ≠ vt.ownBlock := Kd.R_ne h.todo h.blk (by decide)
theorem ReIs.ne_st {w : World} {base b : Nat} {H R vs vt : Value} {seen : List Bool} {todo : List Int} (h : ReIs w base b H R vs vt seen todo) (k : Nat) (h1 : some k = vs.ownBlock) (h2 : some k = vt.ownBlock) : False := by
  obtain ⟨c1, e1⟩ := Kd.R_typed h.seen k h1.symm
  obtain ⟨c2, e2⟩ := Kd.R_typed h.todo k h2.symm
  rw [e1] at e2
  simp at e2
/-- What lies apart is as it was. -/
theorem ReIs.kept {w w1 : World} {base b : Nat} {H R vs vt : Value} {seen : List Bool} {todo : List Int} {S : Nat → Prop} (h : ReIs w base b H R vs vt seen todo) (hk : Kept w w1 S) (hs : ∀ k, ReOwn b vs vt k → ¬ S k) : ReIs w1 base b H R vs vt seen todo :=
  ⟨blk_kept h.blk hk (hs b (.inl rfl)), h.hb, Kd.R_mono (Kd.R_kept (Kd.R_mono (ok' := fun k => some k = vs.ownBlock) (Kd.R_tight rfl h.seen) (fun _ hk => hk)) hk (fun k hk => hs k (.inr (.inl hk)))) (fun _ _ => trivial),
    Kd.R_mono (Kd.R_kept (Kd.R_mono (ok' := fun k => some k = vt.ownBlock) (Kd.R_tight rfl h.todo) (fun _ hk => hk)) hk (fun k hk => hs k (.inr (.inr hk)))) (fun _ _ => trivial)⟩
theorem ReIs.mark {w : World} {base b g n cap : Nat} {H R vt : Value} {seen : List Bool} {todo : List Int} (h : ReIs w base b H R (.slice (some ⟨g, 0, none⟩) n cap) vt seen todo) (i : Int) : ReIs (w.setCell ⟨g, i.toNat, none⟩ (.bool true)) base b H R (.slice (some ⟨g, 0, none⟩) n cap) vt (seen.set i.toNat true) todo := by
  have hne := h.ne_s
  have hne2 := h.ne_st
  refine ⟨(Below.heap_setCell w _ _ b (fun e => hne (by rw [e]; rfl))).trans h.blk, h.hb, Kd.R_putn h.seen i true, ?_⟩
  exact Kd.R_mono (Kd.R_far (p := ⟨g, i.toNat, none⟩) (Kd.R_tight rfl h.todo) (fun k hk e => hne2 k (by rw [e]; rfl) hk) _) (fun _ _ => trivial)
theorem ReIs.push {w w1 : World} {base b : Nat} {H R vs vt v1 : Value} {seen : List Bool} {todo todo' : List Int} (h : ReIs w base b H R vs vt seen todo) (hR : Kd.R (Kd.int .i64) 3 w1 base (fun _ => True) v1 todo') (hg : w.grownBy w1 vt.ownBlock) : ReIs (w1.setCell ⟨b, 3, none⟩ v1) base b H R vs v1 seen todo' := by
  have hb1 : w1.heap[b]? = some (.cells #[H, R, vs, vt] 204 (0, 0)) := (hg.block b (blk_lt h.blk) h.ne_t).trans h.blk
  have hne2 := h.ne_st
  have hnb : some b ≠ v1.ownBlock := Kd.R_ne hR hb1 (by decide)
  have hns := h.ne_s
  refine ⟨blk_put hb1 3 v1 rfl, h.hb, ?_, ?_⟩
  · exact Kd.R_mono (Kd.R_far (p := ⟨b, 3, none⟩) (Kd.R_grown (Kd.R_tight rfl h.seen) hg (fun k hk e => hne2 k hk e)) (fun k hk e => hns (by have e' : k = b := e; rw [← e']; exact hk)) _) (fun _ _ => trivial)
  · exact Kd.R_mono (Kd.R_far (p := ⟨b, 3, none⟩) (Kd.R_tight rfl hR) (fun k hk e => hnb (by have e' : k = b := e; rw [← e']; exact hk)) _) (fun _ _ => trivial)
theorem ReIs.cut {w : World} {base b m n c : Nat} {A : Option Addr} {H R vs : Value} {seen : List Bool} {todo : List Int} (h : ReIs w base b H R vs (.slice A n c) seen todo) (hm : m ≤ todo.length) : ReIs (w.setCell ⟨b, 3, none⟩ (.slice A m c)) base b H R vs (.slice A m c) seen (todo.take m) :=
  h.push (Kd.R_take h.todo hm) (World.grownBy.refl w _)
set_option maxHeartbeats 4000000 in
set_option maxRecDepth 100000 in
theorem reach_walk (w0 : World) (b : Nat) (H R vs vt : Value) (seen : List Bool) (todo : List Int) (A : Option Addr) (c : Nat) (l : List Int) (okl : Nat → Prop) (s' : List Bool) (t' : List Int) (w : World)
    (hI : ReIs w w0.heap.size b H R vs vt seen todo) (hB : Below w0.heap.size w0 w) (hl : Kd.F (Kd.int .i64) w okl A l.length l) (hok : ∀ k, okl k → ¬ ReOwn b vs vt k) (h : reachS l seen todo = some (s', t')) :
    Calls Try.prog 142 #[.pointer (some ⟨b, 0, none⟩), .slice A l.length c] w fun e w' => ∃ vt' : Value, e = .returned (.tuple #[]) ∧ ReIs w' w0.heap.size b H R vs vt' s' t' ∧ Below w0.heap.size w0 w' ∧ Kept w w' (ReOwn b vs vt) ∧ (vt'.ownBlock = vt.ownBlock ∨ ∃ k, vt'.ownBlock = some k ∧ w.heap.size ≤ k) := by
  have HI := Aside0.mk hI
  have HBB := Aside0.mk hB
  have HL := Aside0.mk (Kd.F_bound hl)
  have HOK := Aside0.mk hok
  have HN := Aside0.mk (Kd.F_max hl)
  have HS := Aside0.mk h
  have HZ := Aside0.mk hB.size
  clear hI hB hl hok h
  go_enter Try.func142, Try.ntmps142
  go_wp2
  go_loopw [8] (fun v8 wr => ∃ (i : Int) (s : List Bool) (t : List Int) (vt1 : Value), v8 = .int .i64 i ∧ Aside0 (0 ≤ i ∧ i ≤ l.length) ∧ Aside0 (reachS (l.drop i.toNat) s t = some (s', t')) ∧ Aside0 (ReIs wr w0.heap.size b H R vs vt1 s t) ∧ Aside0 (Below w0.heap.size w0 wr) ∧ Aside0 (Kept w wr (ReOwn b vs vt)) ∧ Aside0 (vt1.ownBlock = vt.ownBlock ∨ ∃ k, vt1.ownBlock = some k ∧ w.heap.size ≤ k)) (fun v8 _ => l.length - (intOf v8).toNat)
  case atStart => exact ⟨0, seen, todo, vt, rfl, ⟨by omega⟩, ⟨by simpa using HS.out⟩, HI, HBB, ⟨Kept.refl _ _⟩, ⟨.inl rfl⟩⟩
  case round =>
    clear HI HBB
    obtain ⟨i, s, t, vt1, rfl, Hi, HX, HI, HB, HK, HV⟩ := hrel
    have hi0 : 0 ≤ i := Hi.out.1
    have HW := Aside0.mk (show i < (l.length : Int) → wrap64 (i + 1) = i + 1 by intro h; have := HN.out; unfold wrap64; omega)
    by_cases hlt : i < (l.length : Int)
    · have ht : decide (i < (l.length : Int)) = true := decide_eq_true hlt
      have hd : l.drop i.toNat = rd l i :: l.drop (i + 1).toNat := by
        rw [List.drop_eq_getElem_cons (by omega), show (i + 1).toNat = i.toNat + 1 by omega]
        congr 1
        rw [rd, List.getD_eq_getElem?_getD, List.getElem?_eq_getElem (by omega), Option.getD_some]
      have hx := HX.out
      rw [hd, reachS] at hx
      have HFl := Aside0.mk (Kd.F_kept HL.out HK.out (fun k hk => HOK.out k hk.1))
      obtain ⟨ad, e, h1⟩ := Kd.at_int (Kd.F_now HFl.out) i hi0 hlt
      cases e
      clear hd
      by_cases hr : 0 ≤ rd l i ∧ rd l i < s.length
      · rw [if_pos hr] at hx
        obtain ⟨hr0, hr1⟩ := hr
        -- the seen row's form
        have hform : ∃ g cap, vs = .slice (some ⟨g, 0, none⟩) s.length cap := by
          obtain ⟨inner, ho⟩ := Kd.R_own HI.out.seen
          rcases ho.2 with ⟨_, h0⟩ | ⟨g, cap, cur, hv, _⟩
          · omega
          · exact ⟨g, cap, hv⟩
        obtain ⟨gs, cs, rfl⟩ := hform
        obtain ⟨hs1, hs2⟩ := Kd.R_celln false HI.out.seen (rd l i) hr0 hr1
        have hb0 : wr.cell? ⟨b, 0, none⟩ = some H := by simp [World.cell?, HI.out.blk]
        have hb2 : wr.cell? ⟨b, 2, none⟩ = some (.slice (some ⟨gs, 0, none⟩) s.length cs) := by simp [World.cell?, HI.out.blk]
        have hb3 : wr.cell? ⟨b, 3, none⟩ = some vt1 := by simp [World.cell?, HI.out.blk]
        have hf3 : wr.frozen? ⟨b, 3, none⟩ = false := by simp [World.frozen?, HI.out.blk]
        rcases hsn : rdOf false s (rd l i) with _ | _
        · have HSN := Aside0.mk hsn
          rw [hsn] at hx hs1
          clear hsn
          have HX2 := Aside0.mk hx
          clear hx
          rw [if_neg (by simp)] at HX2
          have hx := HX2.out
          clear HX2
          split at hx
          · rename_i hlim
            have HX3 := Aside0.mk hx
            have HLIM := Aside0.mk hlim
            clear hx hlim
            have HI2 := Aside0.mk (HI.out.mark (rd l i))
            have HB2 := Aside0.mk (below_set HB.out (Kd.R_base HI.out.seen gs rfl) (g := gs) (j := (rd l i).toNat) (v := .bool true))
            have HK2 := Aside0.mk (Kept.setCell HK.out (p := ⟨gs, (rd l i).toNat, none⟩) (.inl (.inr (.inl rfl))) (.bool true))
            clear hb3 hf3
            go_wp2_with (first | ((with_reducible refine gate_store (t := 4) (p := 25) rfl ?_); refine store_event (t := 4) (p := 25) (v := .const (.bool true)) (w1 := wr.setCell ⟨gs, (rd l i).toNat, none⟩ (.bool true)) ?hg ?ho ?hn ?hr ?_; (case ho => rfl); (case hg => rfl); (case hn => rfl); (case hr => first | (go_simp; done) | (go_simp; rfl)); intro w2 hw; rw [← hw] at HI2 HB2 HK2; have hb3 : w2.cell? ⟨b, 3, none⟩ = some vt1 := (by simp [World.cell?, HI2.out.blk]); have hf3 : w2.frozen? ⟨b, 3, none⟩ = false := (by simp [World.frozen?, HI2.out.blk]); clear hw) | ((with_reducible refine gate_builtin (b := .append) (xs := #[.tmp 30, .tmp 32]) rfl ?_); (try (refine gate_guard (by rfl) ?_; dsimp only)); at_builtin; refine Kd.R_append (Kd.int .i64) (w0 := w0) w0.heap.size rfl (.tmp 30) (.tmp 32) 40 3 (.int .i64 0) 8 rfl Try.underlying40 info3 rfl (by decide) (by omega) vt1 t (rd l i) [.int .i64 (rd l i)] (fun _ => True) (fun _ => False) rfl rfl rfl (fun _ hk => hk.elim) (fun _ _ => trivial) HI2.out.todo HB2.out HB2.out.size ?aL ?_; (case aL => have := HLIM.out; omega); intro v1 w3 ho hb hg hat; obtain ⟨A1, n1, c1, rfl⟩ : ∃ A1 n1 c1, v1 = .slice A1 n1 c1 := (let ⟨A_, c_, h_⟩ := Kd.R_slice ho; ⟨A_, _, c_, h_⟩); have HI3 := Aside0.mk (HI2.out.push ho hg); have hb33 : w3.cell? ⟨b, 3, none⟩ = some vt1 := (by have hbk := (hg.block b (blk_lt HI2.out.blk) HI2.out.ne_t).trans HI2.out.blk; simp [World.cell?, hbk]); have hf33 : w3.frozen? ⟨b, 3, none⟩ = false := (by have hbk := (hg.block b (blk_lt HI2.out.blk) HI2.out.ne_t).trans HI2.out.blk; simp [World.frozen?, hbk]); have HB3 := Aside0.mk (below_set hb HI2.out.hb (g := b) (j := 3) (v := .slice A1 n1 c1)); have HK3 := Aside0.mk (Kept.setCell (Kept.of_grown hg HK2.out (fun k hk => by rcases HV.out with hv | ⟨k2, hv, hle⟩ <;> (rw [hv] at hk; first | exact .inl (.inr (.inr hk.symm)) | (injection hk with hk; exact .inr (by omega))))) (p := ⟨b, 3, none⟩) (.inl (.inl rfl)) (.slice A1 n1 c1)); have HV3 := Aside0.mk (show (Value.slice A1 n1 c1).ownBlock = vt.ownBlock ∨ ∃ k, (Value.slice A1 n1 c1).ownBlock = some k ∧ w.heap.size ≤ k from by rcases hat with hv | ⟨k2, hv, hle⟩ <;> first | (rw [hv]; exact HV.out) | exact .inr ⟨k2, hv, Nat.le_trans HK2.out.1 hle⟩); clear ho hb hg hat hb3 hf3))
            go_roundw
            case rel => exact ⟨i + 1, s.set (rd l i).toNat true, t ++ [rd l i], _, by first | rw [HW.out hlt] | rfl, ⟨by omega⟩, HX3, HI3, HB3, HK3, HV3⟩
            case measure => simp only [intOf]; (try rw [HW.out hlt]); omega
          · cases hx
        · have HSN := Aside0.mk hsn
          rw [hsn] at hx hs1
          rw [if_pos rfl] at hx
          clear hsn
          have HX2 := Aside0.mk hx
          clear hx
          go_wp2
          go_roundw
          case rel => exact ⟨i + 1, s, t, vt1, by first | rw [HW.out hlt] | rfl, ⟨by omega⟩, HX2, HI, HB, HK, HV⟩
          case measure => simp only [intOf]; (try rw [HW.out hlt]); omega
      · rw [if_neg hr] at hx
        cases hx
    · have ht : decide (i < (l.length : Int)) = false := decide_eq_false hlt
      have hx := HX.out
      rw [List.drop_eq_nil_of_le (by omega), reachS] at hx
      obtain ⟨rfl, rfl⟩ : s = s' ∧ t = t' := by simpa using hx
      clear hx
      go_wp2
      go_end0
      exact ⟨rfl, vt1, HI.out, HB.out, HK.out, HV.out⟩

/-! ### weak_reacher_all: function 143 -/
/-- Till nothing is to be done. -/
def allS (has : List (List Int)) : Nat → List Bool → List Int → Option (List Bool)
  | 0, _, _ => none
  | k + 1, s, t => if t.length = 0 then some s else if 0 ≤ rd t ((t.length : Int) - 1) ∧ rd t ((t.length : Int) - 1) < has.length then (reachS (rd_L1 has (rd t ((t.length : Int) - 1))) s (t.take (t.length - 1))).bind fun p => allS has k p.1 p.2 else none
theorem allS.mono (has : List (List Int)) : ∀ k s t, LeO (allS has k s t) (allS has (k + 1) s t)
  | 0, s, t => fun r h => by simp [allS] at h
  | k + 1, s, t => by
    unfold allS
    refine LeO.ite (LeO.refl _) (LeO.ite (LeO.bind (LeO.refl _) (fun p => allS.mono has k p.1 p.2)) (LeO.refl _))
set_option maxHeartbeats 4000000 in
set_option maxRecDepth 100000 in
theorem all_walk (w0 : World) (b : Nat) (has : List (List Int)) (Ah : Option Addr) (ch : Nat) (R vs vt : Value) (seen : List Bool) (todo : List Int) (k : Nat) (s' : List Bool) (w : World)
    (hI : ReIs w w0.heap.size b (.slice Ah has.length ch) R vs vt seen todo) (hB : Below w0.heap.size w0 w) (hh : Kd.C (Kd.slice 3 (Kd.int .i64)) w0 Ah has.length has) (h : allS has k seen todo = some s') :
    Calls Try.prog 143 #[.pointer (some ⟨b, 0, none⟩)] w fun e w' => e = .returned (.tuple #[]) ∧ ∃ vt' : Value, ReIs w' w0.heap.size b (.slice Ah has.length ch) R vs vt' s' [] ∧ Below w0.heap.size w0 w' ∧ Kept w w' (ReOwn b vs vt) ∧ (vt'.ownBlock = vt.ownBlock ∨ ∃ k, vt'.ownBlock = some k ∧ w.heap.size ≤ k) := by
  have HI := Aside0.mk hI
  have HBB := Aside0.mk hB
  have HH := Aside0.mk hh
  have HS := Aside0.mk h
  have HZ := Aside0.mk hB.size
  clear hI hB hh h
  go_enter Try.func143, Try.ntmps143
  go_wp2
  go_loopg [2] k (fun kq v2 wr => ∃ (s : List Bool) (t : List Int) (vt1 : Value), Aside0 (allS has kq s t = some s') ∧ Aside0 (ReIs wr w0.heap.size b (.slice Ah has.length ch) R vs vt1 s t) ∧ Aside0 (Below w0.heap.size w0 wr) ∧ Aside0 (Kept w wr (ReOwn b vs vt)) ∧ Aside0 (vt1.ownBlock = vt.ownBlock ∨ ∃ k, vt1.ownBlock = some k ∧ w.heap.size ≤ k))
  case atStart => exact ⟨seen, todo, vt, HS, HI, HBB, ⟨Kept.refl _ _⟩, ⟨.inl rfl⟩⟩
  case round =>
    clear HI HBB HS
    obtain ⟨s, t, vt1, HX, HI, HB, HK, HV⟩ := hrel
    cases gk with
    | zero => exact absurd HX.out (by simp [allS])
    | succ k1 =>
      have hx := HX.out
      rw [allS] at hx
      obtain ⟨At, ct, rfl⟩ := Kd.R_slice HI.out.todo
      have hct := (Kd.R_reads' HI.out.todo).2.1
      have hmx := (Kd.R_reads' HI.out.todo).2.2.2.1
      have hb3 : wr.cell? ⟨b, 3, none⟩ = some (.slice At t.length ct) := by simp [World.cell?, HI.out.blk]
      have hb0 : wr.cell? ⟨b, 0, none⟩ = some (.slice Ah has.length ch) := by simp [World.cell?, HI.out.blk]
      have hf3 : wr.frozen? ⟨b, 3, none⟩ = false := by simp [World.frozen?, HI.out.blk]
      by_cases h0 : t.length = 0
      · rw [if_pos h0] at hx
        obtain rfl := Option.some.inj hx
        obtain rfl := List.eq_nil_of_length_eq_zero h0
        clear hx
        go_wp2
        go_end0
        exact ⟨rfl, _, HI.out, HB.out, HK.out, HV.out⟩
      · rw [if_neg h0] at hx
        split at hx
        · rename_i hr
          obtain ⟨p, hp, hx⟩ := Option.bind_eq_some_iff.1 hx
          have HX2 := Aside0.mk hx
          have HP := Aside0.mk hp
          clear hx hp
          have hp0 : decide (0 < t.length) = true := decide_eq_true (by omega)
          have hp1 : decide ((0 : Int) < (t.length : Int)) = true := decide_eq_true (by omega)
          obtain ⟨m, hm⟩ : ∃ m : Int, m = (t.length : Int) - 1 := ⟨_, rfl⟩
          rw [← hm] at hr HP
          have hw1 : IntKind.i64.wrap ((t.length : Int) - 1) = m := by rw [IntKind.wrap_i64]; omega
          have hw3 : wrap64 ((t.length : Int) - 1) = m := by unfold wrap64; omega
          have hm0 : 0 ≤ m := by omega
          have hm1 : m < (t.length : Int) := by omega
          obtain ⟨adt, et, ht1⟩ := Kd.at_int (Kd.R_reads' HI.out.todo).2.2 m hm0 hm1
          cases et
          have HM := Aside0.mk hm
          clear hm
          have hm0' := eq_true hm0
          have hm1' := eq_true hm1
          obtain ⟨hr0, hr1⟩ := hr
          obtain ⟨adh, Al, cl, rfl, hh1, hlc, hlr⟩ := at_L1 HH.out (rd t m) hr0 hr1
          have HLR := Aside0.mk (Kd.C_F (Kd.heap_int .i64) hlr)
          have HH1 := Aside0.mk hh1
          clear hlr hh1
          have hsl : ∀ W : World, (Instr.slice 40 (.slice (some adt) t.length ct) none (some (.int .i64 m)) none).run Try.prog W = .ok (.slice (some adt) m.toNat ct) W := fun W => by
            have hti := info3
            obtain ⟨i0, hi, hz⟩ := Option.map_eq_some_iff.1 hti
            have h1 := (print_take_int (k := .i64) 40 3 Try.underlying40 hi (by simpa using (Prod.mk.inj (Prod.mk.inj hz).2).1) (some adt) ct t m hm0 (by omega) hct).1 W
            rw [List.length_take, Nat.min_eq_left (by omega)] at h1
            exact h1
          go_wp2
          go_quiet (fail)
          go_wp2
          have hb3q : (wr.drewN nq).cell? ⟨b, 3, none⟩ = some (.slice (some adt) t.length ct) := hb3
          have hf3q : (wr.drewN nq).frozen? ⟨b, 3, none⟩ = false := hf3
          have HIq := Aside0.mk (HI.out.drewN nq)
          have HBq := Aside0.mk (pw_below_drewN HB.out nq)
          have HKq := Aside0.mk (Kept.drewN HK.out nq)
          clear hb3 hf3 hb0 HI HB HK ht1
          generalize wr.drewN nq = wq at *
          go_still_tail 14, (by kernel_rfl)
          change wpList _ _ _ _ _ wq.drew
          have HI2 := Aside0.mk (ReIs.cut (m := m.toNat) (w := wq.drew) ⟨HIq.out.blk, HIq.out.hb, Kd.R_drew HIq.out.seen, Kd.R_drew HIq.out.todo⟩ (by omega))
          have HB2 := Aside0.mk (below_set (below_drew HBq.out) HIq.out.hb (g := b) (j := 3) (v := .slice (some adt) m.toNat ct))
          have HK2 := Aside0.mk (Kept.setCell (Kept.drew HKq.out) (p := ⟨b, 3, none⟩) (.inl (.inl rfl)) (.slice (some adt) m.toNat ct))
          refine store_event (t := 40) (p := 34) (v := .tmp 32) (w1 := wq.drew.setCell ⟨b, 3, none⟩ (.slice (some adt) m.toNat ct)) ?hg ?ho ?hn ?hr ?_
          case ho => rfl
          case hg => rfl
          case hn => rfl
          case hr => first | (go_simp; done) | (go_simp; rfl)
          intro w2 hw
          rw [← hw] at HI2 HB2 HK2
          clear hw hb3q hf3q HIq HBq HKq
          have hb0 : w2.cell? ⟨b, 0, none⟩ = some (.slice (some adh) has.length ch) := by simp [World.cell?, HI2.out.blk]
          have hh1 := (HB2.out.cell (World.block_lt_of_cell? w0 _ HH1.out)).trans HH1.out
          have HP2 := Aside0.mk (show reachS (rd_L1 has (rd t m)) s (t.take m.toNat) = some p by rw [show m.toNat = t.length - 1 by have := HM.out; omega]; exact HP.out)
          have HLR2 := Aside0.mk (Kd.F_step HLR.out (fun k hk _ => HB2.out.block k hk))
          have HOK := Aside0.mk (show ∀ k, k < w0.heap.size → ¬ ReOwn b vs (.slice (some adt) m.toNat ct) k from by
            intro k hk ho
            have h1 := HI2.out.hb
            rcases ho with rfl | ho | ho
            · omega
            · have := Kd.R_base HI2.out.seen k ho.symm; omega
            · have := Kd.R_base HI2.out.todo k ho.symm; omega)
          go_wp2_with (go_at_call 142; refine (reach_walk w0 b (.slice (some adh) has.length ch) R vs (.slice (some adt) m.toNat ct) s (t.take m.toNat) Al cl (rd_L1 has (rd t m)) (fun k => k < w0.heap.size) p.1 p.2 _ HI2.out HB2.out HLR2.out HOK.out (HP2.out.trans (by rfl))).mono ?_; rintro e w3 ⟨vt2, rfl, hi3, hb3, hk3, hv3⟩; have HI3 := Aside0.mk hi3; have HB3 := Aside0.mk hb3; have HV2 := Aside0.mk (show (Value.slice (some adt) m.toNat ct).ownBlock = vt.ownBlock ∨ ∃ k, (Value.slice (some adt) m.toNat ct).ownBlock = some k ∧ w.heap.size ≤ k from HV.out); have HK3 := Aside0.mk (Kept.then_ HK2.out hk3 (fun k hk => by rcases hk with hk | hk | hk <;> first | exact .inl (.inl hk) | exact .inl (.inr (.inl hk)) | (rcases HV2.out with hv | ⟨k2, hv, hle⟩ <;> (rw [hv] at hk; first | exact .inl (.inr (.inr hk)) | (injection hk with hk; exact .inr (by omega)))))); have HV3 := Aside0.mk (show vt2.ownBlock = vt.ownBlock ∨ ∃ k, vt2.ownBlock = some k ∧ w.heap.size ≤ k from by rcases hv3 with hv | ⟨k2, hv, hle⟩ <;> first | (rw [hv]; exact HV2.out) | exact .inr ⟨k2, hv, Nat.le_trans HK2.out.1 hle⟩); clear hi3 hb3 hk3 hv3 hb0 hh1)
          go_roundg k1
          case measure => omega
          case rel => exact ⟨p.1, p.2, vt2, HX2, HI3, HB3, HK3, HV3⟩
        · cases hx
theorem R_madeBools (w : World) (base n : Nat) (hb : base ≤ w.heap.size) (hn : n ≤ maxLen) : Kd.R Kd.bool 4 (w.alloc (.cells (madeCells #[.bool false] n) 4)) base (fun _ => True) (.slice (some ⟨w.heap.size, 0, none⟩) n n) (List.replicate n false) := by
  refine ⟨fun _ _ => trivial, (madeCells #[.bool false] n).toList, ⟨?_, .inr ⟨w.heap.size, n, madeCells #[.bool false] n, ?_, hb, YtlojkphocbbjdaaW.Bas.heap_alloc_self _ _, by simp, hn, ?_, ?_⟩⟩, ?_⟩
  · simp [size_madeCells, Kd.bool, Kd.scalar]
  · simp
  · simp [size_madeCells, Kd.bool, Kd.scalar]
  · simp [size_madeCells, Kd.bool, Kd.scalar]
    rw [List.take_of_length_le (by simp [size_madeCells])]
  · have hr := Kd.reps_made (R := fun (p : Bool) cs => cs = [Value.bool p]) (z := .bool false) (size := 1) (z0 := false) rfl (by omega) rfl n
    rw [Nat.mul_one] at hr
    exact hr
theorem ReIs.made (w : World) (o : Obj) (H R : Value) (n : Nat) (hn : n ≤ maxLen) :
    ReIs ((((w.alloc o).alloc (.cells (madeCells #[.bool false] n) 4)).alloc (.cells #[H, R, .slice (some ⟨w.heap.size + 1, 0, none⟩) n n, .slice none 0 0] 204)).drew) w.heap.size (w.heap.size + 1 + 1) H R (.slice (some ⟨w.heap.size + 1, 0, none⟩) n n) (.slice none 0 0) (List.replicate n false) [] := by
  refine ⟨?_, by omega, ?_, Kd.R_nil _ _ _ _ _⟩
  · have := YtlojkphocbbjdaaW.Bas.heap_alloc_self ((w.alloc o).alloc (.cells (madeCells #[.bool false] n) 4)) (.cells #[H, R, .slice (some ⟨w.heap.size + 1, 0, none⟩) n n, .slice none 0 0] 204)
    simp only [World.size_alloc] at this
    exact this
  · have := Kd.R_alloc (R_madeBools (w.alloc o) w.heap.size n (by simp) hn) (.cells #[H, R, .slice (some ⟨w.heap.size + 1, 0, none⟩) n n, .slice none 0 0] 204)
    simp only [World.size_alloc] at this
    exact Kd.R_drew this

/-! ### weak_live: function 98 -/
theorem R_one (w : World) (base : Nat) (v : Int) (hb : base ≤ w.heap.size) : Kd.R (Kd.int .i64) 3 (w.alloc (.cells #[.int .i64 v] 3)) base (fun k => k = w.heap.size) (.slice (some ⟨w.heap.size, 0, none⟩) 1 1) [v] := by
  refine ⟨fun k hk => by simpa [Value.ownBlock] using hk.symm, [.int .i64 v], ⟨?_, .inr ⟨w.heap.size, 1, #[.int .i64 v], ?_, hb, YtlojkphocbbjdaaW.Bas.heap_alloc_self _ _, by simp, by simp [maxLen], ?_, ?_⟩⟩, ?_⟩
  · simp [Kd.int, Kd.scalar]
  · simp
  · simp [Kd.int, Kd.scalar]
  · simp [Kd.int, Kd.scalar]
  · exact (Reps.none _ _).snoc (p := v) (c := [.int .i64 v]) rfl rfl
theorem ReIs.made2 (W : World) (base : Nat) (hb : base ≤ W.heap.size) (H R : Value) (n : Nat) (hn : n ≤ maxLen) :
    ReIs ((W.alloc (.cells (madeCells #[.bool false] n) 4)).alloc (.cells #[H, R, .slice (some ⟨W.heap.size, 0, none⟩) n n, .slice none 0 0] 204)).drew base (W.heap.size + 1) H R (.slice (some ⟨W.heap.size, 0, none⟩) n n) (.slice none 0 0) (List.replicate n false) [] := by
  refine ⟨?_, by omega, ?_, Kd.R_nil _ _ _ _ _⟩
  · have := YtlojkphocbbjdaaW.Bas.heap_alloc_self (W.alloc (.cells (madeCells #[.bool false] n) 4)) (.cells #[H, R, .slice (some ⟨W.heap.size, 0, none⟩) n n, .slice none 0 0] 204)
    simp only [World.size_alloc] at this
    exact this
  · exact Kd.R_drew (Kd.R_alloc (R_madeBools W base n hb hn) (.cells #[H, R, .slice (some ⟨W.heap.size, 0, none⟩) n n, .slice none 0 0] 204))
/-- A round over the pairs. -/
def liveP : List S100 → List Bool → List Int → Bool → Option (List Bool × List Int × Bool)
  | [], s, t, m => some (s, t, m)
  | p :: l, s, t, m => if (0 ≤ p.f0 ∧ p.f0 < s.length) ∧ 0 ≤ p.f1 ∧ p.f1 < s.length then (if rdOf false s p.f0 = true ∧ rdOf false s p.f1 = false then (reachS [p.f1] s t).bind fun q => liveP l q.1 q.2 true else liveP l s t m) else none
/-- Round by round. -/
def liveR (has : List (List Int)) (ps : List S100) : Nat → List Bool → List Int → Option (List Bool)
  | 0, _, _ => none
  | k + 1, s, t => (allS has k s t).bind fun s1 => (liveP ps s1 [] false).bind fun q => if q.2.2 = true then liveR has ps k q.1 q.2.1 else some q.1
theorem liveR.mono (has : List (List Int)) (ps : List S100) : ∀ k s t, LeO (liveR has ps k s t) (liveR has ps (k + 1) s t)
  | 0, s, t => fun r h => by simp [liveR] at h
  | k + 1, s, t => by
    unfold liveR
    refine LeO.bind (allS.mono has k s t) (fun p => LeO.bind (LeO.refl _) (fun q => LeO.ite (liveR.mono has ps k q.1 q.2.1) (LeO.refl _)))
/-- The things of a pair are things. -/
def liveOk (n : Int) : List S100 → Bool
  | [] => true
  | p :: l => decide (0 ≤ p.f0 ∧ p.f0 < n) && (decide (0 ≤ p.f1 ∧ p.f1 < n) && liveOk n l)
def liveF (k : Nat) (l0_0 : List (List Int)) (l0_1 : List Int) (l1 : List S100) : Option (List Bool × Int) :=
  if l0_0.length ≤ 281474976710656 then (if liveOk l0_0.length l1 = true then (reachS l0_1 (List.replicate l0_0.length false) []).bind (fun q => (liveR l0_0 l1 k q.1 q.2).bind fun s => some (s, 0)) else some ([], 3)) else none
def weak_live.f (k : Nat) (l0_0 : List (List Int)) (l0_1 : List Int) (l1 : List S100) : Option (List Bool × Int) :=
  (weak_Check.f k l0_0 l0_1).bind fun e => if e = 0 then (if (50 : Int) < l1.length then some ([], 2) else liveF k l0_0 l0_1 l1) else some ([], e)
theorem weak_live.mono : ∀ a0 a1 a2 k, LeO (weak_live.f k a0 a1 a2) (weak_live.f (k + 1) a0 a1 a2) := by
  intro a0 a1 a2 k
  unfold weak_live.f liveF
  exact LeO.bind (weak_Check.mono a0 a1 k) (fun e => LeO.ite (LeO.ite (LeO.refl _) (LeO.ite (LeO.ite (LeO.bind (LeO.refl _) (fun q => LeO.bind (liveR.mono _ _ _ _ _) (fun s => LeO.refl _))) (LeO.refl _)) (LeO.refl _))) (LeO.refl _))
/-- What is read of a pair: a block of its own. -/
structure PairAt (w : World) (g : Nat) (x : S100) : Prop where
  c0 : w.cell? ⟨g, 0, none⟩ = some (.int .i64 x.f0)
  c1 : w.cell? ⟨g, 1, none⟩ = some (.int .i64 x.f1)
set_option maxHeartbeats 4000000 in
set_option maxRecDepth 100000 in
theorem weak_live.calls (k : Nat) (A0_0 : Option Addr) (c0_0 : Nat) (l0_0 : List (List Int)) (A0_1 : Option Addr) (c0_1 : Nat) (l0_1 : List Int) (A1 : Option Addr) (c1 : Nat) (l1 : List (S100)) (r1 : List Bool) (r2 : Int) (w : World)
    (hr0_0 : Kd.C (Kd.slice 3 (Kd.int .i64)) w A0_0 l0_0.length l0_0) (hc0_0 : l0_0.length ≤ c0_0) (hr0_1 : Kd.C (Kd.int .i64) w A0_1 l0_1.length l0_1) (hc0_1 : l0_1.length ≤ c0_1) (hr1 : Kd.C k100 w A1 l1.length l1) (hc1 : l1.length ≤ c1) (h : weak_live.f k l0_0 l0_1 l1 = some (r1, r2)) :
    Calls Try.prog 98 #[.agg #[.slice A0_0 l0_0.length c0_0, .slice A0_1 l0_1.length c0_1], .slice A1 l1.length c1] w fun e w' => ∃ v0_ : Value, e = .returned (.tuple #[v0_, .int .i64 r2]) ∧ Kd.R Kd.bool 4 w' w.heap.size (fun _ => True) v0_ r1 ∧ Below w.heap.size w w' := by
  have HR0 := Aside0.mk hr0_0
  have HC0 := Aside0.mk hc0_0
  have HRR := Aside0.mk hr0_1
  have HCR := Aside0.mk hc0_1
  have HR1 := Aside0.mk hr1
  clear hr0_0 hr0_1 hr1 hc0_0 hc0_1 hc1
  unfold weak_live.f at h
  obtain ⟨e0, hck, h⟩ := Option.bind_eq_some_iff.1 h
  have HCK := Aside0.mk hck
  clear hck
  by_cases he : e0 = 0
  case neg =>
    rw [if_neg he] at h
    have heb := bne_iff_ne.mpr he
    simp only [Option.some.injEq, Prod.mk.injEq] at h
    obtain ⟨rfl, rfl⟩ := h
    clear he
    go_enter Try.func98, Try.ntmps98
    go_wp2_with (first | ((with_reducible refine gate_dst (N := 2) rfl ?_); (try (refine gate_guard (by rfl) ?_; dsimp only)); refine box_event ?hg (N := 2) ?hd (cs := #[.slice A0_0 l0_0.length c0_0, .slice A0_1 l0_1.length c0_1]) (t := 87) ?hr ?_; (case hd => rfl); (case hg => rfl); (case hr => first | (go_simp; done) | (go_simp; rfl)); intro gb hg wb hbox hb; have GE := Aside0.mk (Nat.le_of_eq hg.symm); have HB := Aside0.mk hb; have BK := Aside0.mk hbox; have hq0 : wb.cell? ⟨gb, 0, none⟩ = some (.slice A0_0 l0_0.length c0_0) := (blk_cell BK.out 0).trans rfl; have hq1 : wb.cell? ⟨gb, 1, none⟩ = some (.slice A0_1 l0_1.length c0_1) := (blk_cell BK.out 1).trans rfl; clear hg hbox hb) | (go_at_call 48; refine (weak_Check.calls k (fun k_ => k_ < w.heap.size) A0_0 c0_0 l0_0 (fun k_ => k_ < w.heap.size) A0_1 c0_1 l0_1 _ _ (Kd.V_mk HC0.out (Kd.F_step (Kd.C_F (Kd.heap_slice _ (Kd.heap_int .i64)) HR0.out) (fun k_ hk _ => HB.out.block k_ hk))) (Kd.V_mk HCR.out (Kd.F_step (Kd.C_F (Kd.heap_int .i64) HRR.out) (fun k_ hk _ => HB.out.block k_ hk))) HCK.out).mono ?_; rintro e w1 ⟨rfl, hb1⟩; have HB1 := Aside0.mk (HB.out.trans (hb1.mono HB.out.size)); have BK1 := Aside0.mk (blk_below BK.out hb1); clear hb1 hq0 hq1 HB BK))
    go_ret2
    exact ⟨_, rfl, Kd.R_nil _ _ _ _ _, HB1.out⟩
  subst he
  rw [if_pos rfl] at h
  by_cases hl : (50 : Int) < l1.length
  · rw [if_pos hl] at h
    have hlb : decide ((50 : Int) < l1.length) = true := decide_eq_true hl
    have hlb1 : decide (50 < l1.length) = true := decide_eq_true (by omega)
    simp only [Option.some.injEq, Prod.mk.injEq] at h
    obtain ⟨rfl, rfl⟩ := h
    clear hl
    go_enter Try.func98, Try.ntmps98
    go_wp2_with (first | ((with_reducible refine gate_dst (N := 2) rfl ?_); (try (refine gate_guard (by rfl) ?_; dsimp only)); refine box_event ?hg (N := 2) ?hd (cs := #[.slice A0_0 l0_0.length c0_0, .slice A0_1 l0_1.length c0_1]) (t := 87) ?hr ?_; (case hd => rfl); (case hg => rfl); (case hr => first | (go_simp; done) | (go_simp; rfl)); intro gb hg wb hbox hb; have GE := Aside0.mk (Nat.le_of_eq hg.symm); have HB := Aside0.mk hb; have BK := Aside0.mk hbox; have hq0 : wb.cell? ⟨gb, 0, none⟩ = some (.slice A0_0 l0_0.length c0_0) := (blk_cell BK.out 0).trans rfl; have hq1 : wb.cell? ⟨gb, 1, none⟩ = some (.slice A0_1 l0_1.length c0_1) := (blk_cell BK.out 1).trans rfl; clear hg hbox hb) | (go_at_call 48; refine (weak_Check.calls k (fun k_ => k_ < w.heap.size) A0_0 c0_0 l0_0 (fun k_ => k_ < w.heap.size) A0_1 c0_1 l0_1 _ _ (Kd.V_mk HC0.out (Kd.F_step (Kd.C_F (Kd.heap_slice _ (Kd.heap_int .i64)) HR0.out) (fun k_ hk _ => HB.out.block k_ hk))) (Kd.V_mk HCR.out (Kd.F_step (Kd.C_F (Kd.heap_int .i64) HRR.out) (fun k_ hk _ => HB.out.block k_ hk))) HCK.out).mono ?_; rintro e w1 ⟨rfl, hb1⟩; have HB1 := Aside0.mk (HB.out.trans (hb1.mono HB.out.size)); have BK1 := Aside0.mk (blk_below BK.out hb1); clear hb1 hq0 hq1 HB BK))
    go_ret2
    exact ⟨_, rfl, Kd.R_nil _ _ _ _ _, HB1.out⟩
  rw [if_neg hl, liveF] at h
  have hlb : decide ((50 : Int) < l1.length) = false := decide_eq_false hl
  have hlb1 : decide (50 < l1.length) = false := decide_eq_false (by omega)
  have HN := Aside0.mk hl
  clear hl
  split at h
  case isFalse => cases h
  rename_i hlen
  have HLEN := Aside0.mk hlen
  clear hlen
  have HH := Aside0.mk h
  clear h
  go_enter Try.func98, Try.ntmps98
  go_wp2_with (first | ((with_reducible refine gate_dst (N := 2) rfl ?_); (try (refine gate_guard (by rfl) ?_; dsimp only)); refine box_event ?hg (N := 2) ?hd (cs := #[.slice A0_0 l0_0.length c0_0, .slice A0_1 l0_1.length c0_1]) (t := 87) ?hr ?_; (case hd => rfl); (case hg => rfl); (case hr => first | (go_simp; done) | (go_simp; rfl)); intro gb hg wb hbox hb; have GE := Aside0.mk (Nat.le_of_eq hg.symm); have HB := Aside0.mk hb; have BK := Aside0.mk hbox; have hq0 : wb.cell? ⟨gb, 0, none⟩ = some (.slice A0_0 l0_0.length c0_0) := (blk_cell BK.out 0).trans rfl; have hq1 : wb.cell? ⟨gb, 1, none⟩ = some (.slice A0_1 l0_1.length c0_1) := (blk_cell BK.out 1).trans rfl; clear hg hbox hb) | (go_at_call 48; refine (weak_Check.calls k (fun k_ => k_ < w.heap.size) A0_0 c0_0 l0_0 (fun k_ => k_ < w.heap.size) A0_1 c0_1 l0_1 _ _ (Kd.V_mk HC0.out (Kd.F_step (Kd.C_F (Kd.heap_slice _ (Kd.heap_int .i64)) HR0.out) (fun k_ hk _ => HB.out.block k_ hk))) (Kd.V_mk HCR.out (Kd.F_step (Kd.C_F (Kd.heap_int .i64) HRR.out) (fun k_ hk _ => HB.out.block k_ hk))) HCK.out).mono ?_; rintro e w1 ⟨rfl, hb1⟩; have HB1 := Aside0.mk (HB.out.trans (hb1.mono HB.out.size)); have BK1 := Aside0.mk (blk_below BK.out hb1); clear hb1 hq0 hq1 HB BK))
  go_loopw [23] (fun v23 wr => ∃ (i : Int), v23 = .int .i64 i ∧ Aside0 (0 ≤ i ∧ i ≤ l1.length) ∧ Aside0 (liveOk l0_0.length (l1.drop i.toNat) = liveOk l0_0.length l1) ∧ Aside0 (wr.heap[gb]? = some (.cells #[.slice A0_0 l0_0.length c0_0, .slice A0_1 l0_1.length c0_1] 87 (0, 0))) ∧ Aside0 (Below w.heap.size w wr)) (fun v23 _ => l1.length - (intOf v23).toNat)
  case atStart => exact ⟨0, rfl, ⟨by omega⟩, ⟨by simp⟩, BK1, HB1⟩
  case round =>
    clear HB1 BK1
    obtain ⟨i, rfl, Hi, HX, BK, HB⟩ := hrel
    have hi0 : 0 ≤ i := Hi.out.1
    by_cases hlt : i < (l1.length : Int)
    · have ht : decide (i < (l1.length : Int)) = true := decide_eq_true hlt
      have HW := Aside0.mk (show wrap64 (i + 1) = i + 1 by have := HN.out; unfold wrap64; omega)
      have hd : l1.drop i.toNat = rd_T100 l1 i :: l1.drop (i + 1).toNat := by
        rw [List.drop_eq_getElem_cons (by omega), show (i + 1).toNat = i.toNat + 1 by omega]
        congr 1
        rw [rd_T100, List.getD_eq_getElem?_getD, List.getElem?_eq_getElem (by omega), Option.getD_some]
      have hx := HX.out
      rw [hd, liveOk] at hx
      clear hd
      obtain ⟨ad, e, h1, h2⟩ := at_T100 HR1.out i hi0 hlt
      cases e
      replace h1 := (HB.out.cell (World.block_lt_of_cell? w _ h1)).trans h1
      replace h2 := (HB.out.cell (World.block_lt_of_cell? w _ h2)).trans h2
      generalize rd_T100 l1 i = p at *
      have hin1 := show weak_in.f p.f0 (l0_0.length : Int) = some (decide (0 ≤ p.f0 ∧ p.f0 < (l0_0.length : Int))) by unfold weak_in.f; by_cases h : p.f0 ≥ 0 <;> simp [h]
      have hin2 := show weak_in.f p.f1 (l0_0.length : Int) = some (decide (0 ≤ p.f1 ∧ p.f1 < (l0_0.length : Int))) by unfold weak_in.f; by_cases h : p.f1 ≥ 0 <;> simp [h]
      have HI1 := Aside0.mk hin1
      have HI2 := Aside0.mk hin2
      clear hin1 hin2
      rcases hp1 : decide (0 ≤ p.f0 ∧ p.f0 < (l0_0.length : Int)) with _ | _
      · rw [hp1] at HI1 hx
        have HX2 := Aside0.mk hx
        clear hx hp1 HI2
        go_wp2_with (first | ((with_reducible refine gate_dst (N := 8) rfl ?_); (try (refine gate_guard (by rfl) ?_; dsimp only)); refine box_event ?hg (N := 8) ?hd (cs := #[.int .i64 0, .int .i64 0]) (t := 100) ?hr ?_; (case hd => rfl); (case hg => rfl); (case hr => first | (go_simp; done) | (go_simp; rfl)); intro gp hgp wp hbox hb; have hne : gp ≠ gb := (by have := blk_lt BK.out; omega); have hne' : gb ≠ gp := Ne.symm hne; have GP := Aside0.mk (show w.heap.size ≤ gp by have := HB.out.size; omega); have HB2 := Aside0.mk (below_step HB.out hb); have BK2 := Aside0.mk (blk_below BK.out hb); have BP := Aside0.mk hbox; have hq0 : wp.cell? ⟨gb, 0, none⟩ = some (.slice A0_0 l0_0.length c0_0) := (blk_cell BK2.out 0).trans rfl; have hp0 : wp.cell? ⟨gp, 0, none⟩ = some (.int .i64 0) := (blk_cell BP.out 0).trans rfl; have hp1 : wp.cell? ⟨gp, 1, none⟩ = some (.int .i64 0) := (blk_cell BP.out 1).trans rfl; have hf0 := blk_frozen BP.out 0; have hf1 := blk_frozen BP.out 1; clear hgp hbox hb) | ((try (refine gate_guard (by rfl) ?_; dsimp only)); go_at_call 99; refine (weak_in.calls _ _ _ _ (by first | exact HI1.out | exact HI2.out)).mono ?_; rintro e w' ⟨rfl, ⟨nd, rfl⟩⟩))
        go_ret2
        have hh := HH.out
        rw [← HX2.out] at hh
        simp only [Bool.false_and, Bool.false_eq_true, if_false, Option.some.injEq, Prod.mk.injEq] at hh
        obtain ⟨rfl, rfl⟩ := hh
        exact ⟨_, rfl, Kd.R_nil _ _ _ _ _, pw_below_drewN (below_set (below_set HB2.out GP.out) GP.out) _⟩
      · rw [hp1, Bool.true_and] at hx
        rw [hp1] at HI1
        clear hp1
        rcases hp2 : decide (0 ≤ p.f1 ∧ p.f1 < (l0_0.length : Int)) with _ | _
        · rw [hp2] at HI2 hx
          have HX2 := Aside0.mk hx
          clear hx hp2
          go_wp2_with (first | ((with_reducible refine gate_dst (N := 8) rfl ?_); (try (refine gate_guard (by rfl) ?_; dsimp only)); refine box_event ?hg (N := 8) ?hd (cs := #[.int .i64 0, .int .i64 0]) (t := 100) ?hr ?_; (case hd => rfl); (case hg => rfl); (case hr => first | (go_simp; done) | (go_simp; rfl)); intro gp hgp wp hbox hb; have hne : gp ≠ gb := (by have := blk_lt BK.out; omega); have hne' : gb ≠ gp := Ne.symm hne; have GP := Aside0.mk (show w.heap.size ≤ gp by have := HB.out.size; omega); have HB2 := Aside0.mk (below_step HB.out hb); have BK2 := Aside0.mk (blk_below BK.out hb); have BP := Aside0.mk hbox; have hq0 : wp.cell? ⟨gb, 0, none⟩ = some (.slice A0_0 l0_0.length c0_0) := (blk_cell BK2.out 0).trans rfl; have hp0 : wp.cell? ⟨gp, 0, none⟩ = some (.int .i64 0) := (blk_cell BP.out 0).trans rfl; have hp1 : wp.cell? ⟨gp, 1, none⟩ = some (.int .i64 0) := (blk_cell BP.out 1).trans rfl; have hf0 := blk_frozen BP.out 0; have hf1 := blk_frozen BP.out 1; clear hgp hbox hb) | ((try (refine gate_guard (by rfl) ?_; dsimp only)); go_at_call 99; refine (weak_in.calls _ _ _ _ (by first | exact HI1.out | exact HI2.out)).mono ?_; rintro e w' ⟨rfl, ⟨nd, rfl⟩⟩))
          go_ret2
          have hh := HH.out
          rw [← HX2.out] at hh
          simp only [Bool.false_and, Bool.false_eq_true, if_false, Option.some.injEq, Prod.mk.injEq] at hh
          obtain ⟨rfl, rfl⟩ := hh
          exact ⟨_, rfl, Kd.R_nil _ _ _ _ _, by repeat (first | (with_reducible first | exact HB2.out | apply pw_below_drewN | refine below_set ?_ GP.out) | exact HB2.out)⟩
        · rw [hp2, Bool.true_and] at hx
          rw [hp2] at HI2
          have HX2 := Aside0.mk hx
          clear hx hp2
          go_wp2_with (first | ((with_reducible refine gate_dst (N := 8) rfl ?_); (try (refine gate_guard (by rfl) ?_; dsimp only)); refine box_event ?hg (N := 8) ?hd (cs := #[.int .i64 0, .int .i64 0]) (t := 100) ?hr ?_; (case hd => rfl); (case hg => rfl); (case hr => first | (go_simp; done) | (go_simp; rfl)); intro gp hgp wp hbox hb; have hne : gp ≠ gb := (by have := blk_lt BK.out; omega); have hne' : gb ≠ gp := Ne.symm hne; have GP := Aside0.mk (show w.heap.size ≤ gp by have := HB.out.size; omega); have HB2 := Aside0.mk (below_step HB.out hb); have BK2 := Aside0.mk (blk_below BK.out hb); have BP := Aside0.mk hbox; have hq0 : wp.cell? ⟨gb, 0, none⟩ = some (.slice A0_0 l0_0.length c0_0) := (blk_cell BK2.out 0).trans rfl; have hp0 : wp.cell? ⟨gp, 0, none⟩ = some (.int .i64 0) := (blk_cell BP.out 0).trans rfl; have hp1 : wp.cell? ⟨gp, 1, none⟩ = some (.int .i64 0) := (blk_cell BP.out 1).trans rfl; have hf0 := blk_frozen BP.out 0; have hf1 := blk_frozen BP.out 1; clear hgp hbox hb) | ((try (refine gate_guard (by rfl) ?_; dsimp only)); go_at_call 99; refine (weak_in.calls _ _ _ _ (by first | exact HI1.out | exact HI2.out)).mono ?_; rintro e w' ⟨rfl, ⟨nd, rfl⟩⟩))
          go_roundw
          case rel => exact ⟨i + 1, by first | rw [HW.out] | rfl, ⟨by omega⟩, HX2, ⟨by (with_reducible repeat (first | refine blk_drewN ?_ _ | refine blk_far ?_ hne' _)); exact BK2.out⟩, ⟨by repeat (first | (with_reducible first | exact HB2.out | apply pw_below_drewN | refine below_set ?_ GP.out) | exact HB2.out)⟩⟩
          case measure => simp only [intOf]; (try rw [HW.out]); omega
    · have ht : decide (i < (l1.length : Int)) = false := decide_eq_false hlt
      have hx := HX.out
      rw [List.drop_eq_nil_of_le (by omega), liveOk] at hx
      have hh := HH.out
      rw [← hx, if_pos rfl] at hh
      obtain ⟨q, hq, hh⟩ := Option.bind_eq_some_iff.1 hh
      obtain ⟨sf, hs, hh⟩ := Option.bind_eq_some_iff.1 hh
      simp only [Option.some.injEq, Prod.mk.injEq] at hh
      obtain ⟨rfl, rfl⟩ := hh
      have HQ := Aside0.mk hq
      have HS := Aside0.mk hs
      clear hq hs hx HX HH
      have hq0 : wr.cell? ⟨gb, 0, none⟩ = some (.slice A0_0 l0_0.length c0_0) := (blk_cell BK.out 0).trans rfl
      have hq1 : wr.cell? ⟨gb, 1, none⟩ = some (.slice A0_1 l0_1.length c0_1) := (blk_cell BK.out 1).trans rfl
      have hq2 : (wr.alloc (.cells (madeCells #[.bool false] l0_0.length) 4)).cell? ⟨gb, 0, none⟩ = some (.slice A0_0 l0_0.length c0_0) := (blk_cell (blk_alloc BK.out _) 0).trans rfl
      have hq3 : (wr.alloc (.cells (madeCells #[.bool false] l0_0.length) 4)).cell? ⟨gb, 1, none⟩ = some (.slice A0_1 l0_1.length c0_1) := (blk_cell (blk_alloc BK.out _) 1).trans rfl
      have hmk : ∀ W : World, (Instr.makeSlice 97 (.int .i64 (l0_0.length : Int)) (.int .i64 (l0_0.length : Int))).run Try.prog W = .ok (.slice (some ⟨W.heap.size, 0, none⟩) l0_0.length l0_0.length) (W.alloc (.cells (madeCells #[.bool false] l0_0.length) 4)) := fun W => by
        have hti := info4
        obtain ⟨i0, hi, hzz⟩ := Option.map_eq_some_iff.1 hti
        simp only [Prod.mk.injEq] at hzz
        obtain ⟨hz0, hz1, hz2⟩ := hzz
        have hL := HLEN.out
        have hr := run_make (P := Try.prog) W 97 4 i0 (.bool false) Try.underlying97 hi hz0 .i64 .i64 (l0_0.length : Int) (l0_0.length : Int) (by omega) (by omega) (by rw [hz2]; omega) (by omega)
        rw [hz1, show (Value.bool false).cells = #[.bool false] from rfl] at hr
        simpa using hr
      go_wp2
      have HI := Aside0.mk (ReIs.made2 wr w.heap.size HB.out.size (.slice A0_0 l0_0.length c0_0) (.slice A0_1 l0_1.length c0_1) l0_0.length (by have := HLEN.out; simp only [maxLen]; omega))
      have HB3 := Aside0.mk (below_drew (below_alloc (below_alloc HB.out (.cells (madeCells #[.bool false] l0_0.length) 4)) (.cells #[.slice A0_0 l0_0.length c0_0, .slice A0_1 l0_1.length c0_1, .slice (some ⟨wr.heap.size, 0, none⟩) l0_0.length l0_0.length, .slice none 0 0] 204)))
      have BK3 := Aside0.mk (blk_drew (blk_alloc (blk_alloc BK.out (.cells (madeCells #[.bool false] l0_0.length) 4)) (.cells #[.slice A0_0 l0_0.length c0_0, .slice A0_1 l0_1.length c0_1, .slice (some ⟨wr.heap.size, 0, none⟩) l0_0.length l0_0.length, .slice none 0 0] 204)))
      go_region
      clear hq0 hq1 hq2 hq3 hmk
      generalize (wr.alloc (.cells (madeCells #[.bool false] l0_0.length) 4)).alloc (.cells #[.slice A0_0 l0_0.length c0_0, .slice A0_1 l0_1.length c0_1, .slice (some ⟨wr.heap.size, 0, none⟩) l0_0.length l0_0.length, .slice none 0 0] 204) = w4 at *
      obtain ⟨b, hb⟩ : ∃ b, b = wr.heap.size + 1 := ⟨_, rfl⟩
      obtain ⟨gs, hgs⟩ : ∃ gs, gs = wr.heap.size := ⟨_, rfl⟩
      rw [← hb, ← hgs] at HI
      rw [← hb]
      try rw [← hgs]
      have GB := Aside0.mk (show w.heap.size ≤ b by have := HB.out.size; omega)
      have GG := Aside0.mk (show w.heap.size ≤ gs by have := HB.out.size; omega)
      clear hb hgs
      have hq4 : w4.drew.cell? ⟨gb, 1, none⟩ = some (.slice A0_1 l0_1.length c0_1) := (blk_cell BK3.out 1).trans rfl
      have HF := Aside0.mk (Kd.F_step (Kd.C_F (Kd.heap_int .i64) HRR.out) (W1 := w4.drew) (fun k_ hk _ => HB3.out.block k_ hk))
      have HOK := Aside0.mk (show ∀ k_, k_ < w.heap.size → ¬ ReOwn b (.slice (some ⟨gs, 0, none⟩) l0_0.length l0_0.length) (.slice none 0 0) k_ from by
        intro k_ hk ho
        have h1 := GB.out
        have h2 := GG.out
        rcases ho with rfl | ho | ho
        · omega
        · simp [Value.ownBlock] at ho; omega
        · simp [Value.ownBlock] at ho)
      go_wp2_with (go_at_call 142; refine (reach_walk w b _ _ _ _ _ _ A0_1 c0_1 l0_1 (fun k_ => k_ < w.heap.size) q.1 q.2 _ HI.out HB3.out HF.out HOK.out (HQ.out.trans (by rfl))).mono ?_; rintro e w5 ⟨vt2, rfl, hi3, hb3, hk3, hv3⟩; have HI5 := Aside0.mk hi3; have HB5 := Aside0.mk hb3; clear hi3 hb3 hk3 hv3 HI HB3 BK3 HF HOK hq4)
      go_loopg [10] k (fun kq v10 wr => ∃ (m : Bool) (s : List Bool) (tq : List Int) (vt1 : Value), v10 = .bool m ∧ Aside0 ((if m = true then liveR l0_0 l1 kq s tq else some s) = some sf) ∧ Aside0 (kq ≤ k) ∧ Aside0 (ReIs wr w.heap.size b (.slice A0_0 l0_0.length c0_0) (.slice A0_1 l0_1.length c0_1) (.slice (some ⟨gs, 0, none⟩) l0_0.length l0_0.length) vt1 s tq) ∧ Aside0 (Below w.heap.size w wr))
      case atStart => exact ⟨true, q.1, q.2, vt2, rfl, ⟨by rw [if_pos rfl]; exact HS.out⟩, ⟨Nat.le_refl _⟩, HI5, HB5⟩
      case round =>
        clear HI5 HB5 HS HQ
        obtain ⟨m, s, tq, vt1, rfl, HX, HKQ, HI, HB6⟩ := hrel
        rcases m with _ | _
        · have hx := HX.out
          rw [if_neg (by decide)] at hx
          obtain rfl := Option.some.inj hx
          have hb2 : wr.cell? ⟨b, 2, none⟩ = some (.slice (some ⟨gs, 0, none⟩) l0_0.length l0_0.length) := by simp [World.cell?, HI.out.blk]
          clear hx
          go_wp2
          go_ret2
          exact ⟨_, rfl, HI.out.seen, HB6.out⟩
        · have hx := HX.out
          rw [if_pos rfl] at hx
          cases gk with
          | zero => cases hx
          | succ k1 =>
            rw [liveR] at hx
            obtain ⟨s1, ha, hx⟩ := Option.bind_eq_some_iff.1 hx
            obtain ⟨z, hp, hx⟩ := Option.bind_eq_some_iff.1 hx
            have HA := Aside0.mk ha
            have HP := Aside0.mk hp
            have HZ := Aside0.mk hx
            clear ha hp hx HX
            go_wp2_with (go_at_call 143; refine (all_walk w b l0_0 A0_0 c0_0 _ _ _ _ _ k1 s1 _ HI.out HB6.out HR0.out HA.out).mono ?_; rintro e w6 ⟨rfl, vt4, hi4, hb4, hk4, hv4⟩; have HI7 := Aside0.mk hi4; have HB7 := Aside0.mk hb4; clear hi4 hb4 hk4 hv4 HI HB6)
            go_loopw [10, 60] (fun v10 v60 wr => ∃ (i : Int) (m : Bool) (s : List Bool) (tq : List Int) (vt1 : Value), v60 = .int .i64 i ∧ v10 = .bool m ∧ Aside0 (0 ≤ i ∧ i ≤ l1.length) ∧ Aside0 (liveP (l1.drop i.toNat) s tq m = some z) ∧ Aside0 (ReIs wr w.heap.size b (.slice A0_0 l0_0.length c0_0) (.slice A0_1 l0_1.length c0_1) (.slice (some ⟨gs, 0, none⟩) l0_0.length l0_0.length) vt1 s tq) ∧ Aside0 (Below w.heap.size w wr)) (fun v10 v60 _ => l1.length - (intOf v60).toNat)
            case atStart => exact ⟨0, false, s1, [], vt4, rfl, rfl, ⟨by omega⟩, ⟨by simpa using HP.out⟩, HI7, HB7⟩
            case round =>
              clear HI7 HB7 HP
              obtain ⟨i, m, s, tq, vt1, rfl, rfl, Hi, HX, HI, HB⟩ := hrel
              have hi0 : 0 ≤ i := Hi.out.1
              by_cases hlt : i < (l1.length : Int)
              · have ht : decide (i < (l1.length : Int)) = true := decide_eq_true hlt
                have HW := Aside0.mk (show wrap64 (i + 1) = i + 1 by have := HN.out; unfold wrap64; omega)
                have hd : l1.drop i.toNat = rd_T100 l1 i :: l1.drop (i + 1).toNat := by
                  rw [List.drop_eq_getElem_cons (by omega), show (i + 1).toNat = i.toNat + 1 by omega]
                  congr 1
                  rw [rd_T100, List.getD_eq_getElem?_getD, List.getElem?_eq_getElem (by omega), Option.getD_some]
                have hx := HX.out
                rw [hd, liveP] at hx
                clear hd
                obtain ⟨ad, e, h1, h2⟩ := at_T100 HR1.out i hi0 hlt
                cases e
                replace h1 := (HB.out.cell (World.block_lt_of_cell? w _ h1)).trans h1
                replace h2 := (HB.out.cell (World.block_lt_of_cell? w _ h2)).trans h2
                generalize rd_T100 l1 i = p at *
                split at hx
                case isFalse => cases hx
                rename_i hr
                obtain ⟨⟨hk0, hk1⟩, hv0, hv1⟩ := hr
                have hsl : s.length = l0_0.length := (Kd.R_reads' HI.out.seen).1.symm
                rw [hsl] at hk1 hv1
                have HX2 := Aside0.mk hx
                clear hx
                go_wp2_with (first | ((with_reducible refine gate_dst (N := 12) rfl ?_); (try (refine gate_guard (by rfl) ?_; dsimp only)); refine box_event ?hg (N := 12) ?hd (cs := #[.int .i64 0, .int .i64 0]) (t := 100) ?hr ?_; (case hd => rfl); (case hg => rfl); (case hr => first | (go_simp; done) | (go_simp; rfl)); intro gp hgp wp hbox hb; have GP := Aside0.mk (show w.heap.size ≤ gp by have := HB.out.size; omega); have GP2 := Aside0.mk (show wr.heap.size ≤ gp by omega); have HB2 := Aside0.mk (below_step HB.out hb); have HK2 := Aside0.mk (Kept.of_below hb (fun _ => False)); have BP := Aside0.mk hbox; have hp0 : wp.cell? ⟨gp, 0, none⟩ = some (.int .i64 0) := (blk_cell BP.out 0).trans rfl; have hp1 : wp.cell? ⟨gp, 1, none⟩ = some (.int .i64 0) := (blk_cell BP.out 1).trans rfl; have hf0 := blk_frozen BP.out 0; have hf1 := blk_frozen BP.out 1; clear hgp hbox hb) | ((with_reducible refine gate_store (t := 100) (p := 12) rfl ?_); refine store_event (t := 100) (p := 12) (v := .tmp 63) (w1 := (wp.setCell ⟨gp, 0, none⟩ (.int .i64 p.f0)).setCell ⟨gp, 1, none⟩ (.int .i64 p.f1)) ?hg ?ho ?hn ?hr ?_; (case ho => rfl); (case hg => rfl); (case hn => rfl); (case hr => first | (go_simp; done) | (go_simp; rfl)); intro w3 hw; have HK3 := Aside0.mk (Kept.setCell (Kept.setCell HK2.out (p := ⟨gp, 0, none⟩) (.inr GP2.out) (.int .i64 p.f0)) (p := ⟨gp, 1, none⟩) (.inr GP2.out) (.int .i64 p.f1)); have HB3 := Aside0.mk (below_set (below_set HB2.out GP.out (g := gp) (j := 0) (v := .int .i64 p.f0)) GP.out (g := gp) (j := 1) (v := .int .i64 p.f1)); have BP3 := Aside0.mk (blk_put (blk_put BP.out 0 (.int .i64 p.f0) rfl) 1 (.int .i64 p.f1) rfl); rw [← hw] at HK3 HB3 BP3; have HI3 := Aside0.mk (HI.out.kept HK3.out (fun _ _ h => h)); have hq0 : w3.cell? ⟨gp, 0, none⟩ = some (.int .i64 p.f0) := (blk_cell BP3.out 0).trans rfl; have hq1 : w3.cell? ⟨gp, 1, none⟩ = some (.int .i64 p.f1) := (blk_cell BP3.out 1).trans rfl; have hqb : w3.cell? ⟨b, 2, none⟩ = some (.slice (some ⟨gs, 0, none⟩) l0_0.length l0_0.length) := (by simp [World.cell?, HI3.out.blk]); clear hw hp0 hp1 hf0 hf1 HB2 HK2 BP h1 h2))
                obtain ⟨hs1, hs2⟩ := Kd.R_celln false HI3.out.seen p.f0 hk0 hk1
                obtain ⟨hs3, hs4⟩ := Kd.R_celln false HI3.out.seen p.f1 hv0 hv1
                have hx := HX2.out
                obtain ⟨sk, hsk⟩ : ∃ sk, sk = rdOf false s p.f0 := ⟨_, rfl⟩
                obtain ⟨sv, hsv⟩ : ∃ sv, sv = rdOf false s p.f1 := ⟨_, rfl⟩
                rw [← hsk, ← hsv] at hx
                rw [← hsk] at hs1
                rw [← hsv] at hs3
                have HX3 := Aside0.mk hx
                have hk0' := eq_true hk0
                have hk1' := eq_true hk1
                have hv0' := eq_true hv0
                have hv1' := eq_true hv1
                clear hx hsk hsv hs2 hs4 HX2 HX
                rcases sk with _ | _
                · have hx := HX3.out
                  rw [if_neg (by simp)] at hx
                  have HX4 := Aside0.mk hx
                  clear hx HX3
                  (try simp only [Act.put, List.setIfInBounds_toArray, List.set_cons_zero, List.set_cons_succ])
                  go_quiet (fail)
                  go_wp2
                  go_roundw
                  case rel => exact ⟨i + 1, m, s, tq, vt1, by first | rw [HW.out] | rfl, rfl, ⟨by omega⟩, HX4, ⟨HI3.out.drewN _⟩, ⟨pw_below_drewN HB3.out _⟩⟩
                  case measure => simp only [intOf]; (try rw [HW.out]); omega
                · rcases sv with _ | _
                  · have hx := HX3.out
                    rw [if_pos (by simp)] at hx
                    obtain ⟨y, hy, hx⟩ := Option.bind_eq_some_iff.1 hx
                    have HX4 := Aside0.mk hx
                    have HY := Aside0.mk hy
                    clear hx hy HX3
                    (try simp only [Act.put, List.setIfInBounds_toArray, List.set_cons_zero, List.set_cons_succ])
                    go_quiet (fail)
                    have HI4 := Aside0.mk (HI3.out.drewN nq)
                    have HB4 := Aside0.mk (pw_below_drewN HB3.out nq)
                    have hq1' : (w3.drewN nq).cell? ⟨gp, 1, none⟩ = some (.int .i64 p.f1) := hq1
                    clear HI3 HB3 hq0 hq1 hqb hs1 hs3 HK3 BP3
                    generalize w3.drewN nq = w8 at *
                    have HI5 := Aside0.mk (HI4.out.alloc (.cells #[.int .i64 p.f1] 3))
                    have HB5 := Aside0.mk (below_alloc HB4.out (.cells #[.int .i64 p.f1] 3))
                    have HF5 := Aside0.mk (Kd.R_F (R_one w8 w8.heap.size p.f1 (Nat.le_refl _)))
                    have HOK := Aside0.mk (show ∀ k_, k_ = w8.heap.size → ¬ ReOwn b (.slice (some ⟨gs, 0, none⟩) l0_0.length l0_0.length) vt1 k_ from by
                      intro k_ hk ho
                      subst hk
                      rcases ho with ho | ho | ho
                      · have := blk_lt HI4.out.blk; omega
                      · obtain ⟨c9, e9⟩ := Kd.R_typed HI4.out.seen w8.heap.size ho.symm
                        exact Nat.lt_irrefl _ (blk_lt e9)
                      · obtain ⟨c9, e9⟩ := Kd.R_typed HI4.out.todo w8.heap.size ho.symm
                        exact Nat.lt_irrefl _ (blk_lt e9))
                    go_wp2_with (go_at_call 142; refine (reach_walk w b _ _ _ _ _ _ (some ⟨w8.heap.size, 0, none⟩) 1 [p.f1] (fun k_ => k_ = w8.heap.size) y.1 y.2 _ HI5.out HB5.out HF5.out HOK.out (HY.out.trans (by rfl))).mono ?_; rintro e w9 ⟨vt9, rfl, hi9, hb9, hk9, hv9⟩; have HI9 := Aside0.mk hi9; have HB9 := Aside0.mk hb9; clear hi9 hb9 hk9 hv9 HI4 HB4 HI5 HB5 HF5 HOK hq1')
                    go_roundw
                    case rel => exact ⟨i + 1, true, y.1, y.2, vt9, by first | rw [HW.out] | rfl, rfl, ⟨by omega⟩, HX4, HI9, HB9⟩
                    case measure => simp only [intOf]; (try rw [HW.out]); omega
                  · have hx := HX3.out
                    rw [if_neg (by simp)] at hx
                    have HX4 := Aside0.mk hx
                    clear hx HX3
                    (try simp only [Act.put, List.setIfInBounds_toArray, List.set_cons_zero, List.set_cons_succ])
                    go_quiet (fail)
                    go_wp2
                    go_roundw
                    case rel => exact ⟨i + 1, m, s, tq, vt1, by first | rw [HW.out] | rfl, rfl, ⟨by omega⟩, HX4, ⟨HI3.out.drewN _⟩, ⟨pw_below_drewN HB3.out _⟩⟩
                    case measure => simp only [intOf]; (try rw [HW.out]); omega
              · have ht : decide (i < (l1.length : Int)) = false := decide_eq_false hlt
                have hx := HX.out
                rw [List.drop_eq_nil_of_le (by omega), liveP] at hx
                obtain rfl := Option.some.inj hx
                clear hx HX
                go_wp2
                go_roundg k1
                case measure => omega
                case rel => exact ⟨m, s, tq, vt1, rfl, HZ, ⟨by have := HKQ.out; omega⟩, HI, HB⟩

/-! ### weak_Live: function 45 -/
def weak_Live.f (k : Nat) (l0_0 : List (List Int)) (l0_1 : List Int) (l1 : List (S100)) : Option (List Int × Int) := (weak_live.f k l0_0 l0_1 l1).bind fun bt119 => ((weak_Rising.f k bt119.1).bind fun t123 => (some (t123, bt119.2)))
theorem weak_Live.mono : ∀ a0 a1 a2 k, LeO (weak_Live.f k a0 a1 a2) (weak_Live.f (k + 1) a0 a1 a2) := by
  intro a0 a1 a2 k
  unfold weak_Live.f
  repeat' first
      | (with_reducible exact weak_Rising.mono _ _)
      | (with_reducible exact weak_live.mono _ _ _ _)
      | (with_reducible exact LeO.refl _)
      | (with_reducible exact LeO.none _)
      | (with_reducible refine LeO.ite ?_ ?_)
      | (with_reducible refine LeO.bind ?_ (fun _ => ?_))
      | exact weak_Rising.mono _ _
      | exact weak_live.mono _ _ _ _
      | exact LeO.none _
      | refine LeO.ite ?_ ?_
      | refine LeO.bind ?_ (fun _ => ?_)
set_option maxHeartbeats 8000000 in
set_option maxRecDepth 100000 in
theorem weak_Live.calls (k : Nat) (A0_0 : Option Addr) (c0_0 : Nat) (l0_0 : List (List Int)) (A0_1 : Option Addr) (c0_1 : Nat) (l0_1 : List Int) (A1 : Option Addr) (c1 : Nat) (l1 : List (S100)) (r1 : List Int) (r2 : Int) (w : World) (hr0_0 : Kd.C (Kd.slice 3 (Kd.int .i64)) w A0_0 l0_0.length l0_0) (hc0_0 : l0_0.length ≤ c0_0) (hr0_1 : Kd.C (Kd.int .i64) w A0_1 l0_1.length l0_1) (hc0_1 : l0_1.length ≤ c0_1) (hr1 : Kd.C k100 w A1 l1.length l1) (hc1 : l1.length ≤ c1) (h : weak_Live.f k l0_0 l0_1 l1 = some (r1, r2)) :
    Calls Try.prog 45 #[.agg #[.slice A0_0 l0_0.length c0_0, .slice A0_1 l0_1.length c0_1], .slice A1 l1.length c1] w fun e w' => ∃ v0_ : Value, e = .returned (.tuple #[v0_, .int .i64 r2]) ∧ Kd.R (Kd.int .i64) 3 w' w.heap.size (fun _ => True) v0_ r1 ∧ Below w.heap.size w w' := by
  have hu87 := Try.underlying87
  have HR0_0 := Aside0.mk hr0_0
  have HC0_0 := Aside0.mk hc0_0
  clear hr0_0 hc0_0
  have HR0_1 := Aside0.mk hr0_1
  have HC0_1 := Aside0.mk hc0_1
  clear hr0_1 hc0_1
  have HR1 := Aside0.mk hr1
  have HC1 := Aside0.mk hc1
  clear hr1 hc1
  have HB := Aside0.mk (Below.refl w.heap.size w)
  have H : ((weak_live.f k l0_0 l0_1 l1).bind fun bt119 => ((weak_Rising.f k bt119.1).bind fun t123 => (some (t123, bt119.2)))) = some (r1, r2) := h
  clear h
  replace H := Option.bind_eq_some_iff.mp H
  obtain ⟨⟨t119, t122⟩, A30, H⟩ := H
  replace H : ((weak_Rising.f k t119).bind fun t123 => (some (t123, t122))) = some (r1, r2) := H
  have A3 := Aside0.mk A30
  clear A30
  replace H := Option.bind_eq_some_iff.mp H
  obtain ⟨t123, A40, H⟩ := H
  replace H : (some (t123, t122)) = some (r1, r2) := H
  have A4 := Aside0.mk A40
  clear A40
  simp only [Option.some.injEq, Prod.mk.injEq] at H
  obtain ⟨rfl, rfl⟩ := H
  go_enter Try.func45, Try.ntmps45
  go_wp2_with (first | ((with_reducible refine gate_dst (N := 2) rfl ?_); refine box_event ?hg (N := 2) ?hd (cs := #[.slice A0_0 l0_0.length c0_0, .slice A0_1 l0_1.length c0_1]) (t := 87) ?hr ?_; (case hd => rfl); (case hg => rfl); (case hr => first | (go_simp; done) | (go_simp; rfl)); intro gb118 hg w5 hbox hb; have n0_ := Aside0.mk (below_step (by repeat (first | (with_reducible first | exact HB.out | apply below_alloc | apply pw_below_drewN | apply below_drew1) | exact HB.out)) hb); have n1_ := Aside0.mk (hbox); have n2_ := Aside0.mk ((by rw [hg]; exact (below_size (by repeat (first | (with_reducible first | exact HB.out | apply below_alloc | apply pw_below_drewN | apply below_drew1) | exact HB.out))) : w.heap.size ≤ gb118)); have n3_ := Aside0.mk ((by rw [hg]; exact (below_size (by repeat (first | (with_reducible first | exact HB.out | apply below_alloc | apply pw_below_drewN | apply below_drew1) | exact HB.out))) : w.heap.size ≤ gb118)); clear HB; have HB := n0_; have BK118 := n1_; have GW118 := n2_; have GE118 := n3_; clear n0_ n1_ n2_ n3_; clear hb hbox hg; have hcz6_0 : w5.cell? ⟨gb118, 0, none⟩ = some (.slice A0_0 l0_0.length c0_0) := (blk_cell BK118.out 0).trans rfl; have hcz6_1 : w5.cell? ⟨gb118, 1, none⟩ = some (.slice A0_1 l0_1.length c0_1) := (blk_cell BK118.out 1).trans rfl; have hfz6_0 := blk_frozen BK118.out 0; have hfz6_1 := blk_frozen BK118.out 1) | ((with_reducible refine gate_callee (f := 98) rfl ?_); refine goesL_ (some 11) rfl rfl Try.func98 (by kernel_rfl) rfl #[.agg #[.slice A0_0 l0_0.length c0_0, .slice A0_1 l0_1.length c0_1], .slice A1 l1.length c1] rfl (by (try simp only [List.map_toArray, List.map_cons, List.map_nil]); first | done | rfl | (simp only [List.length_drop, List.length_take]; rfl)) ?_; (with_reducible refine (weak_live.calls k _ _ l0_0 _ _ l0_1 _ _ l1 t119 t122 _ ?side1 ?side2 ?side3 ?side4 ?side5 ?side6 A3.out).mono ?_); (case side1 => repeat (first | exact (Kd.C_below HR0_0.out HB.out) | (with_reducible refine Kd.C_alloc ?_ _) | (with_reducible refine Kd.C_drewN ?_ _) | (with_reducible refine Kd.C_drew ?_))); (case side2 => exact HC0_0.out); (case side3 => repeat (first | exact (Kd.C_below HR0_1.out HB.out) | (with_reducible refine Kd.C_alloc ?_ _) | (with_reducible refine Kd.C_drewN ?_ _) | (with_reducible refine Kd.C_drew ?_))); (case side4 => exact HC0_1.out); (case side5 => repeat (first | exact (Kd.C_below HR1.out HB.out) | (with_reducible refine Kd.C_alloc ?_ _) | (with_reducible refine Kd.C_drewN ?_ _) | (with_reducible refine Kd.C_drew ?_))); (case side6 => exact HC1.out); rintro e w7 ⟨v120, rfl, ho0, hb⟩; refine ⟨_, rfl, ?_⟩; have n0_ := Aside0.mk (Kd.R_lower ho0 (below_size (by repeat (first | (with_reducible first | exact HB.out | apply below_alloc | apply pw_below_drewN | apply below_drew1 | refine below_set ?_ GE118.out) | exact HB.out)))); have n1_ := Aside0.mk (blk_below (g := gb118) (o := .cells #[.slice A0_0 l0_0.length c0_0, .slice A0_1 l0_1.length c0_1] 87 (0, 0)) (by (with_reducible repeat (first | refine blk_drewN ?_ _ | refine blk_drew ?_ | refine blk_alloc ?_ _)); exact BK118.out) hb); have n2_ := Aside0.mk (below_step (by repeat (first | (with_reducible first | exact HB.out | apply below_alloc | apply pw_below_drewN | apply below_drew1 | refine below_set ?_ GE118.out) | exact HB.out)) hb); clear BK118; clear HB; have HO121 := n0_; have BK118 := n1_; have HB := n2_; clear n0_ n1_ n2_; (try clear hb); (try clear hb2); (try clear hk); (try clear hi); (try clear ho0); obtain ⟨Ao8, co8, eo8⟩ := Kd.R_slice HO121.out; subst eo8) | ((with_reducible refine gate_callee (f := 96) rfl ?_); refine goesL_ (some 15) rfl rfl Try.func96 (by kernel_rfl) rfl #[.slice Ao8 t119.length co8] rfl (by (try simp only [List.map_toArray, List.map_cons, List.map_nil]); first | done | rfl | (simp only [List.length_drop, List.length_take]; rfl)) ?_; (with_reducible refine (weak_Rising.calls k _ _ t119 t123 _ ?side1 ?side2 A4.out).mono ?_); (case side1 => repeat (first | exact (Kd.R_reads' HO121.out).2.2 | (with_reducible refine Kd.C_alloc ?_ _) | (with_reducible refine Kd.C_drewN ?_ _) | (with_reducible refine Kd.C_drew ?_))); (case side2 => exact (Kd.R_reads' HO121.out).2.1); rintro e w9 ⟨v124, rfl, ho0, hb⟩; refine ⟨_, rfl, ?_⟩; have n0_ := Aside0.mk (Kd.R_below (by (with_reducible repeat (first | apply Kd.R_alloc | apply Kd.R_drewN | apply Kd.R_drew)); exact HO121.out) hb); have n1_ := Aside0.mk (Kd.R_lower ho0 (below_size (by repeat (first | (with_reducible first | exact HB.out | apply below_alloc | apply pw_below_drewN | apply below_drew1 | refine below_set ?_ GE118.out) | exact HB.out)))); have n2_ := Aside0.mk (blk_below (g := gb118) (o := .cells #[.slice A0_0 l0_0.length c0_0, .slice A0_1 l0_1.length c0_1] 87 (0, 0)) (by (with_reducible repeat (first | refine blk_drewN ?_ _ | refine blk_drew ?_ | refine blk_alloc ?_ _)); exact BK118.out) hb); have n3_ := Aside0.mk (below_step (by repeat (first | (with_reducible first | exact HB.out | apply below_alloc | apply pw_below_drewN | apply below_drew1 | refine below_set ?_ GE118.out) | exact HB.out)) hb); clear HO121; clear BK118; clear HB; have HO121 := n0_; have HO125 := n1_; have BK118 := n2_; have HB := n3_; clear n0_ n1_ n2_ n3_; (try clear hb); (try clear hb2); (try clear hk); (try clear hi); (try clear ho0)))
  go_ret2
  exact ⟨_, by first | rfl | (simp [errW_none, errW_some] <;> rfl) | (simp [*, errW_none, errW_some] <;> rfl), by (with_reducible repeat (first | apply Kd.R_alloc | apply Kd.R_drewN | apply Kd.R_drew)); exact HO125.out, by repeat (first | (with_reducible first | exact HB.out | apply below_alloc | apply pw_below_drewN | apply below_drew1 | refine below_set ?_ GE118.out) | exact HB.out)⟩

/-! ### backstitchlaw3_paired: function 42 -/
def backstitchlaw3_paired.f (k : Nat)  : Option (Bool) := (weak_Live.f k (([[], [], []] : List (List Int))) (([0] : List Int)) (([(⟨0, 1⟩ : S100), (⟨2, 2⟩ : S100)] : List (S100)))).bind fun bt135 => (if bt135.2 = 0 then ((backstitchref3_Eq_int.f k bt135.1 (([0, 1] : List Int))).bind fun t142 => (some t142)) else (some false))
theorem backstitchlaw3_paired.mono : ∀ k, LeO (backstitchlaw3_paired.f k ) (backstitchlaw3_paired.f (k + 1) ) := by
  intro  k
  unfold backstitchlaw3_paired.f
  repeat' first
      | (with_reducible exact backstitchref3_Eq_int.mono _ _ _)
      | (with_reducible exact weak_Live.mono _ _ _ _)
      | (with_reducible exact LeO.refl _)
      | (with_reducible exact LeO.none _)
      | (with_reducible refine LeO.ite ?_ ?_)
      | (with_reducible refine LeO.bind ?_ (fun _ => ?_))
      | exact backstitchref3_Eq_int.mono _ _ _
      | exact weak_Live.mono _ _ _ _
      | exact LeO.none _
      | refine LeO.ite ?_ ?_
      | refine LeO.bind ?_ (fun _ => ?_)
set_option maxHeartbeats 8000000 in
set_option maxRecDepth 100000 in
theorem backstitchlaw3_paired.calls (k : Nat)  (r : Bool) (w : World) (h : backstitchlaw3_paired.f k  = some r) :
    Calls Try.prog 42 #[] w fun e w' => e = .returned (.bool r) ∧ Below w.heap.size w w' := by
  have hu87 := Try.underlying87
  have hu100 := Try.underlying100
  have HB := Aside0.mk (Below.refl w.heap.size w)
  have H : ((weak_Live.f k (([[], [], []] : List (List Int))) (([0] : List Int)) (([(⟨0, 1⟩ : S100), (⟨2, 2⟩ : S100)] : List (S100)))).bind fun bt135 => (if bt135.2 = 0 then ((backstitchref3_Eq_int.f k bt135.1 (([0, 1] : List Int))).bind fun t142 => (some t142)) else (some false))) = some r := h
  clear h
  obtain ⟨y126, hy126⟩ : ∃ y_ : List (List Int), y_ = (([[], [], []] : List (List Int))) := ⟨_, rfl⟩
  replace H : ((weak_Live.f k y126 (([0] : List Int)) (([(⟨0, 1⟩ : S100), (⟨2, 2⟩ : S100)] : List (S100)))).bind fun bt135 => (if bt135.2 = 0 then ((backstitchref3_Eq_int.f k bt135.1 (([0, 1] : List Int))).bind fun t142 => (some t142)) else (some false))) = some r := by first | (rw [hy126]; with_reducible exact H) | (have H2_ := (Option.bind_some _ _).symm.trans H; rw [hy126]; with_reducible exact H2_) | (have H2_ := (Option.bind_some _ _).symm.trans H; with_reducible exact H2_) | with_reducible exact H | (rw [hy126]; exact H) | exact H
  have Ny126 := Aside0.mk hy126
  clear hy126
  obtain ⟨y129, hy129⟩ : ∃ y_ : List Int, y_ = (([0] : List Int)) := ⟨_, rfl⟩
  replace H : ((weak_Live.f k y126 y129 (([(⟨0, 1⟩ : S100), (⟨2, 2⟩ : S100)] : List (S100)))).bind fun bt135 => (if bt135.2 = 0 then ((backstitchref3_Eq_int.f k bt135.1 (([0, 1] : List Int))).bind fun t142 => (some t142)) else (some false))) = some r := by first | (rw [hy129]; with_reducible exact H) | (have H2_ := (Option.bind_some _ _).symm.trans H; rw [hy129]; with_reducible exact H2_) | (have H2_ := (Option.bind_some _ _).symm.trans H; with_reducible exact H2_) | with_reducible exact H | (rw [hy129]; exact H) | exact H
  have Ny129 := Aside0.mk hy129
  clear hy129
  obtain ⟨y132, hy132⟩ : ∃ y_ : List (S100), y_ = (([(⟨0, 1⟩ : S100), (⟨2, 2⟩ : S100)] : List (S100))) := ⟨_, rfl⟩
  replace H : ((weak_Live.f k y126 y129 y132).bind fun bt135 => (if bt135.2 = 0 then ((backstitchref3_Eq_int.f k bt135.1 (([0, 1] : List Int))).bind fun t142 => (some t142)) else (some false))) = some r := by first | (rw [hy132]; with_reducible exact H) | (have H2_ := (Option.bind_some _ _).symm.trans H; rw [hy132]; with_reducible exact H2_) | (have H2_ := (Option.bind_some _ _).symm.trans H; with_reducible exact H2_) | with_reducible exact H | (rw [hy132]; exact H) | exact H
  have Ny132 := Aside0.mk hy132
  clear hy132
  replace H := Option.bind_eq_some_iff.mp H
  obtain ⟨⟨t135, t138⟩, A10, H⟩ := H
  replace H : (if t138 = 0 then ((backstitchref3_Eq_int.f k t135 (([0, 1] : List Int))).bind fun t142 => (some t142)) else (some false)) = some r := H
  have A1 := Aside0.mk A10
  clear A10
  by_cases c2 : t138 = 0
  · rw [if_pos c2] at H
    have c2b0 : (t138 == 0) = true := beq_iff_eq.mpr c2
    have c2b1 : (t138 != 0) = false := bne_eq_false_iff_eq.mpr c2
    clear c2
    obtain ⟨y139, hy139⟩ : ∃ y_ : List Int, y_ = (([0, 1] : List Int)) := ⟨_, rfl⟩
    replace H : ((backstitchref3_Eq_int.f k t135 y139).bind fun t142 => (some t142)) = some r := by first | (rw [hy139]; with_reducible exact H) | (have H2_ := (Option.bind_some _ _).symm.trans H; rw [hy139]; with_reducible exact H2_) | (have H2_ := (Option.bind_some _ _).symm.trans H; with_reducible exact H2_) | with_reducible exact H | (rw [hy139]; exact H) | exact H
    have Ny139 := Aside0.mk hy139
    clear hy139
    replace H := Option.bind_eq_some_iff.mp H
    obtain ⟨t142, A30, H⟩ := H
    replace H : (some t142) = some r := H
    have A3 := Aside0.mk A30
    clear A30
    obtain rfl := Option.some.inj H
    go_enter Try.func42, Try.ntmps42
    go_wp2_with (first | ((with_reducible refine gate_dst (N := 4) rfl ?_); (try (refine gate_guard (by rfl) ?_; dsimp only)); refine Kd.S_lit (Kd.slice 3 (Kd.int .i64)) _ 40 ?hg (N := 4) ?hd (xs := ([[], [], []] : List (List Int))) (inner := [.slice none 0 0, .slice none 0 0, .slice none 0 0]) (ok := fun _ => True) (okp := fun _ => True) ?hr ?hp (fun _ hk => hk) trivial (Below.refl _ _) (Nat.le_refl _) (by simp) ?_; (case hd => rfl); (case hg => rfl); (case hr => first | (go_simp; done) | (go_simp; rfl)); (case hp => exact (Reps.one (show Kd.M (Kd.slice 3 (Kd.int .i64)) _ _ _ [] [.slice none 0 0] from ⟨_, rfl, Kd.R_nil _ _ _ _ _⟩) (Reps.one (show Kd.M (Kd.slice 3 (Kd.int .i64)) _ _ _ [] [.slice none 0 0] from ⟨_, rfl, Kd.R_nil _ _ _ _ _⟩) (Reps.one (show Kd.M (Kd.slice 3 (Kd.int .i64)) _ _ _ [] [.slice none 0 0] from ⟨_, rfl, Kd.R_nil _ _ _ _ _⟩) (Reps.none _ _))))); intro v127 w4 ho5 hb hg_ hnew_; clear hg_ hnew_; (first | rw [← Ny126.out] at ho5 | (simp only [Int.reduceToNat] at ho5; rw [← Ny126.out] at ho5)); have n0_ := Aside0.mk (Kd.S_lower ho5 (below_size (by repeat (first | (with_reducible first | exact HB.out | apply below_alloc | apply pw_below_drewN | apply below_drew1) | exact HB.out)))); have n1_ := Aside0.mk (below_step (by repeat (first | (with_reducible first | exact HB.out | apply below_alloc | apply pw_below_drewN | apply below_drew1) | exact HB.out)) hb); clear HB; have HO128 := n0_; have HB := n1_; clear n0_ n1_; clear hb ho5) | ((with_reducible refine gate_dst (N := 5) rfl ?_); (try (refine gate_guard (by rfl) ?_; dsimp only)); refine Kd.R_lit (Kd.int .i64) _ 3 ?hg (N := 5) ?hd (xs := ([0] : List Int)) (inner := [.int .i64 0]) (ok := fun _ => True) (okp := fun _ => True) ?hr ?hp (fun _ hk => hk) trivial (Below.refl _ _) (Nat.le_refl _) (by simp) ?_; (case hd => rfl); (case hg => rfl); (case hr => first | (go_simp; done) | (go_simp; rfl)); (case hp => exact (Reps.one (show Kd.M (Kd.int .i64) _ _ _ 0 [.int .i64 0] from rfl) (Reps.none _ _))); intro v130 w6 ho7 hb hg_ hnew_; clear hg_ hnew_; (first | rw [← Ny129.out] at ho7 | (simp only [Int.reduceToNat] at ho7; rw [← Ny129.out] at ho7)); have n0_ := Aside0.mk (Kd.S_elder' (by (with_reducible repeat (first | apply Kd.S_alloc | apply Kd.S_drewN | apply Kd.S_drew)); exact HO128.out) (Kd.R_base ho7) hb); have n1_ := Aside0.mk (Kd.R_lower ho7 (below_size (by repeat (first | (with_reducible first | exact HB.out | apply below_alloc | apply pw_below_drewN | apply below_drew1) | exact HB.out)))); have n2_ := Aside0.mk (below_step (by repeat (first | (with_reducible first | exact HB.out | apply below_alloc | apply pw_below_drewN | apply below_drew1) | exact HB.out)) hb); clear HO128; clear HB; have HO128 := n0_; have HO131 := n1_; have HB := n2_; clear n0_ n1_ n2_; clear hb ho7; obtain ⟨Ao8, co8, eo8⟩ := Kd.R_slice HO131.out; subst eo8; obtain ⟨Ao9, co9, eo9⟩ := Kd.S_slice HO128.out; subst eo9) | ((with_reducible refine gate_dst (N := 9) rfl ?_); (try (refine gate_guard (by rfl) ?_; dsimp only)); refine Kd.R_lit k100 _ 100 ?hg (N := 9) ?hd (xs := ([(⟨0, 1⟩ : S100), (⟨2, 2⟩ : S100)] : List (S100))) (inner := [.int .i64 0, .int .i64 1, .int .i64 2, .int .i64 2]) (ok := fun _ => True) (okp := fun _ => True) ?hr ?hp (fun _ hk => hk) trivial (Below.refl _ _) (Nat.le_refl _) (by simp) ?_; (case hd => rfl); (case hg => rfl); (case hr => first | (go_simp; done) | (go_simp; rfl)); (case hp => exact (Reps.c2 (show Kd.M k100 _ _ _ (⟨0, 1⟩ : S100) [.int .i64 0, .int .i64 1] from (k100_mkM _ _ _ (⟨0, 1⟩ : S100) )) (Reps.c2 (show Kd.M k100 _ _ _ (⟨2, 2⟩ : S100) [.int .i64 2, .int .i64 2] from (k100_mkM _ _ _ (⟨2, 2⟩ : S100) )) (Reps.none _ _)))); intro v133 w10 ho11 hb hg_ hnew_; clear hg_ hnew_; (first | rw [← Ny132.out] at ho11 | (simp only [Int.reduceToNat] at ho11; rw [← Ny132.out] at ho11)); have n0_ := Aside0.mk (Kd.S_below (by (with_reducible repeat (first | apply Kd.S_alloc | apply Kd.S_drewN | apply Kd.S_drew)); exact HO128.out) hb); have n1_ := Aside0.mk (Kd.R_below (by (with_reducible repeat (first | apply Kd.R_alloc | apply Kd.R_drewN | apply Kd.R_drew)); exact HO131.out) hb); have n2_ := Aside0.mk (Kd.R_lower ho11 (below_size (by repeat (first | (with_reducible first | exact HB.out | apply below_alloc | apply pw_below_drewN | apply below_drew1) | exact HB.out)))); have n3_ := Aside0.mk (below_step (by repeat (first | (with_reducible first | exact HB.out | apply below_alloc | apply pw_below_drewN | apply below_drew1) | exact HB.out)) hb); clear HO128; clear HO131; clear HB; have HO128 := n0_; have HO131 := n1_; have HO134 := n2_; have HB := n3_; clear n0_ n1_ n2_ n3_; clear hb ho11; obtain ⟨Ao12, co12, eo12⟩ := Kd.R_slice HO134.out; subst eo12) | ((with_reducible refine gate_callee (f := 45) rfl ?_); refine goesL_ (some 10) rfl rfl Try.func45 (by kernel_rfl) rfl #[.agg #[.slice Ao9 y126.length co9, .slice Ao8 y129.length co8], .slice Ao12 y132.length co12] rfl (by (try simp only [List.map_toArray, List.map_cons, List.map_nil]); first | done | rfl | (simp only [List.length_drop, List.length_take]; rfl)) ?_; (with_reducible refine (weak_Live.calls k _ _ y126 _ _ y129 _ _ y132 t135 t138 _ ?side1 ?side2 ?side3 ?side4 ?side5 ?side6 A1.out).mono ?_); (case side1 => repeat (first | exact (Kd.S_reads' HO128.out).2.2 | (with_reducible refine Kd.C_alloc ?_ _) | (with_reducible refine Kd.C_drewN ?_ _) | (with_reducible refine Kd.C_drew ?_))); (case side2 => exact (Kd.S_reads' HO128.out).2.1); (case side3 => repeat (first | exact (Kd.R_reads' HO131.out).2.2 | (with_reducible refine Kd.C_alloc ?_ _) | (with_reducible refine Kd.C_drewN ?_ _) | (with_reducible refine Kd.C_drew ?_))); (case side4 => exact (Kd.R_reads' HO131.out).2.1); (case side5 => repeat (first | exact (Kd.R_reads' HO134.out).2.2 | (with_reducible refine Kd.C_alloc ?_ _) | (with_reducible refine Kd.C_drewN ?_ _) | (with_reducible refine Kd.C_drew ?_))); (case side6 => exact (Kd.R_reads' HO134.out).2.1); rintro e w13 ⟨v136, rfl, ho0, hb⟩; refine ⟨_, rfl, ?_⟩; have n0_ := Aside0.mk (Kd.S_elder' (by (with_reducible repeat (first | apply Kd.S_alloc | apply Kd.S_drewN | apply Kd.S_drew)); exact HO128.out) (Kd.R_base ho0) hb); have n1_ := Aside0.mk (Kd.R_elder' (by (with_reducible repeat (first | apply Kd.R_alloc | apply Kd.R_drewN | apply Kd.R_drew)); exact HO131.out) (Kd.R_base ho0) hb); have n2_ := Aside0.mk (Kd.R_below (by (with_reducible repeat (first | apply Kd.R_alloc | apply Kd.R_drewN | apply Kd.R_drew)); exact HO134.out) hb); have n3_ := Aside0.mk (Kd.R_lower (Kd.R_new' ho0 (Kd.R_lt (by (with_reducible repeat (first | apply Kd.R_alloc | apply Kd.R_drewN | apply Kd.R_drew)); exact HO131.out))) (below_size (by repeat (first | (with_reducible first | exact HB.out | apply below_alloc | apply pw_below_drewN | apply below_drew1) | exact HB.out)))); have n4_ := Aside0.mk (below_step (by repeat (first | (with_reducible first | exact HB.out | apply below_alloc | apply pw_below_drewN | apply below_drew1) | exact HB.out)) hb); clear HO128; clear HO131; clear HO134; clear HB; have HO128 := n0_; have HO131 := n1_; have HO134 := n2_; have HO137 := n3_; have HB := n4_; clear n0_ n1_ n2_ n3_ n4_; (try clear hb); (try clear hb2); (try clear hk); (try clear hi); (try clear ho0)) | ((with_reducible refine gate_dst (N := 17) rfl ?_); (try (refine gate_guard (by rfl) ?_; dsimp only)); refine Kd.R_lit (Kd.int .i64) _ 3 ?hg (N := 17) ?hd (xs := ([0, 1] : List Int)) (inner := [.int .i64 0, .int .i64 1]) (ok := fun _ => True) (okp := fun _ => True) ?hr ?hp (fun _ hk => hk) trivial (Below.refl _ _) (Nat.le_refl _) (by simp) ?_; (case hd => rfl); (case hg => rfl); (case hr => first | (go_simp; done) | (go_simp; rfl)); (case hp => exact (Reps.one (show Kd.M (Kd.int .i64) _ _ _ 0 [.int .i64 0] from rfl) (Reps.one (show Kd.M (Kd.int .i64) _ _ _ 1 [.int .i64 1] from rfl) (Reps.none _ _)))); intro v140 w14 ho15 hb hg_ hnew_; clear hg_ hnew_; (first | rw [← Ny139.out] at ho15 | (simp only [Int.reduceToNat] at ho15; rw [← Ny139.out] at ho15)); have n0_ := Aside0.mk (Kd.S_elder' (by (with_reducible repeat (first | apply Kd.S_alloc | apply Kd.S_drewN | apply Kd.S_drew)); exact HO128.out) (Kd.R_base ho15) hb); have n1_ := Aside0.mk (Kd.R_elder' (by (with_reducible repeat (first | apply Kd.R_alloc | apply Kd.R_drewN | apply Kd.R_drew)); exact HO131.out) (Kd.R_base ho15) hb); have n2_ := Aside0.mk (Kd.R_below (by (with_reducible repeat (first | apply Kd.R_alloc | apply Kd.R_drewN | apply Kd.R_drew)); exact HO134.out) hb); have n3_ := Aside0.mk (Kd.R_elder' (by (with_reducible repeat (first | apply Kd.R_alloc | apply Kd.R_drewN | apply Kd.R_drew)); exact HO137.out) (Kd.R_base ho15) hb); have n4_ := Aside0.mk (Kd.R_lower (Kd.R_new' (Kd.R_new' ho15 (Kd.R_lt (by (with_reducible repeat (first | apply Kd.R_alloc | apply Kd.R_drewN | apply Kd.R_drew)); exact HO131.out))) (Kd.R_lt (by (with_reducible repeat (first | apply Kd.R_alloc | apply Kd.R_drewN | apply Kd.R_drew)); exact HO137.out))) (below_size (by repeat (first | (with_reducible first | exact HB.out | apply below_alloc | apply pw_below_drewN | apply below_drew1) | exact HB.out)))); have n5_ := Aside0.mk (below_step (by repeat (first | (with_reducible first | exact HB.out | apply below_alloc | apply pw_below_drewN | apply below_drew1) | exact HB.out)) hb); clear HO128; clear HO131; clear HO134; clear HO137; clear HB; have HO128 := n0_; have HO131 := n1_; have HO134 := n2_; have HO137 := n3_; have HO141 := n4_; have HB := n5_; clear n0_ n1_ n2_ n3_ n4_ n5_; clear hb ho15; obtain ⟨Ao16, co16, eo16⟩ := Kd.R_slice HO137.out; subst eo16; obtain ⟨Ao17, co17, eo17⟩ := Kd.R_slice HO141.out; subst eo17) | (go_at_call 40; (with_reducible refine (backstitchref3_Eq_int.calls k _ _ t135 _ _ y139 t142 _ ?side1 ?side2 ?side3 ?side4 A3.out).mono ?_); (case side1 => repeat (first | exact (Kd.R_reads' HO137.out).2.2 | (with_reducible refine Kd.C_alloc ?_ _) | (with_reducible refine Kd.C_drewN ?_ _) | (with_reducible refine Kd.C_drew ?_))); (case side2 => exact (Kd.R_reads' HO137.out).2.1); (case side3 => repeat (first | exact (Kd.R_reads' HO141.out).2.2 | (with_reducible refine Kd.C_alloc ?_ _) | (with_reducible refine Kd.C_drewN ?_ _) | (with_reducible refine Kd.C_drew ?_))); (case side4 => exact (Kd.R_reads' HO141.out).2.1); rintro e w' ⟨rfl, ⟨nd, rfl⟩⟩))
    go_ret
    exact ⟨by first | rfl | (simp [errW_none, errW_some] <;> rfl) | (simp [*, errW_none, errW_some] <;> rfl), by repeat (first | (with_reducible first | exact HB.out | apply below_alloc | apply pw_below_drewN | apply below_drew1) | exact HB.out)⟩
  · rw [if_neg c2] at H
    have c2b0 : (t138 == 0) = false := beq_eq_false_iff_ne.mpr c2
    have c2b1 : (t138 != 0) = true := bne_iff_ne.mpr c2
    obtain rfl := Option.some.inj H
    go_enter Try.func42, Try.ntmps42
    go_wp2_with (first | ((with_reducible refine gate_dst (N := 4) rfl ?_); (try (refine gate_guard (by rfl) ?_; dsimp only)); refine Kd.S_lit (Kd.slice 3 (Kd.int .i64)) _ 40 ?hg (N := 4) ?hd (xs := ([[], [], []] : List (List Int))) (inner := [.slice none 0 0, .slice none 0 0, .slice none 0 0]) (ok := fun _ => True) (okp := fun _ => True) ?hr ?hp (fun _ hk => hk) trivial (Below.refl _ _) (Nat.le_refl _) (by simp) ?_; (case hd => rfl); (case hg => rfl); (case hr => first | (go_simp; done) | (go_simp; rfl)); (case hp => exact (Reps.one (show Kd.M (Kd.slice 3 (Kd.int .i64)) _ _ _ [] [.slice none 0 0] from ⟨_, rfl, Kd.R_nil _ _ _ _ _⟩) (Reps.one (show Kd.M (Kd.slice 3 (Kd.int .i64)) _ _ _ [] [.slice none 0 0] from ⟨_, rfl, Kd.R_nil _ _ _ _ _⟩) (Reps.one (show Kd.M (Kd.slice 3 (Kd.int .i64)) _ _ _ [] [.slice none 0 0] from ⟨_, rfl, Kd.R_nil _ _ _ _ _⟩) (Reps.none _ _))))); intro v127 w18 ho19 hb hg_ hnew_; clear hg_ hnew_; (first | rw [← Ny126.out] at ho19 | (simp only [Int.reduceToNat] at ho19; rw [← Ny126.out] at ho19)); have n0_ := Aside0.mk (Kd.S_lower ho19 (below_size (by repeat (first | (with_reducible first | exact HB.out | apply below_alloc | apply pw_below_drewN | apply below_drew1) | exact HB.out)))); have n1_ := Aside0.mk (below_step (by repeat (first | (with_reducible first | exact HB.out | apply below_alloc | apply pw_below_drewN | apply below_drew1) | exact HB.out)) hb); clear HB; have HO128 := n0_; have HB := n1_; clear n0_ n1_; clear hb ho19) | ((with_reducible refine gate_dst (N := 5) rfl ?_); (try (refine gate_guard (by rfl) ?_; dsimp only)); refine Kd.R_lit (Kd.int .i64) _ 3 ?hg (N := 5) ?hd (xs := ([0] : List Int)) (inner := [.int .i64 0]) (ok := fun _ => True) (okp := fun _ => True) ?hr ?hp (fun _ hk => hk) trivial (Below.refl _ _) (Nat.le_refl _) (by simp) ?_; (case hd => rfl); (case hg => rfl); (case hr => first | (go_simp; done) | (go_simp; rfl)); (case hp => exact (Reps.one (show Kd.M (Kd.int .i64) _ _ _ 0 [.int .i64 0] from rfl) (Reps.none _ _))); intro v130 w20 ho21 hb hg_ hnew_; clear hg_ hnew_; (first | rw [← Ny129.out] at ho21 | (simp only [Int.reduceToNat] at ho21; rw [← Ny129.out] at ho21)); have n0_ := Aside0.mk (Kd.S_elder' (by (with_reducible repeat (first | apply Kd.S_alloc | apply Kd.S_drewN | apply Kd.S_drew)); exact HO128.out) (Kd.R_base ho21) hb); have n1_ := Aside0.mk (Kd.R_lower ho21 (below_size (by repeat (first | (with_reducible first | exact HB.out | apply below_alloc | apply pw_below_drewN | apply below_drew1) | exact HB.out)))); have n2_ := Aside0.mk (below_step (by repeat (first | (with_reducible first | exact HB.out | apply below_alloc | apply pw_below_drewN | apply below_drew1) | exact HB.out)) hb); clear HO128; clear HB; have HO128 := n0_; have HO131 := n1_; have HB := n2_; clear n0_ n1_ n2_; clear hb ho21; obtain ⟨Ao22, co22, eo22⟩ := Kd.R_slice HO131.out; subst eo22; obtain ⟨Ao23, co23, eo23⟩ := Kd.S_slice HO128.out; subst eo23) | ((with_reducible refine gate_dst (N := 9) rfl ?_); (try (refine gate_guard (by rfl) ?_; dsimp only)); refine Kd.R_lit k100 _ 100 ?hg (N := 9) ?hd (xs := ([(⟨0, 1⟩ : S100), (⟨2, 2⟩ : S100)] : List (S100))) (inner := [.int .i64 0, .int .i64 1, .int .i64 2, .int .i64 2]) (ok := fun _ => True) (okp := fun _ => True) ?hr ?hp (fun _ hk => hk) trivial (Below.refl _ _) (Nat.le_refl _) (by simp) ?_; (case hd => rfl); (case hg => rfl); (case hr => first | (go_simp; done) | (go_simp; rfl)); (case hp => exact (Reps.c2 (show Kd.M k100 _ _ _ (⟨0, 1⟩ : S100) [.int .i64 0, .int .i64 1] from (k100_mkM _ _ _ (⟨0, 1⟩ : S100) )) (Reps.c2 (show Kd.M k100 _ _ _ (⟨2, 2⟩ : S100) [.int .i64 2, .int .i64 2] from (k100_mkM _ _ _ (⟨2, 2⟩ : S100) )) (Reps.none _ _)))); intro v133 w24 ho25 hb hg_ hnew_; clear hg_ hnew_; (first | rw [← Ny132.out] at ho25 | (simp only [Int.reduceToNat] at ho25; rw [← Ny132.out] at ho25)); have n0_ := Aside0.mk (Kd.S_below (by (with_reducible repeat (first | apply Kd.S_alloc | apply Kd.S_drewN | apply Kd.S_drew)); exact HO128.out) hb); have n1_ := Aside0.mk (Kd.R_below (by (with_reducible repeat (first | apply Kd.R_alloc | apply Kd.R_drewN | apply Kd.R_drew)); exact HO131.out) hb); have n2_ := Aside0.mk (Kd.R_lower ho25 (below_size (by repeat (first | (with_reducible first | exact HB.out | apply below_alloc | apply pw_below_drewN | apply below_drew1) | exact HB.out)))); have n3_ := Aside0.mk (below_step (by repeat (first | (with_reducible first | exact HB.out | apply below_alloc | apply pw_below_drewN | apply below_drew1) | exact HB.out)) hb); clear HO128; clear HO131; clear HB; have HO128 := n0_; have HO131 := n1_; have HO134 := n2_; have HB := n3_; clear n0_ n1_ n2_ n3_; clear hb ho25; obtain ⟨Ao26, co26, eo26⟩ := Kd.R_slice HO134.out; subst eo26) | ((with_reducible refine gate_callee (f := 45) rfl ?_); refine goesL_ (some 10) rfl rfl Try.func45 (by kernel_rfl) rfl #[.agg #[.slice Ao23 y126.length co23, .slice Ao22 y129.length co22], .slice Ao26 y132.length co26] rfl (by (try simp only [List.map_toArray, List.map_cons, List.map_nil]); first | done | rfl | (simp only [List.length_drop, List.length_take]; rfl)) ?_; (with_reducible refine (weak_Live.calls k _ _ y126 _ _ y129 _ _ y132 t135 t138 _ ?side1 ?side2 ?side3 ?side4 ?side5 ?side6 A1.out).mono ?_); (case side1 => repeat (first | exact (Kd.S_reads' HO128.out).2.2 | (with_reducible refine Kd.C_alloc ?_ _) | (with_reducible refine Kd.C_drewN ?_ _) | (with_reducible refine Kd.C_drew ?_))); (case side2 => exact (Kd.S_reads' HO128.out).2.1); (case side3 => repeat (first | exact (Kd.R_reads' HO131.out).2.2 | (with_reducible refine Kd.C_alloc ?_ _) | (with_reducible refine Kd.C_drewN ?_ _) | (with_reducible refine Kd.C_drew ?_))); (case side4 => exact (Kd.R_reads' HO131.out).2.1); (case side5 => repeat (first | exact (Kd.R_reads' HO134.out).2.2 | (with_reducible refine Kd.C_alloc ?_ _) | (with_reducible refine Kd.C_drewN ?_ _) | (with_reducible refine Kd.C_drew ?_))); (case side6 => exact (Kd.R_reads' HO134.out).2.1); rintro e w27 ⟨v136, rfl, ho0, hb⟩; refine ⟨_, rfl, ?_⟩; have n0_ := Aside0.mk (Kd.S_elder' (by (with_reducible repeat (first | apply Kd.S_alloc | apply Kd.S_drewN | apply Kd.S_drew)); exact HO128.out) (Kd.R_base ho0) hb); have n1_ := Aside0.mk (Kd.R_elder' (by (with_reducible repeat (first | apply Kd.R_alloc | apply Kd.R_drewN | apply Kd.R_drew)); exact HO131.out) (Kd.R_base ho0) hb); have n2_ := Aside0.mk (Kd.R_below (by (with_reducible repeat (first | apply Kd.R_alloc | apply Kd.R_drewN | apply Kd.R_drew)); exact HO134.out) hb); have n3_ := Aside0.mk (Kd.R_lower (Kd.R_new' ho0 (Kd.R_lt (by (with_reducible repeat (first | apply Kd.R_alloc | apply Kd.R_drewN | apply Kd.R_drew)); exact HO131.out))) (below_size (by repeat (first | (with_reducible first | exact HB.out | apply below_alloc | apply pw_below_drewN | apply below_drew1) | exact HB.out)))); have n4_ := Aside0.mk (below_step (by repeat (first | (with_reducible first | exact HB.out | apply below_alloc | apply pw_below_drewN | apply below_drew1) | exact HB.out)) hb); clear HO128; clear HO131; clear HO134; clear HB; have HO128 := n0_; have HO131 := n1_; have HO134 := n2_; have HO137 := n3_; have HB := n4_; clear n0_ n1_ n2_ n3_ n4_; (try clear hb); (try clear hb2); (try clear hk); (try clear hi); (try clear ho0)))
    go_ret
    exact ⟨by first | rfl | (simp [errW_none, errW_some] <;> rfl) | (simp [*, errW_none, errW_some] <;> rfl), by repeat (first | (with_reducible first | exact HB.out | apply below_alloc | apply pw_below_drewN | apply below_drew1) | exact HB.out)⟩

/-! ### backstitchref3_Copy_int: function 39 -/
def backstitchref3_Copy_int.f (l0 : List (Int)) : Option (List (Int)) := if l0.length < 17592186044416 then some l0 else none
theorem backstitchref3_Copy_int.calls (A0 : Option Addr) (c0 : Nat) (l0 : List (Int)) (r : List (Int)) (w : World) (hr0 : Kd.C (Kd.int .i64) w A0 l0.length l0) (hc0 : l0.length ≤ c0) (h : backstitchref3_Copy_int.f l0 = some r) :
    Calls Try.prog 39 #[.slice A0 l0.length c0] w fun e w' => ∃ v0_ : Value, e = .returned v0_ ∧ Kd.R (Kd.int .i64) 3 w' w.heap.size (fun _ => True) v0_ r ∧ Below w.heap.size w w' := by
  have HR0 := Aside0.mk hr0
  clear hr0
  have HL : Aside0 (l0.length < 17592186044416) := ⟨by unfold backstitchref3_Copy_int.f at h; split at h; assumption; cases h⟩
  have HE : Aside0 (l0 = r) := ⟨by unfold backstitchref3_Copy_int.f at h; split at h; simpa using h; cases h⟩
  clear h hc0
  go_enter Try.func39, Try.ntmps39
  go_wp2_with (at_builtin; refine Kd.R_append_rows (Kd.int .i64) (Rr := (Kd.int .i64).K w) (w0 := w) w.heap.size rfl (.const (.slice none 0 0)) (.tmp 3) 40 3 (.int .i64 0) 8 rfl Try.underlying40 info3 rfl (by decide) (by omega) (.slice none 0 0) [] l0 A0 l0.length c0 (fun _ => True) (fun _ => True) rfl rfl (Kd.R_nil _ _ _ _ _) ?aR ?aM ?aO (fun _ _ => trivial) (Below.refl _ _) (Nat.le_refl _) ?aL ?_; (case aR => exact HR0.out); (case aM => exact fun x cs h => h); (case aO => exact (fun k _ => ⟨trivial, by simp [Value.ownBlock]⟩)); (case aL => have := HL.out; simp; omega); intro v1 w1 ho hb hg hat; rw [List.nil_append] at ho; have HO := Aside0.mk ho; have HB := Aside0.mk hb; clear ho hb hg hat)
  go_ret
  exact ⟨_, rfl, by rw [← HE.out]; exact HO.out, HB.out⟩

end Go.Proofs.Ytlojkphocbbjdaa.PWeakTells
