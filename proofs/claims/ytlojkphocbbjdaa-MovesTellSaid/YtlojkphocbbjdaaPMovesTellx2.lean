-- Printed for this claim by a program of this session (inj.py), beside the kit's print. Not trusted: Lean checks it.
import Derived.Test.YtlojkphocbbjdaaPMovesTellx0
import Derived.Test.YtlojkphocbbjdaaPMovesTellx1
namespace Go.Proofs.Ytlojkphocbbjdaa.PMovesTell
open Go.RowKit Go.Proofs.YtlojkphocbbjdaaW.PrintWords Go.Proofs.YtlojkphocbbjdaaW.PrintLast Go.Proofs.YtlojkphocbbjdaaW.PrintMore
attribute [local go_sem] max2_int min2_int max_two min_two max_three min_three max_four min_four   -- for this text's walks alone
set_option linter.unusedVariables false
set_option linter.unusedSimpArgs false

attribute [local go_sem high] eqA71
/-! ### api_RMove_135: function 135 -/
/-- The first one that is so; -1: there is none. -/
def api_RMove_135.idx (p : S71 → Bool) : List (S71) → Int → Int
  | [], _ => -1
  | x :: l, i => if p x then i else api_RMove_135.idx p l (i + 1)
theorem api_RMove_135.idx_spec (p : S71 → Bool) : ∀ (l : List (S71)) (i : Int), (api_RMove_135.idx p l i = -1 ∧ ∀ x ∈ l, p x = false) ∨ ∃ q : Nat, q < l.length ∧ api_RMove_135.idx p l i = i + (q : Int) ∧ (l.take (q + 1)).filter (fun x => !p x) = l.take q
  | [], i => .inl ⟨rfl, fun x hx => by simp at hx⟩
  | x :: l, i => by
    rw [api_RMove_135.idx]
    rcases hp : p x with _ | _
    · simp only [Bool.false_eq_true, if_false]
      rcases api_RMove_135.idx_spec p l (i + 1) with ⟨h1, h2⟩ | ⟨q, h1, h2, h3⟩
      · exact .inl ⟨h1, fun y hy => (List.mem_cons.1 hy).elim (fun e => by rw [e]; exact hp) (fun hy => h2 y hy)⟩
      · refine .inr ⟨q + 1, by simp; omega, by rw [h2]; omega, ?_⟩
        rw [List.take_succ_cons, List.take_succ_cons, List.filter_cons, hp, h3]
        simp
    · simp only [if_true]
      exact .inr ⟨0, by simp, by simp, by simp [hp]⟩
set_option maxHeartbeats 2000000 in
set_option maxRecDepth 100000 in
theorem api_RMove_135.walk (A0 : Option Addr) (c0 : Nat) (l0 : List (S71)) (cid : Nat) (cap : Array Value) (p : S71 → Bool) (w : World) (hr0 : Kd.C k71 w A0 l0.length l0) (hn : l0.length < 4611686018427387904)
    (hcf : ∀ (args : Array Value) (W : World), Sem.run Try.prog (callFunc cid args) W = .ok (.enter cid args) W)
    (hf : ∀ (x : S71) (W : World), x ∈ l0 → Below w.heap.size w W → Calls Try.prog cid (#[.agg #[.int .i64 x.f0, .int .i64 x.f1]] ++ cap) W fun e w' => e = .returned (.bool (p x)) ∧ Below W.heap.size W w') :
    Calls Try.prog 135 #[.slice A0 l0.length c0, .func (.func cid) #[] cap] w fun e w' => e = .returned (.int .i64 (api_RMove_135.idx p l0 0)) ∧ Below w.heap.size w w' := by
  have HR0 := Aside0.mk hr0
  have HF := Aside0.mk hf
  have HN := Aside0.mk hn
  clear hr0 hf hn
  go_enter Try.func135, Try.ntmps135
  go_wp2
  go_loopw [8] (fun v8 wr => ∃ i : Int, v8 = .int .i64 i ∧ Aside0 (0 ≤ i ∧ i ≤ l0.length) ∧ Aside0 (api_RMove_135.idx p (l0.drop i.toNat) i = api_RMove_135.idx p l0 0) ∧ Aside0 (Below w.heap.size w wr)) (fun v8 _ => l0.length - (intOf v8).toNat)
  case atStart => exact ⟨0, rfl, ⟨by omega⟩, ⟨by simp⟩, ⟨Below.refl _ _⟩⟩
  case round =>
    obtain ⟨i, rfl, HI, HX, HB⟩ := hrel
    have hi0 : 0 ≤ i := HI.out.1
    by_cases hlt : i < (l0.length : Int)
    · have ht : decide (i < (l0.length : Int)) = true := decide_eq_true hlt
      have hd : l0.drop i.toNat = (rd_T71 l0 i) :: l0.drop (i + 1).toNat := by
        rw [List.drop_eq_getElem_cons (by omega), show (i + 1).toNat = i.toNat + 1 by omega]
        congr 1
        rw [rd_T71, List.getD_eq_getElem?_getD, List.getElem?_eq_getElem (by omega), Option.getD_some]
      have hmem : (rd_T71 l0 i) ∈ l0 := List.mem_of_mem_drop (i := i.toNat) (by rw [hd]; exact List.mem_cons_self)
      have HD := Aside0.mk hd
      clear hd
      obtain ⟨ad, e, h1, h2⟩ := at_T71 HR0.out i hi0 hlt
      cases e
      replace h1 := (HB.out.cell (World.block_lt_of_cell? w _ h1)).trans h1
      replace h2 := (HB.out.cell (World.block_lt_of_cell? w _ h2)).trans h2
      have HC := Aside0.mk (HF.out (rd_T71 l0 i))
      have HW := Aside0.mk (show wrap64 (i + 1) = i + 1 by have := HN.out; unfold wrap64; omega)
      rcases hp : p (rd_T71 l0 i) with _ | _
      · have HP := Aside0.mk hp
        have HM := Aside0.mk hmem
        clear hp hmem
        go_wp2_with (refine (HC.out _ HM.out ?hb).mono ?_; (case hb => exact HB.out); rintro e w' ⟨rfl, hb2⟩; have HB2 := Aside0.mk (HB.out.trans (hb2.mono HB.out.size)); rw [HP.out]; clear hb2)
        go_roundw
        case rel => exact ⟨i + 1, by first | rw [HW.out] | rfl, ⟨by omega⟩, ⟨by rw [← HX.out, HD.out, api_RMove_135.idx, HP.out]; simp⟩, HB2⟩
        case measure => simp only [intOf]; (try rw [HW.out]); omega
      · have HP := Aside0.mk hp
        have HM := Aside0.mk hmem
        clear hp hmem
        go_wp2_with (refine (HC.out _ HM.out ?hb).mono ?_; (case hb => exact HB.out); rintro e w' ⟨rfl, hb2⟩; have HB2 := Aside0.mk (HB.out.trans (hb2.mono HB.out.size)); rw [HP.out]; clear hb2)
        go_ret
        exact ⟨by rw [← HX.out, HD.out, api_RMove_135.idx, HP.out]; simp, HB2.out⟩
    · have ht : decide (i < (l0.length : Int)) = false := decide_eq_false hlt
      go_wp2
      go_ret
      exact ⟨by rw [← HX.out, List.drop_eq_nil_of_le (by omega)]; rfl, HB.out⟩

/-! ### api_RMove_132: function 132 -/
theorem api_RMove_135.idx_ge (p : S71 → Bool) : ∀ (l : List (S71)) (i : Int), 0 ≤ i → decide (0 ≤ api_RMove_135.idx p l i) = l.any p
  | [], i, _ => by simp [api_RMove_135.idx]
  | x :: l, i, h => by
    rw [api_RMove_135.idx, List.any_cons]
    rcases hp : p x with _ | _
    · simp only [Bool.false_eq_true, if_false, Bool.false_or]
      exact api_RMove_135.idx_ge p l (i + 1) (by omega)
    · simp only [if_true, Bool.true_or]
      exact decide_eq_true h
set_option maxHeartbeats 2000000 in
set_option maxRecDepth 100000 in
theorem api_RMove_132.walk (A0 : Option Addr) (c0 : Nat) (l0 : List (S71)) (cid : Nat) (cap : Array Value) (p : S71 → Bool) (w : World) (hr0 : Kd.C k71 w A0 l0.length l0) (hn : l0.length < 4611686018427387904)
    (hcf : ∀ (args : Array Value) (W : World), Sem.run Try.prog (callFunc cid args) W = .ok (.enter cid args) W)
    (hf : ∀ (x : S71) (W : World), x ∈ l0 → Below w.heap.size w W → Calls Try.prog cid (#[.agg #[.int .i64 x.f0, .int .i64 x.f1]] ++ cap) W fun e w' => e = .returned (.bool (p x)) ∧ Below W.heap.size W w') :
    Calls Try.prog 132 #[.slice A0 l0.length c0, .func (.func cid) #[] cap] w fun e w' => e = .returned (.bool (l0.any p)) ∧ Below w.heap.size w w' := by
  have HR0 := Aside0.mk hr0
  have HF := Aside0.mk hf
  have HN := Aside0.mk hn
  have HCF := Aside0.mk hcf
  clear hr0 hf hn hcf
  go_enter Try.func132, Try.ntmps132
  go_wp2_with (go_at_call 135; refine (api_RMove_135.walk A0 c0 l0 cid cap p _ HR0.out HN.out HCF.out HF.out).mono ?_; rintro e w' ⟨rfl, hb⟩; have HB := Aside0.mk hb; clear hb)
  go_ret
  exact ⟨by rw [← api_RMove_135.idx_ge p l0 0 (by omega)]; rfl, HB.out⟩

/-! ### moves_check: function 83 -/
/-- check$1: does a move go to what the captured one goes to? -/
theorem check1_walk (g : Nat) (m x : S71) (w : World) (h0 : w.cell? ⟨g, 0, none⟩ = some (.int .i64 m.f0)) :
    Calls Try.prog 133 #[.agg #[.int .i64 x.f0, .int .i64 x.f1], .pointer (some ⟨g, 0, none⟩)] w fun e w' => e = .returned (.bool (x.f0 == m.f0)) ∧ Below w.heap.size w w' := by
  have hlt := World.block_lt_of_cell? w _ h0
  go_enter Try.func133, Try.ntmps133
  go_wp2_with (((with_reducible refine gate_dst (N := 2) rfl ?_); (try (refine gate_guard (by rfl) ?_; dsimp only)); refine box_event ?hg (N := 2) ?hd (cs := #[.int .i64 x.f0, .int .i64 x.f1]) (t := 71) ?hr ?_; (case hd => rfl); (case hg => rfl); (case hr => first | (go_simp; done) | (go_simp; rfl)); intro gp hgp wp hbox hb; have HB := Aside0.mk hb; have hq0 : wp.cell? ⟨g, 0, none⟩ = some (.int .i64 m.f0) := (hb.cell hlt).trans h0; have hp0 : wp.cell? ⟨gp, 0, none⟩ = some (.int .i64 x.f0) := (blk_cell hbox 0).trans rfl; have hp1 : wp.cell? ⟨gp, 1, none⟩ = some (.int .i64 x.f1) := (blk_cell hbox 1).trans rfl; clear hgp hbox hb h0))
  go_ret
  exact ⟨rfl, HB.out⟩
/-- check$2: is the spare one touched? -/
theorem check2_walk (g : Nat) (spare : Int) (x : S71) (w : World) (h0 : w.cell? ⟨g, 0, none⟩ = some (.int .i64 spare)) :
    Calls Try.prog 134 #[.agg #[.int .i64 x.f0, .int .i64 x.f1], .pointer (some ⟨g, 0, none⟩)] w fun e w' => e = .returned (.bool (x.f0 == spare || x.f1 == spare)) ∧ Below w.heap.size w w' := by
  have hlt := World.block_lt_of_cell? w _ h0
  rcases hc : (x.f0 == spare) with _ | _
  all_goals
    go_enter Try.func134, Try.ntmps134
    go_wp2_with (((with_reducible refine gate_dst (N := 2) rfl ?_); (try (refine gate_guard (by rfl) ?_; dsimp only)); refine box_event ?hg (N := 2) ?hd (cs := #[.int .i64 x.f0, .int .i64 x.f1]) (t := 71) ?hr ?_; (case hd => rfl); (case hg => rfl); (case hr => first | (go_simp; done) | (go_simp; rfl)); intro gp hgp wp hbox hb; have HB := Aside0.mk hb; have hq0 : wp.cell? ⟨g, 0, none⟩ = some (.int .i64 spare) := (hb.cell hlt).trans h0; have hp0 : wp.cell? ⟨gp, 0, none⟩ = some (.int .i64 x.f0) := (blk_cell hbox 0).trans rfl; have hp1 : wp.cell? ⟨gp, 1, none⟩ = some (.int .i64 x.f1) := (blk_cell hbox 1).trans rfl; clear hgp hbox hb h0))
    go_ret
    exact ⟨rfl, HB.out⟩
def chkD (l : List S71) : Nat → Nat → Bool
  | 0, _ => false
  | d + 1, i => (l.take i).any (fun x => x.f0 == (l.getD i z71).f0) || chkD l d (i + 1)
def chkS (l : List S71) (spare : Int) : Int := if 60 < l.length then 2 else if chkD l l.length 0 = true then 6 else if l.any (fun x => x.f0 == spare || x.f1 == spare) = true then 1 else 0
set_option maxHeartbeats 4000000 in
set_option maxRecDepth 100000 in
theorem check_walk (A0 : Option Addr) (c0 : Nat) (l : List S71) (spare : Int) (w : World) (hr : Kd.C k71 w A0 l.length l) (hc : l.length ≤ c0) :
    Calls Try.prog 83 #[.slice A0 l.length c0, .int .i64 spare] w fun e w' => e = .returned (.int .i64 (chkS l spare)) ∧ Below w.heap.size w w' := by
  have HR := Aside0.mk hr
  have HC := Aside0.mk hc
  clear hr hc
  by_cases h60 : 60 < l.length
  · have hb1 : decide (60 < l.length) = true := decide_eq_true h60
    have hb2 : decide ((60 : Int) < (l.length : Int)) = true := decide_eq_true (by omega)
    have HS := Aside0.mk (show chkS l spare = 2 by unfold chkS; rw [if_pos h60])
    clear h60
    go_enter Try.func83, Try.ntmps83
    go_wp2
    go_ret
    exact ⟨by rw [HS.out]; rfl, below_alloc (Below.refl _ _) _⟩
  · have hb1 : decide (60 < l.length) = false := decide_eq_false h60
    have hb2 : decide ((60 : Int) < (l.length : Int)) = false := decide_eq_false (by omega)
    have HN := Aside0.mk h60
    have HS := Aside0.mk (show chkS l spare = if chkD l l.length 0 = true then 6 else if l.any (fun x => x.f0 == spare || x.f1 == spare) = true then 1 else 0 by unfold chkS; rw [if_neg h60])
    clear h60
    go_enter Try.func83, Try.ntmps83
    go_wp2_with (((with_reducible refine gate_dst (N := 3) rfl ?_); (try (refine gate_guard (by rfl) ?_; dsimp only)); refine box_event ?hg (N := 3) ?hd (cs := #[.int .i64 spare]) (t := 3) ?hr ?_; (case hd => rfl); (case hg => rfl); (case hr => first | (go_simp; done) | (go_simp; rfl)); intro gs hgs wb hbox hb; have HRb := Aside0.mk (Kd.C_below HR.out hb); have BS := Aside0.mk hbox; have HBw := Aside0.mk hb; have GS := Aside0.mk (blk_lt hbox); clear hgs hbox hb))
    go_loopw [12] (fun v12 wr => ∃ (i : Int), v12 = .int .i64 i ∧ Aside0 (0 ≤ i ∧ i ≤ l.length) ∧ Aside0 (chkD l (l.length - i.toNat) i.toNat = chkD l l.length 0) ∧ Aside0 (Below wb.heap.size wb wr)) (fun v12 _ => l.length - (intOf v12).toNat)
    case atStart => exact ⟨0, rfl, ⟨by omega⟩, ⟨by simp⟩, ⟨Below.refl _ _⟩⟩
    case round =>
      obtain ⟨i, rfl, Hi, HX, HB⟩ := hrel
      have hi0 : 0 ≤ i := Hi.out.1
      by_cases hlt : i < (l.length : Int)
      · have ht : decide (i < (l.length : Int)) = true := decide_eq_true hlt
        have HW := Aside0.mk (show wrap64 (i + 1) = i + 1 by have := HN.out; unfold wrap64; omega)
        have hx := HX.out
        rw [show l.length - i.toNat = (l.length - (i + 1).toNat) + 1 by omega, chkD, show i.toNat + 1 = (i + 1).toNat by omega, show l.getD i.toNat z71 = rd_T71 l i from rfl] at hx
        obtain ⟨ad, e, h1, h2⟩ := at_T71 HRb.out i hi0 hlt
        cases e
        replace h1 := (HB.out.cell (World.block_lt_of_cell? wb _ h1)).trans h1
        replace h2 := (HB.out.cell (World.block_lt_of_cell? wb _ h2)).trans h2
        generalize rd_T71 l i = p at *
        have hsl : ∀ W : World, (Instr.slice 65 (.slice (some ad) l.length c0) none (some (.int .i64 i)) none).run Try.prog W = .ok (.slice (some ad) i.toNat c0) W := by
          obtain ⟨i0, hi, hz⟩ := Option.map_eq_some_iff.1 info71
          exact cut_to 65 71 .i64 Try.underlying65 hi (some ad) l.length c0 i hi0 (by omega) HC.out
        have hln : (l.take i.toNat).length = i.toNat := by rw [List.length_take]; omega
        have HCt := Aside0.mk (show Kd.C k71 wb (some ad) i.toNat (l.take i.toNat) by have := Kd.C_take HRb.out (m := i.toNat) (by omega); rw [hln] at this; exact this)
        have hi0' := eq_true hi0
        have hlt' := eq_true hlt
        have HX2 := Aside0.mk hx
        clear hx HX
        have HCALL := Aside0.mk (show ∀ (W : World) (gp : Nat), Below wb.heap.size wb W → W.cell? ⟨gp, 0, none⟩ = some (.int .i64 p.f0) → Calls Try.prog 132 #[.slice (some ad) i.toNat c0, .func (.func 133) #[] #[.pointer (some ⟨gp, 0, none⟩)]] W fun e w' => e = .returned (.bool ((l.take i.toNat).any (fun x => x.f0 == p.f0))) ∧ Below W.heap.size W w' from by
          intro W gp hb hq
          have := api_RMove_132.walk (some ad) c0 (l.take i.toNat) 133 #[.pointer (some ⟨gp, 0, none⟩)] (fun x => x.f0 == p.f0) W (by rw [hln]; exact Kd.C_below HCt.out hb) (by have := HN.out; omega) (fun _ _ => rfl) (fun x W2 _ hW => check1_walk gp p x W2 ((hW.cell (World.block_lt_of_cell? W _ hq)).trans hq))
          rw [hln] at this
          exact this)
        rcases han : (l.take i.toNat).any (fun x => x.f0 == p.f0) with _ | _
        · have HAN := Aside0.mk han
          have hx := HX2.out
          rw [han, Bool.false_or] at hx
          have HX3 := Aside0.mk hx
          clear hx han HX2
          go_wp2_with (first | ((with_reducible refine gate_dst (N := 6) rfl ?_); (try (refine gate_guard (by rfl) ?_; dsimp only)); refine box_event ?hg (N := 6) ?hd (cs := #[.int .i64 0, .int .i64 0]) (t := 71) ?hr ?_; (case hd => rfl); (case hg => rfl); (case hr => first | (go_simp; done) | (go_simp; rfl)); intro gp hgp wp hbox hb; have GP := Aside0.mk (show wb.heap.size ≤ gp by rw [hgp]; exact HB.out.size); have HB2 := Aside0.mk (below_step HB.out hb); have BP := Aside0.mk hbox; have hp0 : wp.cell? ⟨gp, 0, none⟩ = some (.int .i64 0) := (blk_cell BP.out 0).trans rfl; have hp1 : wp.cell? ⟨gp, 1, none⟩ = some (.int .i64 0) := (blk_cell BP.out 1).trans rfl; have hf0 := blk_frozen BP.out 0; have hf1 := blk_frozen BP.out 1; clear hgp hbox hb) | ((with_reducible refine gate_store (t := 71) (p := 6) rfl ?_); refine store_event (t := 71) (p := 6) (v := .tmp 16) (w1 := (wp.setCell ⟨gp, 0, none⟩ (.int .i64 p.f0)).setCell ⟨gp, 1, none⟩ (.int .i64 p.f1)) ?hg ?ho ?hn ?hr ?_; (case ho => rfl); (case hg => rfl); (case hn => rfl); (case hr => first | (go_simp; done) | (go_simp; rfl)); intro w3 hw; have HB3 := Aside0.mk (below_set (below_set HB2.out GP.out (g := gp) (j := 0) (v := .int .i64 p.f0)) GP.out (g := gp) (j := 1) (v := .int .i64 p.f1)); have BP3 := Aside0.mk (blk_put (blk_put BP.out 0 (.int .i64 p.f0) rfl) 1 (.int .i64 p.f1) rfl); rw [← hw] at HB3 BP3; have hq0 : w3.cell? ⟨gp, 0, none⟩ = some (.int .i64 p.f0) := (blk_cell BP3.out 0).trans rfl; clear hw hp0 hp1 hf0 hf1 HB2 BP h1 h2; have HCL := Aside0.mk (HCALL.out w3 gp HB3.out hq0); clear hq0) | (go_at_call 132; refine HCL.out.mono ?_; rintro e w4 ⟨rfl, hb4⟩; have HB4 := Aside0.mk (below_step HB3.out hb4); clear hb4; rw [HAN.out]))
          go_roundw
          case rel => exact ⟨i + 1, by first | rw [HW.out] | rfl, ⟨by omega⟩, HX3, HB4⟩
          case measure => simp only [intOf]; (try rw [HW.out]); omega
        · have HAN := Aside0.mk han
          have hx := HX2.out
          rw [han, Bool.true_or] at hx
          have HX3 := Aside0.mk hx
          clear hx han HX2
          go_wp2_with (first | ((with_reducible refine gate_dst (N := 6) rfl ?_); (try (refine gate_guard (by rfl) ?_; dsimp only)); refine box_event ?hg (N := 6) ?hd (cs := #[.int .i64 0, .int .i64 0]) (t := 71) ?hr ?_; (case hd => rfl); (case hg => rfl); (case hr => first | (go_simp; done) | (go_simp; rfl)); intro gp hgp wp hbox hb; have GP := Aside0.mk (show wb.heap.size ≤ gp by rw [hgp]; exact HB.out.size); have HB2 := Aside0.mk (below_step HB.out hb); have BP := Aside0.mk hbox; have hp0 : wp.cell? ⟨gp, 0, none⟩ = some (.int .i64 0) := (blk_cell BP.out 0).trans rfl; have hp1 : wp.cell? ⟨gp, 1, none⟩ = some (.int .i64 0) := (blk_cell BP.out 1).trans rfl; have hf0 := blk_frozen BP.out 0; have hf1 := blk_frozen BP.out 1; clear hgp hbox hb) | ((with_reducible refine gate_store (t := 71) (p := 6) rfl ?_); refine store_event (t := 71) (p := 6) (v := .tmp 16) (w1 := (wp.setCell ⟨gp, 0, none⟩ (.int .i64 p.f0)).setCell ⟨gp, 1, none⟩ (.int .i64 p.f1)) ?hg ?ho ?hn ?hr ?_; (case ho => rfl); (case hg => rfl); (case hn => rfl); (case hr => first | (go_simp; done) | (go_simp; rfl)); intro w3 hw; have HB3 := Aside0.mk (below_set (below_set HB2.out GP.out (g := gp) (j := 0) (v := .int .i64 p.f0)) GP.out (g := gp) (j := 1) (v := .int .i64 p.f1)); have BP3 := Aside0.mk (blk_put (blk_put BP.out 0 (.int .i64 p.f0) rfl) 1 (.int .i64 p.f1) rfl); rw [← hw] at HB3 BP3; have hq0 : w3.cell? ⟨gp, 0, none⟩ = some (.int .i64 p.f0) := (blk_cell BP3.out 0).trans rfl; clear hw hp0 hp1 hf0 hf1 HB2 BP h1 h2; have HCL := Aside0.mk (HCALL.out w3 gp HB3.out hq0); clear hq0) | (go_at_call 132; refine HCL.out.mono ?_; rintro e w4 ⟨rfl, hb4⟩; have HB4 := Aside0.mk (below_step HB3.out hb4); clear hb4; rw [HAN.out]))
          go_ret
          exact ⟨by rw [HS.out, ← HX3.out]; rfl, HBw.out.trans (HB4.out.mono HBw.out.size)⟩
      · have ht : decide (i < (l.length : Int)) = false := decide_eq_false hlt
        have hx := HX.out
        rw [show l.length - i.toNat = 0 by omega, chkD] at hx
        have HX2 := Aside0.mk hx
        have hq0 : wr.cell? ⟨gs, 0, none⟩ = some (.int .i64 spare) := (HB.out.cell GS.out).trans ((blk_cell BS.out 0).trans rfl)
        have HCALL := Aside0.mk (api_RMove_132.walk A0 c0 l 134 #[.pointer (some ⟨gs, 0, none⟩)] (fun x => x.f0 == spare || x.f1 == spare) wr (Kd.C_below HRb.out HB.out) (by have := HN.out; omega) (fun _ _ => rfl) (fun x W2 _ hW => check2_walk gs spare x W2 ((hW.cell (World.block_lt_of_cell? wr _ hq0)).trans hq0)))
        clear hx HX hq0
        rcases han : l.any (fun x => x.f0 == spare || x.f1 == spare) with _ | _
        all_goals
          have HAN := Aside0.mk han
          clear han
          go_wp2_with (go_at_call 132; refine HCALL.out.mono ?_; rintro e w4 ⟨rfl, hb4⟩; have HB4 := Aside0.mk (below_step HB.out hb4); clear hb4; rw [HAN.out])
          go_ret
          exact ⟨by rw [HS.out, ← HX2.out, HAN.out]; rfl, HBw.out.trans (HB4.out.mono HBw.out.size)⟩

/-! ### api_RMove_84: function 84 -/
set_option maxHeartbeats 4000000 in
set_option maxRecDepth 100000 in
theorem api_RMove_84.walk (w0 : World) (okr : Nat → Prop) (A0 : Option Addr) (n0 c0 : Nat) (l0 : List (S71)) (cid : Nat) (cap : Array Value) (p : S71 → Bool) (w : World)
    (hr0 : Kd.R k71 71 w w0.heap.size okr (.slice A0 n0 c0) l0) (hB : Below w0.heap.size w0 w) (hn : l0.length < 4611686018427387904)
    (hcf : ∀ (args : Array Value) (W : World), Sem.run Try.prog (callFunc cid args) W = .ok (.enter cid args) W)
    (hf : ∀ (x : S71) (W : World), x ∈ l0 → Below w0.heap.size w0 W → Kept w W (fun k => some k = (Value.slice A0 n0 c0).ownBlock) → Calls Try.prog cid (#[.agg #[.int .i64 x.f0, .int .i64 x.f1]] ++ cap) W fun e w' => e = .returned (.bool (p x)) ∧ Below W.heap.size W w') :
    Calls Try.prog 84 #[.slice A0 n0 c0, .func (.func cid) #[] cap] w fun e w' => ∃ m, e = .returned (.slice A0 m c0) ∧ Kd.R k71 71 w' w0.heap.size okr (.slice A0 m c0) (l0.filter (fun x => !p x)) ∧ Below w0.heap.size w0 w' ∧ Kept w w' (fun k => some k = (Value.slice A0 n0 c0).ownBlock) := by
  obtain ⟨rfl, hnc, hC⟩ := Kd.R_reads' hr0
  have HIX := Aside0.mk (api_RMove_135.walk A0 c0 l0 cid cap p w hC hn hcf (fun x W hx hb => hf x W hx (below_step hB hb) (Kept.of_below hb _)))
  have HR0 := Aside0.mk hr0
  have HB0 := Aside0.mk hB
  have HF := Aside0.mk hf
  have HN := Aside0.mk hn
  have HNC := Aside0.mk hnc
  clear hr0 hf hn hC hB hnc
  rcases api_RMove_135.idx_spec p l0 0 with ⟨hi, ha⟩ | ⟨q, hq, hi, h1⟩
  · have HI := Aside0.mk hi
    have HA := Aside0.mk ha
    clear hi ha
    go_enter Try.func84, Try.ntmps84
    go_wp2_with (go_at_call 135; refine HIX.out.mono ?_; rintro e w' ⟨rfl, hb⟩; have HB := Aside0.mk hb; clear hb; rw [HI.out])
    go_ret
    exact ⟨_, rfl, by rw [List.filter_eq_self.2 (fun x hx => by rw [HA.out x hx]; rfl)]; exact Kd.R_below HR0.out HB.out, below_step HB0.out HB.out, Kept.of_below HB.out _⟩
  · obtain ⟨g, cp, hv, hgb, hgl, _⟩ := Kd.R_form HR0.out (by omega)
    obtain ⟨rfl, rfl⟩ : A0 = some ⟨g, 0, none⟩ ∧ c0 = cp := by injection hv with a b c; exact ⟨a, c⟩
    have HGB := Aside0.mk hgb
    have HI := Aside0.mk hi
    have H1 := Aside0.mk h1
    have HQ := Aside0.mk hq
    have HW1 := Aside0.mk (show wrap64 ((0 : Int) + (q : Int) + 1) = (q : Int) + 1 by have := HN.out; unfold wrap64; omega)
    have hqn : (((q : Int)) == -1) = false := beq_eq_false_iff_ne.mpr (by omega)
    have hqm : (((q : Int)) != -1) = true := bne_iff_ne.mpr (by omega)
    clear hi h1 hq hv hgb hgl
    obtain ⟨i0, hi0⟩ : ∃ i0 : Int, i0 = (q : Int) := ⟨_, rfl⟩
    have hi0p : 0 ≤ i0 := by omega
    have hi1p : i0 < (l0.length : Int) := by have := HQ.out; omega
    have HI2 := Aside0.mk (show api_RMove_135.idx p l0 0 = i0 by rw [HI.out]; omega)
    have HW2 := Aside0.mk (show wrap64 (i0 + 1) = i0 + 1 by have := HN.out; unfold wrap64; omega)
    have hqn : (i0 == -1) = false := beq_eq_false_iff_ne.mpr (by omega)
    have hqm : (i0 != -1) = true := bne_iff_ne.mpr (by omega)
    have H2 := Aside0.mk (show l0.take i0.toNat = (l0.take (i0 + 1).toNat).filter (fun x => !p x) by rw [show i0.toNat = q by omega, show (i0 + 1).toNat = q + 1 by omega]; exact H1.out.symm)
    clear HI HQ H1 HW1 hi0
    go_enter Try.func84, Try.ntmps84
    go_wp2_with (go_at_call 135; refine HIX.out.mono ?_; rintro e w1 ⟨rfl, hb⟩; have HB1 := Aside0.mk (below_step HB0.out hb); have HK1 := Aside0.mk (Kept.of_below hb (fun k => some k = (Value.slice (some ⟨g, 0, none⟩) l0.length c0).ownBlock)); have HR1 := Aside0.mk (Kd.R_below HR0.out hb); clear hb; rw [HI2.out])
    go_loopw [5, 6] (fun v5 v6 wr => ∃ (i j : Int) (cur : List (S71)), v5 = .int .i64 i ∧ v6 = .int .i64 j ∧ Aside0 (0 ≤ i ∧ i < j ∧ j ≤ l0.length) ∧ Aside0 (cur.length = l0.length) ∧ Aside0 (cur.take i.toNat = (l0.take j.toNat).filter (fun x => !p x)) ∧ Aside0 (cur.drop j.toNat = l0.drop j.toNat) ∧ Aside0 (Kd.R k71 71 wr w0.heap.size okr (.slice (some ⟨g, 0, none⟩) l0.length c0) cur) ∧ Aside0 (Below w0.heap.size w0 wr) ∧ Aside0 (Kept w wr (fun k => some k = (Value.slice (some ⟨g, 0, none⟩) l0.length c0).ownBlock))) (fun _ v6 _ => l0.length - (intOf v6).toNat)
    case atStart => exact ⟨i0, i0 + 1, l0, rfl, by first | rw [HW2.out] | rfl, ⟨by omega⟩, ⟨rfl⟩, H2, ⟨rfl⟩, HR1, HB1, HK1⟩
    case round =>
      clear HR1 HB1 HK1 HIX HI2 H2 HW2
      obtain ⟨i, j, cur, rfl, rfl, Hij, HL, HX1, HX2, HR, HB, HK⟩ := hrel
      have hi0 : 0 ≤ i := Hij.out.1
      have hj0 : 0 ≤ j := by have := Hij.out; omega
      by_cases hlt : j < (l0.length : Int)
      · have ht : decide (j < (l0.length : Int)) = true := decide_eq_true hlt
        have hin : i < (l0.length : Int) := by have := Hij.out; omega
        have HWj := Aside0.mk (show wrap64 (j + 1) = j + 1 by have := HN.out; unfold wrap64; omega)
        have HWi := Aside0.mk (show wrap64 (i + 1) = i + 1 by have := HN.out; unfold wrap64; omega)
        obtain ⟨ce, hcl, hM, hcc, hfr⟩ := Kd.R_elem HR.out z71 j hj0 hlt
        obtain ⟨x, hx⟩ : ∃ x, x = cur.getD j.toNat z71 := ⟨_, rfl⟩
        have hxl : l0[j.toNat]? = some x := by rw [← YtlojkphocbbjdaaW.Bas.del_read HX2.out, hx, List.getD_eq_getElem?_getD, List.getElem?_eq_getElem (by have := HL.out; omega), Option.getD_some]
        rw [← hx] at hM
        have HXL := Aside0.mk hxl
        clear hx hxl
        obtain rfl := k71_openM hM
        have hx0 : wr.cell? ⟨g, j.toNat * 2, none⟩ = some (.int .i64 x.f0) := hcc 0 _ rfl
        have hx1 : wr.cell? ⟨g, j.toNat * 2 + 1, none⟩ = some (.int .i64 x.f1) := hcc 1 _ rfl
        (try simp only [show (k71).sz = 2 from rfl, Nat.mul_one, Nat.add_zero] at *)
        clear hcl hcc hfr hM
        have HMEM := Aside0.mk (show x ∈ l0 from List.mem_of_getElem? HXL.out)
        have hj0' := eq_true hj0
        have hlt' := eq_true hlt
        have hi0' := eq_true hi0
        have hin' := eq_true hin
        have HCF := Aside0.mk hcf
        rcases hp : p x with _ | _
        all_goals
          have HP := Aside0.mk hp
          clear hp
          go_wp2_with (first | ((with_reducible refine gate_dst (N := 7) rfl ?_); (try (refine gate_guard (by rfl) ?_; dsimp only)); refine box_event ?hg (N := 7) ?hd (cs := #[.int .i64 0, .int .i64 0]) (t := 71) ?hr ?_; (case hd => rfl); (case hg => rfl); (case hr => first | (go_simp; done) | (go_simp; rfl)); intro gp hgp wp hbox hb; have GP := Aside0.mk (show w0.heap.size ≤ gp by rw [hgp]; exact HB.out.size); have GW := Aside0.mk (show w.heap.size ≤ gp by rw [hgp]; exact HK.out.1); have GN := Aside0.mk (show g ≠ gp by have := Kd.R_lt HR.out g rfl; omega); have HR2 := Aside0.mk (Kd.R_below HR.out hb); have HB2 := Aside0.mk (below_step HB.out hb); have HK2 := Aside0.mk (Kept.below HK.out hb); have BP := Aside0.mk hbox; have hp0 : wp.cell? ⟨gp, 0, none⟩ = some (.int .i64 0) := (blk_cell BP.out 0).trans rfl; have hpf0 := blk_frozen BP.out 0; have hp1 : wp.cell? ⟨gp, 1, none⟩ = some (.int .i64 0) := (blk_cell BP.out 1).trans rfl; have hpf1 := blk_frozen BP.out 1; clear hgp hbox hb) | ((with_reducible refine gate_store (t := 71) (p := 7) rfl ?_); refine store_event (t := 71) (p := 7) (v := .tmp 25) (w1 := ((wp.setCell ⟨gp, 0, none⟩ (.int .i64 x.f0)).setCell ⟨gp, 1, none⟩ (.int .i64 x.f1))) ?hg ?ho ?hn ?hr ?_; (case ho => rfl); (case hg => rfl); (case hn => rfl); (case hr => first | (go_simp; done) | (go_simp; rfl)); intro w3 hw; have HB3 := Aside0.mk (show Below w0.heap.size w0 ((wp.setCell ⟨gp, 0, none⟩ (.int .i64 x.f0)).setCell ⟨gp, 1, none⟩ (.int .i64 x.f1)) from (below_set (below_set HB2.out GP.out) GP.out)); have BP3 := Aside0.mk (blk_put (blk_put BP.out 0 (.int .i64 x.f0) rfl) 1 (.int .i64 x.f1) rfl); have HR3 := Aside0.mk ((YtlojkphocbbjdaaW.Bas.R_apart rfl (YtlojkphocbbjdaaW.Bas.R_apart rfl HR2.out GN.out 0 (.int .i64 x.f0)) GN.out 1 (.int .i64 x.f1))); have HK3 := Aside0.mk (show Kept w ((wp.setCell ⟨gp, 0, none⟩ (.int .i64 x.f0)).setCell ⟨gp, 1, none⟩ (.int .i64 x.f1)) (fun k => some k = (Value.slice (some ⟨g, 0, none⟩) l0.length c0).ownBlock) from (Kept.setCell (Kept.setCell HK2.out (p := ⟨gp, 0, none⟩) (.inr GW.out) _) (p := ⟨gp, 1, none⟩) (.inr GW.out) _)); rw [← hw] at HB3 BP3 HR3 HK3; clear hw hp0 hpf0 hp1 hpf1 hx0 hx1; have hq0 : w3.cell? ⟨gp, 0, none⟩ = some (.int .i64 x.f0) := (blk_cell BP3.out 0).trans rfl; have hq1 : w3.cell? ⟨gp, 1, none⟩ = some (.int .i64 x.f1) := (blk_cell BP3.out 1).trans rfl; have HCL := Aside0.mk (HF.out x w3 HMEM.out HB3.out HK3.out)) | ((with_reducible refine HCL.out.mono ?_); rintro e w5 ⟨rfl, hb5⟩; have HB5 := Aside0.mk (below_step HB3.out hb5); have HK5 := Aside0.mk (Kept.below HK3.out hb5); have HR5 := Aside0.mk (Kd.R_below HR3.out hb5); have BP5 := Aside0.mk (blk_below BP3.out hb5); have hr0 : w5.cell? ⟨gp, 0, none⟩ = some (.int .i64 x.f0) := (blk_cell BP5.out 0).trans rfl; have hr1 : w5.cell? ⟨gp, 1, none⟩ = some (.int .i64 x.f1) := (blk_cell BP5.out 1).trans rfl; obtain ⟨ci, hcl2, hM2, hcc2, hfr2⟩ := Kd.R_elem HR5.out z71 i hi0 hin; obtain rfl := k71_openM hM2; have fi0 : w5.frozen? ⟨g, i.toNat * 2, none⟩ = false := hfr2 0; obtain ⟨u0, ci0⟩ : ∃ u, w5.cell? ⟨g, i.toNat * 2, none⟩ = some u := ⟨_, hcc2 0 _ rfl⟩; have fi1 : w5.frozen? ⟨g, i.toNat * 2 + 1, none⟩ = false := hfr2 1; obtain ⟨u1, ci1⟩ : ∃ u, w5.cell? ⟨g, i.toNat * 2 + 1, none⟩ = some u := ⟨_, hcc2 1 _ rfl⟩; skip; have HSEG := Aside0.mk (Kd.R_seg HR5.out i hi0 hin (seg := [.int .i64 x.f0, .int .i64 x.f1]) (j := 0) hcl2 hcc2 (show 2 ≤ 2 from by decide) (x' := x) (by exact k71_mkM _ _ _ x) (fun _ hk => hk)); clear hb5 hcl2 hcc2 hfr2 hM2; rw [HP.out]) | ((with_reducible refine gate_store (t := 71) (p := 33) rfl ?_); refine store_event (t := 71) (p := 33) (v := .tmp 32) (w1 := ((w5.setCell ⟨g, i.toNat * 2, none⟩ (.int .i64 x.f0)).setCell ⟨g, i.toNat * 2 + 1, none⟩ (.int .i64 x.f1))) ?hg ?ho ?hn ?hr ?_; (case ho => rfl); (case hg => rfl); (case hn => rfl); (case hr => first | (go_simp; done) | (go_simp; rfl)); intro w6 hw; have HR6 := Aside0.mk (show Kd.R k71 71 w6 w0.heap.size okr (.slice (some ⟨g, 0, none⟩) l0.length c0) (cur.set i.toNat x) from by rw [hw]; exact HSEG.out.1); have HB6 := Aside0.mk (show Below w0.heap.size w0 w6 from by rw [hw]; exact (below_set (below_set HB5.out HGB.out) HGB.out)); have HK6 := Aside0.mk (show Kept w w6 (fun k => some k = (Value.slice (some ⟨g, 0, none⟩) l0.length c0).ownBlock) from by rw [hw]; exact (Kept.setCell (Kept.setCell HK5.out (p := ⟨g, i.toNat * 2, none⟩) (.inl rfl) _) (p := ⟨g, i.toNat * 2 + 1, none⟩) (.inl rfl) _)); clear hw HSEG))
        · go_roundw
          case rel =>
            have hst := YtlojkphocbbjdaaW.Bas.del_step (p := p) HL.out (i := i.toNat) (j := j.toNat) (by have := Hij.out; omega) (by omega) HX1.out HX2.out HXL.out HP.out
            exact ⟨i + 1, j + 1, cur.set i.toNat x, by first | rw [HWi.out] | rfl, by first | rw [HWj.out] | rfl, ⟨by have := Hij.out; omega⟩, ⟨hst.1⟩, ⟨by rw [show (i + 1).toNat = i.toNat + 1 by omega, show (j + 1).toNat = j.toNat + 1 by omega]; exact hst.2.1⟩, ⟨by rw [show (j + 1).toNat = j.toNat + 1 by omega]; exact hst.2.2⟩, HR6, HB6, HK6⟩
          case measure => simp only [intOf]; (try rw [HWj.out]); omega
        · go_roundw
          case rel =>
            have hst := YtlojkphocbbjdaaW.Bas.del_skip (p := p) (i := i.toNat) (j := j.toNat) (by omega) HX1.out HX2.out HXL.out HP.out
            exact ⟨i, j + 1, cur, rfl, by first | rw [HWj.out] | rfl, ⟨by have := Hij.out; omega⟩, HL, ⟨by rw [show (j + 1).toNat = j.toNat + 1 by omega]; exact hst.1⟩, ⟨by rw [show (j + 1).toNat = j.toNat + 1 by omega]; exact hst.2⟩, HR5, HB5, HK5⟩
          case measure => simp only [intOf]; (try rw [HWj.out]); omega
      · have ht : decide (j < (l0.length : Int)) = false := decide_eq_false hlt
        have hin : i < (l0.length : Int) := by have := Hij.out; omega
        have hsl : ∀ W : World, (Instr.slice 65 (.slice (some ⟨g, 0, none⟩) l0.length c0) (some (.int .i64 i)) none none).run Try.prog W = .ok (.slice (some ⟨g, i.toNat * 2, none⟩) (l0.length - i.toNat) (c0 - i.toNat)) W := by
          obtain ⟨i0, hi, hz⟩ := Option.map_eq_some_iff.1 info71
          have h := cut_from 65 71 .i64 Try.underlying65 hi 2 (by simpa using (Prod.mk.inj (Prod.mk.inj hz).2).1) (some ⟨g, 0, none⟩) l0.length c0 i hi0 (by omega)
          have hne : c0 ≠ i.toNat := by have := HNC.out; omega
          simp only [hne, if_false, Option.map_some, add_at, Nat.zero_add] at h
          exact h
        have hsl2 : ∀ W : World, (Instr.slice 65 (.slice (some ⟨g, 0, none⟩) l0.length c0) none (some (.int .i64 i)) none).run Try.prog W = .ok (.slice (some ⟨g, 0, none⟩) i.toNat c0) W := by
          obtain ⟨i0, hi, hz⟩ := Option.map_eq_some_iff.1 info71
          exact cut_to 65 71 .i64 Try.underlying65 hi (some ⟨g, 0, none⟩) l0.length c0 i hi0 (by omega) HNC.out
        have HCLR := Aside0.mk (YtlojkphocbbjdaaW.Bas.run_clear_cells (P := Try.prog) wr 65 71 0 (.agg #[(.int .i64 0), (.int .i64 0)]) Try.underlying65 (fun w => by kernel_rfl) (by simp [Value.cells, Value.oneCell']) g (i.toNat * 2) (l0.length - i.toNat) (c0 - i.toNat) (by omega) (fun j hj => (YtlojkphocbbjdaaW.Bas.R_has HR.out _ (by simp [Value.cells] at hj; simp only [show (k71).sz = 2 from rfl]; have := HNC.out; omega)).1) (fun j hj => (YtlojkphocbbjdaaW.Bas.R_has HR.out _ (by simp [Value.cells] at hj; simp only [show (k71).sz = 2 from rfl]; have := HNC.out; omega)).2))
        go_wp2_with ((with_reducible refine gate_builtin (b := .clear) (xs := #[.tmp 38]) rfl ?_); refine Kd.event_run (w1 := wr.setCells g (i.toNat * 2) (Builtin.zeroCells ((.agg #[(.int .i64 0), (.int .i64 0)]) : Value).cells (l0.length - i.toNat)).toList) (v := .tuple #[]) (by rfl) ?hcl ?_; (case hcl => go_simp; first | (rw [HCLR.out]; rfl) | (simp only [Nat.mul_one] at HCLR; rw [HCLR.out]; rfl)))
        go_ret
        have hxe := HX1.out
        rw [show l0.take j.toNat = l0 from List.take_of_length_le (by have := Hij.out; omega)] at hxe
        refine ⟨_, rfl, ?_, YtlojkphocbbjdaaW.Bas.below_setCells HB.out HB.out.size HGB.out _ _, YtlojkphocbbjdaaW.Bas.kept_setCells HK.out (.inl rfl) _ _⟩
        rw [← hxe]
        exact YtlojkphocbbjdaaW.Bas.R_clear HR.out (by omega) _ (by simp [Builtin.zeroCells, Value.cells]; simp only [show (k71).sz = 2 from rfl]; have := HNC.out; omega)

/-! ### api_RMove_85: function 85 -/
def api_RMove_85.f (l0 : List (S71)) : Option (List (S71)) := if l0.length < 8796093022208 then some l0 else none
theorem api_RMove_85.calls (A0 : Option Addr) (c0 : Nat) (l0 : List (S71)) (r : List (S71)) (w : World) (hr0 : Kd.C k71 w A0 l0.length l0) (hc0 : l0.length ≤ c0) (h : api_RMove_85.f l0 = some r) :
    Calls Try.prog 85 #[.slice A0 l0.length c0] w fun e w' => ∃ v0_ : Value, e = .returned v0_ ∧ Kd.R k71 71 w' w.heap.size (fun _ => True) v0_ r ∧ Below w.heap.size w w' := by
  have HR0 := Aside0.mk hr0
  clear hr0
  have HL : Aside0 (l0.length < 8796093022208) := ⟨by unfold api_RMove_85.f at h; split at h; assumption; cases h⟩
  have HE : Aside0 (l0 = r) := ⟨by unfold api_RMove_85.f at h; split at h; simpa using h; cases h⟩
  clear h hc0
  have q22 : ∀ (w : World) (a : Option Addr) (n c : Nat), (binOp .eql 65 (.slice a n c) (.slice none 0 0)).run Try.prog w = .ok (.bool a.isNone) w := fun w a n c => Lib.run_eql_slice_nil w _ _ a n c 0 0 Try.underlying65
  rcases A0 with _ | ad
  · obtain ⟨rfl, _⟩ := YtlojkphocbbjdaaW.Bas.nil_of_none HR0.out
    go_enter Try.func85, Try.ntmps85
    go_wp2
    go_ret
    exact ⟨_, rfl, by rw [← HE.out]; exact Kd.R_nil _ _ _ _ _, Below.refl _ _⟩
  · go_enter Try.func85, Try.ntmps85
    go_wp2_with (at_builtin; refine Kd.R_append_rows k71 (Rr := k71.K (w.alloc (.cells #[] 71))) (w0 := w) w.heap.size rfl (.tmp 5) (.tmp 6) 65 71 (.agg #[(.int .i64 0), (.int .i64 0)]) 16 rfl Try.underlying65 info71 rfl (by decide) (by omega) (.slice (some ⟨w.heap.size, 0, none⟩) 0 0) [] l0 (some ad) l0.length c0 (fun _ => True) (fun k => k < w.heap.size) rfl rfl ?aE ?aR ?aM ?aO (fun _ _ => trivial) ?aB ?aS ?aL ?_; (case aE => exact YtlojkphocbbjdaaW.Bas.R_empty _ _ _ _ trivial); (case aR => exact Kd.C_alloc HR0.out _); (case aM => (rintro x cs h; rw [k71_open h]; exact k71_mkM _ _ _ x)); (case aO => exact (fun k hk => ⟨trivial, by simp [Value.ownBlock]; omega⟩)); (case aB => exact below_alloc (Below.refl _ _) _); (case aS => simp); (case aL => have := HL.out; simp; omega); intro v1 w1 ho hb hg hat; rw [List.nil_append] at ho; have HO := Aside0.mk ho; have HB := Aside0.mk hb; clear ho hb hg hat)
    go_ret
    exact ⟨_, rfl, by rw [← HE.out]; exact HO.out, HB.out⟩

/-! ### moves_free: function 87 -/
def fr1 (m x : S71) : Bool := !(x.f0 == m.f0 && (x.f1 == m.f1)) && (x.f1 == m.f0)
set_option maxRecDepth 100000 in
theorem free11_walk (g : Nat) (m x : S71) (w : World) (h0 : w.cell? ⟨g, 0, none⟩ = some (.int .i64 m.f0)) (h1 : w.cell? ⟨g, 1, none⟩ = some (.int .i64 m.f1)) :
    Calls Try.prog 137 #[.agg #[.int .i64 x.f0, .int .i64 x.f1], .pointer (some ⟨g, 0, none⟩)] w fun e w' => e = .returned (.bool (fr1 m x)) ∧ Below w.heap.size w w' := by
  have hlt := World.block_lt_of_cell? w _ h0
  obtain ⟨c, hc⟩ : ∃ c, c = (x.f0 == m.f0 && (x.f1 == m.f1)) := ⟨_, rfl⟩
  have HE := Aside0.mk (show fr1 m x = (!c && (x.f1 == m.f0)) by rw [hc]; rfl)
  have heq : ∀ (w : World) (d : Nat), (Op.equalIn (d + 2) 71 (.agg #[.int .i64 x.f0, .int .i64 x.f1]) (.agg #[.int .i64 m.f0, .int .i64 m.f1])).run Try.prog w = .ok c w := fun w d => by rw [hc]; exact eqA71 d w _ _ _ _
  clear hc
  rcases c with _ | _
  all_goals
    go_enter Try.func137, Try.ntmps137
    go_wp2_with (((with_reducible refine gate_dst (N := 2) rfl ?_); (try (refine gate_guard (by rfl) ?_; dsimp only)); refine box_event ?hg (N := 2) ?hd (cs := #[.int .i64 x.f0, .int .i64 x.f1]) (t := 71) ?hr ?_; (case hd => rfl); (case hg => rfl); (case hr => first | (go_simp; done) | (go_simp; rfl)); intro gp hgp wp hbox hb; have HB := Aside0.mk hb; have hq0 : wp.cell? ⟨g, 0, none⟩ = some (.int .i64 m.f0) := (hb.cell hlt).trans h0; have hq1 : wp.cell? ⟨g, 1, none⟩ = some (.int .i64 m.f1) := (hb.cell (World.block_lt_of_cell? w _ h1)).trans h1; have hp0 : wp.cell? ⟨gp, 0, none⟩ = some (.int .i64 x.f0) := (blk_cell hbox 0).trans rfl; have hp1 : wp.cell? ⟨gp, 1, none⟩ = some (.int .i64 x.f1) := (blk_cell hbox 1).trans rfl; clear hgp hbox hb h0 h1))
    go_ret
    exact ⟨by rw [HE.out]; rfl, HB.out⟩
set_option maxRecDepth 100000 in
theorem free1_walk (g : Nat) (A0 : Option Addr) (c0 : Nat) (l : List S71) (x : S71) (w : World) (h0 : w.cell? ⟨g, 0, none⟩ = some (.slice A0 l.length c0)) (hr : Kd.C k71 w A0 l.length l) (hn : l.length < 4611686018427387904) :
    Calls Try.prog 136 #[.agg #[.int .i64 x.f0, .int .i64 x.f1], .pointer (some ⟨g, 0, none⟩)] w fun e w' => e = .returned (.bool (!(l.any (fr1 x)))) ∧ Below w.heap.size w w' := by
  have hlt := World.block_lt_of_cell? w _ h0
  have HR := Aside0.mk hr
  have HN := Aside0.mk hn
  clear hr hn
  rcases han : l.any (fr1 x) with _ | _
  all_goals
    have HAN := Aside0.mk han
    clear han
    go_enter Try.func136, Try.ntmps136
    go_wp2_with (first | ((with_reducible refine gate_dst (N := 2) rfl ?_); (try (refine gate_guard (by rfl) ?_; dsimp only)); refine box_event ?hg (N := 2) ?hd (cs := #[.int .i64 x.f0, .int .i64 x.f1]) (t := 71) ?hr ?_; (case hd => rfl); (case hg => rfl); (case hr => first | (go_simp; done) | (go_simp; rfl)); intro gp hgp wp hbox hb; have HB := Aside0.mk hb; have hq0 : wp.cell? ⟨g, 0, none⟩ = some (.slice A0 l.length c0) := (hb.cell hlt).trans h0; have HCL := Aside0.mk (api_RMove_132.walk A0 c0 l 137 #[.pointer (some ⟨gp, 0, none⟩)] (fr1 x) wp (Kd.C_below HR.out hb) HN.out (fun _ _ => rfl) (fun y W2 _ hW => free11_walk gp x y W2 ((hW.cell (blk_lt hbox)).trans ((blk_cell hbox 0).trans rfl)) ((hW.cell (blk_lt hbox)).trans ((blk_cell hbox 1).trans rfl)))); clear hgp hbox hb h0) | (go_at_call 132; refine HCL.out.mono ?_; rintro e w4 ⟨rfl, hb4⟩; have HB4 := Aside0.mk (HB.out.trans (hb4.mono HB.out.size)); clear hb4; rw [HAN.out]))
    go_ret
    exact ⟨rfl, HB4.out⟩
def frS (l : List S71) : Int := api_RMove_135.idx (fun x => !(l.any (fr1 x))) l 0
set_option maxRecDepth 100000 in
theorem free_walk (A0 : Option Addr) (c0 : Nat) (l : List S71) (w : World) (hr : Kd.C k71 w A0 l.length l) (hn : l.length < 4611686018427387904) :
    Calls Try.prog 87 #[.slice A0 l.length c0] w fun e w' => e = .returned (.int .i64 (frS l)) ∧ Below w.heap.size w w' := by
  have HR := Aside0.mk hr
  have HN := Aside0.mk hn
  clear hr hn
  go_enter Try.func87, Try.ntmps87
  go_wp2_with (first | ((with_reducible refine gate_dst (N := 1) rfl ?_); (try (refine gate_guard (by rfl) ?_; dsimp only)); refine box_event ?hg (N := 1) ?hd (cs := #[.slice A0 l.length c0]) (t := 65) ?hr ?_; (case hd => rfl); (case hg => rfl); (case hr => first | (go_simp; done) | (go_simp; rfl)); intro gp hgp wp hbox hb; have HB := Aside0.mk hb; have hq0 : wp.cell? ⟨gp, 0, none⟩ = some (.slice A0 l.length c0) := (blk_cell hbox 0).trans rfl; have HCL := Aside0.mk (api_RMove_135.walk A0 c0 l 136 #[.pointer (some ⟨gp, 0, none⟩)] (fun x => !(l.any (fr1 x))) wp (Kd.C_below HR.out hb) HN.out (fun _ _ => rfl) (fun y W2 _ hW => free1_walk gp A0 c0 l y W2 ((hW.cell (blk_lt hbox)).trans ((blk_cell hbox 0).trans rfl)) (Kd.C_below (Kd.C_below HR.out hb) hW) HN.out)); clear hgp hbox hb) | (go_at_call 135; refine HCL.out.mono ?_; rintro e w4 ⟨rfl, hb4⟩; have HB4 := Aside0.mk (HB.out.trans (hb4.mono HB.out.size)); clear hb4))
  go_ret
  exact ⟨rfl, HB4.out⟩

/-! ### api_RMove_88: function 88 -/
set_option maxHeartbeats 4000000 in
set_option maxRecDepth 100000 in
theorem api_RMove_88.walk (w0 : World) (okr : Nat → Prop) (A0 : Option Addr) (n0 c0 : Nat) (l0 : List (S71)) (i : Int) (w : World)
    (hr0 : Kd.R k71 71 w w0.heap.size okr (.slice A0 n0 c0) l0) (hB : Below w0.heap.size w0 w) (h0 : 0 ≤ i) (h1 : i < (l0.length : Int)) :
    Calls Try.prog 88 #[.slice A0 n0 c0, .int .i64 i, .int .i64 (i + 1)] w fun e w' => e = .returned (.slice A0 (n0 - 1) c0) ∧ Kd.R k71 71 w' w0.heap.size okr (.slice A0 (n0 - 1) c0) (l0.eraseIdx i.toNat) ∧ Below w0.heap.size w0 w' ∧ Kept w w' (fun k => some k = (Value.slice A0 n0 c0).ownBlock) := by
  obtain ⟨rfl, hnc, _⟩ := Kd.R_reads' hr0
  obtain ⟨g, cp, hv, hgb, hgl, _⟩ := Kd.R_form hr0 (by omega)
  obtain ⟨rfl, rfl⟩ : A0 = some ⟨g, 0, none⟩ ∧ c0 = cp := by injection hv with a b c; exact ⟨a, c⟩
  have HR := Aside0.mk hr0
  have HB := Aside0.mk hB
  have HGB := Aside0.mk hgb
  have HNC := Aside0.mk hnc
  have HI0 := Aside0.mk h0
  have HI1 := Aside0.mk h1
  clear hr0 hB hv hgb hgl
  obtain ⟨q, hq⟩ : ∃ q : Nat, (q : Int) = i := ⟨i.toNat, by omega⟩
  obtain ⟨j, hj⟩ : ∃ j : Int, j = i + 1 := ⟨_, rfl⟩
  obtain ⟨B, hBq⟩ : ∃ B, B = if c0 = i.toNat + 1 then some ⟨g, 0, none⟩ else (some (⟨g, 0, none⟩ : Addr)).map (·.add ((i.toNat + 1) * 2)) := ⟨_, rfl⟩
  obtain ⟨i0, hi, hz⟩ := Option.map_eq_some_iff.1 info71
  have hz1 : i0.size = 2 := by simpa using (Prod.mk.inj (Prod.mk.inj hz).2).1
  have hel : Try.prog.elem 65 = 71 := by simp [Program.elem, Try.underlying65]
  have hu : Try.prog.underlying 65 = some (.slice (Try.prog.elem 65)) := by rw [hel]; exact Try.underlying65
  have hsl0 : ∀ W : World, (Instr.slice 65 (.slice (some ⟨g, 0, none⟩) l0.length c0) (some (.int .i64 i)) (some (.int .i64 j)) (some (.int .i64 (l0.length : Int)))).run Try.prog W = .ok (.slice (some ⟨g, i.toNat * 2, none⟩) (j.toNat - i.toNat) (l0.length - i.toNat)) W := fun W => by
    rw [run_slice_lhm W 65 (some ⟨g, 0, none⟩) l0.length c0 hu .i64 .i64 .i64 i j (l0.length : Int) h0 (by omega) (by omega) (by omega), hel]
    have hne : l0.length ≠ i.toNat := by omega
    simp [sizeOf, typeInfo, hi, hz1, sliced, Result.andThen, hne, add_at]
  have hslA : ∀ W : World, (Instr.slice 65 (.slice (some ⟨g, 0, none⟩) l0.length c0) none (some (.int .i64 i)) none).run Try.prog W = .ok (.slice (some ⟨g, 0, none⟩) i.toNat c0) W := cut_to 65 71 .i64 Try.underlying65 hi (some ⟨g, 0, none⟩) l0.length c0 i h0 (by omega) hnc
  have hslB : ∀ W : World, (Instr.slice 65 (.slice (some ⟨g, 0, none⟩) l0.length c0) (some (.int .i64 j)) none none).run Try.prog W = .ok (.slice B (l0.length - (i.toNat + 1)) (c0 - (i.toNat + 1))) W := fun W => by
    rw [cut_from 65 71 .i64 Try.underlying65 hi 2 hz1 (some ⟨g, 0, none⟩) l0.length c0 j (by omega) (by omega) W, show j.toNat = i.toNat + 1 by omega, hBq]
  have hslC : ∀ W : World, (Instr.slice 65 (.slice (some ⟨g, 0, none⟩) (l0.length - 1) c0) (some (.int .i64 ((l0.length - 1 : Nat) : Int))) (some (.int .i64 (l0.length : Int))) none).run Try.prog W = .ok (.slice (some ⟨g, (l0.length - 1) * 2, none⟩) 1 (c0 - (l0.length - 1))) W := fun W => by
    rw [run_slice_lh W 65 (some ⟨g, 0, none⟩) (l0.length - 1) c0 hu .i64 .i64 ((l0.length - 1 : Nat) : Int) (l0.length : Int) (by omega) (by omega) (by omega), hel]
    have hne : c0 ≠ l0.length - 1 := by omega
    simp [sizeOf, typeInfo, hi, hz1, sliced, Result.andThen, hne, add_at]
    omega
  have HBQ := Aside0.mk hBq
  have HJ := Aside0.mk hj
  have hij : (i == j) = false := beq_eq_false_iff_ne.mpr (by omega)
  have hij2 : (j == i) = false := beq_eq_false_iff_ne.mpr (by omega)
  rw [← hj]
  clear hq hj hBq hi hz hz1 hel hu i0
  clear h0 h1 hnc
  go_enter Try.func88, Try.ntmps88
  go_wp2
  go_region_law ((refine Kd.R_delete_step k71 (w0 := w0) w0.heap.size (by rfl) (.tmp 22) (.tmp 25) 65 71 rfl Try.underlying65 (by kernel_rfl) (g := g) (n := l0.length) (c := c0) (k := i.toNat) (by rfl) (by rfl) HBQ.out rfl (Kd.R_drew HR.out) (by have := HI0.out; have := HI1.out; omega) (below_drew HB.out) HB.out.size ?_; intro w1 ho hb hg; have HR1 := Aside0.mk ho; have HB1 := Aside0.mk hb; have HK1 := Aside0.mk (Kept.of_grown hg (Kept.drew (Kept.refl w (fun k => some k = (Value.slice (some ⟨g, 0, none⟩) l0.length c0).ownBlock))) (fun k hk => .inl hk.symm)); clear ho hb hg))
  have HCLR := Aside0.mk (YtlojkphocbbjdaaW.Bas.run_clear_cells (P := Try.prog) w1 65 71 0 (.agg #[(.int .i64 0), (.int .i64 0)]) Try.underlying65 (fun w => by kernel_rfl) (by simp [Value.cells, Value.oneCell']) g ((l0.length - 1) * 2) 1 (c0 - (l0.length - 1)) (by omega) (fun j hj => (YtlojkphocbbjdaaW.Bas.R_has HR1.out _ (by simp [Value.cells] at hj; simp only [show (k71).sz = 2 from rfl]; have := HNC.out; have := HI0.out; have := HI1.out; omega)).1) (fun j hj => (YtlojkphocbbjdaaW.Bas.R_has HR1.out _ (by simp [Value.cells] at hj; simp only [show (k71).sz = 2 from rfl]; have := HNC.out; have := HI0.out; have := HI1.out; omega)).2))
  go_wp2_with ((with_reducible refine gate_builtin (b := .clear) (xs := #[.tmp 31]) rfl ?_); refine Kd.event_run (w1 := w1.setCells g ((l0.length - 1) * 2) (Builtin.zeroCells ((.agg #[(.int .i64 0), (.int .i64 0)]) : Value).cells 1).toList) (v := .tuple #[]) (by rfl) ?hcl ?_; (case hcl => go_simp; first | (rw [HCLR.out]; rfl) | (simp only [Nat.mul_one] at HCLR ⊢; rw [HCLR.out]; rfl)))
  go_ret
  exact ⟨rfl, YtlojkphocbbjdaaW.Bas.R_beyond HR1.out _ _ (Nat.le_refl _) (by simp [Builtin.zeroCells, Value.cells]; simp only [show (k71).sz = 2 from rfl]; have := HNC.out; have := HI0.out; have := HI1.out; omega), YtlojkphocbbjdaaW.Bas.below_setCells HB1.out HB1.out.size HGB.out _ _, YtlojkphocbbjdaaW.Bas.kept_setCells HK1.out (.inl rfl) _ _⟩

/-! ### moves_Order: function 30 -/
def movesLim : Nat := 8796093022208
def ordL (sp : Int) : Nat → List S71 → List S71 → Option (List S71)
  | 0, _, _ => none
  | k + 1, left, out => if left.length = 0 then some out else if out.length < movesLim then (if 0 ≤ frS left then (if frS left < left.length then ordL sp k (left.eraseIdx (frS left).toNat) (out ++ [rd_T71 left (frS left)]) else none) else ordL sp k (left.map (fun m => if m.f1 == (rd_T71 left 0).f0 then ⟨m.f0, sp⟩ else m)) (out ++ [⟨sp, (rd_T71 left 0).f0⟩])) else none
theorem ordL.mono (sp : Int) : ∀ k left out, LeO (ordL sp k left out) (ordL sp (k + 1) left out)
  | 0, _, _ => fun r h => by simp [ordL] at h
  | k + 1, left, out => by
    rw [ordL, ordL]
    exact LeO.ite (LeO.refl _) (LeO.ite (LeO.ite (LeO.ite (ordL.mono sp k _ _) (LeO.refl _)) (ordL.mono sp k _ _)) (LeO.refl _))
def moves_Order.f (k : Nat) (l0 : List S71) (a1 : Int) : Option (List S71 × Int) :=
  if chkS l0 a1 = 0 then (if l0.length < movesLim then (ordL a1 k (l0.filter (fun x => !(x.f0 == x.f1))) []).bind fun o => some (o, 0) else none) else some ([], chkS l0 a1)
theorem moves_Order.mono : ∀ a0 a1 k, LeO (moves_Order.f k a0 a1) (moves_Order.f (k + 1) a0 a1) := by
  intro a0 a1 k
  unfold moves_Order.f
  exact LeO.ite (LeO.ite (LeO.bind (ordL.mono a1 k _ _) (fun _ => LeO.refl _)) (LeO.refl _)) (LeO.refl _)
theorem order1_walk (x : S71) (w : World) :
    Calls Try.prog 86 #[.agg #[.int .i64 x.f0, .int .i64 x.f1]] w fun e w' => e = .returned (.bool (x.f0 == x.f1)) ∧ Below w.heap.size w w' := by
  go_enter Try.func86, Try.ntmps86
  go_wp2_with (((with_reducible refine gate_dst (N := 1) rfl ?_); (try (refine gate_guard (by rfl) ?_; dsimp only)); refine box_event ?hg (N := 1) ?hd (cs := #[.int .i64 x.f0, .int .i64 x.f1]) (t := 71) ?hr ?_; (case hd => rfl); (case hg => rfl); (case hr => first | (go_simp; done) | (go_simp; rfl)); intro gp hgp wp hbox hb; have HB := Aside0.mk hb; have hp0 : wp.cell? ⟨gp, 0, none⟩ = some (.int .i64 x.f0) := (blk_cell hbox 0).trans rfl; have hp1 : wp.cell? ⟨gp, 1, none⟩ = some (.int .i64 x.f1) := (blk_cell hbox 1).trans rfl; clear hgp hbox hb))
  go_ret
  exact ⟨rfl, HB.out⟩
theorem chkS_len {l : List S71} {sp : Int} (h : chkS l sp = 0) : l.length ≤ 60 := by
  unfold chkS at h
  split at h
  · cases h
  · omega
theorem set_same {α : Type} {l : List α} {i : Nat} {x : α} (h : l[i]? = some x) : l.set i x = l := by
  have hi := (List.getElem?_eq_some_iff.1 h).1
  have he := (List.getElem?_eq_some_iff.1 h).2
  rw [← he, List.set_getElem_self]
theorem map_take_succ {α : Type} (f : α → α) (l : List α) (j : Nat) (x : α) (hx : l[j]? = some x) : ((l.take j).map f ++ l.drop j).set j (f x) = (l.take (j + 1)).map f ++ l.drop (j + 1) := by
  have hj := (List.getElem?_eq_some_iff.1 hx).1
  have he := (List.getElem?_eq_some_iff.1 hx).2
  have hl : ((l.take j).map f).length = j := by simp; omega
  rw [List.set_append_right _ _ (by omega), hl, Nat.sub_self, List.drop_eq_getElem_cons hj, List.set_cons_zero, List.take_succ_eq_append_getElem hj, List.map_append, he]
  simp
set_option maxHeartbeats 8000000 in
set_option maxRecDepth 100000 in
theorem moves_Order.calls (k : Nat) (A0 : Option Addr) (c0 : Nat) (l0 : List (S71)) (a1 : Int) (r1 : List (S71)) (r2 : Int) (w : World)
    (hr0 : Kd.C k71 w A0 l0.length l0) (hc0 : l0.length ≤ c0) (h : moves_Order.f k l0 a1 = some (r1, r2)) :
    Calls Try.prog 30 #[.slice A0 l0.length c0, .int .i64 a1] w fun e w' => ∃ v0_ : Value, e = .returned (.tuple #[v0_, .int .i64 r2]) ∧ Kd.R k71 71 w' w.heap.size (fun _ => True) v0_ r1 ∧ Below w.heap.size w w' := by
  have HR0 := Aside0.mk hr0
  have HC0 := Aside0.mk hc0
  have HCK := Aside0.mk (check_walk A0 c0 l0 a1 w hr0 hc0)
  clear hr0 hc0
  unfold moves_Order.f at h
  by_cases he : chkS l0 a1 = 0
  case neg =>
    rw [if_neg he] at h
    simp only [Option.some.injEq, Prod.mk.injEq] at h
    obtain ⟨rfl, rfl⟩ := h
    have hb1 : (chkS l0 a1 == 0) = false := beq_eq_false_iff_ne.mpr he
    have hb2 : (chkS l0 a1 != 0) = true := bne_iff_ne.mpr he
    clear he
    go_enter Try.func30, Try.ntmps30
    go_wp2_with (go_at_call 83; refine HCK.out.mono ?_; rintro e w1 ⟨rfl, hb⟩; have HB1 := Aside0.mk hb; clear hb)
    go_ret2
    exact ⟨_, rfl, Kd.R_nil _ _ _ _ _, HB1.out⟩
  rw [if_pos he] at h
  have h60 := chkS_len he
  split at h
  case isFalse => cases h
  rename_i hlim
  obtain ⟨o, ho, h⟩ := Option.bind_eq_some_iff.1 h
  simp only [Option.some.injEq, Prod.mk.injEq] at h
  obtain ⟨rfl, rfl⟩ := h
  have HE := Aside0.mk he
  have HORD := Aside0.mk ho
  have H60 := Aside0.mk h60
  have HLIM := Aside0.mk (show l0.length < 8796093022208 from hlim)
  clear he ho hlim h60
  go_enter Try.func30, Try.ntmps30
  go_wp2_with (first | (go_at_call 83; refine HCK.out.mono ?_; rintro e w1 ⟨rfl, hb⟩; have HB1 := Aside0.mk hb; have HR1 := Aside0.mk (Kd.C_below HR0.out hb); clear hb; rw [HE.out]) | (go_at_call 85; refine (api_RMove_85.calls A0 c0 l0 l0 _ HR1.out HC0.out (by unfold api_RMove_85.f; rw [if_pos HLIM.out])).mono ?_; rintro e w2 ⟨v2, rfl, hr2, hb2⟩; have HB2 := Aside0.mk (below_step HB1.out hb2); have HR2 := Aside0.mk (Kd.R_lower hr2 HB1.out.size); clear hr2 hb2; obtain ⟨A2, c2, rfl⟩ := Kd.R_slice HR2.out) | (go_at_call 84; refine (api_RMove_84.walk w (fun _ => True) A2 l0.length c2 l0 86 #[] (fun x => x.f0 == x.f1) w2 HR2.out HB2.out (by have := H60.out; omega) (fun _ _ => rfl) (fun x W _ _ _ => order1_walk x W)).mono ?_; rintro e w3 ⟨m3, rfl, hr3, hb3, _⟩; have HB3 := Aside0.mk hb3; have HR3 := Aside0.mk hr3; clear hr3 hb3 HR2))
  go_loopg [7, 8] k (fun kq v7 v8 wr => ∃ (m : Nat) (left out : List S71), v7 = .slice A2 m c2 ∧ Aside0 (left.length ≤ 60) ∧ Aside0 (ordL a1 kq left out = some o) ∧ Aside0 (Kd.R k71 71 wr w.heap.size (fun _ => True) (.slice A2 m c2) left) ∧ Aside0 (Kd.R k71 71 wr w.heap.size (fun k_ => some k_ ≠ (Value.slice A2 m c2).ownBlock) v8 out) ∧ Aside0 (Below w.heap.size w wr))
  case atStart => exact ⟨m3, _, [], rfl, ⟨Nat.le_trans (List.length_filter_le _ _) H60.out⟩, HORD, HR3, ⟨Kd.R_nil _ _ _ _ _⟩, HB3⟩
  case round =>
    clear HR3 HB3 HORD
    obtain ⟨m, left, out, rfl, H6, HX, HL, HO, HB⟩ := hrel
    cases gk with
    | zero => exact absurd HX.out (by simp [ordL])
    | succ k1 =>
      have hx := HX.out
      rw [ordL] at hx
      obtain ⟨rfl, hlc, hCl⟩ := Kd.R_reads' HL.out
      obtain ⟨Ao, co, rfl⟩ := Kd.R_slice HO.out
      by_cases h0 : left.length = 0
      · rw [if_pos h0] at hx
        obtain rfl := Option.some.inj hx
        have hb0 : decide (0 < left.length) = false := decide_eq_false (by omega)
        have hb1 : decide ((0 : Int) < (left.length : Int)) = false := decide_eq_false (by omega)
        clear hx h0 hCl hlc
        go_wp2
        go_ret2
        exact ⟨_, rfl, Kd.R_mono HO.out (fun _ _ => trivial), HB.out⟩
      · rw [if_neg h0] at hx
        split at hx
        case isFalse => cases hx
        rename_i hlo
        have hb0 : decide (0 < left.length) = true := decide_eq_true (by omega)
        have hb1 : decide ((0 : Int) < (left.length : Int)) = true := decide_eq_true (by omega)
        obtain ⟨g, cp, hv, hgb, hgl, _⟩ := Kd.R_form HL.out (by omega)
        obtain ⟨rfl, rfl⟩ : A2 = some ⟨g, 0, none⟩ ∧ c2 = cp := by injection hv with a b c; exact ⟨a, c⟩
        have HFR := Aside0.mk (free_walk (some ⟨g, 0, none⟩) c2 left wr hCl (by have := H6.out; omega))
        have HLO := Aside0.mk (show out.length < 8796093022208 from hlo)
        have HGB := Aside0.mk hgb
        have HLC := Aside0.mk hlc
        have HCL := Aside0.mk hCl
        have HN0 := Aside0.mk h0
        clear hlo hv hgb hgl hlc hCl h0
        obtain ⟨i, hi⟩ : ∃ i, i = frS left := ⟨_, rfl⟩
        rw [← hi] at hx HFR
        by_cases hi0 : 0 ≤ i
        · rw [if_pos hi0] at hx
          split at hx
          case isFalse => cases hx
          rename_i hi1
          have HX2 := Aside0.mk hx
          have HW := Aside0.mk (show wrap64 (i + 1) = i + 1 by have := H6.out; unfold wrap64; omega)
          have ht : decide (0 ≤ i) = true := decide_eq_true hi0
          have HI0 := Aside0.mk hi0
          have HI1 := Aside0.mk hi1
          clear hx hi
          go_wp2_with (first | (go_at_call 87; refine HFR.out.mono ?_; rintro e w4 ⟨rfl, hb4⟩; have HB4 := Aside0.mk (below_step HB.out hb4); have HL4 := Aside0.mk (Kd.R_below HL.out hb4); have HO4 := Aside0.mk (Kd.R_below HO.out hb4); obtain ⟨ad, e, h1, h2⟩ := at_T71 (Kd.C_below HCL.out hb4) i hi0 hi1; cases e; simp only [add_plain] at h1 h2; clear hb4 HB HL HO; have hi0' := eq_true hi0; have hi1' := eq_true hi1) | ((with_reducible refine gate_builtin (b := .append) (xs := #[.tmp 28, .tmp 33]) rfl ?_); (try (refine gate_guard (by rfl) ?_; dsimp only)); at_builtin; refine Kd.R_append k71 (w0 := w) w.heap.size rfl (.tmp 28) (.tmp 33) 65 71 (.agg #[.int .i64 0, .int .i64 0]) 16 rfl Try.underlying65 info71 rfl (by decide) (by omega) (.slice Ao out.length co) out (rd_T71 left i) [.int .i64 (rd_T71 left i).f0, .int .i64 (rd_T71 left i).f1] (fun k_ => some k_ ≠ (Value.slice (some ⟨g, 0, none⟩) left.length c2).ownBlock) (fun _ => False) rfl rfl (k71_mkM _ _ _ _) (fun _ hk => hk.elim) ?aF HO4.out HB4.out HB4.out.size ?aL ?_; (case aF => exact (fun k hk e => by have := Kd.R_lt HL4.out k e.symm; omega)); (case aL => have := HLO.out; omega); intro v5 w5 ho hb hg hat; obtain ⟨A5, n5, c5, rfl⟩ : ∃ A5 n5 c5, v5 = .slice A5 n5 c5 := (let ⟨A_, c_, h_⟩ := Kd.R_slice ho; ⟨A_, _, c_, h_⟩); have HO5 := Aside0.mk ho; have HB5 := Aside0.mk hb; have HL5 := Aside0.mk (Kd.R_grown2 HL4.out rfl hg (fun k hk e => HO4.out.1 k hk e)); clear ho hb hg hat HO4 HB4 HL4 h1 h2) | (go_at_call 88; rw [HW.out]; refine (api_RMove_88.walk w (fun _ => True) (some ⟨g, 0, none⟩) left.length c2 left i w5 HL5.out HB5.out HI0.out HI1.out).mono ?_; rintro e w6 ⟨rfl, hr6, hb6, hk6⟩; have HL6 := Aside0.mk hr6; have HB6 := Aside0.mk hb6; have HO6 := Aside0.mk (Kd.R_kept HO5.out hk6 (fun k hk => hk)); clear hr6 hb6 hk6 HO5 HB5 HL5))
          go_roundg k1
          case rel => exact ⟨left.length - 1, left.eraseIdx i.toNat, out ++ [rd_T71 left i], rfl, ⟨by have := H6.out; rw [List.length_eraseIdx]; split <;> omega⟩, HX2, HL6, HO6, HB6⟩
          case measure => omega
        · rw [if_neg hi0] at hx
          have ht : decide (0 ≤ i) = false := decide_eq_false hi0
          obtain ⟨tto, hto⟩ : ∃ tto, tto = (rd_T71 left 0).f0 := ⟨_, rfl⟩
          rw [← hto] at hx
          obtain ⟨fm, hfm⟩ : ∃ fm, fm = (fun m : S71 => if m.f1 == tto then (⟨m.f0, a1⟩ : S71) else m) := ⟨_, rfl⟩
          rw [← hfm] at hx
          have HX2 := Aside0.mk hx
          have HFM := Aside0.mk hfm
          have HTO := Aside0.mk hto
          have hl1 : (0 : Int) < (left.length : Int) := by have := HN0.out; omega
          clear hx hi hfm hto hi0
          go_wp2_with (first | (go_at_call 87; refine HFR.out.mono ?_; rintro e w4 ⟨rfl, hb4⟩; have HB4 := Aside0.mk (below_step HB.out hb4); have HL4 := Aside0.mk (Kd.R_below HL.out hb4); have HO4 := Aside0.mk (Kd.R_below HO.out hb4); obtain ⟨ad, e, h1, h2⟩ := at_T71 (Kd.C_below HCL.out hb4) 0 (Int.le_refl 0) hl1; cases e; simp only [add_plain, Int.toNat_zero, Nat.zero_mul] at h1 h2; rw [← HTO.out] at h1; clear hb4 HB HL HO h2; have hl1' := eq_true hl1) | ((with_reducible refine gate_builtin (b := .append) (xs := #[.tmp 44, .tmp 48]) rfl ?_); (try (refine gate_guard (by rfl) ?_; dsimp only)); at_builtin; refine Kd.R_append k71 (w0 := w) w.heap.size rfl (.tmp 44) (.tmp 48) 65 71 (.agg #[.int .i64 0, .int .i64 0]) 16 rfl Try.underlying65 info71 rfl (by decide) (by omega) (.slice Ao out.length co) out (⟨a1, tto⟩ : S71) [.int .i64 a1, .int .i64 tto] (fun k_ => some k_ ≠ (Value.slice (some ⟨g, 0, none⟩) left.length c2).ownBlock) (fun _ => False) rfl rfl (k71_mkM _ _ _ _) (fun _ hk => hk.elim) ?aF HO4.out HB4.out HB4.out.size ?aL ?_; (case aF => exact (fun k hk e => by have := Kd.R_lt HL4.out k e.symm; omega)); (case aL => have := HLO.out; omega); intro v5 w5 ho hb hg hat; obtain ⟨A5, n5, c5, rfl⟩ : ∃ A5 n5 c5, v5 = .slice A5 n5 c5 := (let ⟨A_, c_, h_⟩ := Kd.R_slice ho; ⟨A_, _, c_, h_⟩); have HO5 := Aside0.mk ho; have HB5 := Aside0.mk hb; have HL5 := Aside0.mk (Kd.R_grown2 HL4.out rfl hg (fun k hk e => HO4.out.1 k hk e)); clear ho hb hg hat HO4 HB4 HL4 h1))
          go_loopw [52] (fun v52 wr => ∃ (j : Int), v52 = .int .i64 j ∧ Aside0 (0 ≤ j ∧ j ≤ left.length) ∧ Aside0 (Kd.R k71 71 wr w.heap.size (fun _ => True) (.slice (some ⟨g, 0, none⟩) left.length c2) ((left.take j.toNat).map fm ++ left.drop j.toNat)) ∧ Aside0 (Kd.R k71 71 wr w.heap.size (fun k_ => some k_ ≠ (Value.slice (some ⟨g, 0, none⟩) left.length c2).ownBlock) (.slice A5 n5 c5) (out ++ [⟨a1, tto⟩])) ∧ Aside0 (Below w.heap.size w wr)) (fun v52 _ => left.length - (intOf v52).toNat)
          case atStart => exact ⟨0, rfl, ⟨by omega⟩, ⟨by simpa using HL5.out⟩, HO5, HB5⟩
          case round =>
            clear HL5 HO5 HB5
            obtain ⟨j, rfl, Hj, HL7, HO7, HB7⟩ := hrel
            have hj0 : 0 ≤ j := Hj.out.1
            by_cases hlt : j < (left.length : Int)
            · have ht2 : decide (j < (left.length : Int)) = true := decide_eq_true hlt
              have HWj := Aside0.mk (show wrap64 (j + 1) = j + 1 by have := H6.out; unfold wrap64; omega)
              obtain ⟨x, hx⟩ : ∃ x, left[j.toNat]? = some x := ⟨_, List.getElem?_eq_getElem (by omega)⟩
              have hgx : ((left.take j.toNat).map fm ++ left.drop j.toNat).getD j.toNat z71 = x := by
                rw [List.getD_eq_getElem?_getD, List.getElem?_append_right (by simp; omega), show j.toNat - ((left.take j.toNat).map fm).length = 0 by simp; omega, List.getElem?_drop, Nat.add_zero, hx]; rfl
              have hset := map_take_succ fm left j.toNat x hx
              obtain ⟨ce, hcl, hM, hcc, hfr⟩ := Kd.R_elem HL7.out z71 j hj0 hlt
              rw [hgx] at hM
              obtain rfl := k71_openM hM
              have h1 : wr.cell? ⟨g, j.toNat * 2 + 1, none⟩ = some (.int .i64 x.f1) := hcc 1 _ rfl
              have hf1 : wr.frozen? ⟨g, j.toNat * 2 + 1, none⟩ = false := hfr 1
              have hj0' := eq_true hj0
              have hlt' := eq_true hlt
              have HP := Aside0.mk (Kd.R_seg HL7.out j hj0 hlt (seg := [.int .i64 a1]) (j := 1) hcl hcc (show 2 ≤ 2 from by decide) (x' := (⟨x.f0, a1⟩ : S71)) (k71_mkM _ _ _ _) (fun _ hk => hk))
              have HSET := Aside0.mk hset
              have hfx : fm x = if x.f1 == tto then (⟨x.f0, a1⟩ : S71) else x := by rw [HFM.out]
              have HGX := Aside0.mk hx
              clear hx hgx hset hcl hM hcc hfr
              rcases hq : (x.f1 == tto) with _ | _
              · rw [hq] at hfx
                have HFX := Aside0.mk hfx
                clear hfx
                go_wp2
                go_roundw
                case rel =>
                  refine ⟨j + 1, by first | rw [HWj.out] | rfl, ⟨by omega⟩, ⟨?_⟩, HO7, HB7⟩
                  have hs := HSET.out
                  rw [show fm x = x from HFX.out, set_same (by rw [List.getElem?_append_right (by simp; omega), show j.toNat - ((left.take j.toNat).map fm).length = 0 by simp; omega, List.getElem?_drop, Nat.add_zero]; exact HGX.out)] at hs
                  rw [show (j + 1).toNat = j.toNat + 1 by omega, ← hs]
                  exact HL7.out
                case measure => simp only [intOf]; (try rw [HWj.out]); omega
              · rw [hq] at hfx
                have HFX := Aside0.mk hfx
                clear hfx
                go_wp2_with (((with_reducible refine gate_store (t := 3) (p := 66) rfl ?_); refine store_event (t := 3) (p := 66) (v := .tmp 64) (w1 := (wr.setCell ⟨g, j.toNat * 2 + 1, none⟩ (.int .i64 a1))) ?hg ?ho ?hn ?hr ?_; (case ho => rfl); (case hg => rfl); (case hn => rfl); (case hr => first | (go_simp; done) | (go_simp; rfl)); intro w8 hw; have HB8 := Aside0.mk (show Below w.heap.size w w8 from by rw [hw]; exact below_set HB7.out HGB.out); have HL8 := Aside0.mk (show Kd.R k71 71 w8 w.heap.size (fun _ => True) (.slice (some ⟨g, 0, none⟩) left.length c2) _ from by rw [hw]; exact HP.out.1); have HO8 := Aside0.mk (show Kd.R k71 71 w8 w.heap.size (fun k_ => some k_ ≠ (Value.slice (some ⟨g, 0, none⟩) left.length c2).ownBlock) (.slice A5 n5 c5) (out ++ [⟨a1, tto⟩]) from by rw [hw]; exact Kd.R_far (p := ⟨g, _, none⟩) HO7.out (fun k hk e => hk (by rw [e]; rfl)) _); clear hw HP))
                go_roundw
                case rel =>
                  refine ⟨j + 1, by first | rw [HWj.out] | rfl, ⟨by omega⟩, ⟨?_⟩, HO8, HB8⟩
                  have hs := HSET.out
                  rw [show fm x = (⟨x.f0, a1⟩ : S71) from HFX.out] at hs
                  rw [show (j + 1).toNat = j.toNat + 1 by omega, ← hs]
                  exact HL8.out
                case measure => simp only [intOf]; (try rw [HWj.out]); omega
            · have ht2 : decide (j < (left.length : Int)) = false := decide_eq_false hlt
              have hl7 := HL7.out
              rw [List.take_of_length_le (by omega), List.drop_eq_nil_of_le (by omega), List.append_nil] at hl7
              have HL8 := Aside0.mk hl7
              clear hl7 HL7
              go_wp2
              go_roundg k1
              case rel => exact ⟨left.length, left.map fm, out ++ [⟨a1, tto⟩], rfl, ⟨by rw [List.length_map]; exact H6.out⟩, HX2, HL8, HO7, HB7⟩
              case measure => omega

/-! ### api_RMove_32: function 32 -/
def api_RMove_32.l0 : Nat → List (S71) → List (S71) → Int → Int → Option (Bool)
  | 0, _, _, _, _ => none
  | k + 1, x1, x12, x13, x14 => if x14 < x13 then (if 0 ≤ x14 then (if x14 < (x12.length : Int) then (if x14 < (x1.length : Int) then (if (!(((rd_T71 x12 x14).f0) == ((rd_T71 x1 x14).f0)) || (!(((rd_T71 x12 x14).f1) == ((rd_T71 x1 x14).f1)))) = true then (some false) else (api_RMove_32.l0 k x1 x12 x13 (wrap64 (x14 + 1)))) else (none)) else (none)) else (none)) else (some true)
def api_RMove_32.f (k : Nat) (l0 : List (S71)) (l1 : List (S71)) : Option (Bool) := if (l0.length : Int) = (l1.length : Int) then (api_RMove_32.l0 k l1 l0 (l0.length : Int) 0) else (some false)
theorem api_RMove_32.mono_l : ∀ k, (∀ y0 y1 y2 y3, LeO (api_RMove_32.l0 k y0 y1 y2 y3) (api_RMove_32.l0 (k + 1) y0 y1 y2 y3))
  | 0 => fun _ _ _ _ r h => by simp [api_RMove_32.l0] at h
  | k + 1 => by
    have ih0 := api_RMove_32.mono_l k
    · intro y0 y1 y2 y3
      unfold api_RMove_32.l0
      repeat' first
      | (with_reducible exact ih0 _ _ _ _)
      | (with_reducible exact LeO.refl _)
      | (with_reducible exact LeO.none _)
      | (with_reducible refine LeO.ite ?_ ?_)
      | (with_reducible refine LeO.bind ?_ (fun _ => ?_))
      | exact ih0 _ _ _ _
      | exact LeO.none _
      | refine LeO.ite ?_ ?_
      | refine LeO.bind ?_ (fun _ => ?_)
theorem api_RMove_32.mono : ∀ a0 a1 k, LeO (api_RMove_32.f k a0 a1) (api_RMove_32.f (k + 1) a0 a1) := by
  intro a0 a1 k
  have ih0 := api_RMove_32.mono_l k
  unfold api_RMove_32.f
  repeat' first
      | (with_reducible exact ih0 _ _ _ _)
      | (with_reducible exact LeO.refl _)
      | (with_reducible exact LeO.none _)
      | (with_reducible refine LeO.ite ?_ ?_)
      | (with_reducible refine LeO.bind ?_ (fun _ => ?_))
      | exact ih0 _ _ _ _
      | exact LeO.none _
      | refine LeO.ite ?_ ?_
      | refine LeO.bind ?_ (fun _ => ?_)
set_option maxHeartbeats 8000000 in
set_option maxRecDepth 100000 in
theorem api_RMove_32.calls (k : Nat) (A0 : Option Addr) (c0 : Nat) (l0 : List (S71)) (A1 : Option Addr) (c1 : Nat) (l1 : List (S71)) (r : Bool) (w : World) (hr0 : Kd.C k71 w A0 l0.length l0) (hc0 : l0.length ≤ c0) (hr1 : Kd.C k71 w A1 l1.length l1) (hc1 : l1.length ≤ c1) (h : api_RMove_32.f k l0 l1 = some r) :
    Calls Try.prog 32 #[.slice A0 l0.length c0, .slice A1 l1.length c1] w fun e w' => e = .returned (.bool r) ∧ Below w.heap.size w w' := by
  have hu71 := Try.underlying71
  have HR0 := Aside0.mk hr0
  have HC0 := Aside0.mk hc0
  clear hr0 hc0
  have HR1 := Aside0.mk hr1
  have HC1 := Aside0.mk hc1
  clear hr1 hc1
  have HB := Aside0.mk (Below.refl w.heap.size w)
  have H : (if (l0.length : Int) = (l1.length : Int) then (api_RMove_32.l0 k l1 l0 (l0.length : Int) 0) else (some false)) = some r := h
  clear h
  by_cases c3 : (l0.length : Int) = (l1.length : Int)
  · rw [if_pos c3] at H
    have c3b0 : ((l0.length : Int) == (l1.length : Int)) = true := beq_iff_eq.mpr c3
    have c3b1 : ((l0.length : Int) != (l1.length : Int)) = false := bne_eq_false_iff_eq.mpr c3
    have c3b2 : (l0.length == l1.length) = true := by first | simpa using c3 | (simp at c3 ⊢; omega)
    clear c3
    have H' := Aside0.mk H
    clear H
    go_enter Try.func32, Try.ntmps32
    go_wp2
    repeat (go_quiet (fail); try go_wp2)
    go_loopg [14] k (fun kq v14 w' => ∃ (x14_1 : Int), v14 = .int .i64 x14_1 ∧ Aside0 (api_RMove_32.l0 kq l1 l0 (l0.length : Int) x14_1 = some r) ∧ Aside0 (kq ≤ k) ∧ Aside0 (Below w.heap.size w w'))
    case atStart => exact ⟨(0), (by first | rfl | (simp; done) | (simp [*]; done)), H', ⟨Nat.le_refl _⟩, ⟨by repeat (first | (with_reducible first | exact HB.out | apply below_alloc | apply pw_below_drewN | apply below_drew1) | exact HB.out)⟩⟩
    case round =>
      clear H'
      try clear c1
      try clear p2
      try clear c3
      try clear c3b0
      try clear c3b1
      try clear c3b2
      obtain ⟨x14_1, rfl, HA, HK1, HB⟩ := hrel
      cases gk with
      | zero => exact absurd HA.out (by simp [api_RMove_32.l0])
      | succ k1 =>
        have H := HA.out
        clear HA
        simp only [api_RMove_32.l0] at H
        by_cases c4 : x14_1 < (l0.length : Int)
        · rw [if_pos c4] at H
          have c4b0 : decide (x14_1 < (l0.length : Int)) = true := decide_eq_true c4
          clear c4
          by_cases c5 : 0 ≤ x14_1
          · rw [if_pos c5] at H
            have c5b0 : decide (0 ≤ x14_1) = true := decide_eq_true c5
            clear c5
            by_cases c6 : x14_1 < (l0.length : Int)
            · rw [if_pos c6] at H
              have c6b0 : decide (x14_1 < (l0.length : Int)) = true := decide_eq_true c6
              clear c6
              by_cases c7 : x14_1 < (l1.length : Int)
              · rw [if_pos c7] at H
                have c7b0 : decide (x14_1 < (l1.length : Int)) = true := decide_eq_true c7
                clear c7
                by_cases c8 : (!(((rd_T71 l0 x14_1).f0) == ((rd_T71 l1 x14_1).f0)) || (!(((rd_T71 l0 x14_1).f1) == ((rd_T71 l1 x14_1).f1)))) = true
                · rw [if_pos c8] at H
                  have c8b0 : (!(((rd_T71 l0 x14_1).f0) == ((rd_T71 l1 x14_1).f0)) || (!(((rd_T71 l0 x14_1).f1) == ((rd_T71 l1 x14_1).f1)))) = true := c8
                  clear c8
                  obtain rfl := Option.some.inj H
                  have p101 : 0 ≤ (x14_1 : Int) := of_decide_eq_true (by first | (with_reducible assumption) | assumption)
                  have q101 : x14_1 < (l0.length : Int) := of_decide_eq_true (by first | (with_reducible assumption) | assumption)
                  obtain ⟨ad101, e101, hx101_0, hx101_1⟩ := at_T71 HR0.out x14_1 p101 q101
                  cases e101
                  try replace hx101_0 := (HB.out.cell (World.block_lt_of_cell? w _ hx101_0)).trans hx101_0
                  try replace hx101_1 := (HB.out.cell (World.block_lt_of_cell? w _ hx101_1)).trans hx101_1
                  replace p101 := eq_true p101
                  replace q101 := eq_true q101
                  go_wp2_with (first | ((with_reducible refine gate_dst (N := 6) rfl ?_); refine box_event ?hg (N := 6) ?hd (cs := #[.int .i64 0, .int .i64 0]) (t := 71) ?hr ?_; (case hd => rfl); (case hg => rfl); (case hr => first | (go_simp; done) | (go_simp; rfl)); intro gb102 hg w9 hbox hb; have n0_ := Aside0.mk (below_step (by repeat (first | (with_reducible first | exact HB.out | apply below_alloc | apply pw_below_drewN | apply below_drew1) | exact HB.out)) hb); have n1_ := Aside0.mk (hbox); have n2_ := Aside0.mk ((by rw [hg]; exact (below_size (by repeat (first | (with_reducible first | exact HB.out | apply below_alloc | apply pw_below_drewN | apply below_drew1) | exact HB.out))) : w.heap.size ≤ gb102)); have n3_ := Aside0.mk ((by rw [hg]; exact (below_size (by repeat (first | (with_reducible first | exact HB.out | apply below_alloc | apply pw_below_drewN | apply below_drew1) | exact HB.out))) : w.heap.size ≤ gb102)); clear HB; have HB := n0_; have BK102 := n1_; have GW102 := n2_; have GE102 := n3_; clear n0_ n1_ n2_ n3_; clear hb hbox hg; have hcz10_0 : w9.cell? ⟨gb102, 0, none⟩ = some (.int .i64 0) := (blk_cell BK102.out 0).trans rfl; have hcz10_1 : w9.cell? ⟨gb102, 1, none⟩ = some (.int .i64 0) := (blk_cell BK102.out 1).trans rfl; have hfz10_0 := blk_frozen BK102.out 0; have hfz10_1 := blk_frozen BK102.out 1; have p103 : 0 ≤ (x14_1 : Int) := of_decide_eq_true (by first | (with_reducible assumption) | assumption); have q103 : x14_1 < (l1.length : Int) := of_decide_eq_true (by first | (with_reducible assumption) | assumption); obtain ⟨ad103, e103, hx103_0, hx103_1⟩ := at_T71 HR1.out x14_1 p103 q103; cases e103; have hn103_0 : ad103.block ≠ gb102 := Nat.ne_of_lt (Nat.lt_of_lt_of_le (by have := World.block_lt_of_cell? _ _ hx103_0; first | rwa [add_block] at this | exact this) GW102.out); have hn103_1 : ad103.block ≠ gb102 := Nat.ne_of_lt (Nat.lt_of_lt_of_le (by have := World.block_lt_of_cell? _ _ hx103_0; first | rwa [add_block] at this | exact this) GW102.out); try replace hx103_0 := (HB.out.cell (World.block_lt_of_cell? w _ hx103_0)).trans hx103_0; try replace hx103_1 := (HB.out.cell (World.block_lt_of_cell? w _ hx103_1)).trans hx103_1; replace hx103_0 := (cell_far (p := ⟨gb102, 0, none⟩) (by first | (rw [add_block]; exact hn103_0) | (show (Addr.add _ _).block ≠ _; rw [add_block]; exact hn103_0) | exact hn103_0) (.int .i64 ((rd_T71 l0 x14_1).f0))).trans hx103_0; replace hx103_1 := (cell_far (p := ⟨gb102, 0, none⟩) (by first | (rw [add_block]; exact hn103_0) | (show (Addr.add _ _).block ≠ _; rw [add_block]; exact hn103_0) | exact hn103_0) (.int .i64 ((rd_T71 l0 x14_1).f0))).trans hx103_1; replace hx103_0 := (cell_far (p := ⟨gb102, 1, none⟩) (by first | (rw [add_block]; exact hn103_1) | (show (Addr.add _ _).block ≠ _; rw [add_block]; exact hn103_1) | exact hn103_1) (.int .i64 ((rd_T71 l0 x14_1).f1))).trans hx103_0; replace hx103_1 := (cell_far (p := ⟨gb102, 1, none⟩) (by first | (rw [add_block]; exact hn103_1) | (show (Addr.add _ _).block ≠ _; rw [add_block]; exact hn103_1) | exact hn103_1) (.int .i64 ((rd_T71 l0 x14_1).f1))).trans hx103_1; (try have hy103_0 := fun (n_ : Nat) => (show ((((w9.drewN n_).setCell ⟨gb102, 0, none⟩ (.int .i64 ((rd_T71 l0 x14_1).f0))).setCell ⟨gb102, 1, none⟩ (.int .i64 ((rd_T71 l0 x14_1).f1)))).cell? _ = some _ from hx103_0)); (try have hy103_1 := fun (n_ : Nat) => (show ((((w9.drewN n_).setCell ⟨gb102, 0, none⟩ (.int .i64 ((rd_T71 l0 x14_1).f0))).setCell ⟨gb102, 1, none⟩ (.int .i64 ((rd_T71 l0 x14_1).f1)))).cell? _ = some _ from hx103_1)); clear hn103_0; clear hn103_1; replace p103 := eq_true p103; replace q103 := eq_true q103))
                  repeat (go_quiet (first | ((with_reducible refine gate_dst (N := 6) rfl ?_); refine box_event ?hg (N := 6) ?hd (cs := #[.int .i64 0, .int .i64 0]) (t := 71) ?hr ?_; (case hd => rfl); (case hg => rfl); (case hr => first | (go_simp; done) | (go_simp; rfl)); intro gb102 hg w9 hbox hb; have n0_ := Aside0.mk (below_step (by repeat (first | (with_reducible first | exact HB.out | apply below_alloc | apply pw_below_drewN | apply below_drew1) | exact HB.out)) hb); have n1_ := Aside0.mk (hbox); have n2_ := Aside0.mk ((by rw [hg]; exact (below_size (by repeat (first | (with_reducible first | exact HB.out | apply below_alloc | apply pw_below_drewN | apply below_drew1) | exact HB.out))) : w.heap.size ≤ gb102)); have n3_ := Aside0.mk ((by rw [hg]; exact (below_size (by repeat (first | (with_reducible first | exact HB.out | apply below_alloc | apply pw_below_drewN | apply below_drew1) | exact HB.out))) : w.heap.size ≤ gb102)); clear HB; have HB := n0_; have BK102 := n1_; have GW102 := n2_; have GE102 := n3_; clear n0_ n1_ n2_ n3_; clear hb hbox hg; have hcz10_0 : w9.cell? ⟨gb102, 0, none⟩ = some (.int .i64 0) := (blk_cell BK102.out 0).trans rfl; have hcz10_1 : w9.cell? ⟨gb102, 1, none⟩ = some (.int .i64 0) := (blk_cell BK102.out 1).trans rfl; have hfz10_0 := blk_frozen BK102.out 0; have hfz10_1 := blk_frozen BK102.out 1; have p103 : 0 ≤ (x14_1 : Int) := of_decide_eq_true (by first | (with_reducible assumption) | assumption); have q103 : x14_1 < (l1.length : Int) := of_decide_eq_true (by first | (with_reducible assumption) | assumption); obtain ⟨ad103, e103, hx103_0, hx103_1⟩ := at_T71 HR1.out x14_1 p103 q103; cases e103; have hn103_0 : ad103.block ≠ gb102 := Nat.ne_of_lt (Nat.lt_of_lt_of_le (by have := World.block_lt_of_cell? _ _ hx103_0; first | rwa [add_block] at this | exact this) GW102.out); have hn103_1 : ad103.block ≠ gb102 := Nat.ne_of_lt (Nat.lt_of_lt_of_le (by have := World.block_lt_of_cell? _ _ hx103_0; first | rwa [add_block] at this | exact this) GW102.out); try replace hx103_0 := (HB.out.cell (World.block_lt_of_cell? w _ hx103_0)).trans hx103_0; try replace hx103_1 := (HB.out.cell (World.block_lt_of_cell? w _ hx103_1)).trans hx103_1; replace hx103_0 := (cell_far (p := ⟨gb102, 0, none⟩) (by first | (rw [add_block]; exact hn103_0) | (show (Addr.add _ _).block ≠ _; rw [add_block]; exact hn103_0) | exact hn103_0) (.int .i64 ((rd_T71 l0 x14_1).f0))).trans hx103_0; replace hx103_1 := (cell_far (p := ⟨gb102, 0, none⟩) (by first | (rw [add_block]; exact hn103_0) | (show (Addr.add _ _).block ≠ _; rw [add_block]; exact hn103_0) | exact hn103_0) (.int .i64 ((rd_T71 l0 x14_1).f0))).trans hx103_1; replace hx103_0 := (cell_far (p := ⟨gb102, 1, none⟩) (by first | (rw [add_block]; exact hn103_1) | (show (Addr.add _ _).block ≠ _; rw [add_block]; exact hn103_1) | exact hn103_1) (.int .i64 ((rd_T71 l0 x14_1).f1))).trans hx103_0; replace hx103_1 := (cell_far (p := ⟨gb102, 1, none⟩) (by first | (rw [add_block]; exact hn103_1) | (show (Addr.add _ _).block ≠ _; rw [add_block]; exact hn103_1) | exact hn103_1) (.int .i64 ((rd_T71 l0 x14_1).f1))).trans hx103_1; (try have hy103_0 := fun (n_ : Nat) => (show ((((w9.drewN n_).setCell ⟨gb102, 0, none⟩ (.int .i64 ((rd_T71 l0 x14_1).f0))).setCell ⟨gb102, 1, none⟩ (.int .i64 ((rd_T71 l0 x14_1).f1)))).cell? _ = some _ from hx103_0)); (try have hy103_1 := fun (n_ : Nat) => (show ((((w9.drewN n_).setCell ⟨gb102, 0, none⟩ (.int .i64 ((rd_T71 l0 x14_1).f0))).setCell ⟨gb102, 1, none⟩ (.int .i64 ((rd_T71 l0 x14_1).f1)))).cell? _ = some _ from hx103_1)); clear hn103_0; clear hn103_1; replace p103 := eq_true p103; replace q103 := eq_true q103)); try go_wp2_with (first | ((with_reducible refine gate_dst (N := 6) rfl ?_); refine box_event ?hg (N := 6) ?hd (cs := #[.int .i64 0, .int .i64 0]) (t := 71) ?hr ?_; (case hd => rfl); (case hg => rfl); (case hr => first | (go_simp; done) | (go_simp; rfl)); intro gb102 hg w9 hbox hb; have n0_ := Aside0.mk (below_step (by repeat (first | (with_reducible first | exact HB.out | apply below_alloc | apply pw_below_drewN | apply below_drew1) | exact HB.out)) hb); have n1_ := Aside0.mk (hbox); have n2_ := Aside0.mk ((by rw [hg]; exact (below_size (by repeat (first | (with_reducible first | exact HB.out | apply below_alloc | apply pw_below_drewN | apply below_drew1) | exact HB.out))) : w.heap.size ≤ gb102)); have n3_ := Aside0.mk ((by rw [hg]; exact (below_size (by repeat (first | (with_reducible first | exact HB.out | apply below_alloc | apply pw_below_drewN | apply below_drew1) | exact HB.out))) : w.heap.size ≤ gb102)); clear HB; have HB := n0_; have BK102 := n1_; have GW102 := n2_; have GE102 := n3_; clear n0_ n1_ n2_ n3_; clear hb hbox hg; have hcz10_0 : w9.cell? ⟨gb102, 0, none⟩ = some (.int .i64 0) := (blk_cell BK102.out 0).trans rfl; have hcz10_1 : w9.cell? ⟨gb102, 1, none⟩ = some (.int .i64 0) := (blk_cell BK102.out 1).trans rfl; have hfz10_0 := blk_frozen BK102.out 0; have hfz10_1 := blk_frozen BK102.out 1; have p103 : 0 ≤ (x14_1 : Int) := of_decide_eq_true (by first | (with_reducible assumption) | assumption); have q103 : x14_1 < (l1.length : Int) := of_decide_eq_true (by first | (with_reducible assumption) | assumption); obtain ⟨ad103, e103, hx103_0, hx103_1⟩ := at_T71 HR1.out x14_1 p103 q103; cases e103; have hn103_0 : ad103.block ≠ gb102 := Nat.ne_of_lt (Nat.lt_of_lt_of_le (by have := World.block_lt_of_cell? _ _ hx103_0; first | rwa [add_block] at this | exact this) GW102.out); have hn103_1 : ad103.block ≠ gb102 := Nat.ne_of_lt (Nat.lt_of_lt_of_le (by have := World.block_lt_of_cell? _ _ hx103_0; first | rwa [add_block] at this | exact this) GW102.out); try replace hx103_0 := (HB.out.cell (World.block_lt_of_cell? w _ hx103_0)).trans hx103_0; try replace hx103_1 := (HB.out.cell (World.block_lt_of_cell? w _ hx103_1)).trans hx103_1; replace hx103_0 := (cell_far (p := ⟨gb102, 0, none⟩) (by first | (rw [add_block]; exact hn103_0) | (show (Addr.add _ _).block ≠ _; rw [add_block]; exact hn103_0) | exact hn103_0) (.int .i64 ((rd_T71 l0 x14_1).f0))).trans hx103_0; replace hx103_1 := (cell_far (p := ⟨gb102, 0, none⟩) (by first | (rw [add_block]; exact hn103_0) | (show (Addr.add _ _).block ≠ _; rw [add_block]; exact hn103_0) | exact hn103_0) (.int .i64 ((rd_T71 l0 x14_1).f0))).trans hx103_1; replace hx103_0 := (cell_far (p := ⟨gb102, 1, none⟩) (by first | (rw [add_block]; exact hn103_1) | (show (Addr.add _ _).block ≠ _; rw [add_block]; exact hn103_1) | exact hn103_1) (.int .i64 ((rd_T71 l0 x14_1).f1))).trans hx103_0; replace hx103_1 := (cell_far (p := ⟨gb102, 1, none⟩) (by first | (rw [add_block]; exact hn103_1) | (show (Addr.add _ _).block ≠ _; rw [add_block]; exact hn103_1) | exact hn103_1) (.int .i64 ((rd_T71 l0 x14_1).f1))).trans hx103_1; (try have hy103_0 := fun (n_ : Nat) => (show ((((w9.drewN n_).setCell ⟨gb102, 0, none⟩ (.int .i64 ((rd_T71 l0 x14_1).f0))).setCell ⟨gb102, 1, none⟩ (.int .i64 ((rd_T71 l0 x14_1).f1)))).cell? _ = some _ from hx103_0)); (try have hy103_1 := fun (n_ : Nat) => (show ((((w9.drewN n_).setCell ⟨gb102, 0, none⟩ (.int .i64 ((rd_T71 l0 x14_1).f0))).setCell ⟨gb102, 1, none⟩ (.int .i64 ((rd_T71 l0 x14_1).f1)))).cell? _ = some _ from hx103_1)); clear hn103_0; clear hn103_1; replace p103 := eq_true p103; replace q103 := eq_true q103)))
                  go_ret
                  exact ⟨by first | rfl | (simp [errW_none, errW_some] <;> rfl) | (simp [*, errW_none, errW_some] <;> rfl), by repeat (first | (with_reducible first | exact HB.out | apply below_alloc | apply pw_below_drewN | apply below_drew1 | refine below_set ?_ GE102.out) | exact HB.out)⟩
                · rw [if_neg c8] at H
                  have c8b0 : (!(((rd_T71 l0 x14_1).f0) == ((rd_T71 l1 x14_1).f0)) || (!(((rd_T71 l0 x14_1).f1) == ((rd_T71 l1 x14_1).f1)))) = false := by simpa using c8
                  clear c8
                  have H' := Aside0.mk H
                  clear H
                  have p101 : 0 ≤ (x14_1 : Int) := of_decide_eq_true (by first | (with_reducible assumption) | assumption)
                  have q101 : x14_1 < (l0.length : Int) := of_decide_eq_true (by first | (with_reducible assumption) | assumption)
                  obtain ⟨ad101, e101, hx101_0, hx101_1⟩ := at_T71 HR0.out x14_1 p101 q101
                  cases e101
                  try replace hx101_0 := (HB.out.cell (World.block_lt_of_cell? w _ hx101_0)).trans hx101_0
                  try replace hx101_1 := (HB.out.cell (World.block_lt_of_cell? w _ hx101_1)).trans hx101_1
                  replace p101 := eq_true p101
                  replace q101 := eq_true q101
                  go_wp2_with (first | ((with_reducible refine gate_dst (N := 6) rfl ?_); refine box_event ?hg (N := 6) ?hd (cs := #[.int .i64 0, .int .i64 0]) (t := 71) ?hr ?_; (case hd => rfl); (case hg => rfl); (case hr => first | (go_simp; done) | (go_simp; rfl)); intro gb102 hg w11 hbox hb; have n0_ := Aside0.mk (below_step (by repeat (first | (with_reducible first | exact HB.out | apply below_alloc | apply pw_below_drewN | apply below_drew1) | exact HB.out)) hb); have n1_ := Aside0.mk (hbox); have n2_ := Aside0.mk ((by rw [hg]; exact (below_size (by repeat (first | (with_reducible first | exact HB.out | apply below_alloc | apply pw_below_drewN | apply below_drew1) | exact HB.out))) : w.heap.size ≤ gb102)); have n3_ := Aside0.mk ((by rw [hg]; exact (below_size (by repeat (first | (with_reducible first | exact HB.out | apply below_alloc | apply pw_below_drewN | apply below_drew1) | exact HB.out))) : w.heap.size ≤ gb102)); clear HB; have HB := n0_; have BK102 := n1_; have GW102 := n2_; have GE102 := n3_; clear n0_ n1_ n2_ n3_; clear hb hbox hg; have hcz12_0 : w11.cell? ⟨gb102, 0, none⟩ = some (.int .i64 0) := (blk_cell BK102.out 0).trans rfl; have hcz12_1 : w11.cell? ⟨gb102, 1, none⟩ = some (.int .i64 0) := (blk_cell BK102.out 1).trans rfl; have hfz12_0 := blk_frozen BK102.out 0; have hfz12_1 := blk_frozen BK102.out 1; have p103 : 0 ≤ (x14_1 : Int) := of_decide_eq_true (by first | (with_reducible assumption) | assumption); have q103 : x14_1 < (l1.length : Int) := of_decide_eq_true (by first | (with_reducible assumption) | assumption); obtain ⟨ad103, e103, hx103_0, hx103_1⟩ := at_T71 HR1.out x14_1 p103 q103; cases e103; have hn103_0 : ad103.block ≠ gb102 := Nat.ne_of_lt (Nat.lt_of_lt_of_le (by have := World.block_lt_of_cell? _ _ hx103_0; first | rwa [add_block] at this | exact this) GW102.out); have hn103_1 : ad103.block ≠ gb102 := Nat.ne_of_lt (Nat.lt_of_lt_of_le (by have := World.block_lt_of_cell? _ _ hx103_0; first | rwa [add_block] at this | exact this) GW102.out); try replace hx103_0 := (HB.out.cell (World.block_lt_of_cell? w _ hx103_0)).trans hx103_0; try replace hx103_1 := (HB.out.cell (World.block_lt_of_cell? w _ hx103_1)).trans hx103_1; replace hx103_0 := (cell_far (p := ⟨gb102, 0, none⟩) (by first | (rw [add_block]; exact hn103_0) | (show (Addr.add _ _).block ≠ _; rw [add_block]; exact hn103_0) | exact hn103_0) (.int .i64 ((rd_T71 l0 x14_1).f0))).trans hx103_0; replace hx103_1 := (cell_far (p := ⟨gb102, 0, none⟩) (by first | (rw [add_block]; exact hn103_0) | (show (Addr.add _ _).block ≠ _; rw [add_block]; exact hn103_0) | exact hn103_0) (.int .i64 ((rd_T71 l0 x14_1).f0))).trans hx103_1; replace hx103_0 := (cell_far (p := ⟨gb102, 1, none⟩) (by first | (rw [add_block]; exact hn103_1) | (show (Addr.add _ _).block ≠ _; rw [add_block]; exact hn103_1) | exact hn103_1) (.int .i64 ((rd_T71 l0 x14_1).f1))).trans hx103_0; replace hx103_1 := (cell_far (p := ⟨gb102, 1, none⟩) (by first | (rw [add_block]; exact hn103_1) | (show (Addr.add _ _).block ≠ _; rw [add_block]; exact hn103_1) | exact hn103_1) (.int .i64 ((rd_T71 l0 x14_1).f1))).trans hx103_1; (try have hy103_0 := fun (n_ : Nat) => (show ((((w11.drewN n_).setCell ⟨gb102, 0, none⟩ (.int .i64 ((rd_T71 l0 x14_1).f0))).setCell ⟨gb102, 1, none⟩ (.int .i64 ((rd_T71 l0 x14_1).f1)))).cell? _ = some _ from hx103_0)); (try have hy103_1 := fun (n_ : Nat) => (show ((((w11.drewN n_).setCell ⟨gb102, 0, none⟩ (.int .i64 ((rd_T71 l0 x14_1).f0))).setCell ⟨gb102, 1, none⟩ (.int .i64 ((rd_T71 l0 x14_1).f1)))).cell? _ = some _ from hx103_1)); clear hn103_0; clear hn103_1; replace p103 := eq_true p103; replace q103 := eq_true q103))
                  repeat (go_quiet (first | ((with_reducible refine gate_dst (N := 6) rfl ?_); refine box_event ?hg (N := 6) ?hd (cs := #[.int .i64 0, .int .i64 0]) (t := 71) ?hr ?_; (case hd => rfl); (case hg => rfl); (case hr => first | (go_simp; done) | (go_simp; rfl)); intro gb102 hg w11 hbox hb; have n0_ := Aside0.mk (below_step (by repeat (first | (with_reducible first | exact HB.out | apply below_alloc | apply pw_below_drewN | apply below_drew1) | exact HB.out)) hb); have n1_ := Aside0.mk (hbox); have n2_ := Aside0.mk ((by rw [hg]; exact (below_size (by repeat (first | (with_reducible first | exact HB.out | apply below_alloc | apply pw_below_drewN | apply below_drew1) | exact HB.out))) : w.heap.size ≤ gb102)); have n3_ := Aside0.mk ((by rw [hg]; exact (below_size (by repeat (first | (with_reducible first | exact HB.out | apply below_alloc | apply pw_below_drewN | apply below_drew1) | exact HB.out))) : w.heap.size ≤ gb102)); clear HB; have HB := n0_; have BK102 := n1_; have GW102 := n2_; have GE102 := n3_; clear n0_ n1_ n2_ n3_; clear hb hbox hg; have hcz12_0 : w11.cell? ⟨gb102, 0, none⟩ = some (.int .i64 0) := (blk_cell BK102.out 0).trans rfl; have hcz12_1 : w11.cell? ⟨gb102, 1, none⟩ = some (.int .i64 0) := (blk_cell BK102.out 1).trans rfl; have hfz12_0 := blk_frozen BK102.out 0; have hfz12_1 := blk_frozen BK102.out 1; have p103 : 0 ≤ (x14_1 : Int) := of_decide_eq_true (by first | (with_reducible assumption) | assumption); have q103 : x14_1 < (l1.length : Int) := of_decide_eq_true (by first | (with_reducible assumption) | assumption); obtain ⟨ad103, e103, hx103_0, hx103_1⟩ := at_T71 HR1.out x14_1 p103 q103; cases e103; have hn103_0 : ad103.block ≠ gb102 := Nat.ne_of_lt (Nat.lt_of_lt_of_le (by have := World.block_lt_of_cell? _ _ hx103_0; first | rwa [add_block] at this | exact this) GW102.out); have hn103_1 : ad103.block ≠ gb102 := Nat.ne_of_lt (Nat.lt_of_lt_of_le (by have := World.block_lt_of_cell? _ _ hx103_0; first | rwa [add_block] at this | exact this) GW102.out); try replace hx103_0 := (HB.out.cell (World.block_lt_of_cell? w _ hx103_0)).trans hx103_0; try replace hx103_1 := (HB.out.cell (World.block_lt_of_cell? w _ hx103_1)).trans hx103_1; replace hx103_0 := (cell_far (p := ⟨gb102, 0, none⟩) (by first | (rw [add_block]; exact hn103_0) | (show (Addr.add _ _).block ≠ _; rw [add_block]; exact hn103_0) | exact hn103_0) (.int .i64 ((rd_T71 l0 x14_1).f0))).trans hx103_0; replace hx103_1 := (cell_far (p := ⟨gb102, 0, none⟩) (by first | (rw [add_block]; exact hn103_0) | (show (Addr.add _ _).block ≠ _; rw [add_block]; exact hn103_0) | exact hn103_0) (.int .i64 ((rd_T71 l0 x14_1).f0))).trans hx103_1; replace hx103_0 := (cell_far (p := ⟨gb102, 1, none⟩) (by first | (rw [add_block]; exact hn103_1) | (show (Addr.add _ _).block ≠ _; rw [add_block]; exact hn103_1) | exact hn103_1) (.int .i64 ((rd_T71 l0 x14_1).f1))).trans hx103_0; replace hx103_1 := (cell_far (p := ⟨gb102, 1, none⟩) (by first | (rw [add_block]; exact hn103_1) | (show (Addr.add _ _).block ≠ _; rw [add_block]; exact hn103_1) | exact hn103_1) (.int .i64 ((rd_T71 l0 x14_1).f1))).trans hx103_1; (try have hy103_0 := fun (n_ : Nat) => (show ((((w11.drewN n_).setCell ⟨gb102, 0, none⟩ (.int .i64 ((rd_T71 l0 x14_1).f0))).setCell ⟨gb102, 1, none⟩ (.int .i64 ((rd_T71 l0 x14_1).f1)))).cell? _ = some _ from hx103_0)); (try have hy103_1 := fun (n_ : Nat) => (show ((((w11.drewN n_).setCell ⟨gb102, 0, none⟩ (.int .i64 ((rd_T71 l0 x14_1).f0))).setCell ⟨gb102, 1, none⟩ (.int .i64 ((rd_T71 l0 x14_1).f1)))).cell? _ = some _ from hx103_1)); clear hn103_0; clear hn103_1; replace p103 := eq_true p103; replace q103 := eq_true q103)); try go_wp2_with (first | ((with_reducible refine gate_dst (N := 6) rfl ?_); refine box_event ?hg (N := 6) ?hd (cs := #[.int .i64 0, .int .i64 0]) (t := 71) ?hr ?_; (case hd => rfl); (case hg => rfl); (case hr => first | (go_simp; done) | (go_simp; rfl)); intro gb102 hg w11 hbox hb; have n0_ := Aside0.mk (below_step (by repeat (first | (with_reducible first | exact HB.out | apply below_alloc | apply pw_below_drewN | apply below_drew1) | exact HB.out)) hb); have n1_ := Aside0.mk (hbox); have n2_ := Aside0.mk ((by rw [hg]; exact (below_size (by repeat (first | (with_reducible first | exact HB.out | apply below_alloc | apply pw_below_drewN | apply below_drew1) | exact HB.out))) : w.heap.size ≤ gb102)); have n3_ := Aside0.mk ((by rw [hg]; exact (below_size (by repeat (first | (with_reducible first | exact HB.out | apply below_alloc | apply pw_below_drewN | apply below_drew1) | exact HB.out))) : w.heap.size ≤ gb102)); clear HB; have HB := n0_; have BK102 := n1_; have GW102 := n2_; have GE102 := n3_; clear n0_ n1_ n2_ n3_; clear hb hbox hg; have hcz12_0 : w11.cell? ⟨gb102, 0, none⟩ = some (.int .i64 0) := (blk_cell BK102.out 0).trans rfl; have hcz12_1 : w11.cell? ⟨gb102, 1, none⟩ = some (.int .i64 0) := (blk_cell BK102.out 1).trans rfl; have hfz12_0 := blk_frozen BK102.out 0; have hfz12_1 := blk_frozen BK102.out 1; have p103 : 0 ≤ (x14_1 : Int) := of_decide_eq_true (by first | (with_reducible assumption) | assumption); have q103 : x14_1 < (l1.length : Int) := of_decide_eq_true (by first | (with_reducible assumption) | assumption); obtain ⟨ad103, e103, hx103_0, hx103_1⟩ := at_T71 HR1.out x14_1 p103 q103; cases e103; have hn103_0 : ad103.block ≠ gb102 := Nat.ne_of_lt (Nat.lt_of_lt_of_le (by have := World.block_lt_of_cell? _ _ hx103_0; first | rwa [add_block] at this | exact this) GW102.out); have hn103_1 : ad103.block ≠ gb102 := Nat.ne_of_lt (Nat.lt_of_lt_of_le (by have := World.block_lt_of_cell? _ _ hx103_0; first | rwa [add_block] at this | exact this) GW102.out); try replace hx103_0 := (HB.out.cell (World.block_lt_of_cell? w _ hx103_0)).trans hx103_0; try replace hx103_1 := (HB.out.cell (World.block_lt_of_cell? w _ hx103_1)).trans hx103_1; replace hx103_0 := (cell_far (p := ⟨gb102, 0, none⟩) (by first | (rw [add_block]; exact hn103_0) | (show (Addr.add _ _).block ≠ _; rw [add_block]; exact hn103_0) | exact hn103_0) (.int .i64 ((rd_T71 l0 x14_1).f0))).trans hx103_0; replace hx103_1 := (cell_far (p := ⟨gb102, 0, none⟩) (by first | (rw [add_block]; exact hn103_0) | (show (Addr.add _ _).block ≠ _; rw [add_block]; exact hn103_0) | exact hn103_0) (.int .i64 ((rd_T71 l0 x14_1).f0))).trans hx103_1; replace hx103_0 := (cell_far (p := ⟨gb102, 1, none⟩) (by first | (rw [add_block]; exact hn103_1) | (show (Addr.add _ _).block ≠ _; rw [add_block]; exact hn103_1) | exact hn103_1) (.int .i64 ((rd_T71 l0 x14_1).f1))).trans hx103_0; replace hx103_1 := (cell_far (p := ⟨gb102, 1, none⟩) (by first | (rw [add_block]; exact hn103_1) | (show (Addr.add _ _).block ≠ _; rw [add_block]; exact hn103_1) | exact hn103_1) (.int .i64 ((rd_T71 l0 x14_1).f1))).trans hx103_1; (try have hy103_0 := fun (n_ : Nat) => (show ((((w11.drewN n_).setCell ⟨gb102, 0, none⟩ (.int .i64 ((rd_T71 l0 x14_1).f0))).setCell ⟨gb102, 1, none⟩ (.int .i64 ((rd_T71 l0 x14_1).f1)))).cell? _ = some _ from hx103_0)); (try have hy103_1 := fun (n_ : Nat) => (show ((((w11.drewN n_).setCell ⟨gb102, 0, none⟩ (.int .i64 ((rd_T71 l0 x14_1).f0))).setCell ⟨gb102, 1, none⟩ (.int .i64 ((rd_T71 l0 x14_1).f1)))).cell? _ = some _ from hx103_1)); clear hn103_0; clear hn103_1; replace p103 := eq_true p103; replace q103 := eq_true q103)))
                  go_roundg k1
                  case measure => have := HK1.out; omega
                  case rel => exact ⟨(wrap64 (x14_1 + 1)), (by first | rfl | (simp; done) | (simp [*]; done)), H', ⟨by have := HK1.out; omega⟩, ⟨by repeat (first | (with_reducible first | exact HB.out | apply below_alloc | apply pw_below_drewN | apply below_drew1 | refine below_set ?_ GE102.out) | exact HB.out)⟩⟩
              · rw [if_neg c7] at H
                exact absurd H (by simp)
            · rw [if_neg c6] at H
              exact absurd H (by simp)
          · rw [if_neg c5] at H
            exact absurd H (by simp)
        · rw [if_neg c4] at H
          have c4b0 : decide (x14_1 < (l0.length : Int)) = false := decide_eq_false c4
          clear c4
          obtain rfl := Option.some.inj H
          go_wp2
          repeat (go_quiet (fail); try go_wp2)
          go_ret
          exact ⟨by first | rfl | (simp [errW_none, errW_some] <;> rfl) | (simp [*, errW_none, errW_some] <;> rfl), by repeat (first | (with_reducible first | exact HB.out | apply below_alloc | apply pw_below_drewN | apply below_drew1) | exact HB.out)⟩
  · rw [if_neg c3] at H
    have c3b0 : ((l0.length : Int) == (l1.length : Int)) = false := beq_eq_false_iff_ne.mpr c3
    have c3b1 : ((l0.length : Int) != (l1.length : Int)) = true := bne_iff_ne.mpr c3
    have c3b2 : (l0.length == l1.length) = false := by first | simpa using c3 | (simp at c3 ⊢; omega)
    obtain rfl := Option.some.inj H
    go_enter Try.func32, Try.ntmps32
    go_wp2
    repeat (go_quiet (fail); try go_wp2)
    go_ret
    exact ⟨by first | rfl | (simp [errW_none, errW_some] <;> rfl) | (simp [*, errW_none, errW_some] <;> rfl), by repeat (first | (with_reducible first | exact HB.out | apply below_alloc | apply pw_below_drewN | apply below_drew1) | exact HB.out)⟩

/-! ### backstitchlaw3_rung: function 29 -/
def backstitchlaw3_rung.f (k : Nat)  : Option (Bool) := (moves_Order.f k (([(⟨1, 2⟩ : S71), (⟨2, 1⟩ : S71)] : List (S71))) 9).bind fun bt107 => (if bt107.2 = 0 then ((api_RMove_32.f k bt107.1 (([(⟨9, 1⟩ : S71), (⟨1, 2⟩ : S71), (⟨2, 9⟩ : S71)] : List (S71)))).bind fun t114 => (some t114)) else (some false))
theorem backstitchlaw3_rung.mono : ∀ k, LeO (backstitchlaw3_rung.f k ) (backstitchlaw3_rung.f (k + 1) ) := by
  intro  k
  unfold backstitchlaw3_rung.f
  repeat' first
      | (with_reducible exact api_RMove_32.mono _ _ _)
      | (with_reducible exact moves_Order.mono _ _ _)
      | (with_reducible exact LeO.refl _)
      | (with_reducible exact LeO.none _)
      | (with_reducible refine LeO.ite ?_ ?_)
      | (with_reducible refine LeO.bind ?_ (fun _ => ?_))
      | exact api_RMove_32.mono _ _ _
      | exact moves_Order.mono _ _ _
      | exact LeO.none _
      | refine LeO.ite ?_ ?_
      | refine LeO.bind ?_ (fun _ => ?_)
set_option maxHeartbeats 8000000 in
set_option maxRecDepth 100000 in
theorem backstitchlaw3_rung.calls (k : Nat)  (r : Bool) (w : World) (h : backstitchlaw3_rung.f k  = some r) :
    Calls Try.prog 29 #[] w fun e w' => e = .returned (.bool r) ∧ Below w.heap.size w w' := by
  have hu71 := Try.underlying71
  have HB := Aside0.mk (Below.refl w.heap.size w)
  have H : ((moves_Order.f k (([(⟨1, 2⟩ : S71), (⟨2, 1⟩ : S71)] : List (S71))) 9).bind fun bt107 => (if bt107.2 = 0 then ((api_RMove_32.f k bt107.1 (([(⟨9, 1⟩ : S71), (⟨1, 2⟩ : S71), (⟨2, 9⟩ : S71)] : List (S71)))).bind fun t114 => (some t114)) else (some false))) = some r := h
  clear h
  obtain ⟨y104, hy104⟩ : ∃ y_ : List (S71), y_ = (([(⟨1, 2⟩ : S71), (⟨2, 1⟩ : S71)] : List (S71))) := ⟨_, rfl⟩
  replace H : ((moves_Order.f k y104 9).bind fun bt107 => (if bt107.2 = 0 then ((api_RMove_32.f k bt107.1 (([(⟨9, 1⟩ : S71), (⟨1, 2⟩ : S71), (⟨2, 9⟩ : S71)] : List (S71)))).bind fun t114 => (some t114)) else (some false))) = some r := by first | (rw [hy104]; with_reducible exact H) | (have H2_ := (Option.bind_some _ _).symm.trans H; rw [hy104]; with_reducible exact H2_) | (have H2_ := (Option.bind_some _ _).symm.trans H; with_reducible exact H2_) | with_reducible exact H | (rw [hy104]; exact H) | exact H
  have Ny104 := Aside0.mk hy104
  clear hy104
  replace H := Option.bind_eq_some_iff.mp H
  obtain ⟨⟨t107, t108⟩, A10, H⟩ := H
  replace H : (if t108 = 0 then ((api_RMove_32.f k t107 (([(⟨9, 1⟩ : S71), (⟨1, 2⟩ : S71), (⟨2, 9⟩ : S71)] : List (S71)))).bind fun t114 => (some t114)) else (some false)) = some r := H
  have A1 := Aside0.mk A10
  clear A10
  by_cases c2 : t108 = 0
  · rw [if_pos c2] at H
    have c2b0 : (t108 == 0) = true := beq_iff_eq.mpr c2
    have c2b1 : (t108 != 0) = false := bne_eq_false_iff_eq.mpr c2
    clear c2
    obtain ⟨y111, hy111⟩ : ∃ y_ : List (S71), y_ = (([(⟨9, 1⟩ : S71), (⟨1, 2⟩ : S71), (⟨2, 9⟩ : S71)] : List (S71))) := ⟨_, rfl⟩
    replace H : ((api_RMove_32.f k t107 y111).bind fun t114 => (some t114)) = some r := by first | (rw [hy111]; with_reducible exact H) | (have H2_ := (Option.bind_some _ _).symm.trans H; rw [hy111]; with_reducible exact H2_) | (have H2_ := (Option.bind_some _ _).symm.trans H; with_reducible exact H2_) | with_reducible exact H | (rw [hy111]; exact H) | exact H
    have Ny111 := Aside0.mk hy111
    clear hy111
    replace H := Option.bind_eq_some_iff.mp H
    obtain ⟨t114, A30, H⟩ := H
    replace H : (some t114) = some r := H
    have A3 := Aside0.mk A30
    clear A30
    obtain rfl := Option.some.inj H
    go_enter Try.func29, Try.ntmps29
    go_wp2_with (first | ((with_reducible refine gate_dst (N := 6) rfl ?_); (try (refine gate_guard (by rfl) ?_; dsimp only)); refine Kd.R_lit k71 _ 71 ?hg (N := 6) ?hd (xs := ([(⟨1, 2⟩ : S71), (⟨2, 1⟩ : S71)] : List (S71))) (inner := [.int .i64 1, .int .i64 2, .int .i64 2, .int .i64 1]) (ok := fun _ => True) (okp := fun _ => True) ?hr ?hp (fun _ hk => hk) trivial (Below.refl _ _) (Nat.le_refl _) (by simp) ?_; (case hd => rfl); (case hg => rfl); (case hr => first | (go_simp; done) | (go_simp; rfl)); (case hp => exact (Reps.c2 (show Kd.M k71 _ _ _ (⟨1, 2⟩ : S71) [.int .i64 1, .int .i64 2] from (k71_mkM _ _ _ (⟨1, 2⟩ : S71) )) (Reps.c2 (show Kd.M k71 _ _ _ (⟨2, 1⟩ : S71) [.int .i64 2, .int .i64 1] from (k71_mkM _ _ _ (⟨2, 1⟩ : S71) )) (Reps.none _ _)))); intro v105 w4 ho5 hb hg_ hnew_; clear hg_ hnew_; (first | rw [← Ny104.out] at ho5 | (simp only [Int.reduceToNat] at ho5; rw [← Ny104.out] at ho5)); have n0_ := Aside0.mk (Kd.R_lower ho5 (below_size (by repeat (first | (with_reducible first | exact HB.out | apply below_alloc | apply pw_below_drewN | apply below_drew1) | exact HB.out)))); have n1_ := Aside0.mk (below_step (by repeat (first | (with_reducible first | exact HB.out | apply below_alloc | apply pw_below_drewN | apply below_drew1) | exact HB.out)) hb); clear HB; have HO106 := n0_; have HB := n1_; clear n0_ n1_; clear hb ho5; obtain ⟨Ao6, co6, eo6⟩ := Kd.R_slice HO106.out; subst eo6) | ((with_reducible refine gate_callee (f := 30) rfl ?_); refine goesL_ (some 7) rfl rfl Try.func30 (by kernel_rfl) rfl #[.slice Ao6 y104.length co6, .int .i64 9] rfl (by (try simp only [List.map_toArray, List.map_cons, List.map_nil]); first | done | rfl | (simp only [List.length_drop, List.length_take]; rfl)) ?_; (with_reducible refine (moves_Order.calls k _ _ y104 9 t107 t108 _ ?side1 ?side2 A1.out).mono ?_); (case side1 => repeat (first | exact (Kd.R_reads' HO106.out).2.2 | (with_reducible refine Kd.C_alloc ?_ _) | (with_reducible refine Kd.C_drewN ?_ _) | (with_reducible refine Kd.C_drew ?_))); (case side2 => exact (Kd.R_reads' HO106.out).2.1); rintro e w7 ⟨v109, rfl, ho0, hb⟩; refine ⟨_, rfl, ?_⟩; have n0_ := Aside0.mk (Kd.R_elder' (by (with_reducible repeat (first | apply Kd.R_alloc | apply Kd.R_drewN | apply Kd.R_drew)); exact HO106.out) (Kd.R_base ho0) hb); have n1_ := Aside0.mk (Kd.R_lower (Kd.R_new' ho0 (Kd.R_lt (by (with_reducible repeat (first | apply Kd.R_alloc | apply Kd.R_drewN | apply Kd.R_drew)); exact HO106.out))) (below_size (by repeat (first | (with_reducible first | exact HB.out | apply below_alloc | apply pw_below_drewN | apply below_drew1) | exact HB.out)))); have n2_ := Aside0.mk (below_step (by repeat (first | (with_reducible first | exact HB.out | apply below_alloc | apply pw_below_drewN | apply below_drew1) | exact HB.out)) hb); clear HO106; clear HB; have HO106 := n0_; have HO110 := n1_; have HB := n2_; clear n0_ n1_ n2_; (try clear hb); (try clear hb2); (try clear hk); (try clear hi); (try clear ho0)) | ((with_reducible refine gate_dst (N := 17) rfl ?_); (try (refine gate_guard (by rfl) ?_; dsimp only)); refine Kd.R_lit k71 _ 71 ?hg (N := 17) ?hd (xs := ([(⟨9, 1⟩ : S71), (⟨1, 2⟩ : S71), (⟨2, 9⟩ : S71)] : List (S71))) (inner := [.int .i64 9, .int .i64 1, .int .i64 1, .int .i64 2, .int .i64 2, .int .i64 9]) (ok := fun _ => True) (okp := fun _ => True) ?hr ?hp (fun _ hk => hk) trivial (Below.refl _ _) (Nat.le_refl _) (by simp) ?_; (case hd => rfl); (case hg => rfl); (case hr => first | (go_simp; done) | (go_simp; rfl)); (case hp => exact (Reps.c2 (show Kd.M k71 _ _ _ (⟨9, 1⟩ : S71) [.int .i64 9, .int .i64 1] from (k71_mkM _ _ _ (⟨9, 1⟩ : S71) )) (Reps.c2 (show Kd.M k71 _ _ _ (⟨1, 2⟩ : S71) [.int .i64 1, .int .i64 2] from (k71_mkM _ _ _ (⟨1, 2⟩ : S71) )) (Reps.c2 (show Kd.M k71 _ _ _ (⟨2, 9⟩ : S71) [.int .i64 2, .int .i64 9] from (k71_mkM _ _ _ (⟨2, 9⟩ : S71) )) (Reps.none _ _))))); intro v112 w8 ho9 hb hg_ hnew_; clear hg_ hnew_; (first | rw [← Ny111.out] at ho9 | (simp only [Int.reduceToNat] at ho9; rw [← Ny111.out] at ho9)); have n0_ := Aside0.mk (Kd.R_elder' (by (with_reducible repeat (first | apply Kd.R_alloc | apply Kd.R_drewN | apply Kd.R_drew)); exact HO106.out) (Kd.R_base ho9) hb); have n1_ := Aside0.mk (Kd.R_elder' (by (with_reducible repeat (first | apply Kd.R_alloc | apply Kd.R_drewN | apply Kd.R_drew)); exact HO110.out) (Kd.R_base ho9) hb); have n2_ := Aside0.mk (Kd.R_lower (Kd.R_new' (Kd.R_new' ho9 (Kd.R_lt (by (with_reducible repeat (first | apply Kd.R_alloc | apply Kd.R_drewN | apply Kd.R_drew)); exact HO106.out))) (Kd.R_lt (by (with_reducible repeat (first | apply Kd.R_alloc | apply Kd.R_drewN | apply Kd.R_drew)); exact HO110.out))) (below_size (by repeat (first | (with_reducible first | exact HB.out | apply below_alloc | apply pw_below_drewN | apply below_drew1) | exact HB.out)))); have n3_ := Aside0.mk (below_step (by repeat (first | (with_reducible first | exact HB.out | apply below_alloc | apply pw_below_drewN | apply below_drew1) | exact HB.out)) hb); clear HO106; clear HO110; clear HB; have HO106 := n0_; have HO110 := n1_; have HO113 := n2_; have HB := n3_; clear n0_ n1_ n2_ n3_; clear hb ho9; obtain ⟨Ao10, co10, eo10⟩ := Kd.R_slice HO110.out; subst eo10; obtain ⟨Ao11, co11, eo11⟩ := Kd.R_slice HO113.out; subst eo11) | (go_at_call 32; (with_reducible refine (api_RMove_32.calls k _ _ t107 _ _ y111 t114 _ ?side1 ?side2 ?side3 ?side4 A3.out).mono ?_); (case side1 => repeat (first | exact (Kd.R_reads' HO110.out).2.2 | (with_reducible refine Kd.C_alloc ?_ _) | (with_reducible refine Kd.C_drewN ?_ _) | (with_reducible refine Kd.C_drew ?_))); (case side2 => exact (Kd.R_reads' HO110.out).2.1); (case side3 => repeat (first | exact (Kd.R_reads' HO113.out).2.2 | (with_reducible refine Kd.C_alloc ?_ _) | (with_reducible refine Kd.C_drewN ?_ _) | (with_reducible refine Kd.C_drew ?_))); (case side4 => exact (Kd.R_reads' HO113.out).2.1); rintro e w12 ⟨rfl, hb⟩; have n0_ := Aside0.mk (Kd.R_below (by (with_reducible repeat (first | apply Kd.R_alloc | apply Kd.R_drewN | apply Kd.R_drew)); exact HO106.out) hb); have n1_ := Aside0.mk (Kd.R_below (by (with_reducible repeat (first | apply Kd.R_alloc | apply Kd.R_drewN | apply Kd.R_drew)); exact HO110.out) hb); have n2_ := Aside0.mk (Kd.R_below (by (with_reducible repeat (first | apply Kd.R_alloc | apply Kd.R_drewN | apply Kd.R_drew)); exact HO113.out) hb); have n3_ := Aside0.mk (below_step (by repeat (first | (with_reducible first | exact HB.out | apply below_alloc | apply pw_below_drewN | apply below_drew1) | exact HB.out)) hb); clear HO106; clear HO110; clear HO113; clear HB; have HO106 := n0_; have HO110 := n1_; have HO113 := n2_; have HB := n3_; clear n0_ n1_ n2_ n3_; (try clear hb); (try clear hb2); (try clear hk); (try clear hi)))
    go_ret
    exact ⟨by first | rfl | (simp [errW_none, errW_some] <;> rfl) | (simp [*, errW_none, errW_some] <;> rfl), by repeat (first | (with_reducible first | exact HB.out | apply below_alloc | apply pw_below_drewN | apply below_drew1) | exact HB.out)⟩
  · rw [if_neg c2] at H
    have c2b0 : (t108 == 0) = false := beq_eq_false_iff_ne.mpr c2
    have c2b1 : (t108 != 0) = true := bne_iff_ne.mpr c2
    obtain rfl := Option.some.inj H
    go_enter Try.func29, Try.ntmps29
    go_wp2_with (first | ((with_reducible refine gate_dst (N := 6) rfl ?_); (try (refine gate_guard (by rfl) ?_; dsimp only)); refine Kd.R_lit k71 _ 71 ?hg (N := 6) ?hd (xs := ([(⟨1, 2⟩ : S71), (⟨2, 1⟩ : S71)] : List (S71))) (inner := [.int .i64 1, .int .i64 2, .int .i64 2, .int .i64 1]) (ok := fun _ => True) (okp := fun _ => True) ?hr ?hp (fun _ hk => hk) trivial (Below.refl _ _) (Nat.le_refl _) (by simp) ?_; (case hd => rfl); (case hg => rfl); (case hr => first | (go_simp; done) | (go_simp; rfl)); (case hp => exact (Reps.c2 (show Kd.M k71 _ _ _ (⟨1, 2⟩ : S71) [.int .i64 1, .int .i64 2] from (k71_mkM _ _ _ (⟨1, 2⟩ : S71) )) (Reps.c2 (show Kd.M k71 _ _ _ (⟨2, 1⟩ : S71) [.int .i64 2, .int .i64 1] from (k71_mkM _ _ _ (⟨2, 1⟩ : S71) )) (Reps.none _ _)))); intro v105 w13 ho14 hb hg_ hnew_; clear hg_ hnew_; (first | rw [← Ny104.out] at ho14 | (simp only [Int.reduceToNat] at ho14; rw [← Ny104.out] at ho14)); have n0_ := Aside0.mk (Kd.R_lower ho14 (below_size (by repeat (first | (with_reducible first | exact HB.out | apply below_alloc | apply pw_below_drewN | apply below_drew1) | exact HB.out)))); have n1_ := Aside0.mk (below_step (by repeat (first | (with_reducible first | exact HB.out | apply below_alloc | apply pw_below_drewN | apply below_drew1) | exact HB.out)) hb); clear HB; have HO106 := n0_; have HB := n1_; clear n0_ n1_; clear hb ho14; obtain ⟨Ao15, co15, eo15⟩ := Kd.R_slice HO106.out; subst eo15) | ((with_reducible refine gate_callee (f := 30) rfl ?_); refine goesL_ (some 7) rfl rfl Try.func30 (by kernel_rfl) rfl #[.slice Ao15 y104.length co15, .int .i64 9] rfl (by (try simp only [List.map_toArray, List.map_cons, List.map_nil]); first | done | rfl | (simp only [List.length_drop, List.length_take]; rfl)) ?_; (with_reducible refine (moves_Order.calls k _ _ y104 9 t107 t108 _ ?side1 ?side2 A1.out).mono ?_); (case side1 => repeat (first | exact (Kd.R_reads' HO106.out).2.2 | (with_reducible refine Kd.C_alloc ?_ _) | (with_reducible refine Kd.C_drewN ?_ _) | (with_reducible refine Kd.C_drew ?_))); (case side2 => exact (Kd.R_reads' HO106.out).2.1); rintro e w16 ⟨v109, rfl, ho0, hb⟩; refine ⟨_, rfl, ?_⟩; have n0_ := Aside0.mk (Kd.R_elder' (by (with_reducible repeat (first | apply Kd.R_alloc | apply Kd.R_drewN | apply Kd.R_drew)); exact HO106.out) (Kd.R_base ho0) hb); have n1_ := Aside0.mk (Kd.R_lower (Kd.R_new' ho0 (Kd.R_lt (by (with_reducible repeat (first | apply Kd.R_alloc | apply Kd.R_drewN | apply Kd.R_drew)); exact HO106.out))) (below_size (by repeat (first | (with_reducible first | exact HB.out | apply below_alloc | apply pw_below_drewN | apply below_drew1) | exact HB.out)))); have n2_ := Aside0.mk (below_step (by repeat (first | (with_reducible first | exact HB.out | apply below_alloc | apply pw_below_drewN | apply below_drew1) | exact HB.out)) hb); clear HO106; clear HB; have HO106 := n0_; have HO110 := n1_; have HB := n2_; clear n0_ n1_ n2_; (try clear hb); (try clear hb2); (try clear hk); (try clear hi); (try clear ho0)))
    go_ret
    exact ⟨by first | rfl | (simp [errW_none, errW_some] <;> rfl) | (simp [*, errW_none, errW_some] <;> rfl), by repeat (first | (with_reducible first | exact HB.out | apply below_alloc | apply pw_below_drewN | apply below_drew1) | exact HB.out)⟩

end Go.Proofs.Ytlojkphocbbjdaa.PMovesTell
