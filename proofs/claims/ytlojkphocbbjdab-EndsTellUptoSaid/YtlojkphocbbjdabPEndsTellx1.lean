-- Printed for this claim by a program of this session (inj.py), beside the kit's print. Not trusted: Lean checks it.
import Derived.Test.YtlojkphocbbjdabPEndsTellx0
namespace Go.Proofs.Ytlojkphocbbjdab.PEndsTell
open Go.RowKit Go.Proofs.YtlojkphocbbjdabW.PrintWords Go.Proofs.YtlojkphocbbjdabW.PrintLast Go.Proofs.YtlojkphocbbjdabW.PrintMore
attribute [local go_sem] max2_int min2_int max_two min_two max_three min_three max_four min_four   -- for this text's walks alone
set_option linter.unusedVariables false
set_option linter.unusedSimpArgs false

/-! ### slices_IndexFunc_int_int: function 145 -/
/-- The first one that is so; -1: there is none. -/
def slices_IndexFunc_int_int.idx (p : Int → Bool) : List (Int) → Int → Int
  | [], _ => -1
  | x :: l, i => if p x then i else slices_IndexFunc_int_int.idx p l (i + 1)
theorem slices_IndexFunc_int_int.idx_spec (p : Int → Bool) : ∀ (l : List (Int)) (i : Int), (slices_IndexFunc_int_int.idx p l i = -1 ∧ ∀ x ∈ l, p x = false) ∨ ∃ q : Nat, q < l.length ∧ slices_IndexFunc_int_int.idx p l i = i + (q : Int) ∧ (l.take (q + 1)).filter (fun x => !p x) = l.take q
  | [], i => .inl ⟨rfl, fun x hx => by simp at hx⟩
  | x :: l, i => by
    rw [slices_IndexFunc_int_int.idx]
    rcases hp : p x with _ | _
    · simp only [Bool.false_eq_true, if_false]
      rcases slices_IndexFunc_int_int.idx_spec p l (i + 1) with ⟨h1, h2⟩ | ⟨q, h1, h2, h3⟩
      · exact .inl ⟨h1, fun y hy => (List.mem_cons.1 hy).elim (fun e => by rw [e]; exact hp) (fun hy => h2 y hy)⟩
      · refine .inr ⟨q + 1, by simp; omega, by rw [h2]; omega, ?_⟩
        rw [List.take_succ_cons, List.take_succ_cons, List.filter_cons, hp, h3]
        simp
    · simp only [if_true]
      exact .inr ⟨0, by simp, by simp, by simp [hp]⟩
set_option maxHeartbeats 2000000 in
set_option maxRecDepth 100000 in
theorem slices_IndexFunc_int_int.walk (A0 : Option Addr) (c0 : Nat) (l0 : List (Int)) (cid : Nat) (cap : Array Value) (p : Int → Bool) (w : World) (hr0 : Kd.C (Kd.int .i64) w A0 l0.length l0) (hn : l0.length < 4611686018427387904)
    (hcf : ∀ (args : Array Value) (W : World), Sem.run Try.prog (callFunc cid args) W = .ok (.enter cid args) W)
    (hf : ∀ (x : Int) (W : World), x ∈ l0 → Below w.heap.size w W → Calls Try.prog cid (#[.int .i64 x] ++ cap) W fun e w' => e = .returned (.bool (p x)) ∧ Below W.heap.size W w') :
    Calls Try.prog 145 #[.slice A0 l0.length c0, .func (.func cid) #[] cap] w fun e w' => e = .returned (.int .i64 (slices_IndexFunc_int_int.idx p l0 0)) ∧ Below w.heap.size w w' := by
  have HR0 := Aside0.mk hr0
  have HF := Aside0.mk hf
  have HN := Aside0.mk hn
  clear hr0 hf hn
  go_enter Try.func145, Try.ntmps145
  go_wp2
  go_loopw [8] (fun v8 wr => ∃ i : Int, v8 = .int .i64 i ∧ Aside0 (0 ≤ i ∧ i ≤ l0.length) ∧ Aside0 (slices_IndexFunc_int_int.idx p (l0.drop i.toNat) i = slices_IndexFunc_int_int.idx p l0 0) ∧ Aside0 (Below w.heap.size w wr)) (fun v8 _ => l0.length - (intOf v8).toNat)
  case atStart => exact ⟨0, rfl, ⟨by omega⟩, ⟨by simp⟩, ⟨Below.refl _ _⟩⟩
  case round =>
    obtain ⟨i, rfl, HI, HX, HB⟩ := hrel
    have hi0 : 0 ≤ i := HI.out.1
    by_cases hlt : i < (l0.length : Int)
    · have ht : decide (i < (l0.length : Int)) = true := decide_eq_true hlt
      have hd : l0.drop i.toNat = (rd l0 i) :: l0.drop (i + 1).toNat := by
        rw [List.drop_eq_getElem_cons (by omega), show (i + 1).toNat = i.toNat + 1 by omega]
        congr 1
        rw [rd, List.getD_eq_getElem?_getD, List.getElem?_eq_getElem (by omega), Option.getD_some]
      have hmem : (rd l0 i) ∈ l0 := List.mem_of_mem_drop (i := i.toNat) (by rw [hd]; exact List.mem_cons_self)
      have HD := Aside0.mk hd
      clear hd
      obtain ⟨ad, e, h1⟩ := Kd.at_int HR0.out i hi0 hlt
      cases e
      replace h1 := (HB.out.cell (World.block_lt_of_cell? w _ h1)).trans h1
      have HC := Aside0.mk (HF.out (rd l0 i))
      have HW := Aside0.mk (show wrap64 (i + 1) = i + 1 by have := HN.out; unfold wrap64; omega)
      rcases hp : p (rd l0 i) with _ | _
      · have HP := Aside0.mk hp
        have HM := Aside0.mk hmem
        clear hp hmem
        go_wp2_with (refine (HC.out _ HM.out ?hb).mono ?_; (case hb => exact HB.out); rintro e w' ⟨rfl, hb2⟩; have HB2 := Aside0.mk (HB.out.trans (hb2.mono HB.out.size)); rw [HP.out]; clear hb2)
        go_roundw
        case rel => exact ⟨i + 1, by first | rw [HW.out] | rfl, ⟨by omega⟩, ⟨by rw [← HX.out, HD.out, slices_IndexFunc_int_int.idx, HP.out]; simp⟩, HB2⟩
        case measure => simp only [intOf]; (try rw [HW.out]); omega
      · have HP := Aside0.mk hp
        have HM := Aside0.mk hmem
        clear hp hmem
        go_wp2_with (refine (HC.out _ HM.out ?hb).mono ?_; (case hb => exact HB.out); rintro e w' ⟨rfl, hb2⟩; have HB2 := Aside0.mk (HB.out.trans (hb2.mono HB.out.size)); rw [HP.out]; clear hb2)
        go_ret
        exact ⟨by rw [← HX.out, HD.out, slices_IndexFunc_int_int.idx, HP.out]; simp, HB2.out⟩
    · have ht : decide (i < (l0.length : Int)) = false := decide_eq_false hlt
      go_wp2
      go_ret
      exact ⟨by rw [← HX.out, List.drop_eq_nil_of_le (by omega)]; rfl, HB.out⟩

/-! ### slices_DeleteFunc_int_int: function 80 -/
set_option maxHeartbeats 4000000 in
set_option maxRecDepth 100000 in
theorem slices_DeleteFunc_int_int.walk (w0 : World) (okr : Nat → Prop) (A0 : Option Addr) (n0 c0 : Nat) (l0 : List (Int)) (cid : Nat) (cap : Array Value) (p : Int → Bool) (w : World)
    (hr0 : Kd.R (Kd.int .i64) 3 w w0.heap.size okr (.slice A0 n0 c0) l0) (hB : Below w0.heap.size w0 w) (hn : l0.length < 4611686018427387904)
    (hcf : ∀ (args : Array Value) (W : World), Sem.run Try.prog (callFunc cid args) W = .ok (.enter cid args) W)
    (hf : ∀ (x : Int) (W : World), x ∈ l0 → Below w0.heap.size w0 W → Kept w W (fun k => some k = (Value.slice A0 n0 c0).ownBlock) → Calls Try.prog cid (#[.int .i64 x] ++ cap) W fun e w' => e = .returned (.bool (p x)) ∧ Below W.heap.size W w') :
    Calls Try.prog 80 #[.slice A0 n0 c0, .func (.func cid) #[] cap] w fun e w' => ∃ m, e = .returned (.slice A0 m c0) ∧ Kd.R (Kd.int .i64) 3 w' w0.heap.size okr (.slice A0 m c0) (l0.filter (fun x => !p x)) ∧ Below w0.heap.size w0 w' ∧ Kept w w' (fun k => some k = (Value.slice A0 n0 c0).ownBlock) := by
  obtain ⟨rfl, hnc, hC⟩ := Kd.R_reads' hr0
  have HIX := Aside0.mk (slices_IndexFunc_int_int.walk A0 c0 l0 cid cap p w hC hn hcf (fun x W hx hb => hf x W hx (below_step hB hb) (Kept.of_below hb _)))
  have HR0 := Aside0.mk hr0
  have HB0 := Aside0.mk hB
  have HF := Aside0.mk hf
  have HN := Aside0.mk hn
  have HNC := Aside0.mk hnc
  clear hr0 hf hn hC hB hnc
  rcases slices_IndexFunc_int_int.idx_spec p l0 0 with ⟨hi, ha⟩ | ⟨q, hq, hi, h1⟩
  · have HI := Aside0.mk hi
    have HA := Aside0.mk ha
    clear hi ha
    go_enter Try.func80, Try.ntmps80
    go_wp2_with (go_at_call 145; refine HIX.out.mono ?_; rintro e w' ⟨rfl, hb⟩; have HB := Aside0.mk hb; clear hb; rw [HI.out])
    go_ret
    exact ⟨_, rfl, by rw [List.filter_eq_self.2 (fun x hx => by rw [HA.out x hx]; rfl)]; exact Kd.R_below HR0.out HB.out, below_step HB0.out HB.out, Kept.of_below HB.out _⟩
  · obtain ⟨g, cp, hv, hgb, hgl, _⟩ := Kd.R_form HR0.out (by omega)
    obtain ⟨rfl, rfl⟩ : A0 = some ⟨g, 0, none⟩ ∧ c0 = cp := by injection hv with a b c; exact ⟨a, c⟩
    have HGB := Aside0.mk hgb
    have HI := Aside0.mk hi
    have H1 := Aside0.mk h1
    have HQ := Aside0.mk hq
    have HW1 := Aside0.mk (show wrap64 ((0 : Int) + (q : Int) + 1) = (q : Int) + 1 by have := HN.out; unfold wrap64; omega)
    have hqn : (((q : Int)) == -1) = false := beq_eq_false_iff_ne.mpr (by omega)
    have hqm : (((q : Int)) != -1) = true := bne_iff_ne.mpr (by omega)
    clear hi h1 hq hv hgb hgl
    obtain ⟨i0, hi0⟩ : ∃ i0 : Int, i0 = (q : Int) := ⟨_, rfl⟩
    have hi0p : 0 ≤ i0 := by omega
    have hi1p : i0 < (l0.length : Int) := by have := HQ.out; omega
    have HI2 := Aside0.mk (show slices_IndexFunc_int_int.idx p l0 0 = i0 by rw [HI.out]; omega)
    have HW2 := Aside0.mk (show wrap64 (i0 + 1) = i0 + 1 by have := HN.out; unfold wrap64; omega)
    have hqn : (i0 == -1) = false := beq_eq_false_iff_ne.mpr (by omega)
    have hqm : (i0 != -1) = true := bne_iff_ne.mpr (by omega)
    have H2 := Aside0.mk (show l0.take i0.toNat = (l0.take (i0 + 1).toNat).filter (fun x => !p x) by rw [show i0.toNat = q by omega, show (i0 + 1).toNat = q + 1 by omega]; exact H1.out.symm)
    clear HI HQ H1 HW1 hi0
    go_enter Try.func80, Try.ntmps80
    go_wp2_with (go_at_call 145; refine HIX.out.mono ?_; rintro e w1 ⟨rfl, hb⟩; have HB1 := Aside0.mk (below_step HB0.out hb); have HK1 := Aside0.mk (Kept.of_below hb (fun k => some k = (Value.slice (some ⟨g, 0, none⟩) l0.length c0).ownBlock)); have HR1 := Aside0.mk (Kd.R_below HR0.out hb); clear hb; rw [HI2.out])
    go_loopw [5, 6] (fun v5 v6 wr => ∃ (i j : Int) (cur : List (Int)), v5 = .int .i64 i ∧ v6 = .int .i64 j ∧ Aside0 (0 ≤ i ∧ i < j ∧ j ≤ l0.length) ∧ Aside0 (cur.length = l0.length) ∧ Aside0 (cur.take i.toNat = (l0.take j.toNat).filter (fun x => !p x)) ∧ Aside0 (cur.drop j.toNat = l0.drop j.toNat) ∧ Aside0 (Kd.R (Kd.int .i64) 3 wr w0.heap.size okr (.slice (some ⟨g, 0, none⟩) l0.length c0) cur) ∧ Aside0 (Below w0.heap.size w0 wr) ∧ Aside0 (Kept w wr (fun k => some k = (Value.slice (some ⟨g, 0, none⟩) l0.length c0).ownBlock))) (fun _ v6 _ => l0.length - (intOf v6).toNat)
    case atStart => exact ⟨i0, i0 + 1, l0, rfl, by first | rw [HW2.out] | rfl, ⟨by omega⟩, ⟨rfl⟩, H2, ⟨rfl⟩, HR1, HB1, HK1⟩
    case round =>
      clear HR1 HB1 HK1 HIX HI2 H2 HW2
      obtain ⟨i, j, cur, rfl, rfl, Hij, HL, HX1, HX2, HR, HB, HK⟩ := hrel
      have hi0 : 0 ≤ i := Hij.out.1
      have hj0 : 0 ≤ j := by have := Hij.out; omega
      by_cases hlt : j < (l0.length : Int)
      · have ht : decide (j < (l0.length : Int)) = true := decide_eq_true hlt
        have hin : i < (l0.length : Int) := by have := Hij.out; omega
        have HWj := Aside0.mk (show wrap64 (j + 1) = j + 1 by have := HN.out; unfold wrap64; omega)
        have HWi := Aside0.mk (show wrap64 (i + 1) = i + 1 by have := HN.out; unfold wrap64; omega)
        obtain ⟨ce, hcl, hM, hcc, hfr⟩ := Kd.R_elem HR.out 0 j hj0 hlt
        obtain ⟨x, hx⟩ : ∃ x, x = cur.getD j.toNat 0 := ⟨_, rfl⟩
        have hxl : l0[j.toNat]? = some x := by rw [← YtlojkphocbbjdabW.Bas.del_read HX2.out, hx, List.getD_eq_getElem?_getD, List.getElem?_eq_getElem (by have := HL.out; omega), Option.getD_some]
        rw [← hx] at hM
        have HXL := Aside0.mk hxl
        clear hx hxl
        obtain rfl := hM
        have hx0 : wr.cell? ⟨g, j.toNat, none⟩ = some (.int .i64 x) := (by have h_ := hcc 0 _ rfl; rw [show ((Kd.int .i64)).sz = 1 from rfl, Nat.mul_one, Nat.add_zero] at h_; exact h_)
        (try simp only [show ((Kd.int .i64)).sz = 1 from rfl, Nat.mul_one, Nat.add_zero] at *)
        clear hcl hcc hfr
        try clear hM
        have HMEM := Aside0.mk (show x ∈ l0 from List.mem_of_getElem? HXL.out)
        have hj0' := eq_true hj0
        have hlt' := eq_true hlt
        have hi0' := eq_true hi0
        have hin' := eq_true hin
        have HCF := Aside0.mk hcf
        rcases hp : p x with _ | _
        all_goals
          have HP := Aside0.mk hp
          clear hp
          have HCL := Aside0.mk (HF.out x wr HMEM.out HB.out HK.out)
          go_wp2_with (first | ((with_reducible refine HCL.out.mono ?_); rintro e w5 ⟨rfl, hb5⟩; have HB5 := Aside0.mk (below_step HB.out hb5); have HK5 := Aside0.mk (Kept.below HK.out hb5); have HR5 := Aside0.mk (Kd.R_below HR.out hb5); obtain ⟨ci, hcl2, hM2, hcc2, hfr2⟩ := Kd.R_elem HR5.out 0 i hi0 hin; obtain rfl := hM2; have fi0 : w5.frozen? ⟨g, i.toNat, none⟩ = false := (by have h_ := hfr2 0; rw [show ((Kd.int .i64)).sz = 1 from rfl, Nat.mul_one, Nat.add_zero] at h_; exact h_); obtain ⟨u0, ci0⟩ : ∃ u, w5.cell? ⟨g, i.toNat, none⟩ = some u := ⟨_, (by have h_ := hcc2 0 _ rfl; rw [show ((Kd.int .i64)).sz = 1 from rfl, Nat.mul_one, Nat.add_zero] at h_; exact h_)⟩; have HSEG := Aside0.mk (Kd.R_seg HR5.out i hi0 hin (seg := [.int .i64 x]) (j := 0) hcl2 hcc2 (show 1 ≤ 1 from by decide) (x' := x) (by exact rfl) (fun _ hk => hk)); clear hb5 hcl2 hcc2 hfr2; (try clear hM2); rw [HP.out]) | ((with_reducible refine gate_store (t := 3) (p := 33) rfl ?_); refine store_event (t := 3) (p := 33) (v := .tmp 32) (w1 := (w5.setCell ⟨g, i.toNat, none⟩ (.int .i64 x))) ?hg ?ho ?hn ?hr ?_; (case ho => rfl); (case hg => rfl); (case hn => rfl); (case hr => first | (go_simp; done) | (go_simp; rfl)); intro w6 hw; have HR6 := Aside0.mk (show Kd.R (Kd.int .i64) 3 w6 w0.heap.size okr (.slice (some ⟨g, 0, none⟩) l0.length c0) (cur.set i.toNat x) from by rw [hw]; have h_ := HSEG.out.1; rw [show ((Kd.int .i64)).sz = 1 from rfl, Nat.mul_one, Nat.add_zero] at h_; exact h_); have HB6 := Aside0.mk (show Below w0.heap.size w0 w6 from by rw [hw]; exact (below_set HB5.out HGB.out)); have HK6 := Aside0.mk (show Kept w w6 (fun k => some k = (Value.slice (some ⟨g, 0, none⟩) l0.length c0).ownBlock) from by rw [hw]; exact (Kept.setCell HK5.out (p := ⟨g, i.toNat, none⟩) (.inl rfl) _)); clear hw HSEG))
        · go_roundw
          case rel =>
            have hst := YtlojkphocbbjdabW.Bas.del_step (p := p) HL.out (i := i.toNat) (j := j.toNat) (by have := Hij.out; omega) (by omega) HX1.out HX2.out HXL.out HP.out
            exact ⟨i + 1, j + 1, cur.set i.toNat x, by first | rw [HWi.out] | rfl, by first | rw [HWj.out] | rfl, ⟨by have := Hij.out; omega⟩, ⟨hst.1⟩, ⟨by rw [show (i + 1).toNat = i.toNat + 1 by omega, show (j + 1).toNat = j.toNat + 1 by omega]; exact hst.2.1⟩, ⟨by rw [show (j + 1).toNat = j.toNat + 1 by omega]; exact hst.2.2⟩, HR6, HB6, HK6⟩
          case measure => simp only [intOf]; (try rw [HWj.out]); omega
        · go_roundw
          case rel =>
            have hst := YtlojkphocbbjdabW.Bas.del_skip (p := p) (i := i.toNat) (j := j.toNat) (by omega) HX1.out HX2.out HXL.out HP.out
            exact ⟨i, j + 1, cur, rfl, by first | rw [HWj.out] | rfl, ⟨by have := Hij.out; omega⟩, HL, ⟨by rw [show (j + 1).toNat = j.toNat + 1 by omega]; exact hst.1⟩, ⟨by rw [show (j + 1).toNat = j.toNat + 1 by omega]; exact hst.2⟩, HR5, HB5, HK5⟩
          case measure => simp only [intOf]; (try rw [HWj.out]); omega
      · have ht : decide (j < (l0.length : Int)) = false := decide_eq_false hlt
        have hin : i < (l0.length : Int) := by have := Hij.out; omega
        have hsl : ∀ W : World, (Instr.slice 36 (.slice (some ⟨g, 0, none⟩) l0.length c0) (some (.int .i64 i)) none none).run Try.prog W = .ok (.slice (some ⟨g, i.toNat * 1, none⟩) (l0.length - i.toNat) (c0 - i.toNat)) W := by
          obtain ⟨i0, hi, hz⟩ := Option.map_eq_some_iff.1 info3
          have h := cut_from 36 3 .i64 Try.underlying36 hi 1 (by simpa using (Prod.mk.inj (Prod.mk.inj hz).2).1) (some ⟨g, 0, none⟩) l0.length c0 i hi0 (by omega)
          have hne : c0 ≠ i.toNat := by have := HNC.out; omega
          simp only [hne, if_false, Option.map_some, add_at, Nat.zero_add] at h
          exact h
        have hsl2 : ∀ W : World, (Instr.slice 36 (.slice (some ⟨g, 0, none⟩) l0.length c0) none (some (.int .i64 i)) none).run Try.prog W = .ok (.slice (some ⟨g, 0, none⟩) i.toNat c0) W := by
          obtain ⟨i0, hi, hz⟩ := Option.map_eq_some_iff.1 info3
          exact cut_to 36 3 .i64 Try.underlying36 hi (some ⟨g, 0, none⟩) l0.length c0 i hi0 (by omega) HNC.out
        have HCLR := Aside0.mk (YtlojkphocbbjdabW.Bas.run_clear_cells (P := Try.prog) wr 36 3 0 (.int .i64 0) Try.underlying36 (fun w => by kernel_rfl) (by simp [Value.cells, Value.oneCell']) g (i.toNat * 1) (l0.length - i.toNat) (c0 - i.toNat) (by omega) (fun j hj => (YtlojkphocbbjdabW.Bas.R_has HR.out _ (by simp [Value.cells] at hj; simp only [show ((Kd.int .i64)).sz = 1 from rfl]; have := HNC.out; omega)).1) (fun j hj => (YtlojkphocbbjdabW.Bas.R_has HR.out _ (by simp [Value.cells] at hj; simp only [show ((Kd.int .i64)).sz = 1 from rfl]; have := HNC.out; omega)).2))
        go_wp2_with ((with_reducible refine gate_builtin (b := .clear) (xs := #[.tmp 38]) rfl ?_); refine Kd.event_run (w1 := wr.setCells g (i.toNat * 1) (Builtin.zeroCells ((.int .i64 0) : Value).cells (l0.length - i.toNat)).toList) (v := .tuple #[]) (by rfl) ?hcl ?_; (case hcl => go_simp; first | (rw [HCLR.out]; rfl) | (simp only [Nat.mul_one] at HCLR; rw [HCLR.out]; rfl)))
        go_ret
        have hxe := HX1.out
        rw [show l0.take j.toNat = l0 from List.take_of_length_le (by have := Hij.out; omega)] at hxe
        refine ⟨_, rfl, ?_, YtlojkphocbbjdabW.Bas.below_setCells HB.out HB.out.size HGB.out _ _, YtlojkphocbbjdabW.Bas.kept_setCells HK.out (.inl rfl) _ _⟩
        rw [← hxe]
        first | exact YtlojkphocbbjdabW.Bas.R_clear HR.out (by omega) _ (by simp [Builtin.zeroCells, Value.cells]; simp only [show ((Kd.int .i64)).sz = 1 from rfl]; have := HNC.out; omega) | (have h_ := YtlojkphocbbjdabW.Bas.R_clear (m := i.toNat) HR.out (by omega) (Builtin.zeroCells ((.int .i64 0) : Value).cells (l0.length - i.toNat)).toList (by simp [Builtin.zeroCells, Value.cells]; (try simp only [show ((Kd.int .i64)).sz = 1 from rfl]); have := HNC.out; omega); first | exact h_ | (rw [show ((Kd.int .i64)).sz = 1 from rfl, Nat.mul_one] at h_; first | exact h_ | (simpa only [Nat.mul_one] using h_)))

/-! ### slices_Clone_int_int: function 81 -/
def slices_Clone_int_int.f (l0 : List (Int)) : Option (List (Int)) := if l0.length < 17592186044416 then some l0 else none
theorem slices_Clone_int_int.calls (A0 : Option Addr) (c0 : Nat) (l0 : List (Int)) (r : List (Int)) (w : World) (hr0 : Kd.C (Kd.int .i64) w A0 l0.length l0) (hc0 : l0.length ≤ c0) (h : slices_Clone_int_int.f l0 = some r) :
    Calls Try.prog 81 #[.slice A0 l0.length c0] w fun e w' => ∃ v0_ : Value, e = .returned v0_ ∧ Kd.R (Kd.int .i64) 3 w' w.heap.size (fun _ => True) v0_ r ∧ Below w.heap.size w w' := by
  have HR0 := Aside0.mk hr0
  clear hr0
  have HL : Aside0 (l0.length < 17592186044416) := ⟨by unfold slices_Clone_int_int.f at h; split at h; assumption; cases h⟩
  have HE : Aside0 (l0 = r) := ⟨by unfold slices_Clone_int_int.f at h; split at h; simpa using h; cases h⟩
  clear h hc0
  have q22 : ∀ (w : World) (a : Option Addr) (n c : Nat), (binOp .eql 36 (.slice a n c) (.slice none 0 0)).run Try.prog w = .ok (.bool a.isNone) w := fun w a n c => Lib.run_eql_slice_nil w _ _ a n c 0 0 Try.underlying36
  rcases A0 with _ | ad
  · obtain ⟨rfl, _⟩ := YtlojkphocbbjdabW.Bas.nil_of_none HR0.out
    go_enter Try.func81, Try.ntmps81
    go_wp2
    go_ret
    exact ⟨_, rfl, by rw [← HE.out]; exact Kd.R_nil _ _ _ _ _, Below.refl _ _⟩
  · go_enter Try.func81, Try.ntmps81
    go_wp2_with (at_builtin; refine Kd.R_append_rows (Kd.int .i64) (Rr := (Kd.int .i64).K (w.alloc (.cells #[] 3))) (w0 := w) w.heap.size rfl (.tmp 5) (.tmp 6) 36 3 (.int .i64 0) 8 rfl Try.underlying36 info3 rfl (by decide) (by omega) (.slice (some ⟨w.heap.size, 0, none⟩) 0 0) [] l0 (some ad) l0.length c0 (fun _ => True) (fun k => k < w.heap.size) rfl rfl ?aE ?aR ?aM ?aO (fun _ _ => trivial) ?aB ?aS ?aL ?_; (case aE => exact YtlojkphocbbjdabW.Bas.R_empty _ _ _ _ trivial); (case aR => exact Kd.C_alloc HR0.out _); (case aM => exact fun x cs h => h); (case aO => exact (fun k hk => ⟨trivial, by simp [Value.ownBlock]; omega⟩)); (case aB => exact below_alloc (Below.refl _ _) _); (case aS => simp); (case aL => have := HL.out; simp; omega); intro v1 w1 ho hb hg hat; rw [List.nil_append] at ho; have HO := Aside0.mk ho; have HB := Aside0.mk hb; clear ho hb hg hat)
    go_ret
    exact ⟨_, rfl, by rw [← HE.out]; exact HO.out, HB.out⟩

/-! ### weak_reacher_reach: function 182 -/
/-- The reacher at block b: what it goes over, what was seen, what is to be done. -/
structure ReIs (w : World) (base b : Nat) (H : Value) (R : Value) (vs vt : Value) (seen : List Bool) (todo : List Int) : Prop where
  blk : w.heap[b]? = some (.cells #[H, R, vs, vt] 233 (0, 0))
  hb : base ≤ b
  seen : Kd.R Kd.bool 4 w base (fun _ => True) vs seen
  todo : Kd.R (Kd.int .i64) 3 w base (fun _ => True) vt todo
/-- What is written: the reacher's own. -/
def ReOwn (b : Nat) (vs vt : Value) (k : Nat) : Prop := k = b ∨ some k = vs.ownBlock ∨ some k = vt.ownBlock
/-- Some numbers are reached: none if one is no thing's. -/
def reachS : List Int → List Bool → List Int → Option (List Bool × List Int)
  | [], s, t => some (s, t)
  | n :: l, s, t => if 0 ≤ n ∧ n < s.length then (if rdOf false s n = true then reachS l s t else if t.length < 17592186044416 then reachS l (s.set n.toNat true) (t ++ [n]) else none) else none
theorem ReIs.drewN {w : World} {base b : Nat} {H R vs vt : Value} {seen : List Bool} {todo : List Int} (h : ReIs w base b H R vs vt seen todo) (n : Nat) : ReIs (w.drewN n) base b H R vs vt seen todo :=
  ⟨h.blk, h.hb, Kd.R_drewN h.seen n, Kd.R_drewN h.todo n⟩
theorem ReIs.alloc {w : World} {base b : Nat} {H R vs vt : Value} {seen : List Bool} {todo : List Int} (h : ReIs w base b H R vs vt seen todo) (o : Obj) : ReIs (w.alloc o) base b H R vs vt seen todo :=
  ⟨blk_alloc h.blk o, h.hb, Kd.R_alloc h.seen o, Kd.R_alloc h.todo o⟩
theorem ReIs.ne_s {w : World} {base b : Nat} {H R vs vt : Value} {seen : List Bool} {todo : List Int} (h : ReIs w base b H R vs vt seen todo) : some b ≠ vs.ownBlock := Kd.R_ne h.seen h.blk (by decide)
theorem ReIs.ne_t {w : World} {base b : Nat} {H R vs vt : Value} {seen : List Bool} {todo : List Int} (h : ReIs w base b H R vs vt seen todo) : some b ≠ vt.ownBlock := Kd.R_ne h.todo h.blk (by decide)
theorem ReIs.ne_st {w : World} {base b : Nat} {H R vs vt : Value} {seen : List Bool} {todo : List Int} (h : ReIs w base b H R vs vt seen todo) (k : Nat) (h1 : some k = vs.ownBlock) (h2 : some k = vt.ownBlock) : False := by
  obtain ⟨c1, e1⟩ := Kd.R_typed h.seen k h1.symm
  obtain ⟨c2, e2⟩ := Kd.R_typed h.todo k h2.symm
  rw [e1] at e2
  simp at e2
/-- What lies apart is as it was. -/
theorem ReIs.kept {w w1 : World} {base b : Nat} {H R vs vt : Value} {seen : List Bool} {todo : List Int} {S : Nat → Prop} (h : ReIs w base b H R vs vt seen todo) (hk : Kept w w1 S) (hs : ∀ k, ReOwn b vs vt k → ¬ S k) : ReIs w1 base b H R vs vt seen todo :=
  ⟨blk_kept h.blk hk (hs b (.inl rfl)), h.hb, Kd.R_mono (Kd.R_kept (Kd.R_mono (ok' := fun k => some k = vs.ownBlock) (Kd.R_tight rfl h.seen) (fun _ hk => hk)) hk (fun k hk => hs k (.inr (.inl hk)))) (fun _ _ => trivial),
    Kd.R_mono (Kd.R_kept (Kd.R_mono (ok' := fun k => some k = vt.ownBlock) (Kd.R_tight rfl h.todo) (fun _ hk => hk)) hk (fun k hk => hs k (.inr (.inr hk)))) (fun _ _ => trivial)⟩
theorem ReIs.mark {w : World} {base b g n cap : Nat} {H R vt : Value} {seen : List Bool} {todo : List Int} (h : ReIs w base b H R (.slice (some ⟨g, 0, none⟩) n cap) vt seen todo) (i : Int) : ReIs (w.setCell ⟨g, i.toNat, none⟩ (.bool true)) base b H R (.slice (some ⟨g, 0, none⟩) n cap) vt (seen.set i.toNat true) todo := by
  have hne := h.ne_s
  have hne2 := h.ne_st
  refine ⟨(Below.heap_setCell w _ _ b (fun e => hne (by rw [e]; rfl))).trans h.blk, h.hb, Kd.R_putn h.seen i true, ?_⟩
  exact Kd.R_mono (Kd.R_far (p := ⟨g, i.toNat, none⟩) (Kd.R_tight rfl h.todo) (fun k hk e => hne2 k (by rw [e]; rfl) hk) _) (fun _ _ => trivial)
theorem ReIs.push {w w1 : World} {base b : Nat} {H R vs vt v1 : Value} {seen : List Bool} {todo todo' : List Int} (h : ReIs w base b H R vs vt seen todo) (hR : Kd.R (Kd.int .i64) 3 w1 base (fun _ => True) v1 todo') (hg : w.grownBy w1 vt.ownBlock) : ReIs (w1.setCell ⟨b, 3, none⟩ v1) base b H R vs v1 seen todo' := by
  have hb1 : w1.heap[b]? = some (.cells #[H, R, vs, vt] 233 (0, 0)) := (hg.block b (blk_lt h.blk) h.ne_t).trans h.blk
  have hne2 := h.ne_st
  have hnb : some b ≠ v1.ownBlock := Kd.R_ne hR hb1 (by decide)
  have hns := h.ne_s
  refine ⟨blk_put hb1 3 v1 rfl, h.hb, ?_, ?_⟩
  · exact Kd.R_mono (Kd.R_far (p := ⟨b, 3, none⟩) (Kd.R_grown (Kd.R_tight rfl h.seen) hg (fun k hk e => hne2 k hk e)) (fun k hk e => hns (by have e' : k = b := e; rw [← e']; exact hk)) _) (fun _ _ => trivial)
  · exact Kd.R_mono (Kd.R_far (p := ⟨b, 3, none⟩) (Kd.R_tight rfl hR) (fun k hk e => hnb (by have e' : k = b := e; rw [← e']; exact hk)) _) (fun _ _ => trivial)
theorem ReIs.cut {w : World} {base b m n c : Nat} {A : Option Addr} {H R vs : Value} {seen : List Bool} {todo : List Int} (h : ReIs w base b H R vs (.slice A n c) seen todo) (hm : m ≤ todo.length) : ReIs (w.setCell ⟨b, 3, none⟩ (.slice A m c)) base b H R vs (.slice A m c) seen (todo.take m) :=
  h.push (Kd.R_take h.todo hm) (World.grownBy.refl w _)
set_option maxHeartbeats 4000000 in
set_option maxRecDepth 100000 in
theorem reach_walk (w0 : World) (b : Nat) (H R vs vt : Value) (seen : List Bool) (todo : List Int) (A : Option Addr) (c : Nat) (l : List Int) (okl : Nat → Prop) (s' : List Bool) (t' : List Int) (w : World)
    (hI : ReIs w w0.heap.size b H R vs vt seen todo) (hB : Below w0.heap.size w0 w) (hl : Kd.F (Kd.int .i64) w okl A l.length l) (hok : ∀ k, okl k → ¬ ReOwn b vs vt k) (h : reachS l seen todo = some (s', t')) :
    Calls Try.prog 182 #[.pointer (some ⟨b, 0, none⟩), .slice A l.length c] w fun e w' => ∃ vt' : Value, e = .returned (.tuple #[]) ∧ ReIs w' w0.heap.size b H R vs vt' s' t' ∧ Below w0.heap.size w0 w' ∧ Kept w w' (ReOwn b vs vt) ∧ (vt'.ownBlock = vt.ownBlock ∨ ∃ k, vt'.ownBlock = some k ∧ w.heap.size ≤ k) := by
  have HI := Aside0.mk hI
  have HBB := Aside0.mk hB
  have HL := Aside0.mk (Kd.F_bound hl)
  have HOK := Aside0.mk hok
  have HN := Aside0.mk (Kd.F_max hl)
  have HS := Aside0.mk h
  have HZ := Aside0.mk hB.size
  clear hI hB hl hok h
  go_enter Try.func182, Try.ntmps182
  go_wp2
  go_loopw [8] (fun v8 wr => ∃ (i : Int) (s : List Bool) (t : List Int) (vt1 : Value), v8 = .int .i64 i ∧ Aside0 (0 ≤ i ∧ i ≤ l.length) ∧ Aside0 (reachS (l.drop i.toNat) s t = some (s', t')) ∧ Aside0 (ReIs wr w0.heap.size b H R vs vt1 s t) ∧ Aside0 (Below w0.heap.size w0 wr) ∧ Aside0 (Kept w wr (ReOwn b vs vt)) ∧ Aside0 (vt1.ownBlock = vt.ownBlock ∨ ∃ k, vt1.ownBlock = some k ∧ w.heap.size ≤ k)) (fun v8 _ => l.length - (intOf v8).toNat)
  case atStart => exact ⟨0, seen, todo, vt, rfl, ⟨by omega⟩, ⟨by simpa using HS.out⟩, HI, HBB, ⟨Kept.refl _ _⟩, ⟨.inl rfl⟩⟩
  case round =>
    clear HI HBB
    obtain ⟨i, s, t, vt1, rfl, Hi, HX, HI, HB, HK, HV⟩ := hrel
    have hi0 : 0 ≤ i := Hi.out.1
    have HW := Aside0.mk (show i < (l.length : Int) → wrap64 (i + 1) = i + 1 by intro h; have := HN.out; unfold wrap64; omega)
    by_cases hlt : i < (l.length : Int)
    · have ht : decide (i < (l.length : Int)) = true := decide_eq_true hlt
      have hd : l.drop i.toNat = rd l i :: l.drop (i + 1).toNat := by
        rw [List.drop_eq_getElem_cons (by omega), show (i + 1).toNat = i.toNat + 1 by omega]
        congr 1
        rw [rd, List.getD_eq_getElem?_getD, List.getElem?_eq_getElem (by omega), Option.getD_some]
      have hx := HX.out
      rw [hd, reachS] at hx
      have HFl := Aside0.mk (Kd.F_kept HL.out HK.out (fun k hk => HOK.out k hk.1))
      obtain ⟨ad, e, h1⟩ := Kd.at_int (Kd.F_now HFl.out) i hi0 hlt
      cases e
      clear hd
      by_cases hr : 0 ≤ rd l i ∧ rd l i < s.length
      · rw [if_pos hr] at hx
        obtain ⟨hr0, hr1⟩ := hr
        -- the seen row's form
        have hform : ∃ g cap, vs = .slice (some ⟨g, 0, none⟩) s.length cap := by
          obtain ⟨inner, ho⟩ := Kd.R_own HI.out.seen
          rcases ho.2 with ⟨_, h0⟩ | ⟨g, cap, cur, hv, _⟩
          · omega
          · exact ⟨g, cap, hv⟩
        obtain ⟨gs, cs, rfl⟩ := hform
        obtain ⟨hs1, hs2⟩ := Kd.R_celln false HI.out.seen (rd l i) hr0 hr1
        have hb0 : wr.cell? ⟨b, 0, none⟩ = some H := by simp [World.cell?, HI.out.blk]
        have hb2 : wr.cell? ⟨b, 2, none⟩ = some (.slice (some ⟨gs, 0, none⟩) s.length cs) := by simp [World.cell?, HI.out.blk]
        have hb3 : wr.cell? ⟨b, 3, none⟩ = some vt1 := by simp [World.cell?, HI.out.blk]
        have hf3 : wr.frozen? ⟨b, 3, none⟩ = false := by simp [World.frozen?, HI.out.blk]
        rcases hsn : rdOf false s (rd l i) with _ | _
        · have HSN := Aside0.mk hsn
          rw [hsn] at hx hs1
          clear hsn
          have HX2 := Aside0.mk hx
          clear hx
          rw [if_neg (by simp)] at HX2
          have hx := HX2.out
          clear HX2
          split at hx
          · rename_i hlim
            have HX3 := Aside0.mk hx
            have HLIM := Aside0.mk hlim
            clear hx hlim
            have HI2 := Aside0.mk (HI.out.mark (rd l i))
            have HB2 := Aside0.mk (below_set HB.out (Kd.R_base HI.out.seen gs rfl) (g := gs) (j := (rd l i).toNat) (v := .bool true))
            have HK2 := Aside0.mk (Kept.setCell HK.out (p := ⟨gs, (rd l i).toNat, none⟩) (.inl (.inr (.inl rfl))) (.bool true))
            clear hb3 hf3
            go_wp2_with (first | ((with_reducible refine gate_store (t := 4) (p := 25) rfl ?_); refine store_event (t := 4) (p := 25) (v := .const (.bool true)) (w1 := wr.setCell ⟨gs, (rd l i).toNat, none⟩ (.bool true)) ?hg ?ho ?hn ?hr ?_; (case ho => rfl); (case hg => rfl); (case hn => rfl); (case hr => first | (go_simp; done) | (go_simp; rfl)); intro w2 hw; rw [← hw] at HI2 HB2 HK2; have hb3 : w2.cell? ⟨b, 3, none⟩ = some vt1 := (by simp [World.cell?, HI2.out.blk]); have hf3 : w2.frozen? ⟨b, 3, none⟩ = false := (by simp [World.frozen?, HI2.out.blk]); clear hw) | ((with_reducible refine gate_builtin (b := .append) (xs := #[.tmp 30, .tmp 32]) rfl ?_); (try (refine gate_guard (by rfl) ?_; dsimp only)); at_builtin; refine Kd.R_append (Kd.int .i64) (w0 := w0) w0.heap.size rfl (.tmp 30) (.tmp 32) 36 3 (.int .i64 0) 8 rfl Try.underlying36 info3 rfl (by decide) (by omega) vt1 t (rd l i) [.int .i64 (rd l i)] (fun _ => True) (fun _ => False) rfl rfl rfl (fun _ hk => hk.elim) (fun _ _ => trivial) HI2.out.todo HB2.out HB2.out.size ?aL ?_; (case aL => have := HLIM.out; omega); intro v1 w3 ho hb hg hat; obtain ⟨A1, n1, c1, rfl⟩ : ∃ A1 n1 c1, v1 = .slice A1 n1 c1 := (let ⟨A_, c_, h_⟩ := Kd.R_slice ho; ⟨A_, _, c_, h_⟩); have HI3 := Aside0.mk (HI2.out.push ho hg); have hb33 : w3.cell? ⟨b, 3, none⟩ = some vt1 := (by have hbk := (hg.block b (blk_lt HI2.out.blk) HI2.out.ne_t).trans HI2.out.blk; simp [World.cell?, hbk]); have hf33 : w3.frozen? ⟨b, 3, none⟩ = false := (by have hbk := (hg.block b (blk_lt HI2.out.blk) HI2.out.ne_t).trans HI2.out.blk; simp [World.frozen?, hbk]); have HB3 := Aside0.mk (below_set hb HI2.out.hb (g := b) (j := 3) (v := .slice A1 n1 c1)); have HK3 := Aside0.mk (Kept.setCell (Kept.of_grown hg HK2.out (fun k hk => by rcases HV.out with hv | ⟨k2, hv, hle⟩ <;> (rw [hv] at hk; first | exact .inl (.inr (.inr hk.symm)) | (injection hk with hk; exact .inr (by omega))))) (p := ⟨b, 3, none⟩) (.inl (.inl rfl)) (.slice A1 n1 c1)); have HV3 := Aside0.mk (show (Value.slice A1 n1 c1).ownBlock = vt.ownBlock ∨ ∃ k, (Value.slice A1 n1 c1).ownBlock = some k ∧ w.heap.size ≤ k from by rcases hat with hv | ⟨k2, hv, hle⟩ <;> first | (rw [hv]; exact HV.out) | exact .inr ⟨k2, hv, Nat.le_trans HK2.out.1 hle⟩); clear ho hb hg hat hb3 hf3))
            go_roundw
            case rel => exact ⟨i + 1, s.set (rd l i).toNat true, t ++ [rd l i], _, by first | rw [HW.out hlt] | rfl, ⟨by omega⟩, HX3, HI3, HB3, HK3, HV3⟩
            case measure => simp only [intOf]; (try rw [HW.out hlt]); omega
          · cases hx
        · have HSN := Aside0.mk hsn
          rw [hsn] at hx hs1
          rw [if_pos rfl] at hx
          clear hsn
          have HX2 := Aside0.mk hx
          clear hx
          go_wp2
          go_roundw
          case rel => exact ⟨i + 1, s, t, vt1, by first | rw [HW.out hlt] | rfl, ⟨by omega⟩, HX2, HI, HB, HK, HV⟩
          case measure => simp only [intOf]; (try rw [HW.out hlt]); omega
      · rw [if_neg hr] at hx
        cases hx
    · have ht : decide (i < (l.length : Int)) = false := decide_eq_false hlt
      have hx := HX.out
      rw [List.drop_eq_nil_of_le (by omega), reachS] at hx
      obtain ⟨rfl, rfl⟩ : s = s' ∧ t = t' := by simpa using hx
      clear hx
      go_wp2
      go_end0
      exact ⟨rfl, vt1, HI.out, HB.out, HK.out, HV.out⟩

/-! ### weak_reacher_all: function 183 -/
/-- Till nothing is to be done. -/
def allS (has : List (List Int)) : Nat → List Bool → List Int → Option (List Bool)
  | 0, _, _ => none
  | k + 1, s, t => if t.length = 0 then some s else if 0 ≤ rd t ((t.length : Int) - 1) ∧ rd t ((t.length : Int) - 1) < has.length then (reachS (rd_L1 has (rd t ((t.length : Int) - 1))) s (t.take (t.length - 1))).bind fun p => allS has k p.1 p.2 else none
theorem allS.mono (has : List (List Int)) : ∀ k s t, LeO (allS has k s t) (allS has (k + 1) s t)
  | 0, s, t => fun r h => by simp [allS] at h
  | k + 1, s, t => by
    unfold allS
    refine LeO.ite (LeO.refl _) (LeO.ite (LeO.bind (LeO.refl _) (fun p => allS.mono has k p.1 p.2)) (LeO.refl _))
set_option maxHeartbeats 4000000 in
set_option maxRecDepth 100000 in
theorem all_walk (w0 : World) (b : Nat) (has : List (List Int)) (Ah : Option Addr) (ch : Nat) (R vs vt : Value) (seen : List Bool) (todo : List Int) (k : Nat) (s' : List Bool) (w : World)
    (hI : ReIs w w0.heap.size b (.slice Ah has.length ch) R vs vt seen todo) (hB : Below w0.heap.size w0 w) (hh : Kd.C (Kd.slice 3 (Kd.int .i64)) w0 Ah has.length has) (h : allS has k seen todo = some s') :
    Calls Try.prog 183 #[.pointer (some ⟨b, 0, none⟩)] w fun e w' => e = .returned (.tuple #[]) ∧ ∃ vt' : Value, ReIs w' w0.heap.size b (.slice Ah has.length ch) R vs vt' s' [] ∧ Below w0.heap.size w0 w' ∧ Kept w w' (ReOwn b vs vt) ∧ (vt'.ownBlock = vt.ownBlock ∨ ∃ k, vt'.ownBlock = some k ∧ w.heap.size ≤ k) := by
  have HI := Aside0.mk hI
  have HBB := Aside0.mk hB
  have HH := Aside0.mk hh
  have HS := Aside0.mk h
  have HZ := Aside0.mk hB.size
  clear hI hB hh h
  go_enter Try.func183, Try.ntmps183
  go_wp2
  go_loopg [2] k (fun kq v2 wr => ∃ (s : List Bool) (t : List Int) (vt1 : Value), Aside0 (allS has kq s t = some s') ∧ Aside0 (ReIs wr w0.heap.size b (.slice Ah has.length ch) R vs vt1 s t) ∧ Aside0 (Below w0.heap.size w0 wr) ∧ Aside0 (Kept w wr (ReOwn b vs vt)) ∧ Aside0 (vt1.ownBlock = vt.ownBlock ∨ ∃ k, vt1.ownBlock = some k ∧ w.heap.size ≤ k))
  case atStart => exact ⟨seen, todo, vt, HS, HI, HBB, ⟨Kept.refl _ _⟩, ⟨.inl rfl⟩⟩
  case round =>
    clear HI HBB HS
    obtain ⟨s, t, vt1, HX, HI, HB, HK, HV⟩ := hrel
    cases gk with
    | zero => exact absurd HX.out (by simp [allS])
    | succ k1 =>
      have hx := HX.out
      rw [allS] at hx
      obtain ⟨At, ct, rfl⟩ := Kd.R_slice HI.out.todo
      have hct := (Kd.R_reads' HI.out.todo).2.1
      have hmx := (Kd.R_reads' HI.out.todo).2.2.2.1
      have hb3 : wr.cell? ⟨b, 3, none⟩ = some (.slice At t.length ct) := by simp [World.cell?, HI.out.blk]
      have hb0 : wr.cell? ⟨b, 0, none⟩ = some (.slice Ah has.length ch) := by simp [World.cell?, HI.out.blk]
      have hf3 : wr.frozen? ⟨b, 3, none⟩ = false := by simp [World.frozen?, HI.out.blk]
      by_cases h0 : t.length = 0
      · rw [if_pos h0] at hx
        obtain rfl := Option.some.inj hx
        obtain rfl := List.eq_nil_of_length_eq_zero h0
        clear hx
        go_wp2
        go_end0
        exact ⟨rfl, _, HI.out, HB.out, HK.out, HV.out⟩
      · rw [if_neg h0] at hx
        split at hx
        · rename_i hr
          obtain ⟨p, hp, hx⟩ := Option.bind_eq_some_iff.1 hx
          have HX2 := Aside0.mk hx
          have HP := Aside0.mk hp
          clear hx hp
          have hp0 : decide (0 < t.length) = true := decide_eq_true (by omega)
          have hp1 : decide ((0 : Int) < (t.length : Int)) = true := decide_eq_true (by omega)
          obtain ⟨m, hm⟩ : ∃ m : Int, m = (t.length : Int) - 1 := ⟨_, rfl⟩
          rw [← hm] at hr HP
          have hw1 : IntKind.i64.wrap ((t.length : Int) - 1) = m := by rw [IntKind.wrap_i64]; omega
          have hw3 : wrap64 ((t.length : Int) - 1) = m := by unfold wrap64; omega
          have hm0 : 0 ≤ m := by omega
          have hm1 : m < (t.length : Int) := by omega
          obtain ⟨adt, et, ht1⟩ := Kd.at_int (Kd.R_reads' HI.out.todo).2.2 m hm0 hm1
          cases et
          have HM := Aside0.mk hm
          clear hm
          have hm0' := eq_true hm0
          have hm1' := eq_true hm1
          obtain ⟨hr0, hr1⟩ := hr
          obtain ⟨adh, Al, cl, rfl, hh1, hlc, hlr⟩ := at_L1 HH.out (rd t m) hr0 hr1
          have HLR := Aside0.mk (Kd.C_F (Kd.heap_int .i64) hlr)
          have HH1 := Aside0.mk hh1
          clear hlr hh1
          have hsl : ∀ W : World, (Instr.slice 36 (.slice (some adt) t.length ct) none (some (.int .i64 m)) none).run Try.prog W = .ok (.slice (some adt) m.toNat ct) W := fun W => by
            have hti := info3
            obtain ⟨i0, hi, hz⟩ := Option.map_eq_some_iff.1 hti
            have h1 := (print_take_int (k := .i64) 36 3 Try.underlying36 hi (by simpa using (Prod.mk.inj (Prod.mk.inj hz).2).1) (some adt) ct t m hm0 (by omega) hct).1 W
            rw [List.length_take, Nat.min_eq_left (by omega)] at h1
            exact h1
          go_wp2
          go_quiet (fail)
          go_wp2
          have hb3q : (wr.drewN nq).cell? ⟨b, 3, none⟩ = some (.slice (some adt) t.length ct) := hb3
          have hf3q : (wr.drewN nq).frozen? ⟨b, 3, none⟩ = false := hf3
          have HIq := Aside0.mk (HI.out.drewN nq)
          have HBq := Aside0.mk (pw_below_drewN HB.out nq)
          have HKq := Aside0.mk (Kept.drewN HK.out nq)
          clear hb3 hf3 hb0 HI HB HK ht1
          generalize wr.drewN nq = wq at *
          go_still_tail 14, (by kernel_rfl)
          change wpList _ _ _ _ _ wq.drew
          have HI2 := Aside0.mk (ReIs.cut (m := m.toNat) (w := wq.drew) ⟨HIq.out.blk, HIq.out.hb, Kd.R_drew HIq.out.seen, Kd.R_drew HIq.out.todo⟩ (by omega))
          have HB2 := Aside0.mk (below_set (below_drew HBq.out) HIq.out.hb (g := b) (j := 3) (v := .slice (some adt) m.toNat ct))
          have HK2 := Aside0.mk (Kept.setCell (Kept.drew HKq.out) (p := ⟨b, 3, none⟩) (.inl (.inl rfl)) (.slice (some adt) m.toNat ct))
          refine store_event (t := 36) (p := 34) (v := .tmp 32) (w1 := wq.drew.setCell ⟨b, 3, none⟩ (.slice (some adt) m.toNat ct)) ?hg ?ho ?hn ?hr ?_
          case ho => rfl
          case hg => rfl
          case hn => rfl
          case hr => first | (go_simp; done) | (go_simp; rfl)
          intro w2 hw
          rw [← hw] at HI2 HB2 HK2
          clear hw hb3q hf3q HIq HBq HKq
          have hb0 : w2.cell? ⟨b, 0, none⟩ = some (.slice (some adh) has.length ch) := by simp [World.cell?, HI2.out.blk]
          have hh1 := (HB2.out.cell (World.block_lt_of_cell? w0 _ HH1.out)).trans HH1.out
          have HP2 := Aside0.mk (show reachS (rd_L1 has (rd t m)) s (t.take m.toNat) = some p by rw [show m.toNat = t.length - 1 by have := HM.out; omega]; exact HP.out)
          have HLR2 := Aside0.mk (Kd.F_step HLR.out (fun k hk _ => HB2.out.block k hk))
          have HOK := Aside0.mk (show ∀ k, k < w0.heap.size → ¬ ReOwn b vs (.slice (some adt) m.toNat ct) k from by
            intro k hk ho
            have h1 := HI2.out.hb
            rcases ho with rfl | ho | ho
            · omega
            · have := Kd.R_base HI2.out.seen k ho.symm; omega
            · have := Kd.R_base HI2.out.todo k ho.symm; omega)
          go_wp2_with (go_at_call 182; refine (reach_walk w0 b (.slice (some adh) has.length ch) R vs (.slice (some adt) m.toNat ct) s (t.take m.toNat) Al cl (rd_L1 has (rd t m)) (fun k => k < w0.heap.size) p.1 p.2 _ HI2.out HB2.out HLR2.out HOK.out (HP2.out.trans (by rfl))).mono ?_; rintro e w3 ⟨vt2, rfl, hi3, hb3, hk3, hv3⟩; have HI3 := Aside0.mk hi3; have HB3 := Aside0.mk hb3; have HV2 := Aside0.mk (show (Value.slice (some adt) m.toNat ct).ownBlock = vt.ownBlock ∨ ∃ k, (Value.slice (some adt) m.toNat ct).ownBlock = some k ∧ w.heap.size ≤ k from HV.out); have HK3 := Aside0.mk (Kept.then_ HK2.out hk3 (fun k hk => by rcases hk with hk | hk | hk <;> first | exact .inl (.inl hk) | exact .inl (.inr (.inl hk)) | (rcases HV2.out with hv | ⟨k2, hv, hle⟩ <;> (rw [hv] at hk; first | exact .inl (.inr (.inr hk)) | (injection hk with hk; exact .inr (by omega)))))); have HV3 := Aside0.mk (show vt2.ownBlock = vt.ownBlock ∨ ∃ k, vt2.ownBlock = some k ∧ w.heap.size ≤ k from by rcases hv3 with hv | ⟨k2, hv, hle⟩ <;> first | (rw [hv]; exact HV2.out) | exact .inr ⟨k2, hv, Nat.le_trans HK2.out.1 hle⟩); clear hi3 hb3 hk3 hv3 hb0 hh1)
          go_roundg k1
          case measure => omega
          case rel => exact ⟨p.1, p.2, vt2, HX2, HI3, HB3, HK3, HV3⟩
        · cases hx
theorem R_madeBools (w : World) (base n : Nat) (hb : base ≤ w.heap.size) (hn : n ≤ maxLen) : Kd.R Kd.bool 4 (w.alloc (.cells (madeCells #[.bool false] n) 4)) base (fun _ => True) (.slice (some ⟨w.heap.size, 0, none⟩) n n) (List.replicate n false) := by
  refine ⟨fun _ _ => trivial, (madeCells #[.bool false] n).toList, ⟨?_, .inr ⟨w.heap.size, n, madeCells #[.bool false] n, ?_, hb, YtlojkphocbbjdabW.Bas.heap_alloc_self _ _, by simp, hn, ?_, ?_⟩⟩, ?_⟩
  · simp [size_madeCells, Kd.bool, Kd.scalar]
  · simp
  · simp [size_madeCells, Kd.bool, Kd.scalar]
  · simp [size_madeCells, Kd.bool, Kd.scalar]
    rw [List.take_of_length_le (by simp [size_madeCells])]
  · have hr := Kd.reps_made (R := fun (p : Bool) cs => cs = [Value.bool p]) (z := .bool false) (size := 1) (z0 := false) rfl (by omega) rfl n
    rw [Nat.mul_one] at hr
    exact hr
theorem ReIs.made (w : World) (o : Obj) (H R : Value) (n : Nat) (hn : n ≤ maxLen) :
    ReIs ((((w.alloc o).alloc (.cells (madeCells #[.bool false] n) 4)).alloc (.cells #[H, R, .slice (some ⟨w.heap.size + 1, 0, none⟩) n n, .slice none 0 0] 233)).drew) w.heap.size (w.heap.size + 1 + 1) H R (.slice (some ⟨w.heap.size + 1, 0, none⟩) n n) (.slice none 0 0) (List.replicate n false) [] := by
  refine ⟨?_, by omega, ?_, Kd.R_nil _ _ _ _ _⟩
  · have := YtlojkphocbbjdabW.Bas.heap_alloc_self ((w.alloc o).alloc (.cells (madeCells #[.bool false] n) 4)) (.cells #[H, R, .slice (some ⟨w.heap.size + 1, 0, none⟩) n n, .slice none 0 0] 233)
    simp only [World.size_alloc] at this
    exact this
  · have := Kd.R_alloc (R_madeBools (w.alloc o) w.heap.size n (by simp) hn) (.cells #[H, R, .slice (some ⟨w.heap.size + 1, 0, none⟩) n n, .slice none 0 0] 233)
    simp only [World.size_alloc] at this
    exact Kd.R_drew this

/-! ### weak_From: function 122 -/
set_option maxHeartbeats 4000000 in
set_option maxRecDepth 100000 in
theorem from_walk (k : Nat) (A0_0 : Option Addr) (c0_0 : Nat) (l0_0 : List (List Int)) (A0_1 : Option Addr) (c0_1 : Nat) (l0_1 : List Int) (A1 : Option Addr) (c1 : Nat) (l1 : List Int) (r : List Bool) (w : World)
    (hr0_0 : Kd.C (Kd.slice 3 (Kd.int .i64)) w A0_0 l0_0.length l0_0) (hr1 : Kd.C (Kd.int .i64) w A1 l1.length l1) (hlen : l0_0.length ≤ 281474976710656) (q : List Bool × List Int) (hq : reachS l1 (List.replicate l0_0.length false) [] = some q) (h : allS l0_0 k q.1 q.2 = some r) :
    Calls Try.prog 122 #[.agg #[.slice A0_0 l0_0.length c0_0, .slice A0_1 l0_1.length c0_1], .slice A1 l1.length c1] w fun e w' => ∃ v0_ : Value, e = .returned v0_ ∧ Kd.R Kd.bool 4 w' w.heap.size (fun _ => True) v0_ r ∧ Below w.heap.size w w' := by
  have HR0 := Aside0.mk hr0_0
  have HR1 := Aside0.mk hr1
  have HL := Aside0.mk hlen
  have HQ := Aside0.mk hq
  have H := Aside0.mk h
  clear hr0_0 hr1 hq h hlen
  have hmk : ∀ W : World, (Instr.makeSlice 149 (.int .i64 (l0_0.length : Int)) (.int .i64 (l0_0.length : Int))).run Try.prog W = .ok (.slice (some ⟨W.heap.size, 0, none⟩) l0_0.length l0_0.length) (W.alloc (.cells (madeCells #[.bool false] l0_0.length) 4)) := fun W => by
    have hti := info4
    obtain ⟨i0, hi, hzz⟩ := Option.map_eq_some_iff.1 hti
    simp only [Prod.mk.injEq] at hzz
    obtain ⟨hz0, hz1, hz2⟩ := hzz
    have hL := HL.out
    have hr := run_make (P := Try.prog) W 149 4 i0 (.bool false) Try.underlying149 hi hz0 .i64 .i64 (l0_0.length : Int) (l0_0.length : Int) (by omega) (by omega) (by rw [hz2]; omega) (by omega)
    rw [hz1, show (Value.bool false).cells = #[.bool false] from rfl] at hr
    simpa using hr
  go_enter Try.func122, Try.ntmps122
  go_wp2
  have HI := Aside0.mk (ReIs.made w (.cells #[.slice A0_0 l0_0.length c0_0, .slice A0_1 l0_1.length c0_1] 41) (.slice A0_0 l0_0.length c0_0) (.slice A0_1 l0_1.length c0_1) l0_0.length (by have := HL.out; simp only [maxLen]; omega))
  have HB := Aside0.mk (below_drew (below_alloc (below_alloc (below_alloc (Below.refl w.heap.size w) (.cells #[.slice A0_0 l0_0.length c0_0, .slice A0_1 l0_1.length c0_1] 41)) (.cells (madeCells #[.bool false] l0_0.length) 4)) (.cells #[.slice A0_0 l0_0.length c0_0, .slice A0_1 l0_1.length c0_1, .slice (some ⟨w.heap.size + 1, 0, none⟩) l0_0.length l0_0.length, .slice none 0 0] 233)))
  go_region
  generalize ((((w.alloc (.cells #[.slice A0_0 l0_0.length c0_0, .slice A0_1 l0_1.length c0_1] 41)).alloc (.cells (madeCells #[.bool false] l0_0.length) 4)).alloc (.cells #[.slice A0_0 l0_0.length c0_0, .slice A0_1 l0_1.length c0_1, .slice (some ⟨w.heap.size + 1, 0, none⟩) l0_0.length l0_0.length, .slice none 0 0] 233)).drew) = w1 at *
  have HF := Aside0.mk (Kd.F_step (Kd.C_F (Kd.heap_int .i64) HR1.out) (W1 := w1) (fun k hk _ => HB.out.block k hk))
  have HOK := Aside0.mk (show ∀ k, k < w.heap.size → ¬ ReOwn (w.heap.size + 1 + 1) (.slice (some ⟨w.heap.size + 1, 0, none⟩) l0_0.length l0_0.length) (.slice none 0 0) k from by
    intro k hk ho
    rcases ho with rfl | ho | ho
    · omega
    · simp [Value.ownBlock] at ho; omega
    · simp [Value.ownBlock] at ho)
  go_wp2_with fail
  refine (reach_walk w _ _ _ _ _ _ _ A1 c1 l1 (fun k => k < w.heap.size) q.1 q.2 _ HI.out HB.out HF.out HOK.out (HQ.out.trans (by rfl))).mono ?_
  rintro e w3 ⟨vt2, rfl, hi3, hb3, hk3, hv3⟩
  have HI3 := Aside0.mk hi3
  have HB3 := Aside0.mk hb3
  clear hi3 hb3 hk3 hv3 HI HB HF HOK
  go_wp2_with fail
  refine (all_walk w _ l0_0 A0_0 c0_0 _ _ _ _ _ k r _ HI3.out HB3.out HR0.out H.out).mono ?_
  rintro e w4 ⟨rfl, vt4, hi4, hb4, hk4, hv4⟩
  have HI4 := Aside0.mk hi4
  have HB4 := Aside0.mk hb4
  have hb2 : w4.cell? ⟨w.heap.size + 1 + 1, 2, none⟩ = some (.slice (some ⟨w.heap.size + 1, 0, none⟩) l0_0.length l0_0.length) := by simp [World.cell?, HI4.out.blk]
  clear hi4 hb4 hk4 hv4
  go_wp2
  go_ret
  exact ⟨_, rfl, HI4.out.seen, HB4.out⟩
def weak_From.f (k : Nat) (l0_0 : List (List Int)) (l0_1 : List Int) (l1 : List Int) : Option (List Bool) :=
  if l0_0.length ≤ 281474976710656 then (reachS l1 (List.replicate l0_0.length false) []).bind fun q => allS l0_0 k q.1 q.2 else none
theorem weak_From.mono : ∀ a0 a1 a2 k, LeO (weak_From.f k a0 a1 a2) (weak_From.f (k + 1) a0 a1 a2) := by
  intro a0 a1 a2 k
  unfold weak_From.f
  exact LeO.ite (LeO.bind (LeO.refl _) (fun q => allS.mono _ _ _ _)) (LeO.refl _)
theorem weak_From.calls (k : Nat) (A0_0 : Option Addr) (c0_0 : Nat) (l0_0 : List (List Int)) (A0_1 : Option Addr) (c0_1 : Nat) (l0_1 : List Int) (A1 : Option Addr) (c1 : Nat) (l1 : List Int) (r : List Bool) (w : World)
    (hr0_0 : Kd.C (Kd.slice 3 (Kd.int .i64)) w A0_0 l0_0.length l0_0) (hc0_0 : l0_0.length ≤ c0_0) (hr0_1 : Kd.C (Kd.int .i64) w A0_1 l0_1.length l0_1) (hc0_1 : l0_1.length ≤ c0_1) (hr1 : Kd.C (Kd.int .i64) w A1 l1.length l1) (hc1 : l1.length ≤ c1) (h : weak_From.f k l0_0 l0_1 l1 = some r) :
    Calls Try.prog 122 #[.agg #[.slice A0_0 l0_0.length c0_0, .slice A0_1 l0_1.length c0_1], .slice A1 l1.length c1] w fun e w' => ∃ v0_ : Value, e = .returned v0_ ∧ Kd.R Kd.bool 4 w' w.heap.size (fun _ => True) v0_ r ∧ Below w.heap.size w w' := by
  unfold weak_From.f at h
  split at h
  case isFalse => cases h
  rename_i hlen
  obtain ⟨q, hq, h⟩ := Option.bind_eq_some_iff.1 h
  exact from_walk k A0_0 c0_0 l0_0 A0_1 c0_1 l0_1 A1 c1 l1 r w hr0_0 hr1 hlen q hq h

/-! ### cmp_isNaN_int: function 148 -/
/-! ### cmp_Less_int: function 220 -/
-- slices_insertionSortOrdered_int: by the shelf, or with its function

-- slices_siftDownOrdered_int: by the shelf, or with its function

-- slices_heapSortOrdered_int: by the shelf, or with its function

-- bits_Len32: by the shelf, or with its function

-- bits_Len64: by the shelf, or with its function

-- bits_Len: by the shelf, or with its function

-- slices_nextPowerOfTwo: by the shelf, or with its function

-- slices_xorshift_Next: by the shelf, or with its function

-- slices_breakPatternsOrdered_int: by the shelf, or with its function

-- slices_order2Ordered_int: by the shelf, or with its function

-- slices_medianOrdered_int: by the shelf, or with its function

-- slices_medianAdjacentOrdered_int: by the shelf, or with its function

-- slices_choosePivotOrdered_int: by the shelf, or with its function

-- slices_reverseRangeOrdered_int: by the shelf, or with its function

-- slices_partialInsertionSortOrdered_int: by the shelf, or with its function

-- slices_partitionEqualOrdered_int: by the shelf, or with its function

-- slices_partitionOrdered_int: by the shelf, or with its function

-- slices_pdqsortOrdered_int: by the shelf, or with its function

-- slices_Sort_int_int: by the shelf, or with its function

/-! ### weak_in: function 213 -/
def weak_in.f (a0 : Int) (a1 : Int) : Option (Bool) := if a0 ≥ 0 then (some (decide (a0 < a1))) else (some false)
set_option maxHeartbeats 8000000 in
set_option maxRecDepth 100000 in
theorem weak_in.calls (a0 : Int) (a1 : Int) (r : Bool) (w : World) (h : weak_in.f a0 a1 = some r) :
    Calls Try.prog 213 #[.int .i64 a0, .int .i64 a1] w fun e w' => e = .returned (.bool r) ∧ Drawn0 w w' := by
  have H : (if a0 ≥ 0 then (some (decide (a0 < a1))) else (some false)) = some r := h
  clear h
  by_cases c3 : a0 ≥ 0
  · rw [if_pos c3] at H
    have c3b0 : decide (0 ≤ a0) = true := decide_eq_true c3
    clear c3
    obtain rfl := Option.some.inj H
    go_enter Try.func213, Try.ntmps213
    go_wp2
    go_ret
    exact ⟨by first | rfl | (simp; done) | (simp [*]; done), by repeat (first | exact Drawn0.refl _ | apply Drawn0.step)⟩
  · rw [if_neg c3] at H
    have c3b0 : decide (0 ≤ a0) = false := decide_eq_false c3
    clear c3
    obtain rfl := Option.some.inj H
    go_enter Try.func213, Try.ntmps213
    go_wp2
    go_ret
    exact ⟨by first | rfl | (simp; done) | (simp [*]; done), by repeat (first | exact Drawn0.refl _ | apply Drawn0.step)⟩

end Go.Proofs.Ytlojkphocbbjdab.PEndsTell
