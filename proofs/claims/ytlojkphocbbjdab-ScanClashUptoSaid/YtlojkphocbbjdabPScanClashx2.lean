-- Printed for this claim by a program of this session (inj.py), beside the kit's print. Not trusted: Lean checks it.
import Derived.Test.YtlojkphocbbjdabPScanClashx0
namespace Go.Proofs.Ytlojkphocbbjdab.PScanClash
open Go.RowKit Go.Proofs.YtlojkphocbbjdabW.PrintWords Go.Proofs.YtlojkphocbbjdabW.PrintLast Go.Proofs.YtlojkphocbbjdabW.PrintMore
attribute [local go_sem] max2_int min2_int max_two min_two max_three min_three max_four min_four   -- for this text's walks alone
set_option linter.unusedVariables false
set_option linter.unusedSimpArgs false

/-! ### bits_Mul32: function 192 -/
/-! ### bits_Mul64: function 193 -/
def bits_Mul64.f (a0 : Int) (a1 : Int) : Option (Int × Int) := some (IntKind.u64.wrap ((IntKind.u64.wrap ((IntKind.u64.wrap ((a0 / 4294967296) * (a1 / 4294967296))) + ((IntKind.u64.wrap ((IntKind.u64.wrap ((a0 / 4294967296) * (Go.bits .and .u64 a1 4294967295))) + ((IntKind.u64.wrap ((Go.bits .and .u64 a0 4294967295) * (Go.bits .and .u64 a1 4294967295))) / 4294967296))) / 4294967296))) + ((IntKind.u64.wrap ((Go.bits .and .u64 (IntKind.u64.wrap ((IntKind.u64.wrap ((a0 / 4294967296) * (Go.bits .and .u64 a1 4294967295))) + ((IntKind.u64.wrap ((Go.bits .and .u64 a0 4294967295) * (Go.bits .and .u64 a1 4294967295))) / 4294967296))) 4294967295) + (IntKind.u64.wrap ((Go.bits .and .u64 a0 4294967295) * (a1 / 4294967296))))) / 4294967296)), IntKind.u64.wrap (a0 * a1))
set_option maxHeartbeats 8000000 in
set_option maxRecDepth 100000 in
theorem bits_Mul64.calls (a0 : Int) (a1 : Int) (r1 : Int) (r2 : Int) (w : World) (h : bits_Mul64.f a0 a1 = some (r1, r2)) :
    Calls Try.prog 193 #[.int .u64 a0, .int .u64 a1] w fun e w' => e = .returned (.tuple #[.int .u64 r1, .int .u64 r2]) ∧ Drawn0 w w' := by
  have H : (some (IntKind.u64.wrap ((IntKind.u64.wrap ((IntKind.u64.wrap ((a0 / 4294967296) * (a1 / 4294967296))) + ((IntKind.u64.wrap ((IntKind.u64.wrap ((a0 / 4294967296) * (Go.bits .and .u64 a1 4294967295))) + ((IntKind.u64.wrap ((Go.bits .and .u64 a0 4294967295) * (Go.bits .and .u64 a1 4294967295))) / 4294967296))) / 4294967296))) + ((IntKind.u64.wrap ((Go.bits .and .u64 (IntKind.u64.wrap ((IntKind.u64.wrap ((a0 / 4294967296) * (Go.bits .and .u64 a1 4294967295))) + ((IntKind.u64.wrap ((Go.bits .and .u64 a0 4294967295) * (Go.bits .and .u64 a1 4294967295))) / 4294967296))) 4294967295) + (IntKind.u64.wrap ((Go.bits .and .u64 a0 4294967295) * (a1 / 4294967296))))) / 4294967296)), IntKind.u64.wrap (a0 * a1))) = some (r1, r2) := h
  clear h
  simp only [Option.some.injEq, Prod.mk.injEq] at H
  obtain ⟨rfl, rfl⟩ := H
  go_enter Try.func193, Try.ntmps193
  go_wp2
  go_ret2
  exact ⟨by first | rfl | (simp; done) | (simp [*]; done), by repeat (first | exact Drawn0.refl _ | apply Drawn0.step)⟩

/-! ### bits_Mul: function 146 -/
def bits_Mul.f (a0 : Int) (a1 : Int) : Option (Int × Int) := (bits_Mul64.f a0 a1).bind fun bt101 => (some (bt101.1, bt101.2))
set_option maxHeartbeats 8000000 in
set_option maxRecDepth 100000 in
theorem bits_Mul.calls (a0 : Int) (a1 : Int) (r1 : Int) (r2 : Int) (w : World) (h : bits_Mul.f a0 a1 = some (r1, r2)) :
    Calls Try.prog 146 #[.int .u64 a0, .int .u64 a1] w fun e w' => e = .returned (.tuple #[.int .u64 r1, .int .u64 r2]) ∧ Drawn0 w w' := by
  have H : ((bits_Mul64.f a0 a1).bind fun bt101 => (some (bt101.1, bt101.2))) = some (r1, r2) := h
  clear h
  replace H := Option.bind_eq_some_iff.mp H
  obtain ⟨⟨t101, t102⟩, A30, H⟩ := H
  replace H : (some (t101, t102)) = some (r1, r2) := H
  have A3 := Aside0.mk A30
  clear A30
  simp only [Option.some.injEq, Prod.mk.injEq] at H
  obtain ⟨rfl, rfl⟩ := H
  go_enter Try.func146, Try.ntmps146
  go_wp2_with (first | ((with_reducible refine gate_callee (f := 193) rfl ?_); refine goesL_ (some 25) rfl rfl Try.func193 (by kernel_rfl) rfl #[.int .u64 a0, .int .u64 a1] rfl (by (try simp only [List.map_toArray, List.map_cons, List.map_nil]); first | done | rfl | (simp only [List.length_drop, List.length_take]; rfl)) ?_; (with_reducible refine (bits_Mul64.calls a0 a1 t101 t102 _ A3.out).mono ?_); rintro e w' ⟨rfl, ⟨nd, rfl⟩⟩; refine ⟨_, rfl, ?_⟩))
  go_ret2
  exact ⟨by first | rfl | (simp; done) | (simp [*]; done), by repeat (first | exact Drawn0.refl _ | apply Drawn0.step)⟩

/-! ### api_RPlace_83: function 83 -/
theorem api_RPlace_83.mul1 (a : Int) (h0 : 0 ≤ a) (h1 : a < 4294967296) : bits_Mul.f 1 a = some (0, a) := by
  have e1 : a / 4294967296 = 0 := by omega
  have e2 : Go.bits .and .u64 a 4294967295 = a := by
    have := bits_mask .u64 64 (by decide) (fun n h0 h1 => by simp [IntKind.wrap, IntKind.signed, IntKind.bits]; omega) 32 (by decide) a h0 (by omega)
    have h2 : (2 : Int) ^ 32 - 1 = 4294967295 := by decide
    rw [h2] at this
    rw [this]
    omega
  have e3 : Go.bits .and .u64 1 4294967295 = 1 := by decide
  have w : ∀ n : Int, 0 ≤ n → n < 18446744073709551616 → IntKind.u64.wrap n = n := fun n h0 h1 => by simp [IntKind.wrap, IntKind.signed, IntKind.bits]; omega
  unfold bits_Mul.f bits_Mul64.f
  simp only [Option.bind_some, e1, e2, e3, show (1 : Int) / 4294967296 = 0 by decide, Int.zero_mul, Int.mul_zero, Int.one_mul, w 0 (by decide) (by decide), w a h0 (by omega), Int.zero_add, Int.add_zero, Int.zero_ediv]
  rw [show Go.bits .and .u64 0 4294967295 = 0 by decide]
  simp [w 0 (by decide) (by decide)]
def api_RPlace_83.f (l0 : List (S54)) (n : Int) : Option (List (S54)) := if l0.length = 1 ∧ 0 ≤ n ∧ n < 2147483648 then some (List.replicate n.toNat (rd_T54 l0 0)) else none
theorem api_RPlace_83.flat : YtlojkphocbbjdabW.Cpy.Flat k54 := (fun h => by rw [k54_openM h]; exact k54_mkM _ _ _ _)
set_option maxHeartbeats 4000000 in
set_option maxRecDepth 100000 in
theorem api_RPlace_83.calls (A0 : Option Addr) (c0 : Nat) (l0 : List (S54)) (a1 : Int) (r : List (S54)) (w : World) (hr0 : Kd.C k54 w A0 l0.length l0) (hc0 : l0.length ≤ c0) (h : api_RPlace_83.f l0 a1 = some r) :
    Calls Try.prog 83 #[.slice A0 l0.length c0, .int .i64 a1] w fun e w' => ∃ v0_ : Value, e = .returned v0_ ∧ Kd.R k54 54 w' w.heap.size (fun _ => True) v0_ r ∧ Below w.heap.size w w' := by
  unfold api_RPlace_83.f at h
  split at h
  case isFalse => cases h
  rename_i hok
  obtain ⟨hl1, hn0, hn1⟩ := hok
  obtain rfl := Option.some.inj h
  obtain ⟨ad, cs, e, hcl, hKx, hcx⟩ := Kd.C_get hr0 z54 0 (by omega) (by omega)
  cases e
  rw [hl1] at hr0 hc0 ⊢
  have hKx2 : k54.K w (rd_T54 l0 0) cs := hKx
  generalize (rd_T54 l0 0) = x at *
  have HMUL := Aside0.mk (api_RPlace_83.mul1 a1 hn0 (by omega))
  have HM : Aside0 (∀ (W : World) (b : Nat) (ok : Nat → Prop), k54.M W b ok x cs) := ⟨fun W b ok => (by rw [k54_open hKx2]; exact k54_mkM _ _ _ _)⟩
  have HCX : Aside0 (∀ j u, cs[j]? = some u → w.cell? (ad.add j) = some u) := ⟨fun j u hj => by have := hcx j u hj; simpa using this⟩
  obtain ⟨i0, hi0, hz0⟩ := Option.map_eq_some_iff.1 info54
  have HSZ : Aside0 ((Try.prog.info? 54).map (·.size) = some k54.sz) := ⟨by rw [hi0]; simp only [Prod.mk.injEq] at hz0; simp only [Option.map_some]; rw [hz0.2.1]; rfl⟩
  have HI0 := Aside0.mk hi0
  have HZ0 := Aside0.mk (show i0.size = 2 by simp only [Prod.mk.injEq] at hz0; exact hz0.2.1)
  clear h hr0 hl1 hc0 hKx hKx2 hcx hcl hi0 hz0
  have hwu : IntKind.u64.wrap a1 = a1 := by simp [IntKind.wrap, IntKind.signed, IntKind.bits]; omega
  have hwi : IntKind.i64.wrap a1 = a1 := by simp [IntKind.wrap, IntKind.signed, IntKind.bits]; omega
  have hlt0 : decide (a1 < 0) = false := decide_eq_false (by omega)
  have hgt : decide (a1 > 9223372036854775807) = false := decide_eq_false (by omega)
  have hgt2 : decide ((9223372036854775807 : Int) < a1) = false := decide_eq_false (by omega)
  have HN0 := Aside0.mk hn0
  have HN1 := Aside0.mk hn1
  rcases Int.lt_or_le 0 a1 with hp | hp
  · obtain ⟨N, hN⟩ : ∃ N : Nat, N = a1.toNat := ⟨_, rfl⟩
    have HNN := Aside0.mk hN
    have HNP := Aside0.mk (show 0 < N by omega)
    have HNA := Aside0.mk (show a1 = (N : Int) by omega)
    clear hN hp
    go_enter Try.func83, Try.ntmps83
    go_wp2_with (first | (go_at_call 146; refine (bits_Mul.calls 1 a1 0 a1 _ HMUL.out).mono ?_; rintro e w2 ⟨rfl, hd⟩; have HB2 := Aside0.mk hd.below; clear hd) | ((with_reducible refine gate_dst (N := 30) rfl ?_); refine Kd.R_make k54 (w0 := w) w.heap.size 54 rfl (N := 30) rfl 47 (.tmp 29) (.tmp 29) rfl a1 rfl rfl Try.underlying47 ((.agg #[(.int .i64 0), (.int .i64 0)])) 16 info54 rfl (by decide) (by decide) z54 (ok := fun _ => True) (okp := fun _ => False) (k54_mkM _ _ _ z54) (fun _ h => h.elim) trivial HN0.out ?aL HB2.out HB2.out.size ?_; (case aL => have := HN1.out; omega); intro v1 w3 hr hb hg hat; obtain ⟨g, cp, hv, hgb, hgl, _⟩ := Kd.R_form hr (by rw [List.length_replicate]; have := HNN.out; have := HNP.out; omega); rw [List.length_replicate, ← HNN.out] at hv; subst hv; rw [← HNN.out, ← YtlojkphocbbjdabW.Cpy.fill_none x z54 N] at hr; have HR3 := Aside0.mk hr; have HB3 := Aside0.mk hb; have HGB := Aside0.mk hgb; clear hr hb hg hat hgb hgl) | ((with_reducible refine gate_builtin (b := .copy) (xs := #[.tmp 31, .tmp 32]) rfl ?_); obtain ⟨w4, hrun, hr4, hg4⟩ := YtlojkphocbbjdabW.Cpy.copy_first (P := Try.prog) api_RPlace_83.flat (by decide) HR3.out HNP.out (HM.out _ _ _) (fun j v hj => (HB3.out.cell (World.block_lt_of_cell? w _ (HCX.out j v hj))).trans (HCX.out j v hj)) 47 3 c0 Try.underlying47 HSZ.out; refine YtlojkphocbbjdabW.Cpy.copy_event rfl (.tmp 31) (.tmp 32) 47 47 (.slice (some ⟨g, 0, none⟩) N cp) (.slice (some ad) 1 c0) rfl rfl rfl hrun ?_; have HR4 := Aside0.mk hr4; have HB4 := Aside0.mk (HB3.out.grown hg4 HB3.out.size (fun k hk => by injection hk with hk; rw [← hk]; exact HGB.out)); clear HR3 HB3 hrun hr4 hg4))
    go_loopw [8] (fun v8 wr => ∃ i : Int, v8 = .int .i64 i ∧ Aside0 (1 ≤ i ∧ i ≤ N) ∧ Aside0 (Kd.R k54 54 wr w.heap.size (fun _ => True) (.slice (some ⟨g, 0, none⟩) N cp) (YtlojkphocbbjdabW.Cpy.fill x z54 N i.toNat)) ∧ Aside0 (Below w.heap.size w wr)) (fun v8 _ => N - (intOf v8).toNat)
    case atStart => exact ⟨1, rfl, ⟨by have := HNP.out; omega⟩, HR4, HB4⟩
    case round =>
      clear HR4 HB4
      obtain ⟨i, rfl, Hi, HR, HB⟩ := hrel
      have hi1 : 1 ≤ i := Hi.out.1
      have hi0 : 0 ≤ i := by omega
      have HCP := Aside0.mk (Kd.R_reads' HR.out).2.1
      by_cases hlt : i < (N : Int)
      · have ht : decide (i < (N : Int)) = true := decide_eq_true hlt
        have hs1 : ∀ W : World, (Instr.slice 47 (.slice (some ⟨g, 0, none⟩) N cp) (some (.int .i64 i)) none none).run Try.prog W = .ok (.slice (some ⟨g, i.toNat * 2, none⟩) (N - i.toNat) (cp - i.toNat)) W := by
          intro W
          rw [cut_from 47 54 .i64 Try.underlying47 HI0.out 2 HZ0.out (some ⟨g, 0, none⟩) N cp i hi0 (by omega) W, if_neg (by have := HCP.out; omega)]
          simp only [Option.map_some, Addr.add]
          rw [if_neg (by omega), Nat.zero_add]
        have hs2 : ∀ W : World, (Instr.slice 47 (.slice (some ⟨g, 0, none⟩) N cp) none (some (.int .i64 i)) none).run Try.prog W = .ok (.slice (some ⟨g, 0, none⟩) i.toNat cp) W :=
          cut_to 47 54 .i64 Try.underlying47 HI0.out (some ⟨g, 0, none⟩) N cp i hi0 (by omega) HCP.out
        have HR5 := Aside0.mk (Kd.R_drew HR.out)
        have HB5 := Aside0.mk (below_drew HB.out)
        obtain ⟨w6, m, hrun, hm1, hm2, hr6, hg6⟩ := YtlojkphocbbjdabW.Cpy.copy_self (P := Try.prog) api_RPlace_83.flat (by decide) HR5.out hi1 hlt 47 3 (cp - i.toNat) cp Try.underlying47 HSZ.out
        have HRUN := Aside0.mk hrun
        have HR6 := Aside0.mk hr6
        have HB6 := Aside0.mk (HB5.out.grown hg6 HB5.out.size (fun k hk => by injection hk with hk; rw [← hk]; exact HGB.out))
        have HW := Aside0.mk (show wrap64 (i + m) = i + m by have := HN1.out; have := HNA.out; unfold wrap64; omega)
        have HW2 := Aside0.mk (show IntKind.i64.wrap (i + m) = i + m by have := HN1.out; have := HNA.out; simp [IntKind.wrap, IntKind.signed, IntKind.bits]; omega)
        clear hrun hr6 hg6
        go_wp2
        go_region_held3 (fun _ => True) (trivial) ((refine YtlojkphocbbjdabW.Cpy.step_copy rfl (.tmp 41) (.tmp 44) 47 47 (.slice (some ⟨g, i.toNat * 2, none⟩) (N - i.toNat) (cp - i.toNat)) (.slice (some ⟨g, 0, none⟩) i.toNat cp) rfl rfl rfl HRUN.out ?_))
        all_goals
          go_wp2
          go_roundw
          case rel => exact ⟨i + m, by first | rw [HW2.out] | rw [HW.out] | rfl, ⟨by omega⟩, HR6, HB6⟩
          case measure => simp only [intOf]; (try rw [HW2.out]); (try rw [HW.out]); omega
      · have ht : decide (i < (N : Int)) = false := decide_eq_false hlt
        obtain rfl : i = (N : Int) := by have := Hi.out.2; omega
        have hr := HR.out
        rw [Int.toNat_natCast, YtlojkphocbbjdabW.Cpy.fill_all, HNN.out] at hr
        rw [← HNN.out] at hr
        have HR2 := Aside0.mk hr
        clear hr HR
        go_wp2
        go_ret
        exact ⟨_, rfl, by rw [← HNN.out]; exact HR2.out, HB.out⟩
  · obtain rfl : a1 = 0 := by omega
    go_enter Try.func83, Try.ntmps83
    go_wp2_with (first | (go_at_call 146; refine (bits_Mul.calls 1 0 0 0 _ HMUL.out).mono ?_; rintro e w2 ⟨rfl, hd⟩; have HB2 := Aside0.mk hd.below; clear hd) | ((with_reducible refine gate_dst (N := 30) rfl ?_); refine Kd.R_make k54 (w0 := w) w.heap.size 54 rfl (N := 30) rfl 47 (.tmp 29) (.tmp 29) rfl 0 rfl rfl Try.underlying47 ((.agg #[(.int .i64 0), (.int .i64 0)])) 16 info54 rfl (by decide) (by decide) z54 (ok := fun _ => True) (okp := fun _ => False) (k54_mkM _ _ _ z54) (fun _ h => h.elim) trivial HN0.out ?aL HB2.out HB2.out.size ?_; (case aL => simp); intro v1 w3 hr hb hg hat; obtain ⟨A1, c1, hv⟩ := Kd.R_slice hr; subst hv; have HR3 := Aside0.mk hr; have HB3 := Aside0.mk hb; clear hr hb hg hat) | ((with_reducible refine gate_builtin (b := .copy) (xs := #[.tmp 31, .tmp 32]) rfl ?_); refine YtlojkphocbbjdabW.Cpy.copy_event rfl (.tmp 31) (.tmp 32) 47 47 (.slice A1 0 c1) (.slice (some ad) 1 c0) rfl rfl rfl (YtlojkphocbbjdabW.Cpy.run_copy_nil _ 47 47 _ 54 _ _ _ _ _ _ _ Try.underlying47 HSZ.out rfl) ?_))
    go_loopw [8] (fun v8 wr => v8 = .int .i64 0 ∧ Aside0 (wr = w3)) (fun v8 _ => 0)
    case atStart => exact ⟨rfl, ⟨rfl⟩⟩
    case round =>
      obtain ⟨rfl, Hw⟩ := hrel
      go_wp2
      go_ret
      exact ⟨_, rfl, by rw [Hw.out]; exact HR3.out, by rw [Hw.out]; exact HB3.out⟩

/-! ### scan_counts: function 84 -/
def scan_counts.f (a0_0 : Int) (a0_1 : Int) : Option (Bool) := if a0_0 ≥ 0 then (some (decide (a0_0 < a0_1))) else (some false)
set_option maxHeartbeats 8000000 in
set_option maxRecDepth 100000 in
theorem scan_counts.calls (a0_0 : Int) (a0_1 : Int) (r : Bool) (w : World) (h : scan_counts.f a0_0 a0_1 = some r) :
    Calls Try.prog 84 #[.agg #[.int .i64 a0_0, .int .i64 a0_1]] w fun e w' => e = .returned (.bool r) ∧ Below w.heap.size w w' := by
  have hu60 := Try.underlying60
  have HB := Aside0.mk (Below.refl w.heap.size w)
  have H : (if a0_0 ≥ 0 then (some (decide (a0_0 < a0_1))) else (some false)) = some r := h
  clear h
  by_cases c2 : a0_0 ≥ 0
  · rw [if_pos c2] at H
    have c2b0 : decide (0 ≤ a0_0) = true := decide_eq_true c2
    clear c2
    obtain rfl := Option.some.inj H
    go_enter Try.func84, Try.ntmps84
    go_wp2_with (first | ((with_reducible refine gate_dst (N := 1) rfl ?_); refine box_event ?hg (N := 1) ?hd (cs := #[.int .i64 a0_0, .int .i64 a0_1]) (t := 60) ?hr ?_; (case hd => rfl); (case hg => rfl); (case hr => first | (go_simp; done) | (go_simp; rfl)); intro gb103 hg w3 hbox hb; have n0_ := Aside0.mk (below_step (by repeat (first | (with_reducible first | exact HB.out | apply below_alloc | apply pw_below_drewN | apply below_drew1) | exact HB.out)) hb); have n1_ := Aside0.mk (hbox); have n2_ := Aside0.mk ((by rw [hg]; exact (below_size (by repeat (first | (with_reducible first | exact HB.out | apply below_alloc | apply pw_below_drewN | apply below_drew1) | exact HB.out))) : w.heap.size ≤ gb103)); have n3_ := Aside0.mk ((by rw [hg]; exact (below_size (by repeat (first | (with_reducible first | exact HB.out | apply below_alloc | apply pw_below_drewN | apply below_drew1) | exact HB.out))) : w.heap.size ≤ gb103)); clear HB; have HB := n0_; have BK103 := n1_; have GW103 := n2_; have GE103 := n3_; clear n0_ n1_ n2_ n3_; clear hb hbox hg; have hcz4_0 : w3.cell? ⟨gb103, 0, none⟩ = some (.int .i64 a0_0) := (blk_cell BK103.out 0).trans rfl; have hcz4_1 : w3.cell? ⟨gb103, 1, none⟩ = some (.int .i64 a0_1) := (blk_cell BK103.out 1).trans rfl; have hfz4_0 := blk_frozen BK103.out 0; have hfz4_1 := blk_frozen BK103.out 1))
    go_ret
    exact ⟨by first | rfl | (simp [errW_none, errW_some] <;> rfl) | (simp [*, errW_none, errW_some] <;> rfl), by repeat (first | (with_reducible first | exact HB.out | apply below_alloc | apply pw_below_drewN | apply below_drew1 | refine below_set ?_ GE103.out) | exact HB.out)⟩
  · rw [if_neg c2] at H
    have c2b0 : decide (0 ≤ a0_0) = false := decide_eq_false c2
    clear c2
    obtain rfl := Option.some.inj H
    go_enter Try.func84, Try.ntmps84
    go_wp2_with (first | ((with_reducible refine gate_dst (N := 1) rfl ?_); refine box_event ?hg (N := 1) ?hd (cs := #[.int .i64 a0_0, .int .i64 a0_1]) (t := 60) ?hr ?_; (case hd => rfl); (case hg => rfl); (case hr => first | (go_simp; done) | (go_simp; rfl)); intro gb103 hg w5 hbox hb; have n0_ := Aside0.mk (below_step (by repeat (first | (with_reducible first | exact HB.out | apply below_alloc | apply pw_below_drewN | apply below_drew1) | exact HB.out)) hb); have n1_ := Aside0.mk (hbox); have n2_ := Aside0.mk ((by rw [hg]; exact (below_size (by repeat (first | (with_reducible first | exact HB.out | apply below_alloc | apply pw_below_drewN | apply below_drew1) | exact HB.out))) : w.heap.size ≤ gb103)); have n3_ := Aside0.mk ((by rw [hg]; exact (below_size (by repeat (first | (with_reducible first | exact HB.out | apply below_alloc | apply pw_below_drewN | apply below_drew1) | exact HB.out))) : w.heap.size ≤ gb103)); clear HB; have HB := n0_; have BK103 := n1_; have GW103 := n2_; have GE103 := n3_; clear n0_ n1_ n2_ n3_; clear hb hbox hg; have hcz6_0 : w5.cell? ⟨gb103, 0, none⟩ = some (.int .i64 a0_0) := (blk_cell BK103.out 0).trans rfl; have hcz6_1 : w5.cell? ⟨gb103, 1, none⟩ = some (.int .i64 a0_1) := (blk_cell BK103.out 1).trans rfl; have hfz6_0 := blk_frozen BK103.out 0; have hfz6_1 := blk_frozen BK103.out 1))
    go_ret
    exact ⟨by first | rfl | (simp [errW_none, errW_some] <;> rfl) | (simp [*, errW_none, errW_some] <;> rfl), by repeat (first | (with_reducible first | exact HB.out | apply below_alloc | apply pw_below_drewN | apply below_drew1 | refine below_set ?_ GE103.out) | exact HB.out)⟩

/-! ### slices_insertionSortCmpFunc_int: function 194 -/
section
open Go.Maps Go.Proofs.YtlojkphocbbjdabW.Sep Go.Proofs.YtlojkphocbbjdabW.Mapw Go.Proofs.YtlojkphocbbjdabW.Reg
def sort_clos.T1 : Bool × List (List Nat × List Nat) := (true, [([], []), ([], []), ([0, 1], [0, 1]), ([2], [2]), ([3], [3]), ([], []), ([], []), ([5, 6], [5, 6]), ([7], [7]), ([8], [8]), ([4, 9], [4, 9]), ([10, 10, 0, 1, 2, 3, 4, 5, 6, 7, 8, 9, 10], [10])])
def sort_clos.B1 : List Nat := [0, 0, 3, 7, 15, 0, 0, 96, 224, 480, 1023, 2047]
theorem sort_clos.tab1 : rtab .any (opsOf Try.f86 1) = sort_clos.T1 := by kernel_rfl
theorem sort_clos.bits1 : waitsOk sort_clos.T1.2 sort_clos.B1 = true := by kernel_rfl
def slices_insertionSortCmpFunc_int.T4 : Bool × List (List Nat × List Nat) := (true, [([], []), ([], []), ([0, 1], [0, 1]), ([2], [2]), ([3], [3]), ([3], [3]), ([3], [3]), ([5, 6, 3], [3, 5, 6]), ([7, 3], [3, 7]), ([3], [3]), ([3], [3]), ([10, 3], [3, 10]), ([9, 11, 3], [3, 9, 11]), ([12, 3], [3, 12]), ([4, 8, 13, 3, 3], [3, 4, 8, 13]), ([14, 3], [3, 14]), ([3, 15], [3, 15])])
def slices_insertionSortCmpFunc_int.B4 : List Nat := [0, 0, 3, 7, 15, 15, 15, 111, 239, 15, 15, 1039, 3599, 7695, 16383, 32767, 65535]
theorem slices_insertionSortCmpFunc_int.tab4 : rtab .any (opsOf Try.f194 4) = slices_insertionSortCmpFunc_int.T4 := by kernel_rfl
theorem slices_insertionSortCmpFunc_int.bits4 : waitsOk slices_insertionSortCmpFunc_int.T4.2 slices_insertionSortCmpFunc_int.B4 = true := by kernel_rfl
def cmpI (x y : Int) : Int := if x < y then -1 else if y < x then 1 else 0
theorem nan_walk (x : Int) (w : World) : Calls Try.prog 148 #[.int .i64 x] w fun e w' => e = .returned (.bool false) ∧ Below w.heap.size w w' := by
  have h1 : (x != x) = false := bne_self_eq_false x
  have h2 : (x == x) = true := beq_self_eq_true x
  go_enter Try.func148, Try.ntmps148
  go_wp2
  go_ret
  first | exact ⟨rfl, Below.refl _ _⟩ | exact ⟨by simp, Below.refl _ _⟩ | exact Below.refl _ _
theorem cmp_walk (x y : Int) (w : World) : Calls Try.prog 87 #[.int .i64 x, .int .i64 y] w fun e w' => e = .returned (.int .i64 (cmpI x y)) ∧ Below w.heap.size w w' := by
  have HBq := Aside0.mk (Below.refl w.heap.size w)
  by_cases h1 : x < y
  · have hb1 : decide (x < y) = true := decide_eq_true h1
    have HC := Aside0.mk (show cmpI x y = -1 from if_pos h1)
    go_enter Try.func87, Try.ntmps87
    go_wp2_with (first | (go_at_call 148; refine (nan_walk _ _).mono ?_; rintro e_ w' ⟨rfl, hb_⟩; replace HBq := Aside0.mk (below_step HBq.out hb_); clear hb_))
    go_ret
    exact ⟨by rw [HC.out]; rfl, HBq.out⟩
  have hb1 : decide (x < y) = false := decide_eq_false h1
  by_cases h2 : y < x
  · have hb2 : decide (y < x) = true := decide_eq_true h2
    have hb3 : decide (x > y) = true := decide_eq_true h2
    have HC := Aside0.mk (show cmpI x y = 1 by unfold cmpI; rw [if_neg h1, if_pos h2])
    go_enter Try.func87, Try.ntmps87
    go_wp2_with (first | (go_at_call 148; refine (nan_walk _ _).mono ?_; rintro e_ w' ⟨rfl, hb_⟩; replace HBq := Aside0.mk (below_step HBq.out hb_); clear hb_))
    go_ret
    exact ⟨by rw [HC.out]; rfl, HBq.out⟩
  have hb2 : decide (y < x) = false := decide_eq_false h2
  have hb3 : decide (x > y) = false := decide_eq_false h2
  have HC := Aside0.mk (show cmpI x y = 0 by unfold cmpI; rw [if_neg h1, if_neg h2])
  go_enter Try.func87, Try.ntmps87
  go_wp2_with (first | (go_at_call 148; refine (nan_walk _ _).mono ?_; rintro e_ w' ⟨rfl, hb_⟩; replace HBq := Aside0.mk (below_step HBq.out hb_); clear hb_))
  go_ret
  exact ⟨by rw [HC.out]; rfl, HBq.out⟩
set_option maxHeartbeats 4000000 in
set_option maxRecDepth 100000 in
theorem clos_walk (gl : Nat) (Al : Option Addr) (cl : Nat) (l : List S60) (a b : Int) (w : World) (hg : w.cell? ⟨gl, 0, none⟩ = some (.slice Al l.length cl)) (hl : Kd.C k60 w Al l.length l) (a0 : 0 ≤ a) (a1 : a < (l.length : Int)) (b0 : 0 ≤ b) (b1 : b < (l.length : Int)) :
    Calls Try.prog 86 #[.int .i64 a, .int .i64 b, .pointer (some ⟨gl, 0, none⟩)] w fun e w' => e = .returned (.int .i64 (cmpI (rd_T60 l a).f0 (rd_T60 l b).f0)) ∧ Below w.heap.size w w' := by
  obtain ⟨adl, e, hx0, _⟩ := at_T60 hl a a0 a1
  cases e
  obtain ⟨adl2, e, hy0, _⟩ := at_T60 hl b b0 b1
  obtain rfl := Option.some.inj e
  generalize rd_T60 l a = x at *
  generalize rd_T60 l b = y at *
  have HX0 := Aside0.mk hx0
  have HY0 := Aside0.mk hy0
  have HG := Aside0.mk hg
  have HS0 := Aside0.mk (St.nil (Below.refl w.heap.size w))
  clear hx0 hy0 hg hl e
  go_enter Try.func86, Try.ntmps86
  go_wp2
  refine st_ (fun w' => St w w' ([])) sort_clos.tab1 sort_clos.bits1 HS0.out.drew (fun HT_ HW_ hHeld => ?_)
  clear HS0
  generalize w.drew = w1_ at hHeld ⊢
  have HS2_ := Aside0.mk (show St w w1_ ([]) from hHeld)
  refine pu_ (v := ?_) (a' := ?_) HT_.out 1 (some 7) ?_ ?_ ?_; rotate_left 2; (intro w'; go_simp; with_reducible rfl); (simp only [Act.put, List.setIfInBounds_toArray, List.set_cons_zero, List.set_cons_succ, i64_w, i32_w]; rfl)
  refine pu_ (v := ?_) (a' := ?_) HT_.out 6 (some 12) ?_ ?_ ?_; rotate_left 2; (intro w'; go_simp; with_reducible rfl); (simp only [Act.put, List.setIfInBounds_toArray, List.set_cons_zero, List.set_cons_succ, i64_w, i32_w]; rfl)
  refine tk_ (v := ?_) (a' := ?_) HT_.out HW_.out hHeld 0 (some 6) ?_ ?_ ?_; rotate_left 2; (intro w' hS; have s0 : w'.cell? ⟨gl, 0, none⟩ = some (.slice (some adl) l.length cl) := (hS.below.cell (World.block_lt_of_cell? w _ HG.out)).trans HG.out; go_simp; with_reducible rfl); (simp only [Act.put, List.setIfInBounds_toArray, List.set_cons_zero, List.set_cons_succ, i64_w, i32_w]; rfl)
  refine pu_ (v := ?_) (a' := ?_) HT_.out 2 (some 8) ?_ ?_ ?_; rotate_left 2; (intro w'; go_simp; with_reducible rfl); (simp only [Act.put, List.setIfInBounds_toArray, List.set_cons_zero, List.set_cons_succ, i64_w, i32_w]; rfl)
  refine pu_ (v := ?_) (a' := ?_) HT_.out 3 (some 9) ?_ ?_ ?_; rotate_left 2; (intro w'; go_simp; with_reducible rfl); (simp only [Act.put, List.setIfInBounds_toArray, List.set_cons_zero, List.set_cons_succ, i64_w, i32_w]; rfl)
  refine tk_ (v := ?_) (a' := ?_) HT_.out HW_.out hHeld 4 (some 10) ?_ ?_ ?_; rotate_left 2; (intro w' hS; have s0 : w'.cell? (adl.add (a.toNat * 2)) = some (.int .i64 x.f0) := (hS.below.cell (World.block_lt_of_cell? w _ HX0.out)).trans HX0.out; go_simp; with_reducible rfl); (simp only [Act.put, List.setIfInBounds_toArray, List.set_cons_zero, List.set_cons_succ, i64_w, i32_w]; rfl)
  refine tk_ (v := ?_) (a' := ?_) HT_.out HW_.out hHeld 5 (some 11) ?_ ?_ ?_; rotate_left 2; (intro w' hS; have s0 : w'.cell? ⟨gl, 0, none⟩ = some (.slice (some adl) l.length cl) := (hS.below.cell (World.block_lt_of_cell? w _ HG.out)).trans HG.out; go_simp; with_reducible rfl); (simp only [Act.put, List.setIfInBounds_toArray, List.set_cons_zero, List.set_cons_succ, i64_w, i32_w]; rfl)
  refine pu_ (v := ?_) (a' := ?_) HT_.out 7 (some 13) ?_ ?_ ?_; rotate_left 2; (intro w'; go_simp; with_reducible rfl); (simp only [Act.put, List.setIfInBounds_toArray, List.set_cons_zero, List.set_cons_succ, i64_w, i32_w]; rfl)
  refine pu_ (v := ?_) (a' := ?_) HT_.out 8 (some 14) ?_ ?_ ?_; rotate_left 2; (intro w'; go_simp; with_reducible rfl); (simp only [Act.put, List.setIfInBounds_toArray, List.set_cons_zero, List.set_cons_succ, i64_w, i32_w]; rfl)
  refine tk_ (v := ?_) (a' := ?_) HT_.out HW_.out hHeld 9 (some 15) ?_ ?_ ?_; rotate_left 2; (intro w' hS; have s0 : w'.cell? (adl.add (b.toNat * 2)) = some (.int .i64 y.f0) := (hS.below.cell (World.block_lt_of_cell? w _ HY0.out)).trans HY0.out; go_simp; with_reducible rfl); (simp only [Act.put, List.setIfInBounds_toArray, List.set_cons_zero, List.set_cons_succ, i64_w, i32_w]; rfl)
  refine on_ HT_.out 10 (some 16) (fun K hK => ?_)
  refine goes_ Try.func87 (by kernel_rfl) rfl #[.int .i64 x.f0, .int .i64 y.f0] (by rfl) rfl rfl (by simp only [List.map_toArray, List.map_cons, List.map_nil]; rfl) ?_
  with_reducible refine (cmp_walk x.f0 y.f0 _).mono ?_
  rintro e_ w3_ ⟨rfl, hb_⟩
  refine ⟨_, rfl, ?_⟩
  have HS4_ := Aside0.mk (HS2_.out.call hb_)
  clear hb_ HS2_ hHeld
  refine hK.out _ _ (HS4_.out) (fun hHeld => ?_)
  clear hK K
  refine norm_ (a' := ?_) ?_ ?_; rotate_left; (show Act.put _ (some 16) _ = _; simp only [Act.put, List.setIfInBounds_toArray, List.set_cons_zero, List.set_cons_succ, i64_w, i32_w]; rfl)
  refine pu_ (v := ?_) (a' := ?_) HT_.out 11 (some 5) ?_ ?_ ?_; rotate_left 2; (intro w'; go_simp; with_reducible rfl); (simp only [Act.put, List.setIfInBounds_toArray, List.set_cons_zero, List.set_cons_succ, i64_w, i32_w]; rfl)
  refine dn_ HT_.out ?_
  clear hHeld HT_ HW_
  go_wp2
  go_ret
  exact ⟨rfl, HS4_.out.below⟩
/-- Already in order. -/
def srtB (l : List S60) (o : List Int) : Bool := (o.all fun k => decide (0 ≤ k) && decide (k < (l.length : Int))) && ((List.range o.length).all fun i => i == 0 || decide (0 ≤ cmpI (rd_T60 l (rd o (i : Nat))).f0 (rd_T60 l (rd o ((i : Int) - 1))).f0))
theorem srt_get {l : List S60} {o : List Int} (h : srtB l o = true) : (∀ i : Int, 0 ≤ i → i < (o.length : Int) → 0 ≤ rd o i ∧ rd o i < (l.length : Int)) ∧ ∀ i : Int, 0 < i → i < (o.length : Int) → 0 ≤ cmpI (rd_T60 l (rd o i)).f0 (rd_T60 l (rd o (i - 1))).f0 := by
  unfold srtB at h
  rw [Bool.and_eq_true, List.all_eq_true, List.all_eq_true] at h
  refine ⟨fun i h0 h1 => ?_, fun i h0 h1 => ?_⟩
  · have hm : rd o i ∈ o := by
      rw [rd, List.getD_eq_getElem?_getD, List.getElem?_eq_getElem (by omega), Option.getD_some]
      exact List.getElem_mem _
    have := h.1 _ hm
    simpa using this
  · have h2 := h.2 i.toNat (List.mem_range.2 (by omega))
    rw [Bool.or_eq_true] at h2
    rcases h2 with h2 | h2
    · have : i.toNat = 0 := by simpa using h2
      omega
    · have h3 := of_decide_eq_true h2
      rwa [Int.toNat_of_nonneg (by omega)] at h3
set_option maxHeartbeats 8000000 in
set_option maxRecDepth 100000 in
theorem ins_walk (gl : Nat) (Al : Option Addr) (cl : Nat) (l : List S60) (Ao : Option Addr) (co : Nat) (o : List Int) (w : World) (hg : w.cell? ⟨gl, 0, none⟩ = some (.slice Al l.length cl)) (hl : Kd.C k60 w Al l.length l) (ho : Kd.C (Kd.int .i64) w Ao o.length o) (hn : o.length < 20) (hs : srtB l o = true) :
    Calls Try.prog 194 #[.slice Ao o.length co, .int .i64 0, .int .i64 (o.length : Int), .func (.func 86) #[] #[.pointer (some ⟨gl, 0, none⟩)]] w fun e w' => e = .returned (.tuple #[]) ∧ Below w.heap.size w w' := by
  obtain ⟨hs1, hs2⟩ := srt_get hs
  have HS1 := Aside0.mk hs1
  have HS2 := Aside0.mk hs2
  have HG := Aside0.mk hg
  have HL := Aside0.mk hl
  have HOO := Aside0.mk ho
  have HN := Aside0.mk hn
  have HS0 := Aside0.mk (St.nil (Below.refl w.heap.size w))
  clear hg hl ho hs hs1 hs2 hn
  go_enter Try.func194, Try.ntmps194
  go_wp2
  go_loopw [8] (fun v8 wr => ∃ i : Int, v8 = .int .i64 i ∧ Aside0 (1 ≤ i) ∧ Aside0 (St w wr [])) (fun v8 _ => o.length - (intOf v8).toNat)
  case atStart => exact ⟨1, rfl, ⟨by omega⟩, HS0⟩
  case round =>
    clear HS0
    obtain ⟨i, rfl, Hi, HSr⟩ := hrel
    have hi0 : 1 ≤ i := Hi.out
    by_cases hlt : i < (o.length : Int)
    · have ht : decide (i < (o.length : Int)) = true := decide_eq_true hlt
      have HW := Aside0.mk (show wrap64 (i + 1) = i + 1 by have := HN.out; unfold wrap64; omega)
      go_wp2
      rename World => wo
      go_loopw [9] (fun v9 wr => v9 = .int .i64 i ∧ Aside0 (St w wr [])) (fun _ _ => 0)
      case atStart => exact ⟨rfl, HSr⟩
      case round =>
        clear HSr
        obtain ⟨rfl, HSr⟩ := hrel
        have hw1 : wrap64 (i - 1) = i - 1 := by have := HN.out; unfold wrap64; omega
        have hq0 : 0 ≤ wrap64 (i - 1) := by omega
        have hq1 : wrap64 (i - 1) < (o.length : Int) := by omega
        have hi1 : 0 ≤ i := by omega
        obtain ⟨ado, e, hx⟩ := Kd.at_int HOO.out i hi1 hlt
        cases e
        obtain ⟨ado2, e, hy⟩ := Kd.at_int HOO.out (wrap64 (i - 1)) hq0 hq1
        obtain rfl := Option.some.inj e
        have hX := HS1.out i hi1 hlt
        have hY := HS1.out (wrap64 (i - 1)) hq0 hq1
        have hC := HS2.out i (by omega) hlt
        rw [← hw1] at hC
        generalize rd o i = x at *
        generalize rd o (wrap64 (i - 1)) = y at *
        have HX0 := Aside0.mk hX
        have HY0 := Aside0.mk hY
        have HXC := Aside0.mk hx
        have HYC := Aside0.mk hy
        have hd0 : decide (0 < i) = true := decide_eq_true (by omega)
        have hd1 : decide (i > 0) = true := hd0
        have hd2 : decide (cmpI (rd_T60 l x).f0 (rd_T60 l y).f0 < 0) = false := decide_eq_false (by omega)
        clear hX hY hC hx hy e hw1
        go_wp2
        refine st_ (fun w' => St w w' ([])) slices_insertionSortCmpFunc_int.tab4 slices_insertionSortCmpFunc_int.bits4 HSr.out.drew (fun HT_ HW_ hHeld => ?_)
        clear HSr
        generalize wr.drew = w5_ at hHeld ⊢
        have HS6_ := Aside0.mk (show St w w5_ ([]) from hHeld)
        refine pu_ (v := ?_) (a' := ?_) HT_.out 0 (some 18) ?_ ?_ ?_; rotate_left 2; (intro w'; go_simp; with_reducible rfl); (simp only [Act.put, List.setIfInBounds_toArray, List.set_cons_zero, List.set_cons_succ, i64_w, i32_w]; rfl)
        refine pu_ (v := ?_) (a' := ?_) HT_.out 1 (some 19) ?_ ?_ ?_; rotate_left 2; (intro w'; go_simp; with_reducible rfl); (simp only [Act.put, List.setIfInBounds_toArray, List.set_cons_zero, List.set_cons_succ, i64_w, i32_w]; rfl)
        refine pu_ (v := ?_) (a' := ?_) HT_.out 2 (some 20) ?_ ?_ ?_; rotate_left 2; (intro w'; go_simp; with_reducible rfl); (simp only [Act.put, List.setIfInBounds_toArray, List.set_cons_zero, List.set_cons_succ, i64_w, i32_w]; rfl)
        refine pu_ (v := ?_) (a' := ?_) HT_.out 3 (some 21) ?_ ?_ ?_; rotate_left 2; (intro w'; go_simp; with_reducible rfl); (simp only [Act.put, List.setIfInBounds_toArray, List.set_cons_zero, List.set_cons_succ, i64_w, i32_w]; rfl)
        refine pu_ (v := ?_) (a' := ?_) HT_.out 4 (some 22) ?_ ?_ ?_; rotate_left 2; (intro w'; go_simp; with_reducible rfl); (simp only [Act.put, List.setIfInBounds_toArray, List.set_cons_zero, List.set_cons_succ, i64_w, i32_w]; rfl)
        refine pu_ (v := ?_) (a' := ?_) HT_.out 5 (some 23) ?_ ?_ ?_; rotate_left 2; (intro w'; go_simp; with_reducible rfl); (simp only [Act.put, List.setIfInBounds_toArray, List.set_cons_zero, List.set_cons_succ, i64_w, i32_w]; rfl)
        refine pu_ (v := ?_) (a' := ?_) HT_.out 6 (some 24) ?_ ?_ ?_; rotate_left 2; (intro w'; go_simp; with_reducible rfl); (simp only [Act.put, List.setIfInBounds_toArray, List.set_cons_zero, List.set_cons_succ, i64_w, i32_w]; rfl)
        refine pu_ (v := ?_) (a' := ?_) HT_.out 7 (some 25) ?_ ?_ ?_; rotate_left 2; (intro w'; go_simp; with_reducible rfl); (simp only [Act.put, List.setIfInBounds_toArray, List.set_cons_zero, List.set_cons_succ, i64_w, i32_w]; rfl)
        refine pu_ (v := ?_) (a' := ?_) HT_.out 9 (some 27) ?_ ?_ ?_; rotate_left 2; (intro w'; go_simp; with_reducible rfl); (simp only [Act.put, List.setIfInBounds_toArray, List.set_cons_zero, List.set_cons_succ, i64_w, i32_w]; rfl)
        refine pu_ (v := ?_) (a' := ?_) HT_.out 10 (some 28) ?_ ?_ ?_; rotate_left 2; (intro w'; go_simp; with_reducible rfl); (simp only [Act.put, List.setIfInBounds_toArray, List.set_cons_zero, List.set_cons_succ, i64_w, i32_w]; rfl)
        refine pu_ (v := ?_) (a' := ?_) HT_.out 11 (some 29) ?_ ?_ ?_; rotate_left 2; (intro w'; go_simp; with_reducible rfl); (simp only [Act.put, List.setIfInBounds_toArray, List.set_cons_zero, List.set_cons_succ, i64_w, i32_w]; rfl)
        refine pu_ (v := ?_) (a' := ?_) HT_.out 12 (some 30) ?_ ?_ ?_; rotate_left 2; (intro w'; go_simp; with_reducible rfl); (simp only [Act.put, List.setIfInBounds_toArray, List.set_cons_zero, List.set_cons_succ, i64_w, i32_w]; rfl)
        refine tk_ (v := ?_) (a' := ?_) HT_.out HW_.out hHeld 8 (some 26) ?_ ?_ ?_; rotate_left 2; (intro w' hS; have s0 : w'.cell? (ado.add i.toNat) = some (.int .i64 x) := (hS.below.cell (World.block_lt_of_cell? w _ HXC.out)).trans HXC.out; go_simp; with_reducible rfl); (simp only [Act.put, List.setIfInBounds_toArray, List.set_cons_zero, List.set_cons_succ, i64_w, i32_w]; rfl)
        refine tk_ (v := ?_) (a' := ?_) HT_.out HW_.out hHeld 13 (some 31) ?_ ?_ ?_; rotate_left 2; (intro w' hS; have s0 : w'.cell? (ado.add (wrap64 (i - 1)).toNat) = some (.int .i64 y) := (hS.below.cell (World.block_lt_of_cell? w _ HYC.out)).trans HYC.out; go_simp; with_reducible rfl); (simp only [Act.put, List.setIfInBounds_toArray, List.set_cons_zero, List.set_cons_succ, i64_w, i32_w]; rfl)
        refine on_ HT_.out 14 (some 32) (fun K hK => ?_)
        refine call_ 86 #[.int .i64 x, .int .i64 y, .pointer (some ⟨gl, 0, none⟩)] (by rfl) rfl ?_ ?_
        · go_simp; first | done | rfl
        refine (clos_walk gl Al cl l x y w5_ ((HS6_.out.below.cell (World.block_lt_of_cell? w _ HG.out)).trans HG.out) (Kd.C_below HL.out HS6_.out.below) HX0.out.1 HX0.out.2 HY0.out.1 HY0.out.2).mono ?_
        rintro e_ w9_ ⟨rfl, hb_⟩
        refine ⟨_, rfl, ?_⟩
        have HS10_ := Aside0.mk (HS6_.out.call hb_)
        clear hb_ HS6_
        try clear hHeld
        refine hK.out _ _ (HS10_.out) (fun hHeld => ?_)
        clear hK K
        refine norm_ (a' := ?_) ?_ ?_; rotate_left; (show Act.put _ (some 32) _ = _; simp only [Act.put, List.setIfInBounds_toArray, List.set_cons_zero, List.set_cons_succ, i64_w, i32_w]; rfl)
        refine pu_ (v := ?_) (a' := ?_) HT_.out 15 (some 33) ?_ ?_ ?_; rotate_left 2; (intro w'; go_simp; with_reducible rfl); (simp only [Act.put, List.setIfInBounds_toArray, List.set_cons_zero, List.set_cons_succ, i64_w, i32_w]; rfl)
        refine pu_ (v := ?_) (a' := ?_) HT_.out 16 (some 34) ?_ ?_ ?_; rotate_left 2; (intro w'; go_simp; with_reducible rfl); (simp only [Act.put, List.setIfInBounds_toArray, List.set_cons_zero, List.set_cons_succ, i64_w, i32_w]; rfl)
        refine dn_ HT_.out ?_
        clear hHeld HT_ HW_
        go_wp2
        go_roundw
        case rel => exact ⟨i + 1, by first | rw [HW.out] | rfl, ⟨by omega⟩, HS10_⟩
        case measure => simp only [intOf]; (try rw [HW.out]); omega
    · have ht : decide (i < (o.length : Int)) = false := decide_eq_false hlt
      go_wp2
      first | go_end0 | ((try simp only [Exit.inBlock, Exit.then]); refine bodyPost_ret (results_none rfl _ _ _) rfl ?_)
      exact ⟨rfl, HSr.out.below⟩
end

-- NOT PRINTED: function 232 (slices_swapRangeCmpFunc_int)

-- NOT PRINTED: function 225 (slices_rotateCmpFunc_int)

-- NOT PRINTED: function 195 (slices_symMergeCmpFunc_int)

/-! ### slices_stableCmpFunc_int: function 147 -/
section
open Go.Maps Go.Proofs.YtlojkphocbbjdabW.Sep Go.Proofs.YtlojkphocbbjdabW.Mapw Go.Proofs.YtlojkphocbbjdabW.Reg
set_option maxHeartbeats 4000000 in
set_option maxRecDepth 100000 in
theorem stab_walk (gl : Nat) (Al : Option Addr) (cl : Nat) (l : List S60) (Ao : Option Addr) (co : Nat) (o : List Int) (w : World) (hg : w.cell? ⟨gl, 0, none⟩ = some (.slice Al l.length cl)) (hl : Kd.C k60 w Al l.length l) (ho : Kd.C (Kd.int .i64) w Ao o.length o) (hn : o.length < 20) (hs : srtB l o = true) :
    Calls Try.prog 147 #[.slice Ao o.length co, .int .i64 (o.length : Int), .func (.func 86) #[] #[.pointer (some ⟨gl, 0, none⟩)]] w fun e w' => e = .returned (.tuple #[]) ∧ Below w.heap.size w w' := by
  have HG := Aside0.mk hg
  have HL := Aside0.mk hl
  have HOO := Aside0.mk ho
  have HN := Aside0.mk hn
  have HS := Aside0.mk hs
  have h20 : decide ((20 : Int) ≤ (o.length : Int)) = false := decide_eq_false (by omega)
  have h21 : decide ((20 : Int) < (o.length : Int)) = false := decide_eq_false (by omega)
  clear hg hl ho hn hs
  go_enter Try.func147, Try.ntmps147
  go_wp2
  go_loopw [7, 8] (fun v7 v8 wr => v7 = .int .i64 0 ∧ v8 = .int .i64 20 ∧ Aside0 (Below w.heap.size w wr)) (fun _ _ _ => 0)
  case atStart => exact ⟨rfl, rfl, ⟨Below.refl _ _⟩⟩
  case round =>
    obtain ⟨rfl, rfl, HB⟩ := hrel
    go_wp2_with (first | (go_at_call 194; refine (ins_walk gl Al cl l Ao co o _ ((HB.out.cell (World.block_lt_of_cell? w _ HG.out)).trans HG.out) (Kd.C_below HL.out HB.out) (Kd.C_below HOO.out HB.out) HN.out HS.out).mono ?_; rintro e_ w2 ⟨rfl, hb_⟩; have HB2 := Aside0.mk (below_step HB.out hb_); clear hb_))
    rename World => wo
    go_loopw [6] (fun v6 wr => v6 = .int .i64 20 ∧ Aside0 (Below w.heap.size w wr)) (fun _ _ => 0)
    case atStart => exact ⟨rfl, HB2⟩
    case round =>
      obtain ⟨rfl, HB3⟩ := hrel
      go_wp2
      first | go_end0 | ((try simp only [Exit.inBlock, Exit.then]); refine bodyPost_ret (results_none rfl _ _ _) rfl ?_)
      exact ⟨rfl, HB3.out⟩
end

/-! ### slices_SortStableFunc_int_int: function 85 -/
section
open Go.Maps Go.Proofs.YtlojkphocbbjdabW.Sep Go.Proofs.YtlojkphocbbjdabW.Mapw Go.Proofs.YtlojkphocbbjdabW.Reg
theorem sort_walk (gl : Nat) (Al : Option Addr) (cl : Nat) (l : List S60) (Ao : Option Addr) (co : Nat) (o : List Int) (w : World) (hg : w.cell? ⟨gl, 0, none⟩ = some (.slice Al l.length cl)) (hl : Kd.C k60 w Al l.length l) (ho : Kd.C (Kd.int .i64) w Ao o.length o) (hn : o.length < 20) (hs : srtB l o = true) :
    Calls Try.prog 85 #[.slice Ao o.length co, .func (.func 86) #[] #[.pointer (some ⟨gl, 0, none⟩)]] w fun e w' => e = .returned (.tuple #[]) ∧ Below w.heap.size w w' := by
  have HX := Aside0.mk (stab_walk gl Al cl l Ao co o w hg hl ho hn hs)
  clear hg hl ho hn hs
  go_enter Try.func85, Try.ntmps85
  go_wp2_with (first | (go_at_call 147; refine HX.out.mono ?_; rintro e_ w2 ⟨rfl, hb_⟩; have HB2 := Aside0.mk hb_; clear hb_))
  first | go_end0 | ((try simp only [Exit.inBlock, Exit.then]); refine bodyPost_ret (results_none rfl _ _ _) rfl ?_)
  exact ⟨rfl, HB2.out⟩
end

/-! ### cmp_isNaN_int: function 148 -/
/-! ### cmp_Compare_int: function 87 -/
-- NOT PRINTED: function 86 (scan_Assign_1)

/-! ### scan_least: function 89 -/
section
open Go.Maps Go.Proofs.YtlojkphocbbjdabW.Sep Go.Proofs.YtlojkphocbbjdabW.Mapw Go.Proofs.YtlojkphocbbjdabW.Reg
theorem scan_least.law : Go.Maps.Keyed Try.prog 3 := Go.Maps.int_keyed Try.underlying3
theorem scan_least.zero (w : World) : (zeroValue 199).run Try.prog w = .ok (.agg #[]) w := by kernel_rfl
def leastF (s : Int → Bool) : Nat → Int → Option Int
  | 0, _ => none
  | d + 1, n => if 0 ≤ n ∧ n < 1000000 then (if s n = true then leastF s d (n + 1) else some n) else none
set_option maxHeartbeats 2000000 in
theorem least_walk (d : Nat) (gm nn : Nat) (s : Int → Bool) (D : DU) (r : Int) (w : World) (hown : w.ownsMap Try.prog 3 unitElem gm nn D) (hs : Holds_ D s) (h : leastF s d 0 = some r) :
    Calls Try.prog 89 #[.map (some gm)] w fun e w' => e = .returned (.int .i64 r) ∧ Below w.heap.size w w' := by
  have HO := Aside0.mk hown
  have HH := Aside0.mk hs
  have HX0 := Aside0.mk h
  clear hown hs h
  go_enter Try.func89, Try.ntmps89
  go_wp2
  go_loopg [3] d (fun kq v3 wr => ∃ n : Int, v3 = .int .i64 n ∧ Aside0 (kq ≤ d) ∧ Aside0 (leastF s kq n = some r) ∧ Aside0 (Below w.heap.size w wr))
  case atStart => exact ⟨0, rfl, ⟨Nat.le_refl _⟩, HX0, ⟨Below.refl _ _⟩⟩
  case round =>
    clear HX0
    obtain ⟨n, rfl, HK1, HX, HB⟩ := hrel
    cases gk with
    | zero => exact absurd HX.out (by simp [leastF])
    | succ k1 =>
      have hx := HX.out
      rw [leastF] at hx
      clear HX
      split at hx
      case isFalse => cases hx
      rename_i hb
      have HW := Aside0.mk (show wrap64 (n + 1) = n + 1 by unfold wrap64; omega)
      have HWF := Aside0.mk (show (Lit.int .i64 n).wf = true from WalkArith.wf_i64 (by omega))
      have HO1 := Aside0.mk (own_at HO.out (HB.out.block gm (own_lt HO.out)))
      by_cases hs : s n = true
      · rw [if_pos hs] at hx
        have HX4 := Aside0.mk hx
        clear hx
        go_wp2_with (first | (at_lookup; refine wpList_lookup_own_unit _ rfl _ _ 132 rfl 3 199 scan_least.law Try.underlying132 (scan_least.zero _) gm nn D rfl HO1.out _ _ rfl (keyOf_int_mk Try.underlying3 HWF.out) ?_; rw [HH.out.2 n, hs]))
        go_roundg k1
        case measure => have := HK1.out; omega
        case rel => exact ⟨n + 1, by first | rw [HW.out] | rfl, ⟨by have := HK1.out; omega⟩, HX4, ⟨below_alloc HB.out _⟩⟩
      · rw [if_neg hs] at hx
        have hs := Bool.eq_false_iff.2 hs
        obtain rfl := Option.some.inj hx
        clear hx
        go_wp2_with (first | (at_lookup; refine wpList_lookup_own_unit _ rfl _ _ 132 rfl 3 199 scan_least.law Try.underlying132 (scan_least.zero _) gm nn D rfl HO1.out _ _ rfl (keyOf_int_mk Try.underlying3 HWF.out) ?_; rw [HH.out.2 n, hs]))
        go_ret
        exact ⟨rfl, below_alloc HB.out _⟩
end

/-! ### scan_meet: function 94 -/
def scan_meet.f (a0_0 : Int) (a0_1 : Int) (a1_0 : Int) (a1_1 : Int) : Option (Bool) := if a0_0 < a1_1 then (some (decide (a1_0 < a0_1))) else (some false)
set_option maxHeartbeats 8000000 in
set_option maxRecDepth 100000 in
theorem scan_meet.calls (a0_0 : Int) (a0_1 : Int) (a1_0 : Int) (a1_1 : Int) (r : Bool) (w : World) (h : scan_meet.f a0_0 a0_1 a1_0 a1_1 = some r) :
    Calls Try.prog 94 #[.agg #[.int .i64 a0_0, .int .i64 a0_1], .agg #[.int .i64 a1_0, .int .i64 a1_1]] w fun e w' => e = .returned (.bool r) ∧ Below w.heap.size w w' := by
  have hu60 := Try.underlying60
  have HB := Aside0.mk (Below.refl w.heap.size w)
  have H : (if a0_0 < a1_1 then (some (decide (a1_0 < a0_1))) else (some false)) = some r := h
  clear h
  by_cases c3 : a0_0 < a1_1
  · rw [if_pos c3] at H
    have c3b0 : decide (a0_0 < a1_1) = true := decide_eq_true c3
    clear c3
    obtain rfl := Option.some.inj H
    go_enter Try.func94, Try.ntmps94
    go_wp2_with (first | ((with_reducible refine gate_dst (N := 2) rfl ?_); refine box_event ?hg (N := 2) ?hd (cs := #[.int .i64 a0_0, .int .i64 a0_1]) (t := 60) ?hr ?_; (case hd => rfl); (case hg => rfl); (case hr => first | (go_simp; done) | (go_simp; rfl)); intro gb106 hg w4 hbox hb; have n0_ := Aside0.mk (below_step (by repeat (first | (with_reducible first | exact HB.out | apply below_alloc | apply pw_below_drewN | apply below_drew1) | exact HB.out)) hb); have n1_ := Aside0.mk (hbox); have n2_ := Aside0.mk ((by rw [hg]; exact (below_size (by repeat (first | (with_reducible first | exact HB.out | apply below_alloc | apply pw_below_drewN | apply below_drew1) | exact HB.out))) : w.heap.size ≤ gb106)); have n3_ := Aside0.mk ((by rw [hg]; exact (below_size (by repeat (first | (with_reducible first | exact HB.out | apply below_alloc | apply pw_below_drewN | apply below_drew1) | exact HB.out))) : w.heap.size ≤ gb106)); clear HB; have HB := n0_; have BK106 := n1_; have GW106 := n2_; have GE106 := n3_; clear n0_ n1_ n2_ n3_; clear hb hbox hg) | ((with_reducible refine gate_dst (N := 3) rfl ?_); refine box_event ?hg (N := 3) ?hd (cs := #[.int .i64 a1_0, .int .i64 a1_1]) (t := 60) ?hr ?_; (case hd => rfl); (case hg => rfl); (case hr => first | (go_simp; done) | (go_simp; rfl)); intro gb107 hg w5 hbox hb; have n0_ := Aside0.mk (blk_below (g := gb106) (o := .cells #[.int .i64 a0_0, .int .i64 a0_1] 60 (0, 0)) (by (with_reducible repeat (first | refine blk_drewN ?_ _ | refine blk_drew ?_ | refine blk_alloc ?_ _)); exact BK106.out) hb); have n1_ := Aside0.mk (below_step (by repeat (first | (with_reducible first | exact HB.out | apply below_alloc | apply pw_below_drewN | apply below_drew1 | refine below_set ?_ GE106.out) | exact HB.out)) hb); have n2_ := Aside0.mk (hbox); have n3_ := Aside0.mk ((by rw [hg]; exact (below_size (by repeat (first | (with_reducible first | exact HB.out | apply below_alloc | apply pw_below_drewN | apply below_drew1 | refine below_set ?_ GE106.out) | exact HB.out))) : w.heap.size ≤ gb107)); have n4_ := Aside0.mk ((by rw [hg]; exact (below_size (by repeat (first | (with_reducible first | exact HB.out | apply below_alloc | apply pw_below_drewN | apply below_drew1 | refine below_set ?_ GE106.out) | exact HB.out))) : w.heap.size ≤ gb107)); have n5_ := Aside0.mk ((by rw [hg]; exact Nat.ne_of_lt (blk_lt (g := gb106) (o := .cells #[.int .i64 a0_0, .int .i64 a0_1] 60 (0, 0)) (by (with_reducible repeat (first | refine blk_drewN ?_ _ | refine blk_drew ?_ | refine blk_alloc ?_ _)); exact BK106.out)) : gb106 ≠ gb107)); have n6_ := Aside0.mk ((by rw [hg]; exact Nat.ne_of_gt (blk_lt (g := gb106) (o := .cells #[.int .i64 a0_0, .int .i64 a0_1] 60 (0, 0)) (by (with_reducible repeat (first | refine blk_drewN ?_ _ | refine blk_drew ?_ | refine blk_alloc ?_ _)); exact BK106.out)) : gb107 ≠ gb106)); clear BK106; clear HB; have BK106 := n0_; have HB := n1_; have BK107 := n2_; have GW107 := n3_; have GE107 := n4_; have NB106_107 := n5_; have NB107_106 := n6_; clear n0_ n1_ n2_ n3_ n4_ n5_ n6_; clear hb hbox hg; have hnb6 := NB106_107.out; have hnc6 := NB107_106.out; have hcz7_0 : w5.cell? ⟨gb106, 0, none⟩ = some (.int .i64 a0_0) := (blk_cell BK106.out 0).trans rfl; have hcz7_1 : w5.cell? ⟨gb106, 1, none⟩ = some (.int .i64 a0_1) := (blk_cell BK106.out 1).trans rfl; have hfz7_0 := blk_frozen BK106.out 0; have hfz7_1 := blk_frozen BK106.out 1; have hcz8_0 : w5.cell? ⟨gb107, 0, none⟩ = some (.int .i64 a1_0) := (blk_cell BK107.out 0).trans rfl; have hcz8_1 : w5.cell? ⟨gb107, 1, none⟩ = some (.int .i64 a1_1) := (blk_cell BK107.out 1).trans rfl; have hfz8_0 := blk_frozen BK107.out 0; have hfz8_1 := blk_frozen BK107.out 1))
    go_ret
    exact ⟨by first | rfl | (simp [errW_none, errW_some] <;> rfl) | (simp [*, errW_none, errW_some] <;> rfl), by repeat (first | (with_reducible first | exact HB.out | apply below_alloc | apply pw_below_drewN | apply below_drew1 | refine below_set ?_ GE106.out | refine below_set ?_ GE107.out) | exact HB.out)⟩
  · rw [if_neg c3] at H
    have c3b0 : decide (a0_0 < a1_1) = false := decide_eq_false c3
    clear c3
    obtain rfl := Option.some.inj H
    go_enter Try.func94, Try.ntmps94
    go_wp2_with (first | ((with_reducible refine gate_dst (N := 2) rfl ?_); refine box_event ?hg (N := 2) ?hd (cs := #[.int .i64 a0_0, .int .i64 a0_1]) (t := 60) ?hr ?_; (case hd => rfl); (case hg => rfl); (case hr => first | (go_simp; done) | (go_simp; rfl)); intro gb106 hg w9 hbox hb; have n0_ := Aside0.mk (below_step (by repeat (first | (with_reducible first | exact HB.out | apply below_alloc | apply pw_below_drewN | apply below_drew1) | exact HB.out)) hb); have n1_ := Aside0.mk (hbox); have n2_ := Aside0.mk ((by rw [hg]; exact (below_size (by repeat (first | (with_reducible first | exact HB.out | apply below_alloc | apply pw_below_drewN | apply below_drew1) | exact HB.out))) : w.heap.size ≤ gb106)); have n3_ := Aside0.mk ((by rw [hg]; exact (below_size (by repeat (first | (with_reducible first | exact HB.out | apply below_alloc | apply pw_below_drewN | apply below_drew1) | exact HB.out))) : w.heap.size ≤ gb106)); clear HB; have HB := n0_; have BK106 := n1_; have GW106 := n2_; have GE106 := n3_; clear n0_ n1_ n2_ n3_; clear hb hbox hg) | ((with_reducible refine gate_dst (N := 3) rfl ?_); refine box_event ?hg (N := 3) ?hd (cs := #[.int .i64 a1_0, .int .i64 a1_1]) (t := 60) ?hr ?_; (case hd => rfl); (case hg => rfl); (case hr => first | (go_simp; done) | (go_simp; rfl)); intro gb107 hg w10 hbox hb; have n0_ := Aside0.mk (blk_below (g := gb106) (o := .cells #[.int .i64 a0_0, .int .i64 a0_1] 60 (0, 0)) (by (with_reducible repeat (first | refine blk_drewN ?_ _ | refine blk_drew ?_ | refine blk_alloc ?_ _)); exact BK106.out) hb); have n1_ := Aside0.mk (below_step (by repeat (first | (with_reducible first | exact HB.out | apply below_alloc | apply pw_below_drewN | apply below_drew1 | refine below_set ?_ GE106.out) | exact HB.out)) hb); have n2_ := Aside0.mk (hbox); have n3_ := Aside0.mk ((by rw [hg]; exact (below_size (by repeat (first | (with_reducible first | exact HB.out | apply below_alloc | apply pw_below_drewN | apply below_drew1 | refine below_set ?_ GE106.out) | exact HB.out))) : w.heap.size ≤ gb107)); have n4_ := Aside0.mk ((by rw [hg]; exact (below_size (by repeat (first | (with_reducible first | exact HB.out | apply below_alloc | apply pw_below_drewN | apply below_drew1 | refine below_set ?_ GE106.out) | exact HB.out))) : w.heap.size ≤ gb107)); have n5_ := Aside0.mk ((by rw [hg]; exact Nat.ne_of_lt (blk_lt (g := gb106) (o := .cells #[.int .i64 a0_0, .int .i64 a0_1] 60 (0, 0)) (by (with_reducible repeat (first | refine blk_drewN ?_ _ | refine blk_drew ?_ | refine blk_alloc ?_ _)); exact BK106.out)) : gb106 ≠ gb107)); have n6_ := Aside0.mk ((by rw [hg]; exact Nat.ne_of_gt (blk_lt (g := gb106) (o := .cells #[.int .i64 a0_0, .int .i64 a0_1] 60 (0, 0)) (by (with_reducible repeat (first | refine blk_drewN ?_ _ | refine blk_drew ?_ | refine blk_alloc ?_ _)); exact BK106.out)) : gb107 ≠ gb106)); clear BK106; clear HB; have BK106 := n0_; have HB := n1_; have BK107 := n2_; have GW107 := n3_; have GE107 := n4_; have NB106_107 := n5_; have NB107_106 := n6_; clear n0_ n1_ n2_ n3_ n4_ n5_ n6_; clear hb hbox hg; have hnb11 := NB106_107.out; have hnc11 := NB107_106.out; have hcz12_0 : w10.cell? ⟨gb106, 0, none⟩ = some (.int .i64 a0_0) := (blk_cell BK106.out 0).trans rfl; have hcz12_1 : w10.cell? ⟨gb106, 1, none⟩ = some (.int .i64 a0_1) := (blk_cell BK106.out 1).trans rfl; have hfz12_0 := blk_frozen BK106.out 0; have hfz12_1 := blk_frozen BK106.out 1; have hcz13_0 : w10.cell? ⟨gb107, 0, none⟩ = some (.int .i64 a1_0) := (blk_cell BK107.out 0).trans rfl; have hcz13_1 : w10.cell? ⟨gb107, 1, none⟩ = some (.int .i64 a1_1) := (blk_cell BK107.out 1).trans rfl; have hfz13_0 := blk_frozen BK107.out 0; have hfz13_1 := blk_frozen BK107.out 1))
    go_ret
    exact ⟨by first | rfl | (simp [errW_none, errW_some] <;> rfl) | (simp [*, errW_none, errW_some] <;> rfl), by repeat (first | (with_reducible first | exact HB.out | apply below_alloc | apply pw_below_drewN | apply below_drew1 | refine below_set ?_ GE106.out | refine below_set ?_ GE107.out) | exact HB.out)⟩

/-! ### scan_scanner_busy: function 90 -/
section
open Go.Maps Go.Proofs.YtlojkphocbbjdabW.Sep Go.Proofs.YtlojkphocbbjdabW.Mapw Go.Proofs.YtlojkphocbbjdabW.Reg
def scan_scanner_busy.T6 : Bool × List (List Nat × List Nat) := (true, [([], []), ([], []), ([0, 1], [0, 1]), ([2], [2]), ([3], [3]), ([4, 3], [3, 4]), ([3, 5], [3, 5]), ([6, 3], [6]), ([7], [7]), ([8, 7], [7, 8]), ([9, 7], [7, 9]), ([10, 7], [7, 10]), ([7], [7]), ([11, 12, 7], [7, 11, 12]), ([13, 7], [7, 13]), ([7], [7]), ([15, 7], [7, 15]), ([16, 7], [7, 16]), ([17, 7], [7, 17]), ([7], [7]), ([18, 19, 7], [7, 18, 19]), ([20, 7], [7, 20]), ([14, 21, 7, 7], [7, 14, 21]), ([7, 22], [7, 22])])
def scan_scanner_busy.B6 : List Nat := [0, 0, 3, 7, 15, 31, 63, 127, 255, 511, 1023, 2047, 255, 8191, 16383, 255, 33023, 98559, 229631, 255, 1016063, 2064639, 4194303, 8388607]
theorem scan_scanner_busy.tab6 : rtab .any (opsOf Try.f90 6) = scan_scanner_busy.T6 := by kernel_rfl
theorem scan_scanner_busy.bits6 : waitsOk scan_scanner_busy.T6.2 scan_scanner_busy.B6 = true := by kernel_rfl
def busyF (l : List S60) (at_ : List S54) (n : Int) (pl : S54 → Int) : List Int → (Int → Bool) → Option (Int → Bool)
  | [], s => some s
  | k :: o, s => if (0 ≤ k ∧ k < (at_.length : Int) ∧ k < (l.length : Int)) ∧ (Lit.int .i64 (pl (rd_T54 at_ k))).wf = true then (if k = n then busyF l at_ n pl o s else if 0 ≤ pl (rd_T54 at_ k) then (scan_meet.f (rd_T60 l k).f0 (rd_T60 l k).f1 (rd_T60 l n).f0 (rd_T60 l n).f1).bind fun b => if b = true then busyF l at_ n pl o (fun b => decide (b = pl (rd_T54 at_ k)) || s b) else busyF l at_ n pl o s else busyF l at_ n pl o s) else none
def busyS (l : List S60) (at_ : List S54) (n : Int) (pl : S54 → Int) (o : List Int) : Option (Int → Bool) := if 0 ≤ n ∧ n < (l.length : Int) ∧ o.length < 1000000 then busyF l at_ n pl o (fun _ => false) else none
set_option maxHeartbeats 8000000 in
set_option maxRecDepth 100000 in
theorem busy_walk (w0 w : World) (L : List Asn) (g : Nat) (Al : Option Addr) (cl : Nat) (l : List S60) (Aa : Option Addr) (ca : Nat) (at_ : List S54) (Ao : Option Addr) (co : Nat) (o : List Int) (n : Int) (cid : Nat) (pl : S54 → Int) (r : Int → Bool) (hl : Kd.C k60 w0 Al l.length l) (hcf : ∀ (args : Array Value) (W : World), Sem.run Try.prog (callFunc cid args) W = .ok (.enter cid args) W)
    (hf : ∀ (x : S54) (W : World), Calls Try.prog cid #[.agg #[.int .i64 x.f0, .int .i64 x.f1]] W fun e w' => e = .returned (.int .i64 (pl x)) ∧ Below W.heap.size W w') (hS : St w0 w ((blkA g #[.slice Al l.length cl, .slice Aa at_.length ca, .slice Ao o.length co] 128) :: (rowA w0.heap.size k54 54 (.slice Aa at_.length ca) at_) :: (rowA w0.heap.size (Kd.int .i64) 3 (.slice Ao o.length co) o) :: L)) (h : busyS l at_ n pl o = some r) :
    Calls Try.prog 90 #[.pointer (some ⟨g, 0, none⟩), .int .i64 n, .func (.func cid) #[] #[]] w fun e w' => ∃ gm : Nat, e = .returned (.map (some gm)) ∧ ∃ nn : Nat, St w0 w' ((setA Try.prog 3 gm nn r) :: (blkA g #[.slice Al l.length cl, .slice Aa at_.length ca, .slice Ao o.length co] 128) :: (rowA w0.heap.size k54 54 (.slice Aa at_.length ca) at_) :: (rowA w0.heap.size (Kd.int .i64) 3 (.slice Ao o.length co) o) :: L) := by
  unfold busyS at h
  split at h
  case isFalse => cases h
  rename_i hn
  have HF := Aside0.mk hf
  have HL := Aside0.mk hl
  have HN := Aside0.mk hn
  have HX0 := Aside0.mk (show busyF l at_ n pl (o.drop (0 : Int).toNat) (fun _ => false) = some r from h)
  have HSm := Aside0.mk (hS.setN Try.prog 3)
  have cm_ : (w.alloc (.map #[] 0)).cell? ⟨g, 2, none⟩ = some (.slice Ao o.length co) := (HSm.out.cell 1 rfl 2).trans rfl
  have hmm := @run_makeMap Try.prog
  clear hf hl hn h hS
  go_enter Try.func90, Try.ntmps90
  go_wp2
  clear hmm cm_
  generalize w.heap.size = gm at *
  go_loopw [17] (fun v17 wr => ∃ (i : Int) (nn : Nat) (s : Int → Bool), v17 = .int .i64 i ∧ Aside0 (0 ≤ i ∧ i ≤ o.length) ∧ Aside0 (nn ≤ i.toNat) ∧ Aside0 (busyF l at_ n pl (o.drop i.toNat) s = some r) ∧ Aside0 (St w0 wr ((setA Try.prog 3 gm nn s) :: (blkA g #[.slice Al l.length cl, .slice Aa at_.length ca, .slice Ao o.length co] 128) :: (rowA w0.heap.size k54 54 (.slice Aa at_.length ca) at_) :: (rowA w0.heap.size (Kd.int .i64) 3 (.slice Ao o.length co) o) :: L))) (fun v17 _ => o.length - (intOf v17).toNat)
  case atStart => exact ⟨0, 0, _, rfl, ⟨by omega⟩, ⟨by omega⟩, HX0, HSm⟩
  case round =>
    clear HSm HX0
    obtain ⟨i, nn, s, rfl, Hi, Hn, HX, HSr⟩ := hrel
    have hi0 : 0 ≤ i := Hi.out.1
    by_cases hlt : i < (o.length : Int)
    · have ht : decide (i < (o.length : Int)) = true := decide_eq_true hlt
      have HW := Aside0.mk (show wrap64 (i + 1) = i + 1 by have := HN.out; unfold wrap64; omega)
      have HNM := Aside0.mk (show nn < maxLen by have := HN.out; have := Hn.out; unfold maxLen; omega)
      have hd : o.drop i.toNat = rd o i :: o.drop (i + 1).toNat := by
        rw [List.drop_eq_getElem_cons (by omega), show (i + 1).toNat = i.toNat + 1 by omega]
        congr 1
        rw [rd, List.getD_eq_getElem?_getD, List.getElem?_eq_getElem (by omega), Option.getD_some]
      have hx := HX.out
      rw [hd, busyF] at hx
      clear hd HX
      obtain ⟨ado, e, hk⟩ := Kd.at_int (Kd.R_reads' (HSr.out.row 3 rfl)).2.2 i hi0 hlt
      cases e
      generalize rd o i = k at *
      split at hx
      case isFalse => cases hx
      rename_i hb
      obtain ⟨⟨k0, k1, k2⟩, hwf⟩ := hb
      obtain ⟨ada, e, hm0, hm1⟩ := at_T54 (Kd.R_reads' (HSr.out.row 2 rfl)).2.2 k k0 k1
      cases e
      generalize rd_T54 at_ k = m at *
      have HK := Aside0.mk (keyOf_int_mk Try.underlying3 hwf)
      have cg1 : wr.cell? ⟨g, 1, none⟩ = some (.slice (some ada) at_.length ca) := (HSr.out.cell 1 rfl 1).trans rfl
      have cg2 : wr.cell? ⟨g, 2, none⟩ = some (.slice (some ado) o.length co) := (HSr.out.cell 1 rfl 2).trans rfl
      clear hwf
      by_cases c1 : k = n
      · rw [if_pos c1] at hx
        have HX4 := Aside0.mk hx
        have hc1 : (k == n) = true := beq_iff_eq.mpr c1
        have hc2 : (k != n) = false := bne_eq_false_iff_eq.mpr c1
        clear hx c1
        go_wp2_with (first | (refine (HF.out m _).mono ?_; rintro e_ w11_ ⟨rfl, hb_⟩; have HS12_ : Aside0 (St w0 w11_ ((setA Try.prog 3 gm nn s) :: (blkA g #[.slice Al l.length cl, .slice (some ada) at_.length ca, .slice (some ado) o.length co] 128) :: (rowA w0.heap.size k54 54 (.slice (some ada) at_.length ca) at_) :: (rowA w0.heap.size (Kd.int .i64) 3 (.slice (some ado) o.length co) o) :: L)) := ⟨HSr.out.call hb_⟩; clear hb_ HSr cg1 cg2))
        refine st_ (fun w' => St w0 w' ((setA Try.prog 3 gm nn s) :: (blkA g #[.slice Al l.length cl, .slice (some ada) at_.length ca, .slice (some ado) o.length co] 128) :: (rowA w0.heap.size k54 54 (.slice (some ada) at_.length ca) at_) :: (rowA w0.heap.size (Kd.int .i64) 3 (.slice (some ado) o.length co) o) :: L)) scan_scanner_busy.tab6 scan_scanner_busy.bits6 HS12_.out.drew (fun HT_ HW_ hHeld => ?_)
        clear HS12_
        generalize w11_.drew = w13_ at hHeld ⊢
        have HS14_ := Aside0.mk (show St w0 w13_ ((setA Try.prog 3 gm nn s) :: (blkA g #[.slice Al l.length cl, .slice (some ada) at_.length ca, .slice (some ado) o.length co] 128) :: (rowA w0.heap.size k54 54 (.slice (some ada) at_.length ca) at_) :: (rowA w0.heap.size (Kd.int .i64) 3 (.slice (some ado) o.length co) o) :: L) from hHeld)
        refine pu_ (v := ?_) (a' := ?_) HT_.out 0 (some 30) ?_ ?_ ?_; rotate_left 2; (intro w'; go_simp; with_reducible rfl); (simp only [Act.put, List.setIfInBounds_toArray, List.set_cons_zero, List.set_cons_succ, i64_w, i32_w]; rfl)
        refine pu_ (v := ?_) (a' := ?_) HT_.out 1 (some 31) ?_ ?_ ?_; rotate_left 2; (intro w'; go_simp; with_reducible rfl); (simp only [Act.put, List.setIfInBounds_toArray, List.set_cons_zero, List.set_cons_succ, i64_w, i32_w]; rfl)
        refine pu_ (v := ?_) (a' := ?_) HT_.out 2 (some 32) ?_ ?_ ?_; rotate_left 2; (intro w'; go_simp; with_reducible rfl); (simp only [Act.put, List.setIfInBounds_toArray, List.set_cons_zero, List.set_cons_succ, i64_w, i32_w]; rfl)
        refine pu_ (v := ?_) (a' := ?_) HT_.out 3 (some 33) ?_ ?_ ?_; rotate_left 2; (intro w'; go_simp; with_reducible rfl); (simp only [Act.put, List.setIfInBounds_toArray, List.set_cons_zero, List.set_cons_succ, i64_w, i32_w]; rfl)
        refine un_ (a' := ?_) HT_.out 4 (some 34) ?_ ?_; rotate_left; (simp only [Act.put, List.setIfInBounds_toArray, List.set_cons_zero, List.set_cons_succ, i64_w, i32_w]; rfl)
        refine un_ (a' := ?_) HT_.out 5 (some 35) ?_ ?_; rotate_left; (simp only [Act.put, List.setIfInBounds_toArray, List.set_cons_zero, List.set_cons_succ, i64_w, i32_w]; rfl)
        refine pu_ (v := ?_) (a' := ?_) HT_.out 6 (some 36) ?_ ?_ ?_; rotate_left 2; (intro w'; go_simp; with_reducible rfl); (simp only [Act.put, List.setIfInBounds_toArray, List.set_cons_zero, List.set_cons_succ, i64_w, i32_w]; rfl)
        refine pu_ (v := ?_) (a' := ?_) HT_.out 7 (some 37) ?_ ?_ ?_; rotate_left 2; (intro w'; go_simp; with_reducible rfl); (simp only [Act.put, List.setIfInBounds_toArray, List.set_cons_zero, List.set_cons_succ, i64_w, i32_w]; rfl)
        refine un_ (a' := ?_) HT_.out 8 (some 38) ?_ ?_; rotate_left; (simp only [Act.put, List.setIfInBounds_toArray, List.set_cons_zero, List.set_cons_succ, i64_w, i32_w]; rfl)
        refine un_ (a' := ?_) HT_.out 9 (some 39) ?_ ?_; rotate_left; (simp only [Act.put, List.setIfInBounds_toArray, List.set_cons_zero, List.set_cons_succ, i64_w, i32_w]; rfl)
        refine un_ (a' := ?_) HT_.out 10 (some 40) ?_ ?_; rotate_left; (simp only [Act.put, List.setIfInBounds_toArray, List.set_cons_zero, List.set_cons_succ, i64_w, i32_w]; rfl)
        refine un_ (a' := ?_) HT_.out 11 (some 41) ?_ ?_; rotate_left; (simp only [Act.put, List.setIfInBounds_toArray, List.set_cons_zero, List.set_cons_succ, i64_w, i32_w]; rfl)
        refine un_ (a' := ?_) HT_.out 12 (some 42) ?_ ?_; rotate_left; (simp only [Act.put, List.setIfInBounds_toArray, List.set_cons_zero, List.set_cons_succ, i64_w, i32_w]; rfl)
        refine un_ (a' := ?_) HT_.out 13 (some 43) ?_ ?_; rotate_left; (simp only [Act.put, List.setIfInBounds_toArray, List.set_cons_zero, List.set_cons_succ, i64_w, i32_w]; rfl)
        refine un_ (a' := ?_) HT_.out 14 (some 44) ?_ ?_; rotate_left; (simp only [Act.put, List.setIfInBounds_toArray, List.set_cons_zero, List.set_cons_succ, i64_w, i32_w]; rfl)
        refine un_ (a' := ?_) HT_.out 15 (some 45) ?_ ?_; rotate_left; (simp only [Act.put, List.setIfInBounds_toArray, List.set_cons_zero, List.set_cons_succ, i64_w, i32_w]; rfl)
        refine un_ (a' := ?_) HT_.out 16 (some 46) ?_ ?_; rotate_left; (simp only [Act.put, List.setIfInBounds_toArray, List.set_cons_zero, List.set_cons_succ, i64_w, i32_w]; rfl)
        refine un_ (a' := ?_) HT_.out 17 (some 47) ?_ ?_; rotate_left; (simp only [Act.put, List.setIfInBounds_toArray, List.set_cons_zero, List.set_cons_succ, i64_w, i32_w]; rfl)
        refine un_ (a' := ?_) HT_.out 18 (some 48) ?_ ?_; rotate_left; (simp only [Act.put, List.setIfInBounds_toArray, List.set_cons_zero, List.set_cons_succ, i64_w, i32_w]; rfl)
        refine un_ (a' := ?_) HT_.out 19 (some 49) ?_ ?_; rotate_left; (simp only [Act.put, List.setIfInBounds_toArray, List.set_cons_zero, List.set_cons_succ, i64_w, i32_w]; rfl)
        refine un_ (a' := ?_) HT_.out 20 (some 50) ?_ ?_; rotate_left; (simp only [Act.put, List.setIfInBounds_toArray, List.set_cons_zero, List.set_cons_succ, i64_w, i32_w]; rfl)
        refine un_ (a' := ?_) HT_.out 21 (some 51) ?_ ?_; rotate_left; (simp only [Act.put, List.setIfInBounds_toArray, List.set_cons_zero, List.set_cons_succ, i64_w, i32_w]; rfl)
        refine un_ (a' := ?_) HT_.out 22 (some 52) ?_ ?_; rotate_left; (simp only [Act.put, List.setIfInBounds_toArray, List.set_cons_zero, List.set_cons_succ, i64_w, i32_w]; rfl)
        refine pu_ (v := ?_) (a' := ?_) HT_.out 23 (some 53) ?_ ?_ ?_; rotate_left 2; (intro w'; go_simp; with_reducible rfl); (simp only [Act.put, List.setIfInBounds_toArray, List.set_cons_zero, List.set_cons_succ, i64_w, i32_w]; rfl)
        refine dn_ HT_.out ?_
        clear hHeld HT_ HW_
        go_wp2
        go_roundw
        case rel => exact ⟨i + 1, nn, _, by first | rw [HW.out] | rfl, ⟨by omega⟩, ⟨by have := Hn.out; omega⟩, HX4, HS14_⟩
        case measure => simp only [intOf]; (try rw [HW.out]); omega
      rw [if_neg c1] at hx
      have hc1 : (k == n) = false := beq_eq_false_iff_ne.mpr c1
      have hc2 : (k != n) = true := bne_iff_ne.mpr c1
      clear c1
      by_cases c2 : 0 ≤ pl m
      case neg =>
        rw [if_neg c2] at hx
        have HX4 := Aside0.mk hx
        have hc3 : decide (0 ≤ pl m) = false := decide_eq_false c2
        have hc4 : decide (pl m ≥ 0) = false := decide_eq_false c2
        clear hx c2
        go_wp2_with (first | (refine (HF.out m _).mono ?_; rintro e_ w15_ ⟨rfl, hb_⟩; have HS16_ : Aside0 (St w0 w15_ ((setA Try.prog 3 gm nn s) :: (blkA g #[.slice Al l.length cl, .slice (some ada) at_.length ca, .slice (some ado) o.length co] 128) :: (rowA w0.heap.size k54 54 (.slice (some ada) at_.length ca) at_) :: (rowA w0.heap.size (Kd.int .i64) 3 (.slice (some ado) o.length co) o) :: L)) := ⟨HSr.out.call hb_⟩; clear hb_ HSr cg1 cg2))
        refine st_ (fun w' => St w0 w' ((setA Try.prog 3 gm nn s) :: (blkA g #[.slice Al l.length cl, .slice (some ada) at_.length ca, .slice (some ado) o.length co] 128) :: (rowA w0.heap.size k54 54 (.slice (some ada) at_.length ca) at_) :: (rowA w0.heap.size (Kd.int .i64) 3 (.slice (some ado) o.length co) o) :: L)) scan_scanner_busy.tab6 scan_scanner_busy.bits6 HS16_.out.drew (fun HT_ HW_ hHeld => ?_)
        clear HS16_
        generalize w15_.drew = w17_ at hHeld ⊢
        have HS18_ := Aside0.mk (show St w0 w17_ ((setA Try.prog 3 gm nn s) :: (blkA g #[.slice Al l.length cl, .slice (some ada) at_.length ca, .slice (some ado) o.length co] 128) :: (rowA w0.heap.size k54 54 (.slice (some ada) at_.length ca) at_) :: (rowA w0.heap.size (Kd.int .i64) 3 (.slice (some ado) o.length co) o) :: L) from hHeld)
        refine pu_ (v := ?_) (a' := ?_) HT_.out 0 (some 30) ?_ ?_ ?_; rotate_left 2; (intro w'; go_simp; with_reducible rfl); (simp only [Act.put, List.setIfInBounds_toArray, List.set_cons_zero, List.set_cons_succ, i64_w, i32_w]; rfl)
        refine pu_ (v := ?_) (a' := ?_) HT_.out 1 (some 31) ?_ ?_ ?_; rotate_left 2; (intro w'; go_simp; with_reducible rfl); (simp only [Act.put, List.setIfInBounds_toArray, List.set_cons_zero, List.set_cons_succ, i64_w, i32_w]; rfl)
        refine pu_ (v := ?_) (a' := ?_) HT_.out 2 (some 32) ?_ ?_ ?_; rotate_left 2; (intro w'; go_simp; with_reducible rfl); (simp only [Act.put, List.setIfInBounds_toArray, List.set_cons_zero, List.set_cons_succ, i64_w, i32_w]; rfl)
        refine pu_ (v := ?_) (a' := ?_) HT_.out 3 (some 33) ?_ ?_ ?_; rotate_left 2; (intro w'; go_simp; with_reducible rfl); (simp only [Act.put, List.setIfInBounds_toArray, List.set_cons_zero, List.set_cons_succ, i64_w, i32_w]; rfl)
        refine pu_ (v := ?_) (a' := ?_) HT_.out 4 (some 34) ?_ ?_ ?_; rotate_left 2; (intro w'; go_simp; with_reducible rfl); (simp only [Act.put, List.setIfInBounds_toArray, List.set_cons_zero, List.set_cons_succ, i64_w, i32_w]; rfl)
        refine pu_ (v := ?_) (a' := ?_) HT_.out 5 (some 35) ?_ ?_ ?_; rotate_left 2; (intro w'; go_simp; with_reducible rfl); (simp only [Act.put, List.setIfInBounds_toArray, List.set_cons_zero, List.set_cons_succ, i64_w, i32_w]; rfl)
        refine pu_ (v := ?_) (a' := ?_) HT_.out 6 (some 36) ?_ ?_ ?_; rotate_left 2; (intro w'; go_simp; with_reducible rfl); (simp only [Act.put, List.setIfInBounds_toArray, List.set_cons_zero, List.set_cons_succ, i64_w, i32_w]; rfl)
        refine pu_ (v := ?_) (a' := ?_) HT_.out 7 (some 37) ?_ ?_ ?_; rotate_left 2; (intro w'; go_simp; with_reducible rfl); (simp only [Act.put, List.setIfInBounds_toArray, List.set_cons_zero, List.set_cons_succ, i64_w, i32_w]; rfl)
        refine un_ (a' := ?_) HT_.out 8 (some 38) ?_ ?_; rotate_left; (simp only [Act.put, List.setIfInBounds_toArray, List.set_cons_zero, List.set_cons_succ, i64_w, i32_w]; rfl)
        refine un_ (a' := ?_) HT_.out 9 (some 39) ?_ ?_; rotate_left; (simp only [Act.put, List.setIfInBounds_toArray, List.set_cons_zero, List.set_cons_succ, i64_w, i32_w]; rfl)
        refine un_ (a' := ?_) HT_.out 10 (some 40) ?_ ?_; rotate_left; (simp only [Act.put, List.setIfInBounds_toArray, List.set_cons_zero, List.set_cons_succ, i64_w, i32_w]; rfl)
        refine un_ (a' := ?_) HT_.out 11 (some 41) ?_ ?_; rotate_left; (simp only [Act.put, List.setIfInBounds_toArray, List.set_cons_zero, List.set_cons_succ, i64_w, i32_w]; rfl)
        refine un_ (a' := ?_) HT_.out 12 (some 42) ?_ ?_; rotate_left; (simp only [Act.put, List.setIfInBounds_toArray, List.set_cons_zero, List.set_cons_succ, i64_w, i32_w]; rfl)
        refine un_ (a' := ?_) HT_.out 13 (some 43) ?_ ?_; rotate_left; (simp only [Act.put, List.setIfInBounds_toArray, List.set_cons_zero, List.set_cons_succ, i64_w, i32_w]; rfl)
        refine un_ (a' := ?_) HT_.out 14 (some 44) ?_ ?_; rotate_left; (simp only [Act.put, List.setIfInBounds_toArray, List.set_cons_zero, List.set_cons_succ, i64_w, i32_w]; rfl)
        refine un_ (a' := ?_) HT_.out 15 (some 45) ?_ ?_; rotate_left; (simp only [Act.put, List.setIfInBounds_toArray, List.set_cons_zero, List.set_cons_succ, i64_w, i32_w]; rfl)
        refine un_ (a' := ?_) HT_.out 16 (some 46) ?_ ?_; rotate_left; (simp only [Act.put, List.setIfInBounds_toArray, List.set_cons_zero, List.set_cons_succ, i64_w, i32_w]; rfl)
        refine un_ (a' := ?_) HT_.out 17 (some 47) ?_ ?_; rotate_left; (simp only [Act.put, List.setIfInBounds_toArray, List.set_cons_zero, List.set_cons_succ, i64_w, i32_w]; rfl)
        refine un_ (a' := ?_) HT_.out 18 (some 48) ?_ ?_; rotate_left; (simp only [Act.put, List.setIfInBounds_toArray, List.set_cons_zero, List.set_cons_succ, i64_w, i32_w]; rfl)
        refine un_ (a' := ?_) HT_.out 19 (some 49) ?_ ?_; rotate_left; (simp only [Act.put, List.setIfInBounds_toArray, List.set_cons_zero, List.set_cons_succ, i64_w, i32_w]; rfl)
        refine un_ (a' := ?_) HT_.out 20 (some 50) ?_ ?_; rotate_left; (simp only [Act.put, List.setIfInBounds_toArray, List.set_cons_zero, List.set_cons_succ, i64_w, i32_w]; rfl)
        refine un_ (a' := ?_) HT_.out 21 (some 51) ?_ ?_; rotate_left; (simp only [Act.put, List.setIfInBounds_toArray, List.set_cons_zero, List.set_cons_succ, i64_w, i32_w]; rfl)
        refine un_ (a' := ?_) HT_.out 22 (some 52) ?_ ?_; rotate_left; (simp only [Act.put, List.setIfInBounds_toArray, List.set_cons_zero, List.set_cons_succ, i64_w, i32_w]; rfl)
        refine pu_ (v := ?_) (a' := ?_) HT_.out 23 (some 53) ?_ ?_ ?_; rotate_left 2; (intro w'; go_simp; with_reducible rfl); (simp only [Act.put, List.setIfInBounds_toArray, List.set_cons_zero, List.set_cons_succ, i64_w, i32_w]; rfl)
        refine dn_ HT_.out ?_
        clear hHeld HT_ HW_
        go_wp2
        go_roundw
        case rel => exact ⟨i + 1, nn, _, by first | rw [HW.out] | rfl, ⟨by omega⟩, ⟨by have := Hn.out; omega⟩, HX4, HS18_⟩
        case measure => simp only [intOf]; (try rw [HW.out]); omega
      rw [if_pos c2] at hx
      have hc3 : decide (0 ≤ pl m) = true := decide_eq_true c2
      have hc4 : decide (pl m ≥ 0) = true := decide_eq_true c2
      obtain ⟨b, hmt, hx2⟩ := Option.bind_eq_some_iff.1 hx
      have hn0 := HN.out.1
      have hn1 := HN.out.2.1
      obtain ⟨adl, e, hx0, hx1⟩ := at_T60 HL.out k k0 k2
      cases e
      obtain ⟨adl2, e, hy0, hy1⟩ := at_T60 HL.out n hn0 hn1
      obtain rfl := Option.some.inj e
      generalize rd_T60 l k = x at *
      generalize rd_T60 l n = y at *
      have HX0 := Aside0.mk hx0
      have HX1 := Aside0.mk hx1
      have HY0 := Aside0.mk hy0
      have HY1 := Aside0.mk hy1
      have HMT := Aside0.mk hmt
      clear hx hmt hx0 hx1 hy0 hy1 c2 e
      rcases b with _ | _
      · have HX4 := Aside0.mk (show busyF l at_ n pl (o.drop (i + 1).toNat) s = some r from hx2)
        clear hx2
        go_wp2_with (first | (refine (HF.out m _).mono ?_; rintro e_ w19_ ⟨rfl, hb_⟩; have HS20_ : Aside0 (St w0 w19_ ((setA Try.prog 3 gm nn s) :: (blkA g #[.slice (some adl) l.length cl, .slice (some ada) at_.length ca, .slice (some ado) o.length co] 128) :: (rowA w0.heap.size k54 54 (.slice (some ada) at_.length ca) at_) :: (rowA w0.heap.size (Kd.int .i64) 3 (.slice (some ado) o.length co) o) :: L)) := ⟨HSr.out.call hb_⟩; clear hb_ HSr cg1 cg2))
        refine st_ (fun w' => St w0 w' ((setA Try.prog 3 gm nn s) :: (blkA g #[.slice (some adl) l.length cl, .slice (some ada) at_.length ca, .slice (some ado) o.length co] 128) :: (rowA w0.heap.size k54 54 (.slice (some ada) at_.length ca) at_) :: (rowA w0.heap.size (Kd.int .i64) 3 (.slice (some ado) o.length co) o) :: L)) scan_scanner_busy.tab6 scan_scanner_busy.bits6 HS20_.out.drew (fun HT_ HW_ hHeld => ?_)
        clear HS20_
        generalize w19_.drew = w21_ at hHeld ⊢
        have HS22_ := Aside0.mk (show St w0 w21_ ((setA Try.prog 3 gm nn s) :: (blkA g #[.slice (some adl) l.length cl, .slice (some ada) at_.length ca, .slice (some ado) o.length co] 128) :: (rowA w0.heap.size k54 54 (.slice (some ada) at_.length ca) at_) :: (rowA w0.heap.size (Kd.int .i64) 3 (.slice (some ado) o.length co) o) :: L) from hHeld)
        refine pu_ (v := ?_) (a' := ?_) HT_.out 0 (some 30) ?_ ?_ ?_; rotate_left 2; (intro w'; go_simp; with_reducible rfl); (simp only [Act.put, List.setIfInBounds_toArray, List.set_cons_zero, List.set_cons_succ, i64_w, i32_w]; rfl)
        refine pu_ (v := ?_) (a' := ?_) HT_.out 1 (some 31) ?_ ?_ ?_; rotate_left 2; (intro w'; go_simp; with_reducible rfl); (simp only [Act.put, List.setIfInBounds_toArray, List.set_cons_zero, List.set_cons_succ, i64_w, i32_w]; rfl)
        refine pu_ (v := ?_) (a' := ?_) HT_.out 2 (some 32) ?_ ?_ ?_; rotate_left 2; (intro w'; go_simp; with_reducible rfl); (simp only [Act.put, List.setIfInBounds_toArray, List.set_cons_zero, List.set_cons_succ, i64_w, i32_w]; rfl)
        refine pu_ (v := ?_) (a' := ?_) HT_.out 3 (some 33) ?_ ?_ ?_; rotate_left 2; (intro w'; go_simp; with_reducible rfl); (simp only [Act.put, List.setIfInBounds_toArray, List.set_cons_zero, List.set_cons_succ, i64_w, i32_w]; rfl)
        refine pu_ (v := ?_) (a' := ?_) HT_.out 4 (some 34) ?_ ?_ ?_; rotate_left 2; (intro w'; go_simp; with_reducible rfl); (simp only [Act.put, List.setIfInBounds_toArray, List.set_cons_zero, List.set_cons_succ, i64_w, i32_w]; rfl)
        refine pu_ (v := ?_) (a' := ?_) HT_.out 5 (some 35) ?_ ?_ ?_; rotate_left 2; (intro w'; go_simp; with_reducible rfl); (simp only [Act.put, List.setIfInBounds_toArray, List.set_cons_zero, List.set_cons_succ, i64_w, i32_w]; rfl)
        refine pu_ (v := ?_) (a' := ?_) HT_.out 6 (some 36) ?_ ?_ ?_; rotate_left 2; (intro w'; go_simp; with_reducible rfl); (simp only [Act.put, List.setIfInBounds_toArray, List.set_cons_zero, List.set_cons_succ, i64_w, i32_w]; rfl)
        refine pu_ (v := ?_) (a' := ?_) HT_.out 7 (some 37) ?_ ?_ ?_; rotate_left 2; (intro w'; go_simp; with_reducible rfl); (simp only [Act.put, List.setIfInBounds_toArray, List.set_cons_zero, List.set_cons_succ, i64_w, i32_w]; rfl)
        refine pu_ (v := ?_) (a' := ?_) HT_.out 8 (some 38) ?_ ?_ ?_; rotate_left 2; (intro w'; go_simp; with_reducible rfl); (simp only [Act.put, List.setIfInBounds_toArray, List.set_cons_zero, List.set_cons_succ, i64_w, i32_w]; rfl)
        refine pu_ (v := ?_) (a' := ?_) HT_.out 9 (some 39) ?_ ?_ ?_; rotate_left 2; (intro w'; go_simp; with_reducible rfl); (simp only [Act.put, List.setIfInBounds_toArray, List.set_cons_zero, List.set_cons_succ, i64_w, i32_w]; rfl)
        refine pu_ (v := ?_) (a' := ?_) HT_.out 10 (some 40) ?_ ?_ ?_; rotate_left 2; (intro w'; go_simp; with_reducible rfl); (simp only [Act.put, List.setIfInBounds_toArray, List.set_cons_zero, List.set_cons_succ, i64_w, i32_w]; rfl)
        refine pu_ (v := ?_) (a' := ?_) HT_.out 12 (some 42) ?_ ?_ ?_; rotate_left 2; (intro w'; go_simp; with_reducible rfl); (simp only [Act.put, List.setIfInBounds_toArray, List.set_cons_zero, List.set_cons_succ, i64_w, i32_w]; rfl)
        refine pu_ (v := ?_) (a' := ?_) HT_.out 15 (some 45) ?_ ?_ ?_; rotate_left 2; (intro w'; go_simp; with_reducible rfl); (simp only [Act.put, List.setIfInBounds_toArray, List.set_cons_zero, List.set_cons_succ, i64_w, i32_w]; rfl)
        refine pu_ (v := ?_) (a' := ?_) HT_.out 16 (some 46) ?_ ?_ ?_; rotate_left 2; (intro w'; go_simp; with_reducible rfl); (simp only [Act.put, List.setIfInBounds_toArray, List.set_cons_zero, List.set_cons_succ, i64_w, i32_w]; rfl)
        refine pu_ (v := ?_) (a' := ?_) HT_.out 17 (some 47) ?_ ?_ ?_; rotate_left 2; (intro w'; go_simp; with_reducible rfl); (simp only [Act.put, List.setIfInBounds_toArray, List.set_cons_zero, List.set_cons_succ, i64_w, i32_w]; rfl)
        refine pu_ (v := ?_) (a' := ?_) HT_.out 19 (some 49) ?_ ?_ ?_; rotate_left 2; (intro w'; go_simp; with_reducible rfl); (simp only [Act.put, List.setIfInBounds_toArray, List.set_cons_zero, List.set_cons_succ, i64_w, i32_w]; rfl)
        refine tk_ (v := ?_) (a' := ?_) HT_.out HW_.out hHeld 11 (some 41) ?_ ?_ ?_; rotate_left 2; (intro w' hS; have s0 : w'.cell? ⟨g, 0, none⟩ = some _ := hS.cell 1 rfl 0; go_simp; with_reducible rfl); (simp only [Act.put, List.setIfInBounds_toArray, List.set_cons_zero, List.set_cons_succ, i64_w, i32_w]; rfl)
        refine pu_ (v := ?_) (a' := ?_) HT_.out 13 (some 43) ?_ ?_ ?_; rotate_left 2; (intro w'; go_simp; with_reducible rfl); (simp only [Act.put, List.setIfInBounds_toArray, List.set_cons_zero, List.set_cons_succ, i64_w, i32_w]; rfl)
        refine tk_ (v := ?_) (a' := ?_) HT_.out HW_.out hHeld 14 (some 44) ?_ ?_ ?_; rotate_left 2; (intro w' hS; have s0 : w'.cell? (adl.add (k.toNat * 2)) = some (.int .i64 x.f0) := (hS.below.cell (World.block_lt_of_cell? w0 _ HX0.out)).trans HX0.out; have s1 : w'.cell? ⟨(adl.add (k.toNat * 2)).block, (adl.add (k.toNat * 2)).off + 1, none⟩ = some (.int .i64 x.f1) := (hS.below.cell (World.block_lt_of_cell? w0 _ HX1.out)).trans HX1.out; go_simp; with_reducible rfl); (simp only [Act.put, List.setIfInBounds_toArray, List.set_cons_zero, List.set_cons_succ, i64_w, i32_w]; rfl)
        refine tk_ (v := ?_) (a' := ?_) HT_.out HW_.out hHeld 18 (some 48) ?_ ?_ ?_; rotate_left 2; (intro w' hS; have s0 : w'.cell? ⟨g, 0, none⟩ = some _ := hS.cell 1 rfl 0; go_simp; with_reducible rfl); (simp only [Act.put, List.setIfInBounds_toArray, List.set_cons_zero, List.set_cons_succ, i64_w, i32_w]; rfl)
        refine pu_ (v := ?_) (a' := ?_) HT_.out 20 (some 50) ?_ ?_ ?_; rotate_left 2; (intro w'; go_simp; with_reducible rfl); (simp only [Act.put, List.setIfInBounds_toArray, List.set_cons_zero, List.set_cons_succ, i64_w, i32_w]; rfl)
        refine tk_ (v := ?_) (a' := ?_) HT_.out HW_.out hHeld 21 (some 51) ?_ ?_ ?_; rotate_left 2; (intro w' hS; have s0 : w'.cell? (adl.add (n.toNat * 2)) = some (.int .i64 y.f0) := (hS.below.cell (World.block_lt_of_cell? w0 _ HY0.out)).trans HY0.out; have s1 : w'.cell? ⟨(adl.add (n.toNat * 2)).block, (adl.add (n.toNat * 2)).off + 1, none⟩ = some (.int .i64 y.f1) := (hS.below.cell (World.block_lt_of_cell? w0 _ HY1.out)).trans HY1.out; go_simp; with_reducible rfl); (simp only [Act.put, List.setIfInBounds_toArray, List.set_cons_zero, List.set_cons_succ, i64_w, i32_w]; rfl)
        refine on_ HT_.out 22 (some 52) (fun K hK => ?_)
        refine goes_ Try.func94 (by kernel_rfl) rfl #[.agg #[.int .i64 x.f0, .int .i64 x.f1], .agg #[.int .i64 y.f0, .int .i64 y.f1]] (by rfl) rfl rfl (by simp only [List.map_toArray, List.map_cons, List.map_nil]; rfl) ?_
        with_reducible refine (scan_meet.calls x.f0 x.f1 y.f0 y.f1 false _ HMT.out).mono ?_
        rintro e_ w23_ ⟨rfl, hb_⟩
        refine ⟨_, rfl, ?_⟩
        have HS24_ := Aside0.mk (HS22_.out.call hb_)
        clear hb_ HS22_ hHeld
        refine hK.out _ _ (HS24_.out) (fun hHeld => ?_)
        clear hK K
        refine norm_ (a' := ?_) ?_ ?_; rotate_left; (show Act.put _ (some 52) _ = _; simp only [Act.put, List.setIfInBounds_toArray, List.set_cons_zero, List.set_cons_succ, i64_w, i32_w]; rfl)
        refine pu_ (v := ?_) (a' := ?_) HT_.out 23 (some 53) ?_ ?_ ?_; rotate_left 2; (intro w'; go_simp; with_reducible rfl); (simp only [Act.put, List.setIfInBounds_toArray, List.set_cons_zero, List.set_cons_succ, i64_w, i32_w]; rfl)
        refine dn_ HT_.out ?_
        clear hHeld HT_ HW_
        go_wp2
        go_roundw
        case rel => exact ⟨i + 1, nn, _, by first | rw [HW.out] | rfl, ⟨by omega⟩, ⟨by have := Hn.out; omega⟩, HX4, HS24_⟩
        case measure => simp only [intOf]; (try rw [HW.out]); omega
      · have HX4 := Aside0.mk (show busyF l at_ n pl (o.drop (i + 1).toNat) (fun b => decide (b = pl m) || s b) = some r from hx2)
        clear hx2
        go_wp2_with (first | (refine (HF.out m _).mono ?_; rintro e_ w25_ ⟨rfl, hb_⟩; have HS26_ : Aside0 (St w0 w25_ ((setA Try.prog 3 gm nn s) :: (blkA g #[.slice (some adl) l.length cl, .slice (some ada) at_.length ca, .slice (some ado) o.length co] 128) :: (rowA w0.heap.size k54 54 (.slice (some ada) at_.length ca) at_) :: (rowA w0.heap.size (Kd.int .i64) 3 (.slice (some ado) o.length co) o) :: L)) := ⟨HSr.out.call hb_⟩; clear hb_ HSr cg1 cg2))
        refine st_ (fun w' => St w0 w' ((setA Try.prog 3 gm nn s) :: (blkA g #[.slice (some adl) l.length cl, .slice (some ada) at_.length ca, .slice (some ado) o.length co] 128) :: (rowA w0.heap.size k54 54 (.slice (some ada) at_.length ca) at_) :: (rowA w0.heap.size (Kd.int .i64) 3 (.slice (some ado) o.length co) o) :: L)) scan_scanner_busy.tab6 scan_scanner_busy.bits6 HS26_.out.drew (fun HT_ HW_ hHeld => ?_)
        clear HS26_
        generalize w25_.drew = w27_ at hHeld ⊢
        have HS28_ := Aside0.mk (show St w0 w27_ ((setA Try.prog 3 gm nn s) :: (blkA g #[.slice (some adl) l.length cl, .slice (some ada) at_.length ca, .slice (some ado) o.length co] 128) :: (rowA w0.heap.size k54 54 (.slice (some ada) at_.length ca) at_) :: (rowA w0.heap.size (Kd.int .i64) 3 (.slice (some ado) o.length co) o) :: L) from hHeld)
        refine pu_ (v := ?_) (a' := ?_) HT_.out 0 (some 30) ?_ ?_ ?_; rotate_left 2; (intro w'; go_simp; with_reducible rfl); (simp only [Act.put, List.setIfInBounds_toArray, List.set_cons_zero, List.set_cons_succ, i64_w, i32_w]; rfl)
        refine pu_ (v := ?_) (a' := ?_) HT_.out 1 (some 31) ?_ ?_ ?_; rotate_left 2; (intro w'; go_simp; with_reducible rfl); (simp only [Act.put, List.setIfInBounds_toArray, List.set_cons_zero, List.set_cons_succ, i64_w, i32_w]; rfl)
        refine pu_ (v := ?_) (a' := ?_) HT_.out 2 (some 32) ?_ ?_ ?_; rotate_left 2; (intro w'; go_simp; with_reducible rfl); (simp only [Act.put, List.setIfInBounds_toArray, List.set_cons_zero, List.set_cons_succ, i64_w, i32_w]; rfl)
        refine pu_ (v := ?_) (a' := ?_) HT_.out 3 (some 33) ?_ ?_ ?_; rotate_left 2; (intro w'; go_simp; with_reducible rfl); (simp only [Act.put, List.setIfInBounds_toArray, List.set_cons_zero, List.set_cons_succ, i64_w, i32_w]; rfl)
        refine pu_ (v := ?_) (a' := ?_) HT_.out 4 (some 34) ?_ ?_ ?_; rotate_left 2; (intro w'; go_simp; with_reducible rfl); (simp only [Act.put, List.setIfInBounds_toArray, List.set_cons_zero, List.set_cons_succ, i64_w, i32_w]; rfl)
        refine pu_ (v := ?_) (a' := ?_) HT_.out 5 (some 35) ?_ ?_ ?_; rotate_left 2; (intro w'; go_simp; with_reducible rfl); (simp only [Act.put, List.setIfInBounds_toArray, List.set_cons_zero, List.set_cons_succ, i64_w, i32_w]; rfl)
        refine pu_ (v := ?_) (a' := ?_) HT_.out 6 (some 36) ?_ ?_ ?_; rotate_left 2; (intro w'; go_simp; with_reducible rfl); (simp only [Act.put, List.setIfInBounds_toArray, List.set_cons_zero, List.set_cons_succ, i64_w, i32_w]; rfl)
        refine pu_ (v := ?_) (a' := ?_) HT_.out 7 (some 37) ?_ ?_ ?_; rotate_left 2; (intro w'; go_simp; with_reducible rfl); (simp only [Act.put, List.setIfInBounds_toArray, List.set_cons_zero, List.set_cons_succ, i64_w, i32_w]; rfl)
        refine pu_ (v := ?_) (a' := ?_) HT_.out 8 (some 38) ?_ ?_ ?_; rotate_left 2; (intro w'; go_simp; with_reducible rfl); (simp only [Act.put, List.setIfInBounds_toArray, List.set_cons_zero, List.set_cons_succ, i64_w, i32_w]; rfl)
        refine pu_ (v := ?_) (a' := ?_) HT_.out 9 (some 39) ?_ ?_ ?_; rotate_left 2; (intro w'; go_simp; with_reducible rfl); (simp only [Act.put, List.setIfInBounds_toArray, List.set_cons_zero, List.set_cons_succ, i64_w, i32_w]; rfl)
        refine pu_ (v := ?_) (a' := ?_) HT_.out 10 (some 40) ?_ ?_ ?_; rotate_left 2; (intro w'; go_simp; with_reducible rfl); (simp only [Act.put, List.setIfInBounds_toArray, List.set_cons_zero, List.set_cons_succ, i64_w, i32_w]; rfl)
        refine pu_ (v := ?_) (a' := ?_) HT_.out 12 (some 42) ?_ ?_ ?_; rotate_left 2; (intro w'; go_simp; with_reducible rfl); (simp only [Act.put, List.setIfInBounds_toArray, List.set_cons_zero, List.set_cons_succ, i64_w, i32_w]; rfl)
        refine pu_ (v := ?_) (a' := ?_) HT_.out 15 (some 45) ?_ ?_ ?_; rotate_left 2; (intro w'; go_simp; with_reducible rfl); (simp only [Act.put, List.setIfInBounds_toArray, List.set_cons_zero, List.set_cons_succ, i64_w, i32_w]; rfl)
        refine pu_ (v := ?_) (a' := ?_) HT_.out 16 (some 46) ?_ ?_ ?_; rotate_left 2; (intro w'; go_simp; with_reducible rfl); (simp only [Act.put, List.setIfInBounds_toArray, List.set_cons_zero, List.set_cons_succ, i64_w, i32_w]; rfl)
        refine pu_ (v := ?_) (a' := ?_) HT_.out 17 (some 47) ?_ ?_ ?_; rotate_left 2; (intro w'; go_simp; with_reducible rfl); (simp only [Act.put, List.setIfInBounds_toArray, List.set_cons_zero, List.set_cons_succ, i64_w, i32_w]; rfl)
        refine pu_ (v := ?_) (a' := ?_) HT_.out 19 (some 49) ?_ ?_ ?_; rotate_left 2; (intro w'; go_simp; with_reducible rfl); (simp only [Act.put, List.setIfInBounds_toArray, List.set_cons_zero, List.set_cons_succ, i64_w, i32_w]; rfl)
        refine tk_ (v := ?_) (a' := ?_) HT_.out HW_.out hHeld 11 (some 41) ?_ ?_ ?_; rotate_left 2; (intro w' hS; have s0 : w'.cell? ⟨g, 0, none⟩ = some _ := hS.cell 1 rfl 0; go_simp; with_reducible rfl); (simp only [Act.put, List.setIfInBounds_toArray, List.set_cons_zero, List.set_cons_succ, i64_w, i32_w]; rfl)
        refine pu_ (v := ?_) (a' := ?_) HT_.out 13 (some 43) ?_ ?_ ?_; rotate_left 2; (intro w'; go_simp; with_reducible rfl); (simp only [Act.put, List.setIfInBounds_toArray, List.set_cons_zero, List.set_cons_succ, i64_w, i32_w]; rfl)
        refine tk_ (v := ?_) (a' := ?_) HT_.out HW_.out hHeld 14 (some 44) ?_ ?_ ?_; rotate_left 2; (intro w' hS; have s0 : w'.cell? (adl.add (k.toNat * 2)) = some (.int .i64 x.f0) := (hS.below.cell (World.block_lt_of_cell? w0 _ HX0.out)).trans HX0.out; have s1 : w'.cell? ⟨(adl.add (k.toNat * 2)).block, (adl.add (k.toNat * 2)).off + 1, none⟩ = some (.int .i64 x.f1) := (hS.below.cell (World.block_lt_of_cell? w0 _ HX1.out)).trans HX1.out; go_simp; with_reducible rfl); (simp only [Act.put, List.setIfInBounds_toArray, List.set_cons_zero, List.set_cons_succ, i64_w, i32_w]; rfl)
        refine tk_ (v := ?_) (a' := ?_) HT_.out HW_.out hHeld 18 (some 48) ?_ ?_ ?_; rotate_left 2; (intro w' hS; have s0 : w'.cell? ⟨g, 0, none⟩ = some _ := hS.cell 1 rfl 0; go_simp; with_reducible rfl); (simp only [Act.put, List.setIfInBounds_toArray, List.set_cons_zero, List.set_cons_succ, i64_w, i32_w]; rfl)
        refine pu_ (v := ?_) (a' := ?_) HT_.out 20 (some 50) ?_ ?_ ?_; rotate_left 2; (intro w'; go_simp; with_reducible rfl); (simp only [Act.put, List.setIfInBounds_toArray, List.set_cons_zero, List.set_cons_succ, i64_w, i32_w]; rfl)
        refine tk_ (v := ?_) (a' := ?_) HT_.out HW_.out hHeld 21 (some 51) ?_ ?_ ?_; rotate_left 2; (intro w' hS; have s0 : w'.cell? (adl.add (n.toNat * 2)) = some (.int .i64 y.f0) := (hS.below.cell (World.block_lt_of_cell? w0 _ HY0.out)).trans HY0.out; have s1 : w'.cell? ⟨(adl.add (n.toNat * 2)).block, (adl.add (n.toNat * 2)).off + 1, none⟩ = some (.int .i64 y.f1) := (hS.below.cell (World.block_lt_of_cell? w0 _ HY1.out)).trans HY1.out; go_simp; with_reducible rfl); (simp only [Act.put, List.setIfInBounds_toArray, List.set_cons_zero, List.set_cons_succ, i64_w, i32_w]; rfl)
        refine on_ HT_.out 22 (some 52) (fun K hK => ?_)
        refine goes_ Try.func94 (by kernel_rfl) rfl #[.agg #[.int .i64 x.f0, .int .i64 x.f1], .agg #[.int .i64 y.f0, .int .i64 y.f1]] (by rfl) rfl rfl (by simp only [List.map_toArray, List.map_cons, List.map_nil]; rfl) ?_
        with_reducible refine (scan_meet.calls x.f0 x.f1 y.f0 y.f1 true _ HMT.out).mono ?_
        rintro e_ w29_ ⟨rfl, hb_⟩
        refine ⟨_, rfl, ?_⟩
        have HS30_ := Aside0.mk (HS28_.out.call hb_)
        clear hb_ HS28_ hHeld
        refine hK.out _ _ (HS30_.out) (fun hHeld => ?_)
        clear hK K
        refine norm_ (a' := ?_) ?_ ?_; rotate_left; (show Act.put _ (some 52) _ = _; simp only [Act.put, List.setIfInBounds_toArray, List.set_cons_zero, List.set_cons_succ, i64_w, i32_w]; rfl)
        refine pu_ (v := ?_) (a' := ?_) HT_.out 23 (some 53) ?_ ?_ ?_; rotate_left 2; (intro w'; go_simp; with_reducible rfl); (simp only [Act.put, List.setIfInBounds_toArray, List.set_cons_zero, List.set_cons_succ, i64_w, i32_w]; rfl)
        refine dn_ HT_.out ?_
        clear hHeld HT_ HW_
        obtain ⟨D, ho_, hh_⟩ := HS30_.out.setR 0 rfl
        have HO := Aside0.mk ho_
        have HH := Aside0.mk hh_
        clear ho_ hh_
        go_wp2_with (first | (at_mapUpdate; refine wpList_mapUpdate_own _ rfl _ _ _ 132 rfl 3 199 scan_least.law Try.underlying132 unitElem gm nn D rfl HO.out HNM.out _ _ _ rfl rfl HK.out _ [] unitElem_mk ?_; intro w32_ ho_ hg_; have HS31_ := Aside0.mk (HS30_.out.setW 0 rfl ho_ (holds_put HH.out (pl m) _ (scan_least.law.key HK.out)) hg_); clear ho_ hg_))
        go_roundw
        case rel => exact ⟨i + 1, nn + 1, _, by first | rw [HW.out] | rfl, ⟨by omega⟩, ⟨by have := Hn.out; omega⟩, HX4, HS31_⟩
        case measure => simp only [intOf]; (try rw [HW.out]); omega
    · have ht : decide (i < (o.length : Int)) = false := decide_eq_false hlt
      have hx := HX.out
      rw [List.drop_eq_nil_of_le (by omega)] at hx
      obtain rfl := Option.some.inj hx
      clear hx HX
      go_wp2
      go_ret
      exact ⟨gm, rfl, nn, HSr.out⟩
end

end Go.Proofs.Ytlojkphocbbjdab.PScanClash
