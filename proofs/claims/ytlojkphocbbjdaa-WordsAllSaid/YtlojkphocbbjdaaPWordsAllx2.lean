-- Printed for this claim by a program of this session (inj.py), beside the kit's print. Not trusted: Lean checks it.
import Derived.Test.YtlojkphocbbjdaaPWordsAllx0
import Derived.Test.YtlojkphocbbjdaaPWordsAllx1
namespace Go.Proofs.Ytlojkphocbbjdaa.PWordsAll
open Go.RowKit Go.Proofs.YtlojkphocbbjdaaW.PrintWords Go.Proofs.YtlojkphocbbjdaaW.PrintLast Go.Proofs.YtlojkphocbbjdaaW.PrintMore
attribute [local go_sem] max2_int min2_int max_two min_two max_three min_three max_four min_four   -- for this text's walks alone
set_option linter.unusedVariables false
set_option linter.unusedSimpArgs false

/-! ### words_Of: function 35 -/
/-- The writer at block b: its words and its first error. -/
structure WrIs (w : World) (base b : Nat) (vo : Value) (out : List Int) (e : Int) : Prop where
  blk : w.heap[b]? = some (.cells #[vo, .int .i64 e] 151 (0, 0))
  hb : base ≤ b
  row : Kd.R (Kd.int .u64) 46 w base (fun _ => True) vo out
def WrOwn (b : Nat) (vo : Value) (k : Nat) : Prop := k = b ∨ some k = vo.ownBlock
theorem WrIs.ne {w : World} {base b : Nat} {vo : Value} {out : List Int} {e : Int} (h : WrIs w base b vo out e) : some b ≠ vo.ownBlock := Kd.R_ne h.row h.blk (by decide)
theorem WrIs.kept {w w1 : World} {base b : Nat} {vo : Value} {out : List Int} {e : Int} (h : WrIs w base b vo out e) (hk : Kept w w1 (fun _ => False)) : WrIs w1 base b vo out e :=
  ⟨blk_kept h.blk hk (fun h => h), h.hb, Kd.R_mono (Kd.R_kept (S := fun _ => False) (Kd.R_tight rfl h.row) hk (fun _ _ h => h)) (fun _ _ => trivial)⟩
theorem WrIs.alloc {w : World} {base b : Nat} {vo : Value} {out : List Int} {e : Int} (h : WrIs w base b vo out e) (o : Obj) : WrIs (w.alloc o) base b vo out e := h.kept (Kept.of_below (below_alloc (Below.refl _ _) o) _)
theorem WrIs.push {w w1 : World} {base b : Nat} {vo v1 : Value} {out out' : List Int} {e : Int} (h : WrIs w base b vo out e) (hR : Kd.R (Kd.int .u64) 46 w1 base (fun _ => True) v1 out') (hg : w.grownBy w1 vo.ownBlock) : WrIs (w1.setCell ⟨b, 0, none⟩ v1) base b v1 out' e := by
  have hb1 : w1.heap[b]? = some (.cells #[vo, .int .i64 e] 151 (0, 0)) := (hg.block b (blk_lt h.blk) h.ne).trans h.blk
  have hnb : some b ≠ v1.ownBlock := Kd.R_ne hR hb1 (by decide)
  exact ⟨blk_put hb1 0 v1 rfl, h.hb, Kd.R_mono (Kd.R_far (p := ⟨b, 0, none⟩) (Kd.R_tight rfl hR) (fun k hk e => hnb (by have e' : k = b := e; rw [← e']; exact hk)) _) (fun _ _ => trivial)⟩
theorem WrIs.err {w : World} {base b : Nat} {vo : Value} {out : List Int} {e : Int} (h : WrIs w base b vo out e) (e' : Int) : WrIs (w.setCell ⟨b, 1, none⟩ (.int .i64 e')) base b vo out e' :=
  ⟨blk_put h.blk 1 _ rfl, h.hb, Kd.R_mono (Kd.R_far (p := ⟨b, 1, none⟩) (Kd.R_tight rfl h.row) (fun k hk e => h.ne (by have e' : k = b := e; rw [← e']; exact hk)) _) (fun _ _ => trivial)⟩
def numS : List Int → List Int → Option (List Int)
  | [], o => some o
  | n :: l, o => if o.length < 17592186044416 then numS l (o ++ [IntKind.u64.wrap n]) else none
/-- What a call of the writer does to it. -/
def WrPost (w0 w : World) (b : Nat) (vo : Value) (out' : List Int) (e' : Int) (w' : World) : Prop := ∃ vo' : Value, WrIs w' w0.heap.size b vo' out' e' ∧ Below w0.heap.size w0 w' ∧ Kept w w' (WrOwn b vo) ∧ (vo'.ownBlock = vo.ownBlock ∨ ∃ k, vo'.ownBlock = some k ∧ w.heap.size ≤ k)
set_option maxHeartbeats 4000000 in
set_option maxRecDepth 100000 in
theorem numbers_walk (w0 : World) (b : Nat) (vo : Value) (out : List Int) (e : Int) (A : Option Addr) (c : Nat) (l : List Int) (okl : Nat → Prop) (out' : List Int) (w : World)
    (hI : WrIs w w0.heap.size b vo out e) (hB : Below w0.heap.size w0 w) (hl : Kd.F (Kd.int .i64) w okl A l.length l) (hok : ∀ k, okl k → ¬ WrOwn b vo k) (h : numS l out = some out') :
    Calls Try.prog 139 #[.pointer (some ⟨b, 0, none⟩), .slice A l.length c] w fun e_ w' => e_ = .returned (.tuple #[]) ∧ WrPost w0 w b vo out' e w' := by
  have HI := Aside0.mk hI
  have HBB := Aside0.mk hB
  have HL := Aside0.mk (Kd.F_bound hl)
  have HOK := Aside0.mk hok
  have HN := Aside0.mk (Kd.F_max hl)
  have HS := Aside0.mk h
  clear hI hB hl hok h
  go_enter Try.func139, Try.ntmps139
  go_wp2
  go_loopw [8] (fun v8 wr => ∃ (i : Int) (o : List Int) (vt : Value), v8 = .int .i64 i ∧ Aside0 (0 ≤ i ∧ i ≤ l.length) ∧ Aside0 (numS (l.drop i.toNat) o = some out') ∧ Aside0 (WrIs wr w0.heap.size b vt o e) ∧ Aside0 (Below w0.heap.size w0 wr) ∧ Aside0 (Kept w wr (WrOwn b vo)) ∧ Aside0 (vt.ownBlock = vo.ownBlock ∨ ∃ k, vt.ownBlock = some k ∧ w.heap.size ≤ k)) (fun v8 _ => l.length - (intOf v8).toNat)
  case atStart => exact ⟨0, out, vo, rfl, ⟨by omega⟩, ⟨by simpa using HS.out⟩, HI, HBB, ⟨Kept.refl _ _⟩, ⟨.inl rfl⟩⟩
  case round =>
    clear HI HBB HS
    obtain ⟨i, o, vt, rfl, Hi, HX, HI, HB, HK, HV⟩ := hrel
    have hi0 : 0 ≤ i := Hi.out.1
    by_cases hlt : i < (l.length : Int)
    · have HW := Aside0.mk (show wrap64 (i + 1) = i + 1 by have := HN.out; unfold wrap64; omega)
      have ht : decide (i < (l.length : Int)) = true := decide_eq_true hlt
      have hd : l.drop i.toNat = rd l i :: l.drop (i + 1).toNat := by
        rw [List.drop_eq_getElem_cons (by omega), show (i + 1).toNat = i.toNat + 1 by omega]
        congr 1
        rw [rd, List.getD_eq_getElem?_getD, List.getElem?_eq_getElem (by omega), Option.getD_some]
      have hx := HX.out
      rw [hd, numS] at hx
      clear hd
      split at hx
      case isFalse => cases hx
      rename_i hlim
      have HLIM := Aside0.mk hlim
      have HX2 := Aside0.mk hx
      clear hx hlim HX
      have HFl := Aside0.mk (Kd.F_kept HL.out HK.out (fun k hk => HOK.out k hk.1))
      obtain ⟨ad, e, h1⟩ := Kd.at_int (Kd.F_now HFl.out) i hi0 hlt
      cases e
      have hb0 : wr.cell? ⟨b, 0, none⟩ = some vt := by simp [World.cell?, HI.out.blk]
      obtain ⟨At, nt, ct, rfl⟩ : ∃ At nt ct, vt = .slice At nt ct := (let ⟨A_, c_, h_⟩ := Kd.R_slice HI.out.row; ⟨A_, _, c_, h_⟩)
      go_wp2_with ((with_reducible refine gate_builtin (b := .append) (xs := #[.tmp 16, .tmp 19]) rfl ?_); (try (refine gate_guard (by rfl) ?_; dsimp only)); at_builtin; refine Kd.R_append (Kd.int .u64) (w0 := w0) w0.heap.size rfl (.tmp 16) (.tmp 19) 74 46 (.int .u64 0) 8 rfl Try.underlying74 info46 rfl (by decide) (by omega) (.slice At nt ct) o (IntKind.u64.wrap (rd l i)) [.int .u64 (IntKind.u64.wrap (rd l i))] (fun _ => True) (fun _ => False) rfl rfl rfl (fun _ hk => hk.elim) (fun _ _ => trivial) HI.out.row HB.out HB.out.size ?aL ?_; (case aL => have := HLIM.out; omega); intro v1 w3 ho hb hg hat; obtain ⟨A1, n1, c1, rfl⟩ : ∃ A1 n1 c1, v1 = .slice A1 n1 c1 := (let ⟨A_, c_, h_⟩ := Kd.R_slice ho; ⟨A_, _, c_, h_⟩); have HI3 := Aside0.mk (HI.out.push ho hg); have hb33 : w3.cell? ⟨b, 0, none⟩ = some (.slice At nt ct) := (by have hbk := (hg.block b (blk_lt HI.out.blk) HI.out.ne).trans HI.out.blk; simp [World.cell?, hbk]); have hf33 : w3.frozen? ⟨b, 0, none⟩ = false := (by have hbk := (hg.block b (blk_lt HI.out.blk) HI.out.ne).trans HI.out.blk; simp [World.frozen?, hbk]); have HB3 := Aside0.mk (below_set hb HI.out.hb (g := b) (j := 0) (v := .slice A1 n1 c1)); have HK3 := Aside0.mk (Kept.setCell (Kept.of_grown hg HK.out (fun k hk => by rcases HV.out with hv | ⟨k2, hv, hle⟩ <;> (rw [hv] at hk; first | exact .inl (.inr hk.symm) | (injection hk with hk; exact .inr (by omega))))) (p := ⟨b, 0, none⟩) (.inl (.inl rfl)) (.slice A1 n1 c1)); have HV3 := Aside0.mk (show (Value.slice A1 n1 c1).ownBlock = vo.ownBlock ∨ ∃ k, (Value.slice A1 n1 c1).ownBlock = some k ∧ w.heap.size ≤ k from by rcases hat with hv | ⟨k2, hv, hle⟩ <;> first | (rw [hv]; exact HV.out) | exact .inr ⟨k2, hv, Nat.le_trans HK.out.1 hle⟩); clear ho hb hg hat hb0)
      go_roundw
      case rel => exact ⟨i + 1, o ++ [IntKind.u64.wrap (rd l i)], _, by first | rw [HW.out] | rfl, ⟨by omega⟩, HX2, HI3, HB3, HK3, HV3⟩
      case measure => simp only [intOf]; (try rw [HW.out]); omega
    · have ht : decide (i < (l.length : Int)) = false := decide_eq_false hlt
      have hx := HX.out
      rw [List.drop_eq_nil_of_le (by omega), numS] at hx
      obtain rfl := Option.some.inj hx
      clear hx
      go_wp2
      go_end0
      exact ⟨rfl, vt, HI.out, HB.out, HK.out, HV.out⟩
def valS (k : Nat) (v : S23) (out : List Int) (e : Int) : Option (List Int × Int) :=
  (nanbox_Box.f k v.f0 v.f1).bind fun bx => if out.length < 17592186044416 then some (out ++ [bx.1], if e = 0 then bx.2 else e) else none
theorem valS.mono (k : Nat) (v : S23) (out : List Int) (e : Int) : LeO (valS k v out e) (valS (k + 1) v out e) := LeO.bind (nanbox_Box.mono _ _ _) (fun _ => LeO.refl _)
set_option maxHeartbeats 4000000 in
set_option maxRecDepth 100000 in
theorem value_walk (w0 : World) (k : Nat) (b : Nat) (vo : Value) (out : List Int) (e : Int) (v : S23) (out' : List Int) (e' : Int) (w : World)
    (hI : WrIs w w0.heap.size b vo out e) (hB : Below w0.heap.size w0 w) (h : valS k v out e = some (out', e')) :
    Calls Try.prog 141 #[.pointer (some ⟨b, 0, none⟩), .agg #[.int .i64 v.f0, .int .i64 v.f1]] w fun e_ w' => e_ = .returned (.tuple #[]) ∧ WrPost w0 w b vo out' e' w' := by
  unfold valS at h
  obtain ⟨⟨bx, be⟩, hbx, h⟩ := Option.bind_eq_some_iff.1 h
  split at h
  case isFalse => cases h
  rename_i hlim
  simp only [Option.some.injEq, Prod.mk.injEq] at h
  obtain ⟨rfl, he⟩ := h
  have HI := Aside0.mk hI
  have HB := Aside0.mk hB
  have HBX := Aside0.mk hbx
  have HLIM := Aside0.mk hlim
  have HE := Aside0.mk he
  clear hI hB hbx hlim he
  by_cases h0 : e = 0
  · subst h0
    have he := HE.out
    rw [if_pos rfl] at he
    subst he
    clear HE
    go_enter Try.func141, Try.ntmps141
    go_wp2_with (first | ((with_reducible refine gate_dst (N := 3) rfl ?_); (try (refine gate_guard (by rfl) ?_; dsimp only)); refine box_event ?hg (N := 3) ?hd (cs := #[.int .i64 v.f0, .int .i64 v.f1]) (t := 23) ?hr ?_; (case hd => rfl); (case hg => rfl); (case hr => first | (go_simp; done) | (go_simp; rfl)); intro gp hgp wp hbox hb; have HI2 := Aside0.mk (HI.out.kept (Kept.of_below hb _)); have HB2 := Aside0.mk (below_step HB.out hb); have HK2 := Aside0.mk (Kept.of_below hb (WrOwn b vo)); have hp0 : wp.cell? ⟨gp, 0, none⟩ = some (.int .i64 v.f0) := (blk_cell hbox 0).trans rfl; have hp1 : wp.cell? ⟨gp, 1, none⟩ = some (.int .i64 v.f1) := (blk_cell hbox 1).trans rfl; clear hgp hbox hb HI HB) | (go_at_call 22; refine (nanbox_Box.calls k v.f0 v.f1 bx be _ HBX.out).mono ?_; rintro e_ w4 ⟨rfl, hb4⟩; have HI4 := Aside0.mk (HI2.out.kept (Kept.of_below hb4 _)); have HB4 := Aside0.mk (below_step HB2.out hb4); have HK4 := Aside0.mk (HK2.out.below hb4); obtain ⟨A0, n0, c0, rfl⟩ : ∃ A0 n0 c0, vo = .slice A0 n0 c0 := (let ⟨A_, c_, h_⟩ := Kd.R_slice HI4.out.row; ⟨A_, _, c_, h_⟩); have hb1 : w4.cell? ⟨b, 1, none⟩ = some (.int .i64 0) := (by simp [World.cell?, HI4.out.blk]); have hf1 : w4.frozen? ⟨b, 1, none⟩ = false := (by simp [World.frozen?, HI4.out.blk]); clear hp0 hp1 hb4 HI2 HB2 HK2) | ((with_reducible refine gate_store (t := 33) (p := 19) rfl ?_); refine store_event (t := 33) (p := 19) (v := .tmp 17) (w1 := w4.setCell ⟨b, 1, none⟩ (.int .i64 be)) ?hg ?ho ?hn ?hr ?_; (case ho => rfl); (case hg => rfl); (case hn => rfl); (case hr => first | (go_simp; done) | (go_simp; rfl)); intro w5 hw; have HI5 := Aside0.mk (HI4.out.err be); have HB5 := Aside0.mk (below_set HB4.out HI4.out.hb (g := b) (j := 1) (v := .int .i64 be)); have HK5 := Aside0.mk (Kept.setCell HK4.out (p := ⟨b, 1, none⟩) (.inl (.inl rfl)) (.int .i64 be)); rw [← hw] at HI5 HB5 HK5; have hb0 : w5.cell? ⟨b, 0, none⟩ = some (.slice A0 n0 c0) := (by simp [World.cell?, HI5.out.blk]); clear hw hb1 hf1) | ((with_reducible refine gate_builtin (b := .append) (xs := #[.tmp 24, .tmp 26]) rfl ?_); (try (refine gate_guard (by rfl) ?_; dsimp only)); at_builtin; refine Kd.R_append (Kd.int .u64) (w0 := w0) w0.heap.size rfl (.tmp 24) (.tmp 26) 74 46 (.int .u64 0) 8 rfl Try.underlying74 info46 rfl (by decide) (by omega) (.slice A0 n0 c0) out bx [.int .u64 bx] (fun _ => True) (fun _ => False) rfl rfl rfl (fun _ hk => hk.elim) (fun _ _ => trivial) HI5.out.row HB5.out HB5.out.size ?aL ?_; (case aL => have := HLIM.out; omega); intro v1 w7 ho hb hg hat; obtain ⟨A1, n1, c1, rfl⟩ : ∃ A1 n1 c1, v1 = .slice A1 n1 c1 := (let ⟨A_, c_, h_⟩ := Kd.R_slice ho; ⟨A_, _, c_, h_⟩); have HI7 := Aside0.mk (HI5.out.push ho hg); have hb33 : w7.cell? ⟨b, 0, none⟩ = some (.slice A0 n0 c0) := (by have hbk := (hg.block b (blk_lt HI5.out.blk) HI5.out.ne).trans HI5.out.blk; simp [World.cell?, hbk]); have hf33 : w7.frozen? ⟨b, 0, none⟩ = false := (by have hbk := (hg.block b (blk_lt HI5.out.blk) HI5.out.ne).trans HI5.out.blk; simp [World.frozen?, hbk]); have HB7 := Aside0.mk (below_set hb HI5.out.hb (g := b) (j := 0) (v := .slice A1 n1 c1)); have HK7 := Aside0.mk (Kept.setCell (Kept.of_grown hg HK5.out (fun k hk => .inl (.inr hk.symm))) (p := ⟨b, 0, none⟩) (.inl (.inl rfl)) (.slice A1 n1 c1)); have HV7 := Aside0.mk (show (Value.slice A1 n1 c1).ownBlock = (Value.slice A0 n0 c0).ownBlock ∨ ∃ k, (Value.slice A1 n1 c1).ownBlock = some k ∧ w.heap.size ≤ k from by rcases hat with hv | ⟨k2, hv, hle⟩ <;> first | exact .inl hv | exact .inr ⟨k2, hv, Nat.le_trans HK5.out.1 hle⟩); clear ho hb hg hat hb0))
    go_end0
    exact ⟨rfl, _, HI7.out, HB7.out, HK7.out, HV7.out⟩
  · have he := HE.out
    rw [if_neg h0] at he
    subst he
    have h0b : (e == 0) = false := beq_eq_false_iff_ne.mpr h0
    clear HE h0
    go_enter Try.func141, Try.ntmps141
    go_wp2_with (first | ((with_reducible refine gate_dst (N := 3) rfl ?_); (try (refine gate_guard (by rfl) ?_; dsimp only)); refine box_event ?hg (N := 3) ?hd (cs := #[.int .i64 v.f0, .int .i64 v.f1]) (t := 23) ?hr ?_; (case hd => rfl); (case hg => rfl); (case hr => first | (go_simp; done) | (go_simp; rfl)); intro gp hgp wp hbox hb; have HI2 := Aside0.mk (HI.out.kept (Kept.of_below hb _)); have HB2 := Aside0.mk (below_step HB.out hb); have HK2 := Aside0.mk (Kept.of_below hb (WrOwn b vo)); have hp0 : wp.cell? ⟨gp, 0, none⟩ = some (.int .i64 v.f0) := (blk_cell hbox 0).trans rfl; have hp1 : wp.cell? ⟨gp, 1, none⟩ = some (.int .i64 v.f1) := (blk_cell hbox 1).trans rfl; clear hgp hbox hb HI HB) | (go_at_call 22; refine (nanbox_Box.calls k v.f0 v.f1 bx be _ HBX.out).mono ?_; rintro e_ w4 ⟨rfl, hb4⟩; have HI4 := Aside0.mk (HI2.out.kept (Kept.of_below hb4 _)); have HB4 := Aside0.mk (below_step HB2.out hb4); have HK4 := Aside0.mk (HK2.out.below hb4); obtain ⟨A0, n0, c0, rfl⟩ : ∃ A0 n0 c0, vo = .slice A0 n0 c0 := (let ⟨A_, c_, h_⟩ := Kd.R_slice HI4.out.row; ⟨A_, _, c_, h_⟩); have hb1 : w4.cell? ⟨b, 1, none⟩ = some (.int .i64 e) := (by simp [World.cell?, HI4.out.blk]); have HI5 := HI4; have HB5 := HB4; have HK5 := HK4; have hb0 : w4.cell? ⟨b, 0, none⟩ = some (.slice A0 n0 c0) := (by simp [World.cell?, HI5.out.blk]); clear hp0 hp1 hb4 HI2 HB2 HK2) | ((with_reducible refine gate_builtin (b := .append) (xs := #[.tmp 24, .tmp 26]) rfl ?_); (try (refine gate_guard (by rfl) ?_; dsimp only)); at_builtin; refine Kd.R_append (Kd.int .u64) (w0 := w0) w0.heap.size rfl (.tmp 24) (.tmp 26) 74 46 (.int .u64 0) 8 rfl Try.underlying74 info46 rfl (by decide) (by omega) (.slice A0 n0 c0) out bx [.int .u64 bx] (fun _ => True) (fun _ => False) rfl rfl rfl (fun _ hk => hk.elim) (fun _ _ => trivial) HI5.out.row HB5.out HB5.out.size ?aL ?_; (case aL => have := HLIM.out; omega); intro v1 w7 ho hb hg hat; obtain ⟨A1, n1, c1, rfl⟩ : ∃ A1 n1 c1, v1 = .slice A1 n1 c1 := (let ⟨A_, c_, h_⟩ := Kd.R_slice ho; ⟨A_, _, c_, h_⟩); have HI7 := Aside0.mk (HI5.out.push ho hg); have hb33 : w7.cell? ⟨b, 0, none⟩ = some (.slice A0 n0 c0) := (by have hbk := (hg.block b (blk_lt HI5.out.blk) HI5.out.ne).trans HI5.out.blk; simp [World.cell?, hbk]); have hf33 : w7.frozen? ⟨b, 0, none⟩ = false := (by have hbk := (hg.block b (blk_lt HI5.out.blk) HI5.out.ne).trans HI5.out.blk; simp [World.frozen?, hbk]); have HB7 := Aside0.mk (below_set hb HI5.out.hb (g := b) (j := 0) (v := .slice A1 n1 c1)); have HK7 := Aside0.mk (Kept.setCell (Kept.of_grown hg HK5.out (fun k hk => .inl (.inr hk.symm))) (p := ⟨b, 0, none⟩) (.inl (.inl rfl)) (.slice A1 n1 c1)); have HV7 := Aside0.mk (show (Value.slice A1 n1 c1).ownBlock = (Value.slice A0 n0 c0).ownBlock ∨ ∃ k, (Value.slice A1 n1 c1).ownBlock = some k ∧ w.heap.size ≤ k from by rcases hat with hv | ⟨k2, hv, hle⟩ <;> first | exact .inl hv | exact .inr ⟨k2, hv, Nat.le_trans HK5.out.1 hle⟩); clear ho hb hg hat hb0))
    go_end0
    exact ⟨rfl, _, HI7.out, HB7.out, HK7.out, HV7.out⟩
theorem R_ints (w : World) (base : Nat) (l : List Int) (hb : base ≤ w.heap.size) (hn : l.length ≤ maxLen) : Kd.R (Kd.int .i64) 3 (w.alloc (.cells (l.map (Value.int .i64)).toArray 3)) base (fun k => k = w.heap.size) (.slice (some ⟨w.heap.size, 0, none⟩) l.length l.length) l := by
  refine ⟨fun k hk => by simpa [Value.ownBlock] using hk.symm, l.map (Value.int .i64), ⟨?_, .inr ⟨w.heap.size, l.length, (l.map (Value.int .i64)).toArray, ?_, hb, YtlojkphocbbjdaaW.Bas.heap_alloc_self _ _, by simp, hn, ?_, ?_⟩⟩, ?_⟩
  · simp [Kd.int, Kd.scalar]
  · simp
  · simp [Kd.int, Kd.scalar]
  · simp [Kd.int, Kd.scalar]
    exact List.take_of_length_le (Nat.le_of_eq (List.length_map _))
  · refine ⟨by rw [List.length_map]; exact (Nat.mul_one _).symm, fun j p hj => ?_⟩
    have hlt := (List.getElem?_eq_some_iff.1 hj).1
    have he := (List.getElem?_eq_some_iff.1 hj).2
    show ((l.map (Value.int .i64)).drop (j * 1)).take 1 = [Value.int .i64 p]
    rw [Nat.mul_one, List.drop_eq_getElem_cons (by simpa using hlt)]
    simp [he]
/-- The writer, as it stands behind some of its calls. -/
def WrSt (w0 : World) (b : Nat) (out : List Int) (e : Int) (wr : World) : Prop := ∃ vt : Value, WrIs wr w0.heap.size b vt out e ∧ Below w0.heap.size w0 wr
/-- What is no writer's is as it was. -/
def Others (w w' : World) : Prop := ∀ (g : Nat) (cs : Array Value) (t : TypeId), t ≠ 151 → t ≠ 46 → w.heap[g]? = some (.cells cs t (0, 0)) → w'.heap[g]? = some (.cells cs t (0, 0))
theorem Others.trans {w w1 w2 : World} (h : Others w w1) (h' : Others w1 w2) : Others w w2 := fun g cs t h1 h2 hg => h' g cs t h1 h2 (h g cs t h1 h2 hg)
theorem Others.of_below {w w1 : World} (h : Below w.heap.size w w1) : Others w w1 := fun g cs t _ _ hg => blk_below hg h
theorem WrIs.far {w : World} {base b : Nat} {vo : Value} {out : List Int} {e : Int} (h : WrIs w base b vo out e) {g : Nat} {t : TypeId} {cs : Array Value} (hg : w.heap[g]? = some (.cells cs t (0, 0))) (h1 : t ≠ 151) (h2 : t ≠ 46) : ¬ WrOwn b vo g := by
  rintro (rfl | ho)
  · exact blk_ne hg h.blk h1 rfl
  · exact Kd.R_ne h.row hg (by first | exact h2 | exact h2.symm) ho
theorem WrPost.st {w0 w w' : World} {b : Nat} {vo : Value} {out out' : List Int} {e e' : Int} (hI : WrIs w w0.heap.size b vo out e) (h : WrPost w0 w b vo out' e' w') : WrSt w0 b out' e' w' ∧ Others w w' := by
  obtain ⟨vt, h1, h2, h3, _⟩ := h
  exact ⟨⟨vt, h1, h2⟩, fun g cs t a1 a2 hg => blk_kept hg h3 (hI.far hg a1 a2)⟩
theorem WrSt.quiet {w0 wr w3 : World} {b : Nat} {out : List Int} {e : Int} (h : WrSt w0 b out e wr) (hk : Kept wr w3 (fun _ => False)) (hb : Below w0.heap.size w0 w3) : WrSt w0 b out e w3 := by
  obtain ⟨vt, h1, _⟩ := h
  exact ⟨vt, h1.kept hk, hb⟩
theorem numlit_st (w0 : World) (b : Nat) (out : List Int) (e : Int) (l : List Int) (n : Nat) (cs : Array Value) (out' : List Int) (wr : World) (hcs : cs = (l.map (Value.int .i64)).toArray) (hn : l.length = n) (hm : n ≤ maxLen) (hS : WrSt w0 b out e wr) (h : numS l out = some out') :
    Calls Try.prog 139 #[.pointer (some ⟨b, 0, none⟩), .slice (some ⟨wr.heap.size, 0, none⟩) n n] (wr.alloc (.cells cs 3)) fun e_ w' => e_ = .returned (.tuple #[]) ∧ WrSt w0 b out' e w' ∧ Others wr w' := by
  obtain ⟨vt, hI, hB⟩ := hS
  subst hcs
  subst hn
  have hI2 := hI.alloc (.cells (l.map (Value.int .i64)).toArray 3)
  refine (numbers_walk w0 b vt out e _ _ l (fun k => k = wr.heap.size) out' _ hI2 (below_alloc hB _) (Kd.R_F (R_ints wr wr.heap.size l (Nat.le_refl _) hm)) (fun k hk => by subst hk; exact hI2.far (blk_new wr _) (by decide) (by decide)) h).mono ?_
  rintro e_ w' ⟨rfl, hp⟩
  obtain ⟨h1, h2⟩ := WrPost.st hI2 hp
  exact ⟨rfl, h1, (Others.of_below (below_alloc (Below.refl _ _) _)).trans h2⟩
theorem value_st (w0 : World) (k : Nat) (b : Nat) (out : List Int) (e : Int) (v : S23) (q : List Int × Int) (wr : World) (hS : WrSt w0 b out e wr) (h : valS k v out e = some q) :
    Calls Try.prog 141 #[.pointer (some ⟨b, 0, none⟩), .agg #[.int .i64 v.f0, .int .i64 v.f1]] wr fun e_ w' => e_ = .returned (.tuple #[]) ∧ WrSt w0 b q.1 q.2 w' ∧ Others wr w' := by
  obtain ⟨vt, hI, hB⟩ := hS
  refine (value_walk w0 k b vt out e v q.1 q.2 wr hI hB h).mono ?_
  rintro e_ w' ⟨rfl, hp⟩
  exact ⟨rfl, WrPost.st hI hp⟩
def valsL (k : Nat) : List S23 → List Int → Int → Option (List Int × Int)
  | [], o, e => some (o, e)
  | v :: l, o, e => (valS k v o e).bind fun q => valsL k l q.1 q.2
theorem valsL.mono (k : Nat) : ∀ l o e, LeO (valsL k l o e) (valsL (k + 1) l o e)
  | [], o, e => LeO.refl _
  | v :: l, o, e => LeO.bind (valS.mono k v o e) (fun q => valsL.mono k l q.1 q.2)
def valsS (k : Nat) (l : List S23) (o : List Int) (e : Int) : Option (List Int × Int) := (numS [(l.length : Int)] o).bind fun q => valsL k l q e
theorem valsS.mono (k : Nat) (l : List S23) (o : List Int) (e : Int) : LeO (valsS k l o e) (valsS (k + 1) l o e) := LeO.bind (LeO.refl _) (fun q => valsL.mono k l q e)
set_option maxHeartbeats 4000000 in
set_option maxRecDepth 100000 in
theorem values_st (w0 : World) (k : Nat) (b : Nat) (out : List Int) (e : Int) (A : Option Addr) (c : Nat) (l : List S23) (z : List Int × Int) (w : World) (hS : WrSt w0 b out e w) (hl : Kd.C k23 w0 A l.length l) (h : valsS k l out e = some z) :
    Calls Try.prog 140 #[.pointer (some ⟨b, 0, none⟩), .slice A l.length c] w fun e_ w' => e_ = .returned (.tuple #[]) ∧ WrSt w0 b z.1 z.2 w' ∧ Others w w' := by
  unfold valsS at h
  obtain ⟨q, hq, h⟩ := Option.bind_eq_some_iff.1 h
  have HS := Aside0.mk hS
  have HL := Aside0.mk hl
  have HQ := Aside0.mk hq
  have HZ := Aside0.mk h
  have HN := Aside0.mk (show l.length ≤ 9223372036854775807 from hl.2.1)
  clear hS hl hq h
  go_enter Try.func140, Try.ntmps140
  go_wp2_with (go_at_call 139; refine (numlit_st w0 b out e [(l.length : Int)] 1 _ q w rfl rfl (by simp [maxLen]) HS.out HQ.out).mono ?_; rintro e_ w1 ⟨rfl, hs1, ho1⟩; have HS1 := Aside0.mk hs1; have HO1 := Aside0.mk ho1; clear hs1 ho1 HS)
  go_loopw [13] (fun v13 wr => ∃ (i : Int) (o : List Int) (e1 : Int), v13 = .int .i64 i ∧ Aside0 (0 ≤ i ∧ i ≤ l.length) ∧ Aside0 (valsL k (l.drop i.toNat) o e1 = some z) ∧ Aside0 (WrSt w0 b o e1 wr) ∧ Aside0 (Others w wr)) (fun v13 _ => l.length - (intOf v13).toNat)
  case atStart => exact ⟨0, q, e, rfl, ⟨by omega⟩, ⟨by simpa using HZ.out⟩, HS1, HO1⟩
  case round =>
    clear HS1 HO1 HZ
    obtain ⟨i, o, e1, rfl, Hi, HX, HS, HO⟩ := hrel
    have hi0 : 0 ≤ i := Hi.out.1
    have HB := Aside0.mk HS.out.choose_spec.2
    by_cases hlt : i < (l.length : Int)
    · have ht : decide (i < (l.length : Int)) = true := decide_eq_true hlt
      have HW := Aside0.mk (show wrap64 (i + 1) = i + 1 by have := HN.out; unfold wrap64; omega)
      have hd : l.drop i.toNat = rd_T23 l i :: l.drop (i + 1).toNat := by
        rw [List.drop_eq_getElem_cons (by omega), show (i + 1).toNat = i.toNat + 1 by omega]
        congr 1
        rw [rd_T23, List.getD_eq_getElem?_getD, List.getElem?_eq_getElem (by omega), Option.getD_some]
      have hx := HX.out
      rw [hd, valsL] at hx
      clear hd
      obtain ⟨u, hu, hx⟩ := Option.bind_eq_some_iff.1 hx
      have HU := Aside0.mk hu
      have HX2 := Aside0.mk hx
      clear hx hu HX
      obtain ⟨ad, e, h1, h2⟩ := at_T23 HL.out i hi0 hlt
      cases e
      replace h1 := (HB.out.cell (World.block_lt_of_cell? w0 _ h1)).trans h1
      replace h2 := (HB.out.cell (World.block_lt_of_cell? w0 _ h2)).trans h2
      generalize rd_T23 l i = p at *
      go_wp2_with (first | ((with_reducible refine gate_dst (N := 5) rfl ?_); (try (refine gate_guard (by rfl) ?_; dsimp only)); refine box_event ?hg (N := 5) ?hd (cs := #[.int .i64 0, .int .i64 0]) (t := 23) ?hr ?_; (case hd => rfl); (case hg => rfl); (case hr => first | (go_simp; done) | (go_simp; rfl)); intro gp hgp wp hbox hb; have GP := Aside0.mk (show w0.heap.size ≤ gp by rw [hgp]; exact HB.out.size); have GP2 := Aside0.mk (Nat.le_of_eq hgp.symm); have HB2 := Aside0.mk (below_step HB.out hb); have HK2 := Aside0.mk (Kept.of_below hb (fun _ => False)); have BP := Aside0.mk hbox; have hp0 : wp.cell? ⟨gp, 0, none⟩ = some (.int .i64 0) := (blk_cell BP.out 0).trans rfl; have hp1 : wp.cell? ⟨gp, 1, none⟩ = some (.int .i64 0) := (blk_cell BP.out 1).trans rfl; have hf0 := blk_frozen BP.out 0; have hf1 := blk_frozen BP.out 1; clear hgp hbox hb) | ((with_reducible refine gate_store (t := 23) (p := 5) rfl ?_); refine store_event (t := 23) (p := 5) (v := .tmp 16) (w1 := (wp.setCell ⟨gp, 0, none⟩ (.int .i64 p.f0)).setCell ⟨gp, 1, none⟩ (.int .i64 p.f1)) ?hg ?ho ?hn ?hr ?_; (case ho => rfl); (case hg => rfl); (case hn => rfl); (case hr => first | (go_simp; done) | (go_simp; rfl)); intro w3 hw; have HB3 := Aside0.mk (below_set (below_set HB2.out GP.out (g := gp) (j := 0) (v := .int .i64 p.f0)) GP.out (g := gp) (j := 1) (v := .int .i64 p.f1)); have BP3 := Aside0.mk (blk_put (blk_put BP.out 0 (.int .i64 p.f0) rfl) 1 (.int .i64 p.f1) rfl); have HK3 := Aside0.mk (Kept.setCell (Kept.setCell HK2.out (p := ⟨gp, 0, none⟩) (.inr GP2.out) (.int .i64 p.f0)) (p := ⟨gp, 1, none⟩) (.inr GP2.out) (.int .i64 p.f1)); rw [← hw] at HB3 BP3 HK3; have HS3 := Aside0.mk (HS.out.quiet HK3.out HB3.out); have HO3 := Aside0.mk (show Others wr w3 from fun g cs t _ _ hg => blk_kept hg HK3.out (fun h => h)); have hq0 : w3.cell? ⟨gp, 0, none⟩ = some (.int .i64 p.f0) := (blk_cell BP3.out 0).trans rfl; have hq1 : w3.cell? ⟨gp, 1, none⟩ = some (.int .i64 p.f1) := (blk_cell BP3.out 1).trans rfl; clear hw hp0 hp1 hf0 hf1 HB2 HK2 BP h1 h2) | (go_at_call 141; refine (value_st w0 k b o e1 p u _ HS3.out HU.out).mono ?_; rintro e_ w4 ⟨rfl, hs4, ho4⟩; have HS4 := Aside0.mk hs4; have HO4 := Aside0.mk (HO.out.trans (HO3.out.trans ho4)); clear hs4 ho4 hq0 hq1))
      go_roundw
      case rel => exact ⟨i + 1, u.1, u.2, by first | rw [HW.out] | rfl, ⟨by omega⟩, HX2, HS4, HO4⟩
      case measure => simp only [intOf]; (try rw [HW.out]); omega
    · have ht : decide (i < (l.length : Int)) = false := decide_eq_false hlt
      have hx := HX.out
      rw [List.drop_eq_nil_of_le (by omega), valsL] at hx
      obtain rfl := Option.some.inj hx
      clear hx HX
      go_wp2
      go_end0
      exact ⟨rfl, HS.out, HO.out⟩
def trysL : List S44 → List Int → Option (List Int)
  | [], o => some o
  | t :: l, o => (numS [t.f0, t.f1] o).bind fun q => trysL l q
def frameS (k : Nat) (f : S27) (o : List Int) (e : Int) : Option (List Int × Int) :=
  (numS [f.f0, f.f1, f.f2, f.f3] o).bind fun a => (valS k f.f4 a e).bind fun b => (valsS k f.f5 b.1 b.2).bind fun c => (numS [(f.f6.length : Int)] c.1).bind fun d => (trysL f.f6 d).bind fun x => some (x, c.2)
theorem frameS.mono (k : Nat) (f : S27) (o : List Int) (e : Int) : LeO (frameS k f o e) (frameS (k + 1) f o e) :=
  LeO.bind (LeO.refl _) (fun a => LeO.bind (valS.mono k _ _ _) (fun b => LeO.bind (valsS.mono k _ _ _) (fun c => LeO.refl _)))
def framesL (k : Nat) : List S27 → List Int → Int → Option (List Int × Int)
  | [], o, e => some (o, e)
  | f :: l, o, e => (frameS k f o e).bind fun q => framesL k l q.1 q.2
theorem framesL.mono (k : Nat) : ∀ l o e, LeO (framesL k l o e) (framesL (k + 1) l o e)
  | [], o, e => LeO.refl _
  | f :: l, o, e => LeO.bind (frameS.mono k f o e) (fun q => framesL.mono k l q.1 q.2)
def cellS (k : Nat) (a0 a1 : Int) (l2 : List S23) (l3 : List S27) (o : List Int) (e : Int) : Option (List Int × Int) :=
  (numS [a0, a1] o).bind fun a => (valsS k l2 a e).bind fun b => (numS [(l3.length : Int)] b.1).bind fun c => framesL k l3 c b.2
theorem cellS.mono (k : Nat) (a0 a1 : Int) (l2 : List S23) (l3 : List S27) (o : List Int) (e : Int) : LeO (cellS k a0 a1 l2 l3 o e) (cellS (k + 1) a0 a1 l2 l3 o e) :=
  LeO.bind (LeO.refl _) (fun a => LeO.bind (valsS.mono k _ _ _) (fun b => LeO.bind (LeO.refl _) (fun c => framesL.mono k l3 c b.2)))
set_option maxHeartbeats 8000000 in
set_option maxRecDepth 100000 in
theorem cell_st (w0 : World) (k : Nat) (b : Nat) (out : List Int) (e : Int) (a0 a1 : Int) (A2 : Option Addr) (c2 : Nat) (l2 : List S23) (A3 : Option Addr) (c3 : Nat) (l3 : List S27) (z : List Int × Int) (w : World) (hS : WrSt w0 b out e w)
    (hr2 : Kd.C k23 w0 A2 l2.length l2) (hr3 : Kd.C k27 w0 A3 l3.length l3) (h : cellS k a0 a1 l2 l3 out e = some z) :
    Calls Try.prog 92 #[.pointer (some ⟨b, 0, none⟩), .agg #[.int .i64 a0, .int .i64 a1, .slice A2 l2.length c2, .slice A3 l3.length c3]] w fun e_ w' => e_ = .returned (.tuple #[]) ∧ WrSt w0 b z.1 z.2 w' ∧ Others w w' := by
  unfold cellS at h
  obtain ⟨qa, ha, h⟩ := Option.bind_eq_some_iff.1 h
  obtain ⟨qb, hb, h⟩ := Option.bind_eq_some_iff.1 h
  obtain ⟨qc, hc, h⟩ := Option.bind_eq_some_iff.1 h
  have HS := Aside0.mk hS
  have HR2 := Aside0.mk hr2
  have HR3 := Aside0.mk hr3
  have HA := Aside0.mk ha
  have HBb := Aside0.mk hb
  have HC := Aside0.mk hc
  have HZ := Aside0.mk h
  have HN := Aside0.mk (show l3.length ≤ 9223372036854775807 from hr3.2.1)
  clear hS hr2 hr3 ha hb hc h
  go_enter Try.func92, Try.ntmps92
  go_upto_region 2 with (first | ((with_reducible refine gate_dst (N := 3) rfl ?_); (try (refine gate_guard (by rfl) ?_; dsimp only)); refine box_event ?hg (N := 3) ?hd (cs := #[.int .i64 a0, .int .i64 a1, .slice A2 l2.length c2, .slice A3 l3.length c3]) (t := 61) ?hr ?_; (case hd => rfl); (case hg => rfl); (case hr => first | (go_simp; done) | (go_simp; rfl)); intro gc hgc wb hbox hb; have BC := Aside0.mk hbox; have HSb := Aside0.mk (HS.out.quiet (Kept.of_below hb _) (below_step HS.out.choose_spec.2 hb)); have HOb := Aside0.mk (Others.of_below hb); have hc0 : wb.cell? ⟨gc, 0, none⟩ = some (.int .i64 a0) := (blk_cell BC.out 0).trans rfl; have hc1 : wb.cell? ⟨gc, 1, none⟩ = some (.int .i64 a1) := (blk_cell BC.out 1).trans rfl; clear hgc hbox hb HS) | (go_at_call 139; refine (numlit_st w0 b out e [a0, a1] 2 _ qa wb rfl rfl (by simp [maxLen]) HSb.out HA.out).mono ?_; rintro e_ w1 ⟨rfl, hs1, ho1⟩; have HS1 := Aside0.mk hs1; have HO1 := Aside0.mk (HOb.out.trans ho1); have BC1 := Aside0.mk (ho1 _ _ _ (by decide) (by decide) BC.out); have hc2 : w1.cell? ⟨gc, 2, none⟩ = some (.slice A2 l2.length c2) := (blk_cell BC1.out 2).trans rfl; clear hs1 ho1 HSb HOb BC hc0 hc1))
  (try simp only [Act.put, List.setIfInBounds_toArray, List.set_cons_zero, List.set_cons_succ])
  go_wp2_with (first | (go_at_call 140; refine (values_st w0 k b qa e A2 c2 l2 qb w1 HS1.out HR2.out HBb.out).mono ?_; rintro e_ w2 ⟨rfl, hs2, ho2⟩; have HS2 := Aside0.mk hs2; have HO2 := Aside0.mk (HO1.out.trans ho2); have BC2 := Aside0.mk (ho2 _ _ _ (by decide) (by decide) BC1.out); have hc3 : w2.cell? ⟨gc, 3, none⟩ = some (.slice A3 l3.length c3) := (blk_cell BC2.out 3).trans rfl; clear hs2 ho2 HS1 HO1 BC1 hc2) | (go_at_call 139; refine (numlit_st w0 b qb.1 qb.2 [(l3.length : Int)] 1 _ qc w2 rfl rfl (by simp [maxLen]) HS2.out HC.out).mono ?_; rintro e_ w3 ⟨rfl, hs3, ho3⟩; have HS3 := Aside0.mk hs3; have HO3 := Aside0.mk (HO2.out.trans ho3); have BC3 := Aside0.mk (ho3 _ _ _ (by decide) (by decide) BC2.out); have hc4 : w3.cell? ⟨gc, 3, none⟩ = some (.slice A3 l3.length c3) := (blk_cell BC3.out 3).trans rfl; clear hs3 ho3 HS2 HO2 BC2 hc3))
  go_loopw [28] (fun v28 wr => ∃ (i : Int) (o : List Int) (e1 : Int), v28 = .int .i64 i ∧ Aside0 (0 ≤ i ∧ i ≤ l3.length) ∧ Aside0 (framesL k (l3.drop i.toNat) o e1 = some z) ∧ Aside0 (WrSt w0 b o e1 wr) ∧ Aside0 (Others w wr)) (fun v28 _ => l3.length - (intOf v28).toNat)
  case atStart => exact ⟨0, qc, qb.2, rfl, ⟨by omega⟩, ⟨by simpa using HZ.out⟩, HS3, HO3⟩
  case round =>
    clear HS3 HO3 HZ BC3 hc4
    obtain ⟨i, o, e1, rfl, Hi, HX, HS, HO⟩ := hrel
    have hi0 : 0 ≤ i := Hi.out.1
    have HB := Aside0.mk HS.out.choose_spec.2
    by_cases hlt : i < (l3.length : Int)
    · have ht : decide (i < (l3.length : Int)) = true := decide_eq_true hlt
      have HW := Aside0.mk (show wrap64 (i + 1) = i + 1 by have := HN.out; unfold wrap64; omega)
      have hd : l3.drop i.toNat = rd_T27 l3 i :: l3.drop (i + 1).toNat := by
        rw [List.drop_eq_getElem_cons (by omega), show (i + 1).toNat = i.toNat + 1 by omega]
        congr 1
        rw [rd_T27, List.getD_eq_getElem?_getD, List.getElem?_eq_getElem (by omega), Option.getD_some]
      have hx := HX.out
      rw [hd, framesL] at hx
      clear hd
      obtain ⟨u, hu, hx⟩ := Option.bind_eq_some_iff.1 hx
      have HX2 := Aside0.mk hx
      clear hx HX
      obtain ⟨ad, A6, c6, A7, c7, e, h1, h2, h3, h4, h5, h6, h7, h8, hl6, hr6, hl7, hr7⟩ := at_T27 HR3.out i hi0 hlt
      cases e
      replace h1 := (HB.out.cell (World.block_lt_of_cell? w0 _ h1)).trans h1
      replace h2 := (HB.out.cell (World.block_lt_of_cell? w0 _ h2)).trans h2
      replace h3 := (HB.out.cell (World.block_lt_of_cell? w0 _ h3)).trans h3
      replace h4 := (HB.out.cell (World.block_lt_of_cell? w0 _ h4)).trans h4
      replace h5 := (HB.out.cell (World.block_lt_of_cell? w0 _ h5)).trans h5
      replace h6 := (HB.out.cell (World.block_lt_of_cell? w0 _ h6)).trans h6
      replace h7 := (HB.out.cell (World.block_lt_of_cell? w0 _ h7)).trans h7
      replace h8 := (HB.out.cell (World.block_lt_of_cell? w0 _ h8)).trans h8
      generalize rd_T27 l3 i = p at *
      have HR6 := Aside0.mk hr6
      have HR7 := Aside0.mk hr7
      have HN7 := Aside0.mk (show p.f6.length ≤ 9223372036854775807 from hr7.2.1)
      clear hl6 hr6 hl7 hr7
      unfold frameS at hu
      obtain ⟨ua, hua, hu⟩ := Option.bind_eq_some_iff.1 hu
      obtain ⟨ub, hub, hu⟩ := Option.bind_eq_some_iff.1 hu
      obtain ⟨uc, huc, hu⟩ := Option.bind_eq_some_iff.1 hu
      obtain ⟨ud, hud, hu⟩ := Option.bind_eq_some_iff.1 hu
      obtain ⟨ue, hue, hu⟩ := Option.bind_eq_some_iff.1 hu
      obtain rfl := Option.some.inj hu
      have HUA := Aside0.mk hua
      have HUB := Aside0.mk hub
      have HUC := Aside0.mk huc
      have HUD := Aside0.mk hud
      have HUE := Aside0.mk hue
      clear hua hub huc hud hue hu
      go_upto_region 8 with (first | ((with_reducible refine gate_dst (N := 5) rfl ?_); (try (refine gate_guard (by rfl) ?_; dsimp only)); refine box_event ?hg (N := 5) ?hd (cs := #[.int .i64 0, .int .i64 0, .int .i64 0, .int .i64 0, .int .i64 0, .int .i64 0, .slice none 0 0, .slice none 0 0]) (t := 27) ?hr ?_; (case hd => rfl); (case hg => rfl); (case hr => first | (go_simp; done) | (go_simp; rfl)); intro gp hgp wp hbox hb; have GP := Aside0.mk (show w0.heap.size ≤ gp by rw [hgp]; exact HB.out.size); have GP2 := Aside0.mk (Nat.le_of_eq hgp.symm); have HB2 := Aside0.mk (below_step HB.out hb); have HK2 := Aside0.mk (Kept.of_below hb (fun _ => False)); have BP := Aside0.mk hbox; have hp0 : wp.cell? ⟨gp, 0, none⟩ = some (.int .i64 0) := (blk_cell BP.out 0).trans rfl; have hf0 := blk_frozen BP.out 0; have hp1 : wp.cell? ⟨gp, 1, none⟩ = some (.int .i64 0) := (blk_cell BP.out 1).trans rfl; have hf1 := blk_frozen BP.out 1; have hp2 : wp.cell? ⟨gp, 2, none⟩ = some (.int .i64 0) := (blk_cell BP.out 2).trans rfl; have hf2 := blk_frozen BP.out 2; have hp3 : wp.cell? ⟨gp, 3, none⟩ = some (.int .i64 0) := (blk_cell BP.out 3).trans rfl; have hf3 := blk_frozen BP.out 3; have hp4 : wp.cell? ⟨gp, 4, none⟩ = some (.int .i64 0) := (blk_cell BP.out 4).trans rfl; have hf4 := blk_frozen BP.out 4; have hp5 : wp.cell? ⟨gp, 5, none⟩ = some (.int .i64 0) := (blk_cell BP.out 5).trans rfl; have hf5 := blk_frozen BP.out 5; have hp6 : wp.cell? ⟨gp, 6, none⟩ = some (.slice none 0 0) := (blk_cell BP.out 6).trans rfl; have hf6 := blk_frozen BP.out 6; have hp7 : wp.cell? ⟨gp, 7, none⟩ = some (.slice none 0 0) := (blk_cell BP.out 7).trans rfl; have hf7 := blk_frozen BP.out 7; clear hgp hbox hb) | ((with_reducible refine gate_store (t := 27) (p := 5) rfl ?_); refine store_event (t := 27) (p := 5) (v := .tmp 31) (w1 := ((((((((wp.setCell ⟨gp, 0, none⟩ (.int .i64 p.f0)).setCell ⟨gp, 1, none⟩ (.int .i64 p.f1)).setCell ⟨gp, 2, none⟩ (.int .i64 p.f2)).setCell ⟨gp, 3, none⟩ (.int .i64 p.f3)).setCell ⟨gp, 4, none⟩ (.int .i64 p.f4.f0)).setCell ⟨gp, 5, none⟩ (.int .i64 p.f4.f1)).setCell ⟨gp, 6, none⟩ (.slice A6 p.f5.length c6)).setCell ⟨gp, 7, none⟩ (.slice A7 p.f6.length c7))) ?hg ?ho ?hn ?hr ?_; (case ho => rfl); (case hg => rfl); (case hn => rfl); (case hr => first | (go_simp; done) | (go_simp; rfl)); intro w3 hw; have HB3 := Aside0.mk (below_set (below_set (below_set (below_set (below_set (below_set (below_set (below_set HB2.out GP.out (g := gp) (j := 0) (v := .int .i64 p.f0)) GP.out (g := gp) (j := 1) (v := .int .i64 p.f1)) GP.out (g := gp) (j := 2) (v := .int .i64 p.f2)) GP.out (g := gp) (j := 3) (v := .int .i64 p.f3)) GP.out (g := gp) (j := 4) (v := .int .i64 p.f4.f0)) GP.out (g := gp) (j := 5) (v := .int .i64 p.f4.f1)) GP.out (g := gp) (j := 6) (v := .slice A6 p.f5.length c6)) GP.out (g := gp) (j := 7) (v := .slice A7 p.f6.length c7)); have BP3 := Aside0.mk (blk_put (blk_put (blk_put (blk_put (blk_put (blk_put (blk_put (blk_put BP.out 0 (.int .i64 p.f0) rfl) 1 (.int .i64 p.f1) rfl) 2 (.int .i64 p.f2) rfl) 3 (.int .i64 p.f3) rfl) 4 (.int .i64 p.f4.f0) rfl) 5 (.int .i64 p.f4.f1) rfl) 6 (.slice A6 p.f5.length c6) rfl) 7 (.slice A7 p.f6.length c7) rfl); have HK3 := Aside0.mk (Kept.setCell (Kept.setCell (Kept.setCell (Kept.setCell (Kept.setCell (Kept.setCell (Kept.setCell (Kept.setCell HK2.out (p := ⟨gp, 0, none⟩) (.inr GP2.out) (.int .i64 p.f0)) (p := ⟨gp, 1, none⟩) (.inr GP2.out) (.int .i64 p.f1)) (p := ⟨gp, 2, none⟩) (.inr GP2.out) (.int .i64 p.f2)) (p := ⟨gp, 3, none⟩) (.inr GP2.out) (.int .i64 p.f3)) (p := ⟨gp, 4, none⟩) (.inr GP2.out) (.int .i64 p.f4.f0)) (p := ⟨gp, 5, none⟩) (.inr GP2.out) (.int .i64 p.f4.f1)) (p := ⟨gp, 6, none⟩) (.inr GP2.out) (.slice A6 p.f5.length c6)) (p := ⟨gp, 7, none⟩) (.inr GP2.out) (.slice A7 p.f6.length c7)); rw [← hw] at HB3 BP3 HK3; have BPf := Aside0.mk (show w3.heap[gp]? = some (.cells #[.int .i64 p.f0, .int .i64 p.f1, .int .i64 p.f2, .int .i64 p.f3, .int .i64 p.f4.f0, .int .i64 p.f4.f1, .slice A6 p.f5.length c6, .slice A7 p.f6.length c7] 27 (0, 0)) from BP3.out); have HS3 := Aside0.mk (HS.out.quiet HK3.out HB3.out); have HO3 := Aside0.mk (HO.out.trans (show Others wr w3 from fun g cs t _ _ hg => blk_kept hg HK3.out (fun h => h))); have hq0 : w3.cell? ⟨gp, 0, none⟩ = some (.int .i64 p.f0) := (blk_cell BPf.out 0).trans rfl; have hq1 : w3.cell? ⟨gp, 1, none⟩ = some (.int .i64 p.f1) := (blk_cell BPf.out 1).trans rfl; have hq2 : w3.cell? ⟨gp, 2, none⟩ = some (.int .i64 p.f2) := (blk_cell BPf.out 2).trans rfl; have hq3 : w3.cell? ⟨gp, 3, none⟩ = some (.int .i64 p.f3) := (blk_cell BPf.out 3).trans rfl; have hq4 : w3.cell? ⟨gp, 4, none⟩ = some (.int .i64 p.f4.f0) := (blk_cell BPf.out 4).trans rfl; have hq5 : w3.cell? ⟨gp, 5, none⟩ = some (.int .i64 p.f4.f1) := (blk_cell BPf.out 5).trans rfl; have hq6 : w3.cell? ⟨gp, 6, none⟩ = some (.slice A6 p.f5.length c6) := (blk_cell BPf.out 6).trans rfl; have hq7 : w3.cell? ⟨gp, 7, none⟩ = some (.slice A7 p.f6.length c7) := (blk_cell BPf.out 7).trans rfl; clear hw hp0 hf0 hp1 hf1 hp2 hf2 hp3 hf3 hp4 hf4 hp5 hf5 hp6 hf6 hp7 hf7 HB2 HK2 BP BP3 HK3 h1 h2 h3 h4 h5 h6 h7 h8) | (go_at_call 139; refine (numlit_st w0 b o e1 [p.f0, p.f1, p.f2, p.f3] 4 _ ua w3 rfl rfl (by simp [maxLen]) HS3.out HUA.out).mono ?_; rintro e_ w4 ⟨rfl, hs4, ho4⟩; have HS4 := Aside0.mk hs4; have HO4 := Aside0.mk (HO3.out.trans ho4); have BP4 := Aside0.mk (ho4 _ _ _ (by decide) (by decide) BPf.out); clear hs4 ho4 HS3 HO3 BPf hq0 hq1 hq2 hq3 hq4 hq5 hq6 hq7; have hq4 : w4.cell? ⟨gp, 4, none⟩ = some (.int .i64 p.f4.f0) := (blk_cell BP4.out 4).trans rfl; have hq5 : w4.cell? ⟨gp, 5, none⟩ = some (.int .i64 p.f4.f1) := (blk_cell BP4.out 5).trans rfl))
      (try simp only [Act.put, List.setIfInBounds_toArray, List.set_cons_zero, List.set_cons_succ])
      go_wp2_with (first | (go_at_call 141; refine (value_st w0 k b ua e1 p.f4 ub w4 HS4.out HUB.out).mono ?_; rintro e_ w5 ⟨rfl, hs5, ho5⟩; have HS5 := Aside0.mk hs5; have HO5 := Aside0.mk (HO4.out.trans ho5); have BP5 := Aside0.mk (ho5 _ _ _ (by decide) (by decide) BP4.out); have hq6 : w5.cell? ⟨gp, 6, none⟩ = some (.slice A6 p.f5.length c6) := (blk_cell BP5.out 6).trans rfl; clear hs5 ho5 HS4 HO4 BP4 hq4 hq5) | (go_at_call 140; refine (values_st w0 k b ub.1 ub.2 A6 c6 p.f5 uc w5 HS5.out HR6.out HUC.out).mono ?_; rintro e_ w6 ⟨rfl, hs6, ho6⟩; have HS6 := Aside0.mk hs6; have HO6 := Aside0.mk (HO5.out.trans ho6); have BP6 := Aside0.mk (ho6 _ _ _ (by decide) (by decide) BP5.out); have hq7 : w6.cell? ⟨gp, 7, none⟩ = some (.slice A7 p.f6.length c7) := (blk_cell BP6.out 7).trans rfl; clear hs6 ho6 HS5 HO5 BP5 hq6) | (go_at_call 139; refine (numlit_st w0 b uc.1 uc.2 [(p.f6.length : Int)] 1 _ ud w6 rfl rfl (by simp [maxLen]) HS6.out HUD.out).mono ?_; rintro e_ w7 ⟨rfl, hs7, ho7⟩; have HS7 := Aside0.mk hs7; have HO7 := Aside0.mk (HO6.out.trans ho7); have BP7 := Aside0.mk (ho7 _ _ _ (by decide) (by decide) BP6.out); have hq8 : w7.cell? ⟨gp, 7, none⟩ = some (.slice A7 p.f6.length c7) := (blk_cell BP7.out 7).trans rfl; clear hs7 ho7 HS6 HO6 BP6 hq7))
      go_loopw [60] (fun v60 wr => ∃ (j : Int) (o : List Int), v60 = .int .i64 j ∧ Aside0 (0 ≤ j ∧ j ≤ p.f6.length) ∧ Aside0 (trysL (p.f6.drop j.toNat) o = some ue) ∧ Aside0 (WrSt w0 b o uc.2 wr) ∧ Aside0 (Others w wr)) (fun v60 _ => p.f6.length - (intOf v60).toNat)
      case atStart => exact ⟨0, ud, rfl, ⟨by omega⟩, ⟨by simpa using HUE.out⟩, HS7, HO7⟩
      case round =>
        clear HS7 HO7 HUE BP7 hq8 HUA HUB HUC HUD HS HO HB
        obtain ⟨j, o, rfl, Hj, HX, HS, HO⟩ := hrel
        have hj0 : 0 ≤ j := Hj.out.1
        have HB := Aside0.mk HS.out.choose_spec.2
        by_cases hlj : j < (p.f6.length : Int)
        · have hj : decide (j < (p.f6.length : Int)) = true := decide_eq_true hlj
          have HWj := Aside0.mk (show wrap64 (j + 1) = j + 1 by have := HN7.out; unfold wrap64; omega)
          have hd : p.f6.drop j.toNat = rd_T44 p.f6 j :: p.f6.drop (j + 1).toNat := by
            rw [List.drop_eq_getElem_cons (by omega), show (j + 1).toNat = j.toNat + 1 by omega]
            congr 1
            rw [rd_T44, List.getD_eq_getElem?_getD, List.getElem?_eq_getElem (by omega), Option.getD_some]
          have hx := HX.out
          rw [hd, trysL] at hx
          clear hd
          obtain ⟨y, hy, hx⟩ := Option.bind_eq_some_iff.1 hx
          have HY := Aside0.mk hy
          have HX3 := Aside0.mk hx
          clear hx hy HX
          obtain ⟨ad2, e, h1, h2⟩ := at_T44 HR7.out j hj0 hlj
          cases e
          replace h1 := (HB.out.cell (World.block_lt_of_cell? w0 _ h1)).trans h1
          replace h2 := (HB.out.cell (World.block_lt_of_cell? w0 _ h2)).trans h2
          generalize rd_T44 p.f6 j = x at *
          go_wp2_with (first | ((with_reducible refine gate_dst (N := 7) rfl ?_); (try (refine gate_guard (by rfl) ?_; dsimp only)); refine box_event ?hg (N := 7) ?hd (cs := #[.int .i64 0, .int .i64 0]) (t := 44) ?hr ?_; (case hd => rfl); (case hg => rfl); (case hr => first | (go_simp; done) | (go_simp; rfl)); intro gt hgt wp hbox hb; have GP := Aside0.mk (show w0.heap.size ≤ gt by rw [hgt]; exact HB.out.size); have GP2 := Aside0.mk (Nat.le_of_eq hgt.symm); have HB2 := Aside0.mk (below_step HB.out hb); have HK2 := Aside0.mk (Kept.of_below hb (fun _ => False)); have BT := Aside0.mk hbox; have hp0 : wp.cell? ⟨gt, 0, none⟩ = some (.int .i64 0) := (blk_cell BT.out 0).trans rfl; have hp1 : wp.cell? ⟨gt, 1, none⟩ = some (.int .i64 0) := (blk_cell BT.out 1).trans rfl; have hf0 := blk_frozen BT.out 0; have hf1 := blk_frozen BT.out 1; clear hgt hbox hb) | ((with_reducible refine gate_store (t := 44) (p := 7) rfl ?_); refine store_event (t := 44) (p := 7) (v := .tmp 63) (w1 := (wp.setCell ⟨gt, 0, none⟩ (.int .i64 x.f0)).setCell ⟨gt, 1, none⟩ (.int .i64 x.f1)) ?hg ?ho ?hn ?hr ?_; (case ho => rfl); (case hg => rfl); (case hn => rfl); (case hr => first | (go_simp; done) | (go_simp; rfl)); intro w8 hw; have HB3 := Aside0.mk (below_set (below_set HB2.out GP.out (g := gt) (j := 0) (v := .int .i64 x.f0)) GP.out (g := gt) (j := 1) (v := .int .i64 x.f1)); have BT3 := Aside0.mk (blk_put (blk_put BT.out 0 (.int .i64 x.f0) rfl) 1 (.int .i64 x.f1) rfl); have HK3 := Aside0.mk (Kept.setCell (Kept.setCell HK2.out (p := ⟨gt, 0, none⟩) (.inr GP2.out) (.int .i64 x.f0)) (p := ⟨gt, 1, none⟩) (.inr GP2.out) (.int .i64 x.f1)); rw [← hw] at HB3 BT3 HK3; have HS3 := Aside0.mk (HS.out.quiet HK3.out HB3.out); have HO3 := Aside0.mk (HO.out.trans (show Others wr w8 from fun g cs t _ _ hg => blk_kept hg HK3.out (fun h => h))); have hq0 : w8.cell? ⟨gt, 0, none⟩ = some (.int .i64 x.f0) := (blk_cell BT3.out 0).trans rfl; have hq1 : w8.cell? ⟨gt, 1, none⟩ = some (.int .i64 x.f1) := (blk_cell BT3.out 1).trans rfl; clear hw hp0 hp1 hf0 hf1 HB2 HK2 BT h1 h2) | (go_at_call 139; refine (numlit_st w0 b o uc.2 [x.f0, x.f1] 2 _ y w8 rfl rfl (by simp [maxLen]) HS3.out HY.out).mono ?_; rintro e_ w9 ⟨rfl, hs9, ho9⟩; have HS9 := Aside0.mk hs9; have HO9 := Aside0.mk (HO3.out.trans ho9); clear hs9 ho9 HS3 HO3 hq0 hq1 BT3 HK3))
          go_roundw
          case rel => exact ⟨j + 1, y, by first | rw [HWj.out] | rfl, ⟨by omega⟩, HX3, HS9, HO9⟩
          case measure => simp only [intOf]; (try rw [HWj.out]); omega
        · have hj : decide (j < (p.f6.length : Int)) = false := decide_eq_false hlj
          have hx := HX.out
          rw [List.drop_eq_nil_of_le (by omega), trysL] at hx
          obtain rfl := Option.some.inj hx
          clear hx HX
          go_wp2
          go_roundw
          case rel => exact ⟨i + 1, o, uc.2, by first | rw [HW.out] | rfl, ⟨by omega⟩, HX2, HS, HO⟩
          case measure => simp only [intOf]; (try rw [HW.out]); omega
    · have ht : decide (i < (l3.length : Int)) = false := decide_eq_false hlt
      have hx := HX.out
      rw [List.drop_eq_nil_of_le (by omega), framesL] at hx
      obtain rfl := Option.some.inj hx
      clear hx HX
      go_wp2
      go_end0
      exact ⟨rfl, HS.out, HO.out⟩
def words_Of.f (k : Nat) (a0_0 a0_1 : Int) (l0_2 : List (S23)) (l0_3 : List (S27)) : Option (List Int × Int) :=
  (words_large.f k a0_0 a0_1 l0_2 l0_3).bind fun g => if g = true then some ([], 2) else (cellS k a0_0 a0_1 l0_2 l0_3 [] 0).bind fun q => if q.2 = 0 then some (q.1, 0) else some ([], q.2)
theorem words_Of.mono : ∀ a0 a1 a2 a3 k, LeO (words_Of.f k a0 a1 a2 a3) (words_Of.f (k + 1) a0 a1 a2 a3) := by
  intro a0 a1 a2 a3 k
  unfold words_Of.f
  exact LeO.bind (words_large.mono _ _ _ _ _) (fun g => LeO.ite (LeO.refl _) (LeO.bind (cellS.mono _ _ _ _ _ _ _) (fun q => LeO.refl _)))
set_option maxHeartbeats 8000000 in
set_option maxRecDepth 100000 in
theorem words_Of.calls (k : Nat) (a0_0 : Int) (a0_1 : Int) (A0_2 : Option Addr) (c0_2 : Nat) (l0_2 : List (S23)) (A0_3 : Option Addr) (c0_3 : Nat) (l0_3 : List (S27)) (r1 : List Int) (r2 : Int) (w : World) (hr0_2 : Kd.C k23 w A0_2 l0_2.length l0_2) (hc0_2 : l0_2.length ≤ c0_2) (hr0_3 : Kd.C k27 w A0_3 l0_3.length l0_3) (hc0_3 : l0_3.length ≤ c0_3) (h : words_Of.f k a0_0 a0_1 l0_2 l0_3 = some (r1, r2)) :
    Calls Try.prog 35 #[.agg #[.int .i64 a0_0, .int .i64 a0_1, .slice A0_2 l0_2.length c0_2, .slice A0_3 l0_3.length c0_3]] w fun e w' => ∃ v0_ : Value, e = .returned (.tuple #[v0_, .int .i64 r2]) ∧ Kd.R (Kd.int .u64) 46 w' w.heap.size (fun _ => True) v0_ r1 ∧ Below w.heap.size w w' := by
  have HR2 := Aside0.mk hr0_2
  have HR3 := Aside0.mk hr0_3
  have HC2 := Aside0.mk hc0_2
  have HC3 := Aside0.mk hc0_3
  clear hr0_2 hr0_3 hc0_2 hc0_3
  unfold words_Of.f at h
  obtain ⟨g, hg, h⟩ := Option.bind_eq_some_iff.1 h
  have HG := Aside0.mk hg
  clear hg
  cases g with
  | true =>
    simp only [if_true, Option.some.injEq, Prod.mk.injEq] at h
    obtain ⟨rfl, rfl⟩ := h
    go_enter Try.func35, Try.ntmps35
    go_wp2_with (first | ((with_reducible refine gate_dst (N := 1) rfl ?_); (try (refine gate_guard (by rfl) ?_; dsimp only)); refine box_event ?hg (N := 1) ?hd (cs := #[.int .i64 a0_0, .int .i64 a0_1, .slice A0_2 l0_2.length c0_2, .slice A0_3 l0_3.length c0_3]) (t := 61) ?hr ?_; (case hd => rfl); (case hg => rfl); (case hr => first | (go_simp; done) | (go_simp; rfl)); intro gc hgc wb hbox hb; have BC := Aside0.mk hbox; have HB := Aside0.mk hb; have hc0 : wb.cell? ⟨gc, 0, none⟩ = some (.int .i64 a0_0) := (blk_cell BC.out 0).trans rfl; have hc1 : wb.cell? ⟨gc, 1, none⟩ = some (.int .i64 a0_1) := (blk_cell BC.out 1).trans rfl; have hc2 : wb.cell? ⟨gc, 2, none⟩ = some (.slice A0_2 l0_2.length c0_2) := (blk_cell BC.out 2).trans rfl; have hc3 : wb.cell? ⟨gc, 3, none⟩ = some (.slice A0_3 l0_3.length c0_3) := (blk_cell BC.out 3).trans rfl; clear hgc hbox hb) | (go_at_call 91; refine (words_large.calls k a0_0 a0_1 A0_2 c0_2 l0_2 A0_3 c0_3 l0_3 true wb (Kd.C_below HR2.out HB.out) HC2.out (Kd.C_below HR3.out HB.out) HC3.out HG.out).mono ?_; rintro e w1 ⟨rfl, hb1⟩; have HB1 := Aside0.mk (HB.out.trans (hb1.mono HB.out.size)); clear hb1 hc0 hc1 hc2 hc3 HB BC))
    go_ret2
    exact ⟨_, rfl, Kd.R_nil _ _ _ _ _, HB1.out⟩
  | false =>
    rw [if_neg (by decide)] at h
    obtain ⟨⟨q1, q2⟩, hq, h⟩ := Option.bind_eq_some_iff.1 h
    have HQ := Aside0.mk hq
    clear hq
    have HH := Aside0.mk h
    clear h
    by_cases hq0 : q2 = 0
    · subst hq0
      have h := HH.out
      rw [if_pos rfl] at h
      simp only [Option.some.injEq, Prod.mk.injEq] at h
      obtain ⟨rfl, rfl⟩ := h
      clear HH
      go_enter Try.func35, Try.ntmps35
      go_wp2_with (first | ((with_reducible refine gate_dst (N := 1) rfl ?_); (try (refine gate_guard (by rfl) ?_; dsimp only)); refine box_event ?hg (N := 1) ?hd (cs := #[.int .i64 a0_0, .int .i64 a0_1, .slice A0_2 l0_2.length c0_2, .slice A0_3 l0_3.length c0_3]) (t := 61) ?hr ?_; (case hd => rfl); (case hg => rfl); (case hr => first | (go_simp; done) | (go_simp; rfl)); intro gc hgc wb hbox hb; have BC := Aside0.mk hbox; have HB := Aside0.mk hb; have hc0 : wb.cell? ⟨gc, 0, none⟩ = some (.int .i64 a0_0) := (blk_cell BC.out 0).trans rfl; have hc1 : wb.cell? ⟨gc, 1, none⟩ = some (.int .i64 a0_1) := (blk_cell BC.out 1).trans rfl; have hc2 : wb.cell? ⟨gc, 2, none⟩ = some (.slice A0_2 l0_2.length c0_2) := (blk_cell BC.out 2).trans rfl; have hc3 : wb.cell? ⟨gc, 3, none⟩ = some (.slice A0_3 l0_3.length c0_3) := (blk_cell BC.out 3).trans rfl; clear hgc hbox hb) | (go_at_call 91; refine (words_large.calls k a0_0 a0_1 A0_2 c0_2 l0_2 A0_3 c0_3 l0_3 false wb (Kd.C_below HR2.out HB.out) HC2.out (Kd.C_below HR3.out HB.out) HC3.out HG.out).mono ?_; rintro e w1 ⟨rfl, hb1⟩; have HB1 := Aside0.mk (HB.out.trans (hb1.mono HB.out.size)); have BC1 := Aside0.mk (blk_below BC.out hb1); clear hb1 hc0 hc1 hc2 hc3 HB BC) | ((with_reducible refine gate_dst (N := 8) rfl ?_); (try (refine gate_guard (by rfl) ?_; dsimp only)); refine box_event ?hg (N := 8) ?hd (cs := #[.slice none 0 0, .int .i64 0]) (t := 151) ?hr ?_; (case hd => rfl); (case hg => rfl); (case hr => first | (go_simp; done) | (go_simp; rfl)); intro b hgb w2 hbox hb; have HS2 := Aside0.mk (show WrSt w b [] 0 w2 from ⟨_, ⟨hbox, by rw [hgb]; exact HB1.out.size, Kd.R_nil _ _ _ _ _⟩, below_step HB1.out hb⟩); have BC2 := Aside0.mk (blk_below BC1.out hb); have hd0 : w2.cell? ⟨gc, 0, none⟩ = some (.int .i64 a0_0) := (blk_cell BC2.out 0).trans rfl; have hd1 : w2.cell? ⟨gc, 1, none⟩ = some (.int .i64 a0_1) := (blk_cell BC2.out 1).trans rfl; have hd2 : w2.cell? ⟨gc, 2, none⟩ = some (.slice A0_2 l0_2.length c0_2) := (blk_cell BC2.out 2).trans rfl; have hd3 : w2.cell? ⟨gc, 3, none⟩ = some (.slice A0_3 l0_3.length c0_3) := (blk_cell BC2.out 3).trans rfl; clear hgb hbox hb HB1 BC1) | (go_at_call 92; refine (cell_st w k b [] 0 a0_0 a0_1 A0_2 c0_2 l0_2 A0_3 c0_3 l0_3 (q1, 0) w2 HS2.out HR2.out HR3.out HQ.out).mono ?_; rintro e w5 ⟨rfl, ⟨vt, hi5, hb5⟩, ho5⟩; have HI5 := Aside0.mk hi5; have HB5 := Aside0.mk hb5; obtain ⟨At, nt, ct, rfl⟩ : ∃ At nt ct, vt = .slice At nt ct := (let ⟨A_, c_, h_⟩ := Kd.R_slice hi5.row; ⟨A_, _, c_, h_⟩); have hx0 : w5.cell? ⟨b, 0, none⟩ = some (.slice At nt ct) := (by simp [World.cell?, HI5.out.blk]); have hx1 : w5.cell? ⟨b, 1, none⟩ = some (.int .i64 0) := (by simp [World.cell?, HI5.out.blk]); clear hi5 hb5 ho5 HS2 BC2 hd0 hd1 hd2 hd3))
      go_ret2
      exact ⟨_, rfl, HI5.out.row, HB5.out⟩
    · have h := HH.out
      rw [if_neg hq0] at h
      simp only [Option.some.injEq, Prod.mk.injEq] at h
      obtain ⟨rfl, rfl⟩ := h
      have hqb : (q2 == 0) = false := beq_eq_false_iff_ne.mpr hq0
      have hqc : (q2 != 0) = true := bne_iff_ne.mpr hq0
      clear HH hq0
      go_enter Try.func35, Try.ntmps35
      go_wp2_with (first | ((with_reducible refine gate_dst (N := 1) rfl ?_); (try (refine gate_guard (by rfl) ?_; dsimp only)); refine box_event ?hg (N := 1) ?hd (cs := #[.int .i64 a0_0, .int .i64 a0_1, .slice A0_2 l0_2.length c0_2, .slice A0_3 l0_3.length c0_3]) (t := 61) ?hr ?_; (case hd => rfl); (case hg => rfl); (case hr => first | (go_simp; done) | (go_simp; rfl)); intro gc hgc wb hbox hb; have BC := Aside0.mk hbox; have HB := Aside0.mk hb; have hc0 : wb.cell? ⟨gc, 0, none⟩ = some (.int .i64 a0_0) := (blk_cell BC.out 0).trans rfl; have hc1 : wb.cell? ⟨gc, 1, none⟩ = some (.int .i64 a0_1) := (blk_cell BC.out 1).trans rfl; have hc2 : wb.cell? ⟨gc, 2, none⟩ = some (.slice A0_2 l0_2.length c0_2) := (blk_cell BC.out 2).trans rfl; have hc3 : wb.cell? ⟨gc, 3, none⟩ = some (.slice A0_3 l0_3.length c0_3) := (blk_cell BC.out 3).trans rfl; clear hgc hbox hb) | (go_at_call 91; refine (words_large.calls k a0_0 a0_1 A0_2 c0_2 l0_2 A0_3 c0_3 l0_3 false wb (Kd.C_below HR2.out HB.out) HC2.out (Kd.C_below HR3.out HB.out) HC3.out HG.out).mono ?_; rintro e w1 ⟨rfl, hb1⟩; have HB1 := Aside0.mk (HB.out.trans (hb1.mono HB.out.size)); have BC1 := Aside0.mk (blk_below BC.out hb1); clear hb1 hc0 hc1 hc2 hc3 HB BC) | ((with_reducible refine gate_dst (N := 8) rfl ?_); (try (refine gate_guard (by rfl) ?_; dsimp only)); refine box_event ?hg (N := 8) ?hd (cs := #[.slice none 0 0, .int .i64 0]) (t := 151) ?hr ?_; (case hd => rfl); (case hg => rfl); (case hr => first | (go_simp; done) | (go_simp; rfl)); intro b hgb w2 hbox hb; have HS2 := Aside0.mk (show WrSt w b [] 0 w2 from ⟨_, ⟨hbox, by rw [hgb]; exact HB1.out.size, Kd.R_nil _ _ _ _ _⟩, below_step HB1.out hb⟩); have BC2 := Aside0.mk (blk_below BC1.out hb); have hd0 : w2.cell? ⟨gc, 0, none⟩ = some (.int .i64 a0_0) := (blk_cell BC2.out 0).trans rfl; have hd1 : w2.cell? ⟨gc, 1, none⟩ = some (.int .i64 a0_1) := (blk_cell BC2.out 1).trans rfl; have hd2 : w2.cell? ⟨gc, 2, none⟩ = some (.slice A0_2 l0_2.length c0_2) := (blk_cell BC2.out 2).trans rfl; have hd3 : w2.cell? ⟨gc, 3, none⟩ = some (.slice A0_3 l0_3.length c0_3) := (blk_cell BC2.out 3).trans rfl; clear hgb hbox hb HB1 BC1) | (go_at_call 92; refine (cell_st w k b [] 0 a0_0 a0_1 A0_2 c0_2 l0_2 A0_3 c0_3 l0_3 (q1, q2) w2 HS2.out HR2.out HR3.out HQ.out).mono ?_; rintro e w5 ⟨rfl, ⟨vt, hi5, hb5⟩, ho5⟩; have HI5 := Aside0.mk hi5; have HB5 := Aside0.mk hb5; obtain ⟨At, nt, ct, rfl⟩ : ∃ At nt ct, vt = .slice At nt ct := (let ⟨A_, c_, h_⟩ := Kd.R_slice hi5.row; ⟨A_, _, c_, h_⟩); have hx0 : w5.cell? ⟨b, 0, none⟩ = some (.slice At nt ct) := (by simp [World.cell?, HI5.out.blk]); have hx1 : w5.cell? ⟨b, 1, none⟩ = some (.int .i64 q2) := (by simp [World.cell?, HI5.out.blk]); clear hi5 hb5 ho5 HS2 BC2 hd0 hd1 hd2 hd3))
      (try simp only [Act.put, List.setIfInBounds_toArray, List.set_cons_zero, List.set_cons_succ])
      go_quiet (fail)
      go_wp2
      go_ret2
      exact ⟨_, rfl, Kd.R_nil _ _ _ _ _, pw_below_drewN HB5.out _⟩

/-! ### backstitchref3_Eq_uint64: function 37 -/
def backstitchref3_Eq_uint64.l0 : Nat → List Int → List Int → Int → Int → Option (Bool)
  | 0, _, _, _, _ => none
  | k + 1, x1, x12, x13, x14 => if x14 < x13 then (if 0 ≤ x14 then (if x14 < (x12.length : Int) then (if x14 < (x1.length : Int) then (if (rd x12 x14) = (rd x1 x14) then (backstitchref3_Eq_uint64.l0 k x1 x12 x13 (wrap64 (x14 + 1))) else (some false)) else (none)) else (none)) else (none)) else (some true)
def backstitchref3_Eq_uint64.f (k : Nat) (l0 : List Int) (l1 : List Int) : Option (Bool) := if (l0.length : Int) = (l1.length : Int) then (backstitchref3_Eq_uint64.l0 k l1 l0 (l0.length : Int) 0) else (some false)
theorem backstitchref3_Eq_uint64.mono_l : ∀ k, (∀ y0 y1 y2 y3, LeO (backstitchref3_Eq_uint64.l0 k y0 y1 y2 y3) (backstitchref3_Eq_uint64.l0 (k + 1) y0 y1 y2 y3))
  | 0 => fun _ _ _ _ r h => by simp [backstitchref3_Eq_uint64.l0] at h
  | k + 1 => by
    have ih0 := backstitchref3_Eq_uint64.mono_l k
    · intro y0 y1 y2 y3
      unfold backstitchref3_Eq_uint64.l0
      repeat' first
      | (with_reducible exact ih0 _ _ _ _)
      | (with_reducible exact LeO.refl _)
      | (with_reducible exact LeO.none _)
      | (with_reducible refine LeO.ite ?_ ?_)
      | (with_reducible refine LeO.bind ?_ (fun _ => ?_))
      | exact ih0 _ _ _ _
      | exact LeO.none _
      | refine LeO.ite ?_ ?_
      | refine LeO.bind ?_ (fun _ => ?_)
theorem backstitchref3_Eq_uint64.mono : ∀ a0 a1 k, LeO (backstitchref3_Eq_uint64.f k a0 a1) (backstitchref3_Eq_uint64.f (k + 1) a0 a1) := by
  intro a0 a1 k
  have ih0 := backstitchref3_Eq_uint64.mono_l k
  unfold backstitchref3_Eq_uint64.f
  repeat' first
      | (with_reducible exact ih0 _ _ _ _)
      | (with_reducible exact LeO.refl _)
      | (with_reducible exact LeO.none _)
      | (with_reducible refine LeO.ite ?_ ?_)
      | (with_reducible refine LeO.bind ?_ (fun _ => ?_))
      | exact ih0 _ _ _ _
      | exact LeO.none _
      | refine LeO.ite ?_ ?_
      | refine LeO.bind ?_ (fun _ => ?_)
set_option maxHeartbeats 8000000 in
set_option maxRecDepth 100000 in
theorem backstitchref3_Eq_uint64.calls (k : Nat) (A0 : Option Addr) (c0 : Nat) (l0 : List Int) (A1 : Option Addr) (c1 : Nat) (l1 : List Int) (r : Bool) (w : World) (hr0 : Kd.C (Kd.int .u64) w A0 l0.length l0) (hc0 : l0.length ≤ c0) (hr1 : Kd.C (Kd.int .u64) w A1 l1.length l1) (hc1 : l1.length ≤ c1) (h : backstitchref3_Eq_uint64.f k l0 l1 = some r) :
    Calls Try.prog 37 #[.slice A0 l0.length c0, .slice A1 l1.length c1] w fun e w' => e = .returned (.bool r) ∧ Drawn0 w w' := by
  have HR0 := Aside0.mk hr0
  have HC0 := Aside0.mk hc0
  clear hr0 hc0
  have HR1 := Aside0.mk hr1
  have HC1 := Aside0.mk hc1
  clear hr1 hc1
  have H : (if (l0.length : Int) = (l1.length : Int) then (backstitchref3_Eq_uint64.l0 k l1 l0 (l0.length : Int) 0) else (some false)) = some r := h
  clear h
  by_cases c3 : (l0.length : Int) = (l1.length : Int)
  · rw [if_pos c3] at H
    have c3b0 : ((l0.length : Int) == (l1.length : Int)) = true := beq_iff_eq.mpr c3
    have c3b1 : ((l0.length : Int) != (l1.length : Int)) = false := bne_eq_false_iff_eq.mpr c3
    have c3b2 : (l0.length == l1.length) = true := by first | simpa using c3 | (simp at c3 ⊢; omega)
    clear c3
    have H' := Aside0.mk H
    clear H
    go_enter Try.func37, Try.ntmps37
    go_wp2
    go_loopg [14] k (fun kq v14 w' => ∃ (x14_1 : Int), v14 = .int .i64 x14_1 ∧ Aside0 (backstitchref3_Eq_uint64.l0 kq l1 l0 (l0.length : Int) x14_1 = some r) ∧ Aside0 (kq ≤ k) ∧ Drawn0 w w')
    case atStart => exact ⟨(0), (by first | rfl | (simp; done) | (simp [*]; done)), H', ⟨Nat.le_refl _⟩, by repeat (first | exact Drawn0.refl _ | apply Drawn0.step)⟩
    case round =>
      clear H'
      try clear c1
      try clear p2
      try clear c3
      try clear c3b0
      try clear c3b1
      try clear c3b2
      obtain ⟨x14_1, rfl, HA, HK1, ⟨m1, rfl⟩⟩ := hrel
      cases gk with
      | zero => exact absurd HA.out (by simp [backstitchref3_Eq_uint64.l0])
      | succ k1 =>
        have H := HA.out
        clear HA
        simp only [backstitchref3_Eq_uint64.l0] at H
        by_cases c4 : x14_1 < (l0.length : Int)
        · rw [if_pos c4] at H
          have c4b0 : decide (x14_1 < (l0.length : Int)) = true := decide_eq_true c4
          clear c4
          by_cases c5 : 0 ≤ x14_1
          · rw [if_pos c5] at H
            have c5b0 : decide (0 ≤ x14_1) = true := decide_eq_true c5
            clear c5
            by_cases c6 : x14_1 < (l0.length : Int)
            · rw [if_pos c6] at H
              have c6b0 : decide (x14_1 < (l0.length : Int)) = true := decide_eq_true c6
              clear c6
              by_cases c7 : x14_1 < (l1.length : Int)
              · rw [if_pos c7] at H
                have c7b0 : decide (x14_1 < (l1.length : Int)) = true := decide_eq_true c7
                clear c7
                by_cases c8 : (rd l0 x14_1) = (rd l1 x14_1)
                · rw [if_pos c8] at H
                  have c8b0 : ((rd l0 x14_1) == (rd l1 x14_1)) = true := beq_iff_eq.mpr c8
                  have c8b1 : ((rd l0 x14_1) != (rd l1 x14_1)) = false := bne_eq_false_iff_eq.mpr c8
                  clear c8
                  have H' := Aside0.mk H
                  clear H
                  have p110 : 0 ≤ (x14_1 : Int) := of_decide_eq_true (by first | (with_reducible assumption) | assumption)
                  have q110 : x14_1 < (l0.length : Int) := of_decide_eq_true (by first | (with_reducible assumption) | assumption)
                  obtain ⟨ad110, e110, hx110_0⟩ := Kd.at_int HR0.out x14_1 p110 q110
                  cases e110
                  replace p110 := eq_true p110
                  replace q110 := eq_true q110
                  have p111 : 0 ≤ (x14_1 : Int) := of_decide_eq_true (by first | (with_reducible assumption) | assumption)
                  have q111 : x14_1 < (l1.length : Int) := of_decide_eq_true (by first | (with_reducible assumption) | assumption)
                  obtain ⟨ad111, e111, hx111_0⟩ := Kd.at_int HR1.out x14_1 p111 q111
                  cases e111
                  replace p111 := eq_true p111
                  replace q111 := eq_true q111
                  go_wp2
                  go_roundg k1
                  case measure => have := HK1.out; omega
                  case rel => exact ⟨(wrap64 (x14_1 + 1)), (by first | rfl | (simp; done) | (simp [*]; done)), H', ⟨by have := HK1.out; omega⟩, by repeat (first | exact Drawn0.refl _ | apply Drawn0.step)⟩
                · rw [if_neg c8] at H
                  have c8b0 : ((rd l0 x14_1) == (rd l1 x14_1)) = false := beq_eq_false_iff_ne.mpr c8
                  have c8b1 : ((rd l0 x14_1) != (rd l1 x14_1)) = true := bne_iff_ne.mpr c8
                  obtain rfl := Option.some.inj H
                  have p110 : 0 ≤ (x14_1 : Int) := of_decide_eq_true (by first | (with_reducible assumption) | assumption)
                  have q110 : x14_1 < (l0.length : Int) := of_decide_eq_true (by first | (with_reducible assumption) | assumption)
                  obtain ⟨ad110, e110, hx110_0⟩ := Kd.at_int HR0.out x14_1 p110 q110
                  cases e110
                  replace p110 := eq_true p110
                  replace q110 := eq_true q110
                  have p111 : 0 ≤ (x14_1 : Int) := of_decide_eq_true (by first | (with_reducible assumption) | assumption)
                  have q111 : x14_1 < (l1.length : Int) := of_decide_eq_true (by first | (with_reducible assumption) | assumption)
                  obtain ⟨ad111, e111, hx111_0⟩ := Kd.at_int HR1.out x14_1 p111 q111
                  cases e111
                  replace p111 := eq_true p111
                  replace q111 := eq_true q111
                  go_wp2
                  go_ret
                  exact ⟨by first | rfl | (simp; done) | (simp [*]; done), by repeat (first | exact Drawn0.refl _ | apply Drawn0.step)⟩
              · rw [if_neg c7] at H
                exact absurd H (by simp)
            · rw [if_neg c6] at H
              exact absurd H (by simp)
          · rw [if_neg c5] at H
            exact absurd H (by simp)
        · rw [if_neg c4] at H
          have c4b0 : decide (x14_1 < (l0.length : Int)) = false := decide_eq_false c4
          clear c4
          obtain rfl := Option.some.inj H
          go_wp2
          go_ret
          exact ⟨by first | rfl | (simp; done) | (simp [*]; done), by repeat (first | exact Drawn0.refl _ | apply Drawn0.step)⟩
  · rw [if_neg c3] at H
    have c3b0 : ((l0.length : Int) == (l1.length : Int)) = false := beq_eq_false_iff_ne.mpr c3
    have c3b1 : ((l0.length : Int) != (l1.length : Int)) = true := bne_iff_ne.mpr c3
    have c3b2 : (l0.length == l1.length) = false := by first | simpa using c3 | (simp at c3 ⊢; omega)
    obtain rfl := Option.some.inj H
    go_enter Try.func37, Try.ntmps37
    go_wp2
    go_ret
    exact ⟨by first | rfl | (simp; done) | (simp [*]; done), by repeat (first | exact Drawn0.refl _ | apply Drawn0.step)⟩

/-! ### backstitchlaw3_worded: function 34 -/
def backstitchlaw3_worded.f (k : Nat)  : Option (Bool) := (words_Of.f k 3 0 (([(⟨0, 0⟩ : S23)] : List (S23))) ([] : List (S27))).bind fun bt115 => (if bt115.2 = 0 then ((backstitchref3_Eq_uint64.f k bt115.1 (([3, 0, 1, 18444773748872577024, 0] : List Int))).bind fun t122 => (some t122)) else (some false))
theorem backstitchlaw3_worded.mono : ∀ k, LeO (backstitchlaw3_worded.f k ) (backstitchlaw3_worded.f (k + 1) ) := by
  intro  k
  unfold backstitchlaw3_worded.f
  repeat' first
      | (with_reducible exact backstitchref3_Eq_uint64.mono _ _ _)
      | (with_reducible exact words_Of.mono _ _ _ _ _)
      | (with_reducible exact LeO.refl _)
      | (with_reducible exact LeO.none _)
      | (with_reducible refine LeO.ite ?_ ?_)
      | (with_reducible refine LeO.bind ?_ (fun _ => ?_))
      | exact backstitchref3_Eq_uint64.mono _ _ _
      | exact words_Of.mono _ _ _ _ _
      | exact LeO.none _
      | refine LeO.ite ?_ ?_
      | refine LeO.bind ?_ (fun _ => ?_)
set_option maxHeartbeats 8000000 in
set_option maxRecDepth 100000 in
theorem backstitchlaw3_worded.calls (k : Nat)  (r : Bool) (w : World) (h : backstitchlaw3_worded.f k  = some r) :
    Calls Try.prog 34 #[] w fun e w' => e = .returned (.bool r) ∧ Below w.heap.size w w' := by
  have hu23 := Try.underlying23
  have hu61 := Try.underlying61
  have HB := Aside0.mk (Below.refl w.heap.size w)
  have H : ((words_Of.f k 3 0 (([(⟨0, 0⟩ : S23)] : List (S23))) ([] : List (S27))).bind fun bt115 => (if bt115.2 = 0 then ((backstitchref3_Eq_uint64.f k bt115.1 (([3, 0, 1, 18444773748872577024, 0] : List Int))).bind fun t122 => (some t122)) else (some false))) = some r := h
  clear h
  obtain ⟨y112, hy112⟩ : ∃ y_ : List (S23), y_ = (([(⟨0, 0⟩ : S23)] : List (S23))) := ⟨_, rfl⟩
  replace H : ((words_Of.f k 3 0 y112 ([] : List (S27))).bind fun bt115 => (if bt115.2 = 0 then ((backstitchref3_Eq_uint64.f k bt115.1 (([3, 0, 1, 18444773748872577024, 0] : List Int))).bind fun t122 => (some t122)) else (some false))) = some r := by first | (rw [hy112]; with_reducible exact H) | (have H2_ := (Option.bind_some _ _).symm.trans H; rw [hy112]; with_reducible exact H2_) | (have H2_ := (Option.bind_some _ _).symm.trans H; with_reducible exact H2_) | with_reducible exact H | (rw [hy112]; exact H) | exact H
  have Ny112 := Aside0.mk hy112
  clear hy112
  replace H := Option.bind_eq_some_iff.mp H
  obtain ⟨⟨t115, t118⟩, A10, H⟩ := H
  replace H : (if t118 = 0 then ((backstitchref3_Eq_uint64.f k t115 (([3, 0, 1, 18444773748872577024, 0] : List Int))).bind fun t122 => (some t122)) else (some false)) = some r := H
  have A1 := Aside0.mk A10
  clear A10
  by_cases c2 : t118 = 0
  · rw [if_pos c2] at H
    have c2b0 : (t118 == 0) = true := beq_iff_eq.mpr c2
    have c2b1 : (t118 != 0) = false := bne_eq_false_iff_eq.mpr c2
    clear c2
    obtain ⟨y119, hy119⟩ : ∃ y_ : List Int, y_ = (([3, 0, 1, 18444773748872577024, 0] : List Int)) := ⟨_, rfl⟩
    replace H : ((backstitchref3_Eq_uint64.f k t115 y119).bind fun t122 => (some t122)) = some r := by first | (rw [hy119]; with_reducible exact H) | (have H2_ := (Option.bind_some _ _).symm.trans H; rw [hy119]; with_reducible exact H2_) | (have H2_ := (Option.bind_some _ _).symm.trans H; with_reducible exact H2_) | with_reducible exact H | (rw [hy119]; exact H) | exact H
    have Ny119 := Aside0.mk hy119
    clear hy119
    replace H := Option.bind_eq_some_iff.mp H
    obtain ⟨t122, A30, H⟩ := H
    replace H : (some t122) = some r := H
    have A3 := Aside0.mk A30
    clear A30
    obtain rfl := Option.some.inj H
    go_enter Try.func34, Try.ntmps34
    go_wp2_with (first | ((with_reducible refine gate_dst (N := 5) rfl ?_); (try (refine gate_guard (by rfl) ?_; dsimp only)); refine Kd.R_lit k23 _ 23 ?hg (N := 5) ?hd (xs := ([(⟨0, 0⟩ : S23)] : List (S23))) (inner := [.int .i64 0, .int .i64 0]) (ok := fun _ => True) (okp := fun _ => True) ?hr ?hp (fun _ hk => hk) trivial (Below.refl _ _) (Nat.le_refl _) (by simp) ?_; (case hd => rfl); (case hg => rfl); (case hr => first | (go_simp; done) | (go_simp; rfl)); (case hp => exact (Reps.c2 (show Kd.M k23 _ _ _ (⟨0, 0⟩ : S23) [.int .i64 0, .int .i64 0] from (k23_mkM _ _ _ (⟨0, 0⟩ : S23) )) (Reps.none _ _))); intro v113 w4 ho5 hb hg_ hnew_; clear hg_ hnew_; (first | rw [← Ny112.out] at ho5 | (simp only [Int.reduceToNat] at ho5; rw [← Ny112.out] at ho5)); have n0_ := Aside0.mk (Kd.R_lower ho5 (below_size (by repeat (first | (with_reducible first | exact HB.out | apply below_alloc | apply pw_below_drewN | apply below_drew1) | exact HB.out)))); have n1_ := Aside0.mk (below_step (by repeat (first | (with_reducible first | exact HB.out | apply below_alloc | apply pw_below_drewN | apply below_drew1) | exact HB.out)) hb); clear HB; have HO114 := n0_; have HB := n1_; clear n0_ n1_; clear hb ho5; obtain ⟨Ao6, co6, eo6⟩ := Kd.R_slice HO114.out; subst eo6) | ((with_reducible refine gate_callee (f := 35) rfl ?_); refine goesL_ (some 7) rfl rfl Try.func35 (by kernel_rfl) rfl #[.agg #[.int .i64 3, .int .i64 0, .slice Ao6 y112.length co6, .slice none 0 0]] rfl (by (try simp only [List.map_toArray, List.map_cons, List.map_nil]); first | done | rfl | (simp only [List.length_drop, List.length_take]; rfl)) ?_; (refine (words_Of.calls k 3 0 _ _ y112 _ _ ([] : List (S27)) t115 t118 _ ?side1 ?side2 ?side3 ?side4 A1.out).mono ?_); (case side1 => repeat (first | exact (Kd.R_reads' HO114.out).2.2 | (with_reducible refine Kd.C_alloc ?_ _) | (with_reducible refine Kd.C_drewN ?_ _) | (with_reducible refine Kd.C_drew ?_))); (case side2 => exact (Kd.R_reads' HO114.out).2.1); (case side3 => exact Kd.C_nil _ _); (case side4 => exact Nat.le_refl _); rintro e w7 ⟨v116, rfl, ho0, hb⟩; refine ⟨_, rfl, ?_⟩; have n0_ := Aside0.mk (Kd.R_below (by (with_reducible repeat (first | apply Kd.R_alloc | apply Kd.R_drewN | apply Kd.R_drew)); exact HO114.out) hb); have n1_ := Aside0.mk (Kd.R_lower ho0 (below_size (by repeat (first | (with_reducible first | exact HB.out | apply below_alloc | apply pw_below_drewN | apply below_drew1) | exact HB.out)))); have n2_ := Aside0.mk (below_step (by repeat (first | (with_reducible first | exact HB.out | apply below_alloc | apply pw_below_drewN | apply below_drew1) | exact HB.out)) hb); clear HO114; clear HB; have HO114 := n0_; have HO117 := n1_; have HB := n2_; clear n0_ n1_ n2_; (try clear hb); (try clear hb2); (try clear hk); (try clear hi); (try clear ho0)) | ((with_reducible refine gate_dst (N := 14) rfl ?_); (try (refine gate_guard (by rfl) ?_; dsimp only)); refine Kd.R_lit (Kd.int .u64) _ 46 ?hg (N := 14) ?hd (xs := ([3, 0, 1, 18444773748872577024, 0] : List Int)) (inner := [.int .u64 3, .int .u64 0, .int .u64 1, .int .u64 18444773748872577024, .int .u64 0]) (ok := fun _ => True) (okp := fun _ => True) ?hr ?hp (fun _ hk => hk) trivial (Below.refl _ _) (Nat.le_refl _) (by simp) ?_; (case hd => rfl); (case hg => rfl); (case hr => first | (go_simp; done) | (go_simp; rfl)); (case hp => exact (Reps.one (show Kd.M (Kd.int .u64) _ _ _ 3 [.int .u64 3] from rfl) (Reps.one (show Kd.M (Kd.int .u64) _ _ _ 0 [.int .u64 0] from rfl) (Reps.one (show Kd.M (Kd.int .u64) _ _ _ 1 [.int .u64 1] from rfl) (Reps.one (show Kd.M (Kd.int .u64) _ _ _ 18444773748872577024 [.int .u64 18444773748872577024] from rfl) (Reps.one (show Kd.M (Kd.int .u64) _ _ _ 0 [.int .u64 0] from rfl) (Reps.none _ _))))))); intro v120 w8 ho9 hb hg_ hnew_; clear hg_ hnew_; (first | rw [← Ny119.out] at ho9 | (simp only [Int.reduceToNat] at ho9; rw [← Ny119.out] at ho9)); have n0_ := Aside0.mk (Kd.R_below (by (with_reducible repeat (first | apply Kd.R_alloc | apply Kd.R_drewN | apply Kd.R_drew)); exact HO114.out) hb); have n1_ := Aside0.mk (Kd.R_elder' (by (with_reducible repeat (first | apply Kd.R_alloc | apply Kd.R_drewN | apply Kd.R_drew)); exact HO117.out) (Kd.R_base ho9) hb); have n2_ := Aside0.mk (Kd.R_lower (Kd.R_new' ho9 (Kd.R_lt (by (with_reducible repeat (first | apply Kd.R_alloc | apply Kd.R_drewN | apply Kd.R_drew)); exact HO117.out))) (below_size (by repeat (first | (with_reducible first | exact HB.out | apply below_alloc | apply pw_below_drewN | apply below_drew1) | exact HB.out)))); have n3_ := Aside0.mk (below_step (by repeat (first | (with_reducible first | exact HB.out | apply below_alloc | apply pw_below_drewN | apply below_drew1) | exact HB.out)) hb); clear HO114; clear HO117; clear HB; have HO114 := n0_; have HO117 := n1_; have HO121 := n2_; have HB := n3_; clear n0_ n1_ n2_ n3_; clear hb ho9; obtain ⟨Ao10, co10, eo10⟩ := Kd.R_slice HO117.out; subst eo10; obtain ⟨Ao11, co11, eo11⟩ := Kd.R_slice HO121.out; subst eo11) | (go_at_call 37; (with_reducible refine (backstitchref3_Eq_uint64.calls k _ _ t115 _ _ y119 t122 _ ?side1 ?side2 ?side3 ?side4 A3.out).mono ?_); (case side1 => repeat (first | exact (Kd.R_reads' HO117.out).2.2 | (with_reducible refine Kd.C_alloc ?_ _) | (with_reducible refine Kd.C_drewN ?_ _) | (with_reducible refine Kd.C_drew ?_))); (case side2 => exact (Kd.R_reads' HO117.out).2.1); (case side3 => repeat (first | exact (Kd.R_reads' HO121.out).2.2 | (with_reducible refine Kd.C_alloc ?_ _) | (with_reducible refine Kd.C_drewN ?_ _) | (with_reducible refine Kd.C_drew ?_))); (case side4 => exact (Kd.R_reads' HO121.out).2.1); rintro e w' ⟨rfl, ⟨nd, rfl⟩⟩))
    go_ret
    exact ⟨by first | rfl | (simp [errW_none, errW_some] <;> rfl) | (simp [*, errW_none, errW_some] <;> rfl), by repeat (first | (with_reducible first | exact HB.out | apply below_alloc | apply pw_below_drewN | apply below_drew1) | exact HB.out)⟩
  · rw [if_neg c2] at H
    have c2b0 : (t118 == 0) = false := beq_eq_false_iff_ne.mpr c2
    have c2b1 : (t118 != 0) = true := bne_iff_ne.mpr c2
    obtain rfl := Option.some.inj H
    go_enter Try.func34, Try.ntmps34
    go_wp2_with (first | ((with_reducible refine gate_dst (N := 5) rfl ?_); (try (refine gate_guard (by rfl) ?_; dsimp only)); refine Kd.R_lit k23 _ 23 ?hg (N := 5) ?hd (xs := ([(⟨0, 0⟩ : S23)] : List (S23))) (inner := [.int .i64 0, .int .i64 0]) (ok := fun _ => True) (okp := fun _ => True) ?hr ?hp (fun _ hk => hk) trivial (Below.refl _ _) (Nat.le_refl _) (by simp) ?_; (case hd => rfl); (case hg => rfl); (case hr => first | (go_simp; done) | (go_simp; rfl)); (case hp => exact (Reps.c2 (show Kd.M k23 _ _ _ (⟨0, 0⟩ : S23) [.int .i64 0, .int .i64 0] from (k23_mkM _ _ _ (⟨0, 0⟩ : S23) )) (Reps.none _ _))); intro v113 w12 ho13 hb hg_ hnew_; clear hg_ hnew_; (first | rw [← Ny112.out] at ho13 | (simp only [Int.reduceToNat] at ho13; rw [← Ny112.out] at ho13)); have n0_ := Aside0.mk (Kd.R_lower ho13 (below_size (by repeat (first | (with_reducible first | exact HB.out | apply below_alloc | apply pw_below_drewN | apply below_drew1) | exact HB.out)))); have n1_ := Aside0.mk (below_step (by repeat (first | (with_reducible first | exact HB.out | apply below_alloc | apply pw_below_drewN | apply below_drew1) | exact HB.out)) hb); clear HB; have HO114 := n0_; have HB := n1_; clear n0_ n1_; clear hb ho13; obtain ⟨Ao14, co14, eo14⟩ := Kd.R_slice HO114.out; subst eo14) | ((with_reducible refine gate_callee (f := 35) rfl ?_); refine goesL_ (some 7) rfl rfl Try.func35 (by kernel_rfl) rfl #[.agg #[.int .i64 3, .int .i64 0, .slice Ao14 y112.length co14, .slice none 0 0]] rfl (by (try simp only [List.map_toArray, List.map_cons, List.map_nil]); first | done | rfl | (simp only [List.length_drop, List.length_take]; rfl)) ?_; (refine (words_Of.calls k 3 0 _ _ y112 _ _ ([] : List (S27)) t115 t118 _ ?side1 ?side2 ?side3 ?side4 A1.out).mono ?_); (case side1 => repeat (first | exact (Kd.R_reads' HO114.out).2.2 | (with_reducible refine Kd.C_alloc ?_ _) | (with_reducible refine Kd.C_drewN ?_ _) | (with_reducible refine Kd.C_drew ?_))); (case side2 => exact (Kd.R_reads' HO114.out).2.1); (case side3 => exact Kd.C_nil _ _); (case side4 => exact Nat.le_refl _); rintro e w15 ⟨v116, rfl, ho0, hb⟩; refine ⟨_, rfl, ?_⟩; have n0_ := Aside0.mk (Kd.R_below (by (with_reducible repeat (first | apply Kd.R_alloc | apply Kd.R_drewN | apply Kd.R_drew)); exact HO114.out) hb); have n1_ := Aside0.mk (Kd.R_lower ho0 (below_size (by repeat (first | (with_reducible first | exact HB.out | apply below_alloc | apply pw_below_drewN | apply below_drew1) | exact HB.out)))); have n2_ := Aside0.mk (below_step (by repeat (first | (with_reducible first | exact HB.out | apply below_alloc | apply pw_below_drewN | apply below_drew1) | exact HB.out)) hb); clear HO114; clear HB; have HO114 := n0_; have HO117 := n1_; have HB := n2_; clear n0_ n1_ n2_; (try clear hb); (try clear hb2); (try clear hk); (try clear hi); (try clear ho0)))
    go_ret
    exact ⟨by first | rfl | (simp [errW_none, errW_some] <;> rfl) | (simp [*, errW_none, errW_some] <;> rfl), by repeat (first | (with_reducible first | exact HB.out | apply below_alloc | apply pw_below_drewN | apply below_drew1) | exact HB.out)⟩

/-! ### backstitchref3_Odd: function 79 -/
def backstitchref3_Odd.f (a0 : Int) : Option (Bool) := if (Int.tmod (a0 / 4503599627370496) 2048) = 2047 then (some ((IntKind.u64.wrap (a0 * 4096)) != 0)) else (some false)
set_option maxHeartbeats 8000000 in
set_option maxRecDepth 100000 in
theorem backstitchref3_Odd.calls (a0 : Int) (r : Bool) (w : World) (h : backstitchref3_Odd.f a0 = some r) :
    Calls Try.prog 79 #[.int .u64 a0] w fun e w' => e = .returned (.bool r) ∧ Drawn0 w w' := by
  have H : (if (Int.tmod (a0 / 4503599627370496) 2048) = 2047 then (some ((IntKind.u64.wrap (a0 * 4096)) != 0)) else (some false)) = some r := h
  clear h
  by_cases c2 : (Int.tmod (a0 / 4503599627370496) 2048) = 2047
  · rw [if_pos c2] at H
    have c2b0 : ((Int.tmod (a0 / 4503599627370496) 2048) == 2047) = true := beq_iff_eq.mpr c2
    have c2b1 : ((Int.tmod (a0 / 4503599627370496) 2048) != 2047) = false := bne_eq_false_iff_eq.mpr c2
    clear c2
    obtain rfl := Option.some.inj H
    go_enter Try.func79, Try.ntmps79
    go_wp2
    go_ret
    exact ⟨by first | rfl | (simp; done) | (simp [*]; done), by repeat (first | exact Drawn0.refl _ | apply Drawn0.step)⟩
  · rw [if_neg c2] at H
    have c2b0 : ((Int.tmod (a0 / 4503599627370496) 2048) == 2047) = false := beq_eq_false_iff_ne.mpr c2
    have c2b1 : ((Int.tmod (a0 / 4503599627370496) 2048) != 2047) = true := bne_iff_ne.mpr c2
    obtain rfl := Option.some.inj H
    go_enter Try.func79, Try.ntmps79
    go_wp2
    go_ret
    exact ⟨by first | rfl | (simp; done) | (simp [*]; done), by repeat (first | exact Drawn0.refl _ | apply Drawn0.step)⟩

/-! ### backstitchref3_Tag: function 80 -/
def backstitchref3_Tag.f (a0 : Int) : Option Int := if 0 ≤ a0 ∧ a0 < 7 then some (rd [65529, 65530, 65531, 0, 65532, 65533, 65534] a0) else none
set_option maxRecDepth 100000 in
theorem backstitchref3_Tag.calls (a0 : Int) (r : Int) (w : World) (h : backstitchref3_Tag.f a0 = some r) :
    Calls Try.prog 80 #[.int .i64 a0] w fun e w' => e = .returned (.int .u64 r) ∧ Drawn0 w w' := by
  have h1 : 0 ≤ a0 ∧ a0 < 7 := by unfold backstitchref3_Tag.f at h; split at h; assumption; cases h
  obtain rfl | rfl | rfl | rfl | rfl | rfl | rfl : a0 = 0 ∨ a0 = 1 ∨ a0 = 2 ∨ a0 = 3 ∨ a0 = 4 ∨ a0 = 5 ∨ a0 = 6 := by omega
  all_goals
    have H := Aside0.mk (Option.some.inj h)
    clear h h1
  · have hi : ∀ w, (Instr.index 194 (.agg #[.int .u64 65529, .int .u64 65530, .int .u64 65531, .int .u64 0, .int .u64 65532, .int .u64 65533, .int .u64 65534]) (.int .i64 0)).run Try.prog w = .ok (.int .u64 65529) w := fun _ => by kernel_rfl
    go_enter Try.func80, Try.ntmps80
    go_wp2
    go_ret
    exact ⟨by rw [← H.out]; rfl, Drawn0.refl _⟩
  · have hi : ∀ w, (Instr.index 194 (.agg #[.int .u64 65529, .int .u64 65530, .int .u64 65531, .int .u64 0, .int .u64 65532, .int .u64 65533, .int .u64 65534]) (.int .i64 1)).run Try.prog w = .ok (.int .u64 65530) w := fun _ => by kernel_rfl
    go_enter Try.func80, Try.ntmps80
    go_wp2
    go_ret
    exact ⟨by rw [← H.out]; rfl, Drawn0.refl _⟩
  · have hi : ∀ w, (Instr.index 194 (.agg #[.int .u64 65529, .int .u64 65530, .int .u64 65531, .int .u64 0, .int .u64 65532, .int .u64 65533, .int .u64 65534]) (.int .i64 2)).run Try.prog w = .ok (.int .u64 65531) w := fun _ => by kernel_rfl
    go_enter Try.func80, Try.ntmps80
    go_wp2
    go_ret
    exact ⟨by rw [← H.out]; rfl, Drawn0.refl _⟩
  · have hi : ∀ w, (Instr.index 194 (.agg #[.int .u64 65529, .int .u64 65530, .int .u64 65531, .int .u64 0, .int .u64 65532, .int .u64 65533, .int .u64 65534]) (.int .i64 3)).run Try.prog w = .ok (.int .u64 0) w := fun _ => by kernel_rfl
    go_enter Try.func80, Try.ntmps80
    go_wp2
    go_ret
    exact ⟨by rw [← H.out]; rfl, Drawn0.refl _⟩
  · have hi : ∀ w, (Instr.index 194 (.agg #[.int .u64 65529, .int .u64 65530, .int .u64 65531, .int .u64 0, .int .u64 65532, .int .u64 65533, .int .u64 65534]) (.int .i64 4)).run Try.prog w = .ok (.int .u64 65532) w := fun _ => by kernel_rfl
    go_enter Try.func80, Try.ntmps80
    go_wp2
    go_ret
    exact ⟨by rw [← H.out]; rfl, Drawn0.refl _⟩
  · have hi : ∀ w, (Instr.index 194 (.agg #[.int .u64 65529, .int .u64 65530, .int .u64 65531, .int .u64 0, .int .u64 65532, .int .u64 65533, .int .u64 65534]) (.int .i64 5)).run Try.prog w = .ok (.int .u64 65533) w := fun _ => by kernel_rfl
    go_enter Try.func80, Try.ntmps80
    go_wp2
    go_ret
    exact ⟨by rw [← H.out]; rfl, Drawn0.refl _⟩
  · have hi : ∀ w, (Instr.index 194 (.agg #[.int .u64 65529, .int .u64 65530, .int .u64 65531, .int .u64 0, .int .u64 65532, .int .u64 65533, .int .u64 65534]) (.int .i64 6)).run Try.prog w = .ok (.int .u64 65534) w := fun _ => by kernel_rfl
    go_enter Try.func80, Try.ntmps80
    go_wp2
    go_ret
    exact ⟨by rw [← H.out]; rfl, Drawn0.refl _⟩

/-! ### backstitchref3_Rest: function 81 -/
def backstitchref3_Rest.f (a0 : Int) (a1 : Int) : Option (Int) := if a1 = 0 then (none) else (if (Int.tmod a0 a1) < 0 then (some (wrap64 ((Int.tmod a0 a1) + a1))) else (some (Int.tmod a0 a1)))
set_option maxHeartbeats 8000000 in
set_option maxRecDepth 100000 in
theorem backstitchref3_Rest.calls (a0 : Int) (a1 : Int) (r : Int) (w : World) (h : backstitchref3_Rest.f a0 a1 = some r) :
    Calls Try.prog 81 #[.int .i64 a0, .int .i64 a1] w fun e w' => e = .returned (.int .i64 r) ∧ Drawn0 w w' := by
  have H : (if a1 = 0 then (none) else (if (Int.tmod a0 a1) < 0 then (some (wrap64 ((Int.tmod a0 a1) + a1))) else (some (Int.tmod a0 a1)))) = some r := h
  clear h
  by_cases c3 : a1 = 0
  · rw [if_pos c3] at H
    exact absurd H (by simp)
  · rw [if_neg c3] at H
    have c3b0 : (a1 == 0) = false := beq_eq_false_iff_ne.mpr c3
    have c3b1 : (a1 != 0) = true := bne_iff_ne.mpr c3
    by_cases c4 : (Int.tmod a0 a1) < 0
    · rw [if_pos c4] at H
      have c4b0 : decide ((Int.tmod a0 a1) < 0) = true := decide_eq_true c4
      clear c4
      obtain rfl := Option.some.inj H
      go_enter Try.func81, Try.ntmps81
      go_wp2
      go_ret
      exact ⟨by first | rfl | (simp; done) | (simp [*]; done), by repeat (first | exact Drawn0.refl _ | apply Drawn0.step)⟩
    · rw [if_neg c4] at H
      have c4b0 : decide ((Int.tmod a0 a1) < 0) = false := decide_eq_false c4
      clear c4
      obtain rfl := Option.some.inj H
      go_enter Try.func81, Try.ntmps81
      go_wp2
      go_ret
      exact ⟨by first | rfl | (simp; done) | (simp [*]; done), by repeat (first | exact Drawn0.refl _ | apply Drawn0.step)⟩

end Go.Proofs.Ytlojkphocbbjdaa.PWordsAll
