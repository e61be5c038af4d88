/- copy, at elements of any width; rows of flat elements written over. -/
import Derived.Test.YtlojkphocbbjdabHSep
import Derived.Laws.CopyRow
namespace Go.Proofs.YtlojkphocbbjdabW.Cpy
open Go.RowKit Go.Proofs.YtlojkphocbbjdabW.PrintWords Go.Proofs.YtlojkphocbbjdabW.PrintLast Go.Proofs.YtlojkphocbbjdabW.PrintMore Go.Proofs.YtlojkphocbbjdabW.Sep
set_option linter.unusedVariables false
set_option linter.unusedSimpArgs false
section
variable {P : Program}
theorem run_copy_wide (w : World) (dT sT ty elem : TypeId) (sz b o dLen dCap : Nat) (a : Addr) (sLen sCap m : Nat) (cs : List Value)
    (hu : P.underlying dT = some (.slice elem)) (hs : (P.info? elem).map (·.size) = some sz) (hm : Nat.min sLen dLen = m) (hn : cs.length = m * sz)
    (hsrc : ∀ j v, cs[j]? = some v → w.cell? (a.add j) = some v) (hc : ∀ j, j < cs.length → (w.cell? ⟨b, o + j, none⟩).isSome = true) (hf : ∀ j, j < cs.length → w.frozen? ⟨b, o + j, none⟩ = false) (h1 : ∀ v ∈ cs, v.oneCell' = true) :
    (Builtin.copy_ #[dT, sT] ty #[.slice (some ⟨b, o, none⟩) dLen dCap, .slice (some a) sLen sCap]).run P w = .ok (goInt m) (w.setCells b o cs) := by
  have hl := run_loadCells_list (P := P) w a cs hsrc
  have hst := run_storeCells_cells (P := P) b o cs 0 w (by simpa using hc) (by simpa using hf) h1
  cases hq : P.info? elem with
  | none => simp [hq] at hs
  | some i =>
    have hi : i.size = sz := by simpa [hq] using hs
    rw [hn] at hl
    simp [Builtin.copy_, run_underlying hu, Builtin.lenOf, Builtin.firstCells, sizeOf, typeInfo, hq, hi, hm, hl, hst]
end
section
variable {P : Program} {ops : Array Oper} {rest : List Oper} {o : Oper} {a : Act} {Q : Exit → Act → World → Prop}
theorem run_copy_nil (w : World) (dT sT ty elem : TypeId) (sz : Nat) (d a : Option Addr) (dLen dCap sLen sCap : Nat) (hu : P.underlying dT = some (.slice elem)) (hs : (P.info? elem).map (·.size) = some sz) (hn : Nat.min sLen dLen = 0) :
    (Builtin.copy_ #[dT, sT] ty #[.slice d dLen dCap, .slice a sLen sCap]).run P w = .ok (goInt 0) w := by
  cases hq : P.info? elem with
  | none => simp [hq] at hs
  | some i =>
    have hi : i.size = sz := by simpa [hq] using hs
    cases d <;> cases a <;> simp [Builtin.copy_, run_underlying hu, Builtin.lenOf, Builtin.firstCells, sizeOf, typeInfo, hq, hi, hn, storeCells, loadCells, loadCellsFrom]
theorem step_copy {W w1 : World} {r : Value} {K : Act → World → Prop} {E : Prop} (hgd : o.guard = none) (s x : Operand) (t t' : TypeId) (v u : Value)
    (ho : o.op = .call { callee := .builtin .copy, args := #[s, x], argTypes := #[t, t'] }) (hs : a.eval s = v) (hx : a.eval x = u)
    (hrun : (Builtin.copy_ #[t, t'] o.type #[v, u]).run P W = .ok r w1) (h : K (a.put o.dst r) w1) : if Region.wanted o (yielded ops a.tmps) = true then Oper.wp P o a W K Q else E := by
  have hw : Region.wanted o (yielded ops a.tmps) = true := by simp [Region.wanted, hgd]
  rw [if_pos hw]
  unfold Oper.wp execOp
  simp only [ho, resolve, invoke, builtin, Sem.run_bind, Sem.run_pure, Result.andThen_ok, List.map_toArray, List.map_cons, List.map_nil, hs, hx, hrun]
  exact h
theorem copy_event {W w1 : World} {r : Value} (hgd : o.guard = none) (s x : Operand) (t t' : TypeId) (v u : Value)
    (ho : o.op = .call { callee := .builtin .copy, args := #[s, x], argTypes := #[t, t'] }) (hs : a.eval s = v) (hx : a.eval x = u)
    (hrun : (Builtin.copy_ #[t, t'] o.type #[v, u]).run P W = .ok r w1) (h : wpList P ops Q rest (a.put o.dst r) w1) : wpList P ops Q (o :: rest) a W := by
  refine wpList_plain hgd fun K hK => ?_
  unfold Oper.wp execOp
  simp only [ho, resolve, invoke, builtin, Sem.run_bind, Sem.run_pure, Result.andThen_ok, List.map_toArray, List.map_cons, List.map_nil, hs, hx, hrun]
  exact hK _ _ h
end
section
variable {α : Type} {d : Kd α} {e base n cap g : Nat} {ok : Nat → Prop} {W w0 : World} {xs ys : List α}
theorem list_over {β : Type} {cur inner vs : List β} {o N : Nat} (ht : cur.take N = inner) (h : o + vs.length ≤ N) (hN : N ≤ cur.length) : (cur.take o ++ vs ++ cur.drop (o + vs.length)).take N = inner.take o ++ vs ++ inner.drop (o + vs.length) := by
  have h1 : cur = inner ++ cur.drop N := by rw [← ht, List.take_append_drop]
  have h2 : inner.length = N := by rw [← ht, List.length_take]; omega
  have e1 : cur.take o = inner.take o := by rw [h1, List.take_append_of_le_length (by omega)]
  have e2 : cur.drop (o + vs.length) = inner.drop (o + vs.length) ++ cur.drop N := by
    conv => lhs; rw [h1]
    rw [List.drop_append_of_le_length (by omega)]
  rw [e1, e2, ← List.append_assoc, List.take_append_of_le_length (by simp; omega), List.take_of_length_le (by simp; omega)]
theorem R_over (hfl : ∀ {w w' : World} {ok ok' : Nat → Prop} {x : α} {cs : List Value}, d.M w base ok x cs → d.M w' base ok' x cs) (h : d.R e W base ok (.slice (some ⟨g, 0, none⟩) n cap) xs) (i : Nat) (vs : List Value) (hr : Reps (d.M W base ok) d.sz ys vs) (hi : i + ys.length ≤ n) :
    d.R e (W.setCells g (i * d.sz) vs) base ok (.slice (some ⟨g, 0, none⟩) n cap) (xs.take i ++ ys ++ xs.drop (i + ys.length)) := by
  have hlen := (Kd.R_reads' h).1
  obtain ⟨hok, inner, hw, hrr⟩ := h
  have hl1 : (xs.take i ++ ys ++ xs.drop (i + ys.length)).length = xs.length := by simp; omega
  have hv : vs.length = ys.length * d.sz := hr.1
  have hiv : i * d.sz + vs.length ≤ xs.length * d.sz := by
    rw [hv, ← Nat.add_mul]
    exact Nat.mul_le_mul_right _ (by omega)
  refine ⟨hok, inner.take (i * d.sz) ++ vs ++ inner.drop ((i + ys.length) * d.sz), ⟨?_, ?_⟩, ?_⟩
  · have := hrr.1
    rw [hl1]
    simp only [List.length_append, List.length_take, List.length_drop, this]
    have : (i + ys.length) * d.sz = i * d.sz + vs.length := by rw [hv, Nat.add_mul]
    omega
  · rcases hw.2 with ⟨he, h0⟩ | ⟨g', cap', cur, he, hb, hh, hnc, hcm, hcs, ht⟩
    · cases he
    · injection he with ha hn hc
      injection ha with ha
      injection ha with ha
      subst ha; subst hc
      have hbnd : xs.length * d.sz ≤ cap * d.sz := Nat.mul_le_mul_right _ hnc
      obtain ⟨cur', h1, h2, h3⟩ := setCells_row vs (i * d.sz) W cur hh (by rw [hcs]; omega)
      refine .inr ⟨g, cap, cur', by rw [hl1, hn], hb, h1, by rw [hl1]; exact hnc, hcm, by rw [h2, hcs], ?_⟩
      rw [hl1, h3]
      have hz : cur.toList.length = cap * d.sz := by rw [Array.length_toList, hcs]
      have e1 : (i + ys.length) * d.sz = i * d.sz + vs.length := by rw [hv, Nat.add_mul]
      rw [e1]
      exact list_over ht hiv (by rw [hz]; exact hbnd)
  · have hrr2 : Reps (d.M (W.setCells g (i * d.sz) vs) base (fun k => ok k ∧ some k ≠ (Value.slice (some ⟨g, 0, none⟩) n cap).ownBlock)) d.sz xs inner := hrr.imp_ (fun x cs hM => hfl hM)
    have hr2 : Reps (d.M (W.setCells g (i * d.sz) vs) base (fun k => ok k ∧ some k ≠ (Value.slice (some ⟨g, 0, none⟩) n cap).ownBlock)) d.sz ys vs := hr.imp_ (fun x cs hM => hfl hM)
    exact Kd.reps_append (Kd.reps_append (Kd.reps_take hrr2 (by omega)) hr2) (Kd.reps_drop hrr2)
/-- The cells of a row's front. -/
theorem R_front (h : d.R e W base ok (.slice (some ⟨g, 0, none⟩) n cap) xs) (m : Nat) (hm : m ≤ n) : ∃ vs, Reps (d.M W base (fun k => ok k ∧ some k ≠ (Value.slice (some ⟨g, 0, none⟩) n cap).ownBlock)) d.sz (xs.take m) vs ∧ vs.length = m * d.sz ∧ (∀ j v, vs[j]? = some v → W.cell? ⟨g, j, none⟩ = some v) ∧ ∀ v ∈ vs, v.oneCell' = true := by
  have hlen := (Kd.R_reads' h).1
  obtain ⟨hok, inner, hw, hrr⟩ := h
  have hrt := Kd.reps_take hrr (m := m) (by omega)
  rcases hw.2 with ⟨he, h0⟩ | ⟨g', cap', cur, he, hb, hh, hnc, hcm, hcs, ht⟩
  · cases he
  · injection he with ha hn hc
    injection ha with ha
    injection ha with ha
    subst ha; subst hc
    have hmn : m * d.sz ≤ xs.length * d.sz := Nat.mul_le_mul_right _ (by omega)
    refine ⟨_, hrt, by rw [List.length_take, hrr.1]; omega, fun j v hj => ?_, ?_⟩
    · have hj2 : inner[j]? = some v := by
        rw [List.getElem?_take] at hj
        split at hj
        · exact hj
        · cases hj
      have hjl := (List.getElem?_eq_some_iff.1 hj2).1
      rw [← ht, List.getElem?_take, if_pos (by rw [hrr.1] at hjl; exact hjl)] at hj2
      rw [blk_cell hh j]
      simpa using hj2
    · intro v hv
      have hv2 := List.mem_of_mem_take hv
      obtain ⟨j, hj⟩ := List.mem_iff_getElem?.1 hv2
      have hjl := (List.getElem?_eq_some_iff.1 hj).1
      rw [hrr.1] at hjl
      have hsz : 0 < d.sz := by rcases Nat.eq_zero_or_pos d.sz with h0 | h0; · rw [h0] at hjl; simp at hjl
                                · exact h0
      have hq : j / d.sz < xs.length := Nat.div_lt_of_lt_mul (by rw [Nat.mul_comm]; exact hjl)
      have hM := hrr.2 (j / d.sz) _ (List.getElem?_eq_getElem hq)
      refine d.K_one (d.K_of_M hM) v ?_
      refine List.mem_of_getElem? (i := j % d.sz) ?_
      rw [List.getElem?_take, if_pos (Nat.mod_lt _ hsz), List.getElem?_drop, Nat.mul_comm, Nat.div_add_mod]
      exact hj
end
/-! a row filled with one element, piece by piece (slices.Repeat) -/
section
variable {α : Type} {d : Kd α} {e base N cp g : Nat} {ok : Nat → Prop} {W w0 : World} {x z : α} {P : Program}
def fill (x z : α) (N n : Nat) : List α := List.replicate n x ++ List.replicate (N - n) z
theorem fill_over (x z : α) (N n m : Nat) (h1 : n + m ≤ N) : (fill x z N n).take n ++ List.replicate m x ++ (fill x z N n).drop (n + m) = fill x z N (n + m) := by
  unfold fill
  rw [List.take_append_of_le_length (by simp), List.take_of_length_le (by simp), List.drop_append, List.drop_eq_nil_of_le (by simp), List.nil_append, List.length_replicate, List.drop_replicate, List.replicate_append_replicate, show N - n - (n + m - n) = N - (n + m) by omega]
theorem fill_all (x z : α) (N : Nat) : fill x z N N = List.replicate N x := by simp [fill]
theorem fill_none (x z : α) (N : Nat) : fill x z N 0 = List.replicate N z := by simp [fill]
def Flat (d : Kd α) : Prop := ∀ {w w' : World} {base base' : Nat} {ok ok' : Nat → Prop} {x : α} {cs : List Value}, d.M w base ok x cs → d.M w' base' ok' x cs
theorem grown_over (W : World) (g o : Nat) (vs : List Value) : W.grownBy (W.setCells g o vs) (some g) := Bas.grown_setCells W g o vs
theorem copy_first (hfl : Flat d) (hsz : 0 < d.sz) (HR : d.R e W base ok (.slice (some ⟨g, 0, none⟩) N cp) (fill x z N 0)) (hN : 0 < N) {cs : List Value} (hM : d.M W base ok x cs) {ad : Addr} (hsrc : ∀ j v, cs[j]? = some v → W.cell? (ad.add j) = some v) (t ty : TypeId) (c0 : Nat)
    (hu : P.underlying t = some (.slice e)) (hs : (P.info? e).map (·.size) = some d.sz) :
    ∃ w1, (Builtin.copy_ #[t, t] ty #[.slice (some ⟨g, 0, none⟩) N cp, .slice (some ad) 1 c0]).run P W = .ok (.int .i64 1) w1 ∧ d.R e w1 base ok (.slice (some ⟨g, 0, none⟩) N cp) (fill x z N 1) ∧ W.grownBy w1 (some g) := by
  have hcl : cs.length = d.sz := d.K_len (d.K_of_M hM)
  have hNc := (Kd.R_reads' HR).2.1
  have hb : d.sz ≤ cp * d.sz := Nat.le_mul_of_pos_left _ (by omega)
  have hcell := fun j (hj : j < cp * d.sz) => Bas.R_has HR j hj
  refine ⟨W.setCells g 0 cs, ?_, ?_, grown_over _ _ _ _⟩
  · have := run_copy_wide (P := P) W t t ty e d.sz g 0 N cp ad 1 c0 1 cs hu hs (by simp [Nat.min_def]; omega) (by omega) hsrc (fun j hj => by rw [Nat.zero_add]; exact (hcell j (by omega)).1) (fun j hj => by rw [Nat.zero_add]; exact (hcell j (by omega)).2) (d.K_one (d.K_of_M hM))
    exact this
  · have hr : Reps (d.M W base ok) d.sz (List.replicate 1 x) cs := ⟨by simp [hcl], fun j p hj => by
      obtain ⟨rfl, rfl⟩ : j = 0 ∧ p = x := by
        have h1 := (List.getElem?_eq_some_iff.1 hj).1
        have h0 : j = 0 := by simp at h1; exact h1
        subst h0
        exact ⟨rfl, by simpa using hj.symm⟩
      rw [Nat.zero_mul, List.drop_zero, List.take_of_length_le (by omega)]
      exact hM⟩
    have := R_over (i := 0) (fun h => hfl h) HR cs hr (by simp; omega)
    rw [Nat.zero_mul, List.length_replicate, fill_over x z N 0 1 (by omega)] at this
    exact this
theorem cell_zero (W : World) (g j : Nat) : W.cell? ((⟨g, 0, none⟩ : Addr).add j) = W.cell? ⟨g, j, none⟩ := by
  unfold Addr.add
  split
  · simp_all
  · simp
theorem copy_self (hfl : Flat d) (hsz : 0 < d.sz) {n : Int} (HR : d.R e W base ok (.slice (some ⟨g, 0, none⟩) N cp) (fill x z N n.toNat)) (h1 : 1 ≤ n) (hn : n < N) (t ty : TypeId) (c1 c2 : Nat)
    (hu : P.underlying t = some (.slice e)) (hs : (P.info? e).map (·.size) = some d.sz) :
    ∃ (w1 : World) (k : Int), (Builtin.copy_ #[t, t] ty #[.slice (some ⟨g, n.toNat * d.sz, none⟩) (N - n.toNat) c1, .slice (some ⟨g, 0, none⟩) n.toNat c2]).run P W = .ok (.int .i64 k) w1 ∧ 1 ≤ k ∧ n + k ≤ N ∧ d.R e w1 base ok (.slice (some ⟨g, 0, none⟩) N cp) (fill x z N (n + k).toNat) ∧ W.grownBy w1 (some g) := by
  obtain ⟨q, rfl⟩ : ∃ q : Nat, n = (q : Int) := ⟨n.toNat, by omega⟩
  simp only [Int.toNat_natCast] at *
  obtain ⟨m, hm⟩ : ∃ m, m = Nat.min q (N - q) := ⟨_, rfl⟩
  have hm1 : m ≤ q := by rw [hm]; exact Nat.min_le_left _ _
  have hm2 : m ≤ N - q := by rw [hm]; exact Nat.min_le_right _ _
  have hm3 : 1 ≤ m := by rw [hm]; exact Nat.le_min.2 ⟨by omega, by omega⟩
  have hNc := (Kd.R_reads' HR).2.1
  obtain ⟨vs, hr, hl, hc, ho⟩ := R_front HR m (by omega)
  have ht : (fill x z N q).take m = List.replicate m x := by
    unfold fill
    rw [List.take_append_of_le_length (by simp; omega), List.take_replicate, Nat.min_eq_left hm1]
  rw [ht] at hr
  have hb1 : (q + m) * d.sz ≤ cp * d.sz := Nat.mul_le_mul_right _ (by omega)
  rw [Nat.add_mul] at hb1
  have hcell := fun j (hj : j < cp * d.sz) => Bas.R_has HR j hj
  refine ⟨W.setCells g (q * d.sz) vs, (m : Int), ?_, by omega, by omega, ?_, grown_over _ _ _ _⟩
  · exact run_copy_wide (P := P) W t t ty e d.sz g (q * d.sz) (N - q) c1 ⟨g, 0, none⟩ q c2 m vs hu hs hm.symm hl (fun j v hj => (cell_zero W g j).trans (hc j v hj)) (fun j hj => (hcell _ (by omega)).1) (fun j hj => (hcell _ (by omega)).2) ho
  · have := R_over (i := q) (fun h => hfl h) HR vs (hr.imp_ (fun x cs hM => hfl hM)) (by simp; omega)
    rw [List.length_replicate, fill_over x z N q m (by omega)] at this
    rw [show ((q : Int) + (m : Int)).toNat = q + m by omega]
    exact this
end
end Go.Proofs.YtlojkphocbbjdabW.Cpy
