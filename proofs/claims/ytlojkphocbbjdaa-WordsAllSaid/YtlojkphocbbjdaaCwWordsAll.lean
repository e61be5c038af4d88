/- Cells in words: what the program's words.Of and the reference's CellFault, CellWords answer: the same plain functions. -/
import Derived.Test.YtlojkphocbbjdaaBWordsAll
namespace Go.Proofs.Ytlojkphocbbjdaa.Pure
open Go.RowKit Go.Proofs.Ytlojkphocbbjdaa.PWordsAll Go.Proofs.YtlojkphocbbjdaaW Go.Proofs.YtlojkphocbbjdaaW.PrintWords Go.Proofs.YtlojkphocbbjdaaW.PrintLast
set_option linter.unusedVariables false
set_option linter.unusedSimpArgs false

abbrev U (x : Int) : Int := IntKind.u64.wrap x
def V64 (v : S23) : Prop := -9223372036854775808 ≤ v.f1 ∧ v.f1 ≤ 9223372036854775807
def F64 (f : S27) : Prop := V64 f.f4 ∧ ∀ v ∈ f.f5, V64 v
theorem numS_ok : ∀ (l o : List Int), o.length + l.length ≤ 17592186044416 → numS l o = some (o ++ l.map U)
  | [], o, _ => by simp [numS]
  | n :: l, o, h => by
    simp only [List.length_cons] at h
    rw [numS, if_pos (by omega), numS_ok l _ (by simp; omega)]
    simp
/-- The first fault of some values, behind e. -/
def fe (e : Int) : List S23 → Int
  | [] => e
  | v :: l => fe (if e = 0 then (boxS v.f0 v.f1).2 else e) l
theorem fe_app (e : Int) : ∀ (a b : List S23), fe e (a ++ b) = fe (fe e a) b := by
  intro a
  induction a generalizing e with
  | nil => intro b; rfl
  | cons v a ih => intro b; exact ih _ b
theorem fe_ne (e : Int) (h : e ≠ 0) : ∀ l, fe e l = e
  | [] => rfl
  | v :: l => by rw [fe, if_neg h, fe_ne e h l]
def bw (v : S23) : Int := (boxS v.f0 v.f1).1
theorem valS_ok (v : S23) (o : List Int) (e : Int) (hv : V64 v) (h : o.length < 17592186044416) : Ev (fun k => valS k v o e) (o ++ [bw v], if e = 0 then (boxS v.f0 v.f1).2 else e) := by
  unfold valS
  refine Ev.bind (box_ev v.f0 v.f1 hv) ?_
  exact Pur.ev_some (fun _ => by rw [if_pos h]; rfl)
theorem valsL_ok : ∀ (l : List S23) (o : List Int) (e : Int), (∀ v ∈ l, V64 v) → o.length + l.length ≤ 17592186044416 → Ev (fun k => valsL k l o e) (o ++ l.map bw, fe e l)
  | [], o, e, _, _ => by
    simp only [List.map_nil, List.append_nil, fe]
    exact Ev.now _
  | v :: l, o, e, hv, h => by
    simp only [List.length_cons] at h
    have := valsL_ok l (o ++ [bw v]) (if e = 0 then (boxS v.f0 v.f1).2 else e) (fun y hy => hv y (List.mem_cons_of_mem _ hy)) (by simp; omega)
    rw [List.append_assoc] at this
    exact Ev.bind (valS_ok v o e (hv v List.mem_cons_self) (by omega)) this
def wv (l : List S23) : List Int := U l.length :: l.map bw
theorem valsS_ok (l : List S23) (o : List Int) (e : Int) (hv : ∀ v ∈ l, V64 v) (h : o.length + l.length + 1 ≤ 17592186044416) : Ev (fun k => valsS k l o e) (o ++ wv l, fe e l) := by
  have := valsL_ok l (o ++ [U l.length]) e hv (by simp; omega)
  rw [List.append_assoc] at this
  refine Ev.congr (fun k => ?_) this
  unfold valsS
  rw [numS_ok _ _ (by simp; omega)]
  rfl
def wt (t : S44) : List Int := [U t.f0, U t.f1]
theorem trysL_ok : ∀ (l : List S44) (o : List Int), o.length + 2 * l.length ≤ 17592186044416 → trysL l o = some (o ++ l.flatMap wt)
  | [], o, _ => by simp [trysL]
  | t :: l, o, h => by
    simp only [List.length_cons] at h
    rw [trysL, numS_ok _ _ (by simp; omega), Option.bind_some, trysL_ok l _ (by simp; omega)]
    simp [wt]
def wf_ (f : S27) : List Int := [U f.f0, U f.f1, U f.f2, U f.f3] ++ [bw f.f4] ++ wv f.f5 ++ [U f.f6.length] ++ f.f6.flatMap wt
def fv (f : S27) : List S23 := f.f4 :: f.f5
theorem wt_len : ∀ (l : List S44), (l.flatMap wt).length = 2 * l.length
  | [] => rfl
  | t :: l => by
    have := wt_len l
    rw [List.flatMap_cons, List.length_append, this]
    simp [wt]
    omega
theorem wf_len (f : S27) : (wf_ f).length = 7 + f.f5.length + 2 * f.f6.length := by
  have := wt_len f.f6
  simp only [wf_, List.length_append, this, wv, List.length_cons, List.length_nil, List.length_map]
  omega
theorem frameS_ok (f : S27) (o : List Int) (e : Int) (hf : F64 f) (h5 : f.f5.length ≤ 60) (h6 : f.f6.length ≤ 20) (h : o.length ≤ 100000) : Ev (fun k => frameS k f o e) (o ++ wf_ f, fe e (fv f)) := by
  unfold frameS
  have a1 := numS_ok [f.f0, f.f1, f.f2, f.f3] o (by simp; omega)
  refine Ev.bind (Pur.ev_some (fun _ => a1)) ?_
  refine Ev.bind (valS_ok f.f4 _ e hf.1 (by simp; omega)) ?_
  refine Ev.bind (valsS_ok f.f5 _ _ hf.2 (by simp; omega)) ?_
  refine Ev.bind (Pur.ev_some (fun _ => numS_ok [(f.f6.length : Int)] _ (by simp [wv]; omega))) ?_
  refine Ev.bind (Pur.ev_some (fun _ => trysL_ok f.f6 _ (by simp [wv]; omega))) ?_
  refine Pur.ev_some (fun _ => ?_)
  simp [wf_, fv, fe]
theorem framesL_ok : ∀ (l : List S27) (o : List Int) (e : Int), (∀ f ∈ l, F64 f ∧ f.f5.length ≤ 60 ∧ f.f6.length ≤ 20) → o.length + 107 * l.length ≤ 100000 → Ev (fun k => framesL k l o e) (o ++ l.flatMap wf_, fe e (l.flatMap fv))
  | [], o, e, _, _ => by
    simp only [List.flatMap_nil, List.append_nil, fe]
    exact Ev.now _
  | f :: l, o, e, hf, h => by
    simp only [List.length_cons] at h
    obtain ⟨h1, h5, h6⟩ := hf f List.mem_cons_self
    have hl := wf_len f
    have := framesL_ok l (o ++ wf_ f) (fe e (fv f)) (fun y hy => hf y (List.mem_cons_of_mem _ hy)) (by rw [List.length_append]; omega)
    rw [List.append_assoc, ← fe_app] at this
    exact Ev.bind (frameS_ok f o e h1 h5 h6 (by omega)) this
def cw (a0 a1 : Int) (l2 : List S23) (l3 : List S27) : List Int := [U a0, U a1] ++ wv l2 ++ [U l3.length] ++ l3.flatMap wf_
def cv (l2 : List S23) (l3 : List S27) : List S23 := l2 ++ l3.flatMap fv
structure CellOk (l2 : List S23) (l3 : List S27) : Prop where
  v : l2.length ≤ 600
  f : l3.length ≤ 30
  fs : ∀ f ∈ l3, f.f5.length ≤ 60 ∧ f.f6.length ≤ 20
structure Cell64 (l2 : List S23) (l3 : List S27) : Prop where
  v : ∀ v ∈ l2, V64 v
  f : ∀ f ∈ l3, F64 f
theorem cellS_ok (a0 a1 : Int) (l2 : List S23) (l3 : List S27) (h : CellOk l2 l3) (h64 : Cell64 l2 l3) : Ev (fun k => cellS k a0 a1 l2 l3 [] 0) (cw a0 a1 l2 l3, fe 0 (cv l2 l3)) := by
  have b1 := h.v
  have b2 := h.f
  unfold cellS
  refine Ev.bind (Pur.ev_some (fun _ => numS_ok [a0, a1] [] (by simp))) ?_
  refine Ev.bind (valsS_ok l2 _ 0 h64.v (by simp; omega)) ?_
  refine Ev.bind (Pur.ev_some (fun _ => numS_ok [(l3.length : Int)] _ (by simp [wv]; omega))) ?_
  have := framesL_ok l3 ([U a0, U a1] ++ wv l2 ++ [U l3.length]) (fe 0 l2) (fun f hf => ⟨h64.f f hf, h.fs f hf⟩) (by simp [wv]; omega)
  rw [← fe_app] at this
  simpa [cw, cv] using this
/- large -/
def bigF (f : S27) : Bool := decide (60 < f.f5.length) || decide (20 < f.f6.length)
def large (a0 : Int) (l2 : List S23) (l3 : List S27) : Bool := l3.any bigF || (decide ((l2.length : Int) > (if a0 = 7 then 600 else 100)) || decide (30 < l3.length))
theorem large_l0 (a0 a1 : Int) (l2 : List S23) (l3 : List S27) (h3 : l3.length < 4611686018427387904) : ∀ (d i : Nat), i + d = l3.length → Ev (fun k => words_large.l0 k l3 l3.length i a0 a1 l2 l3) ((l3.drop i).any bigF || (decide ((l2.length : Int) > (if a0 = 7 then 600 else 100)) || decide (30 < l3.length)))
  | 0, i, hi => by
    rw [List.drop_eq_nil_of_le (by omega), List.any_nil, Bool.false_or]
    refine Ev.step (f := fun _ => some (decide ((l2.length : Int) > (if a0 = 7 then 600 else 100)) || decide (30 < l3.length))) (fun k => ?_) (Ev.now _)
    show words_large.l0 (k + 1) l3 l3.length i a0 a1 l2 l3 = _
    rw [words_large.l0, if_neg (by omega), words_most.f]
    have e : (if a0 = 7 then some 600 else some 100 : Option Int) = some (if a0 = 7 then 600 else 100) := by split <;> rfl
    rw [e, Option.bind_some]
    by_cases h : (l2.length : Int) > (if a0 = 7 then 600 else 100)
    · rw [if_pos h, decide_eq_true h, Bool.true_or]
    · rw [if_neg h, decide_eq_false h, Bool.false_or]
      congr 1
      by_cases h4 : 30 < l3.length
      · rw [decide_eq_true h4, decide_eq_true (by omega)]
      · rw [decide_eq_false h4, decide_eq_false (by omega)]
  | d + 1, i, hi => by
    have hlt : i < l3.length := by omega
    rw [Pur.drop_cons l3 i hlt z27, List.any_cons]
    have ex : rd_T27 l3 (i : Int) = l3.getD i z27 := rfl
    generalize l3.getD i z27 = f at *
    by_cases h5 : 60 < f.f5.length
    · rw [show bigF f = true by rw [bigF, decide_eq_true h5, Bool.true_or], Bool.true_or, Bool.true_or]
      refine Ev.step (f := fun _ => some true) (fun k => ?_) (Ev.now _)
      show words_large.l0 (k + 1) l3 l3.length i a0 a1 l2 l3 = _
      rw [words_large.l0, if_pos (by omega), if_pos (by omega), if_pos (by omega), ex, if_pos (by omega)]
    · by_cases h6 : 20 < f.f6.length
      · rw [show bigF f = true by rw [bigF, decide_eq_true h6, Bool.or_true], Bool.true_or, Bool.true_or]
        refine Ev.step (f := fun _ => some true) (fun k => ?_) (Ev.now _)
        show words_large.l0 (k + 1) l3 l3.length i a0 a1 l2 l3 = _
        rw [words_large.l0, if_pos (by omega), if_pos (by omega), if_pos (by omega), ex, if_neg (by omega), if_pos (by omega)]
      · rw [show bigF f = false by rw [bigF, decide_eq_false h5, decide_eq_false h6]; rfl, Bool.false_or]
        refine Ev.step (f := fun k => words_large.l0 k l3 l3.length ((i + 1 : Nat) : Int) a0 a1 l2 l3) (fun k => ?_) (large_l0 a0 a1 l2 l3 h3 d (i + 1) (by omega))
        show words_large.l0 (k + 1) l3 l3.length i a0 a1 l2 l3 = _
        rw [words_large.l0, if_pos (by omega), if_pos (by omega), if_pos (by omega), ex, if_neg (by omega), if_neg (by omega), Pur.wrap_succ (by omega)]
theorem large_ev (a0 a1 : Int) (l2 : List S23) (l3 : List S27) (h3 : l3.length < 4611686018427387904) : Ev (fun k => words_large.f k a0 a1 l2 l3) (large a0 l2 l3) := by
  have h := large_l0 a0 a1 l2 l3 h3 l3.length 0 (by omega)
  rw [List.drop_zero] at h
  exact h
theorem large_ok {a0 : Int} {l2 : List S23} {l3 : List S27} (h : large a0 l2 l3 = false) : CellOk l2 l3 := by
  unfold large at h
  rw [Bool.or_eq_false_iff, Bool.or_eq_false_iff] at h
  obtain ⟨h1, h2, h3⟩ := h
  have h2 := of_decide_eq_false h2
  have h3 := of_decide_eq_false h3
  refine ⟨by split at h2 <;> omega, by omega, fun f hf => ?_⟩
  rw [List.any_eq_false] at h1
  have := h1 f hf
  simp only [bigF, Bool.or_eq_true, decide_eq_true_iff] at this
  omega
def ofS (a0 a1 : Int) (l2 : List S23) (l3 : List S27) : List Int × Int := if large a0 l2 l3 = true then ([], 2) else if fe 0 (cv l2 l3) = 0 then (cw a0 a1 l2 l3, 0) else ([], fe 0 (cv l2 l3))
theorem Of_ev (a0 a1 : Int) (l2 : List S23) (l3 : List S27) (h3 : l3.length < 4611686018427387904) (h64 : Cell64 l2 l3) : Ev (fun k => words_Of.f k a0 a1 l2 l3) (ofS a0 a1 l2 l3) := by
  unfold words_Of.f ofS
  refine Ev.bind (large_ev a0 a1 l2 l3 h3) ?_
  cases h : large a0 l2 l3 with
  | true => exact Pur.ev_some (fun _ => by rw [if_pos rfl, if_pos rfl])
  | false =>
    simp only [Bool.false_eq_true, if_false]
    refine Ev.bind (cellS_ok a0 a1 l2 l3 (large_ok h) h64) ?_
    by_cases h0 : fe 0 (cv l2 l3) = 0
    · simp only [if_pos h0]
      exact Pur.ev_some (fun _ => rfl)
    · simp only [if_neg h0]
      exact Ev.now _
/- the reference -/
theorem cvals_l0 (l3 : List S27) (h3 : l3.length ≤ 30) (hf : ∀ f ∈ l3, f.f5.length ≤ 60) : ∀ (d i : Nat) (acc : List S23), i + d = l3.length → acc.length ≤ 600 + 61 * i → Ev (fun k => backstitchref3_CellVals.l0 k acc l3 l3.length i) (acc ++ (l3.drop i).flatMap fv)
  | 0, i, acc, hi, ha => by
    rw [List.drop_eq_nil_of_le (by omega), List.flatMap_nil, List.append_nil]
    refine Ev.step (f := fun _ => some acc) (fun k => ?_) (Ev.now _)
    show backstitchref3_CellVals.l0 (k + 1) acc l3 l3.length i = _
    rw [backstitchref3_CellVals.l0, if_neg (by omega)]
  | d + 1, i, acc, hi, ha => by
    have hlt : i < l3.length := by omega
    rw [Pur.drop_cons l3 i hlt z27, List.flatMap_cons]
    have ex : rd_T27 l3 (i : Int) = l3.getD i z27 := rfl
    have hm : l3.getD i z27 ∈ l3 := by
      rw [List.getD_eq_getElem?_getD, List.getElem?_eq_getElem hlt, Option.getD_some]
      exact List.getElem_mem _
    have h5 := hf _ hm
    generalize l3.getD i z27 = f at *
    have ih := cvals_l0 l3 h3 hf d (i + 1) (acc ++ [f.f4] ++ f.f5) (by omega) (by simp; omega)
    rw [show acc ++ (fv f ++ (l3.drop (i + 1)).flatMap fv) = acc ++ [f.f4] ++ f.f5 ++ (l3.drop (i + 1)).flatMap fv by simp [fv]]
    refine Ev.step (f := fun k => backstitchref3_CellVals.l0 k (acc ++ [f.f4] ++ f.f5) l3 l3.length ((i + 1 : Nat) : Int)) (fun k => ?_) ih
    show backstitchref3_CellVals.l0 (k + 1) acc l3 l3.length i = _
    rw [backstitchref3_CellVals.l0, if_pos (by omega), if_pos (by omega), if_pos (by omega), ex, if_pos (by omega), Option.bind_some, if_pos (by simp; omega), Pur.wrap_succ (by omega)]
theorem cf_l1 (l : List S23) (hv : ∀ v ∈ l, V64 v) (hl : l.length < 4611686018427387904) : ∀ (d i : Nat), i + d = l.length → Ev (fun k => backstitchref3_CellFault.l1 k l l.length i) (fe 0 (l.drop i))
  | 0, i, hi => by
    rw [List.drop_eq_nil_of_le (by omega), fe]
    refine Ev.step (f := fun _ => some 0) (fun k => ?_) (Ev.now _)
    show backstitchref3_CellFault.l1 (k + 1) l l.length i = _
    rw [backstitchref3_CellFault.l1, if_neg (by omega)]
  | d + 1, i, hi => by
    have hlt : i < l.length := by omega
    rw [Pur.drop_cons l i hlt z23, fe]
    have ex : rd_T23 l (i : Int) = l.getD i z23 := rfl
    have hm : l.getD i z23 ∈ l := by
      rw [List.getD_eq_getElem?_getD, List.getElem?_eq_getElem hlt, Option.getD_some]
      exact List.getElem_mem _
    have hv1 := hv _ hm
    generalize l.getD i z23 = v at *
    have ih := cf_l1 l hv hl d (i + 1) (by omega)
    rw [if_pos rfl]
    refine Ev.step (f := fun k => (backstitchref3_Box.f k v.f0 v.f1).bind fun bt153 => (if bt153.2 = 0 then (backstitchref3_CellFault.l1 k l l.length ((i + 1 : Nat) : Int)) else (some bt153.2))) (fun k => ?_) (Ev.bind (rbox_ev v.f0 v.f1 hv1) ?_)
    · show backstitchref3_CellFault.l1 (k + 1) l l.length i = _
      rw [backstitchref3_CellFault.l1, if_pos (by omega), if_pos (by omega), if_pos (by omega), ex, Pur.wrap_succ (by omega)]
    · by_cases h0 : (boxS v.f0 v.f1).2 = 0
      · simp only [if_pos h0]
        rw [h0]
        exact ih
      · simp only [if_neg h0]
        rw [fe_ne _ h0]
        exact Ev.now _
theorem cf_l0 (a0 a1 : Int) (l2 : List S23) (l3 : List S27) (h2 : l2.length ≤ 600) (h3 : l3.length ≤ 30) (h64 : Cell64 l2 l3) : ∀ (d i : Nat), i + d = l3.length → (∀ j, j < i → bigF (l3.getD j z27) = false) → Ev (fun k => backstitchref3_CellFault.l0 k l3 l3.length i a0 a1 l2 l3) (if (l3.drop i).any bigF = true then 2 else fe 0 (cv l2 l3))
  | 0, i, hi, hb => by
    rw [List.drop_eq_nil_of_le (by omega), List.any_nil, if_neg (by decide)]
    have hf : ∀ f ∈ l3, f.f5.length ≤ 60 := fun f hf => by
      obtain ⟨j, hj, e⟩ := List.getElem_of_mem hf
      have := hb j (by omega)
      rw [List.getD_eq_getElem?_getD, List.getElem?_eq_getElem hj, Option.getD_some, e] at this
      simp only [bigF, Bool.or_eq_false_iff, decide_eq_false_iff_not] at this
      omega
    have h := cvals_l0 l3 h3 hf l3.length 0 l2 (by omega) (by omega)
    rw [List.drop_zero] at h
    have hv : ∀ v ∈ cv l2 l3, V64 v := fun v hv => by
      rcases List.mem_append.1 hv with h1 | h1
      · exact h64.v v h1
      · obtain ⟨f, hf1, hf2⟩ := List.mem_flatMap.1 h1
        rcases List.mem_cons.1 hf2 with rfl | h4
        · exact (h64.f f hf1).1
        · exact (h64.f f hf1).2 v h4
    have hlen : ∀ l : List S27, (∀ f ∈ l, f.f5.length ≤ 60) → (l.flatMap fv).length ≤ 61 * l.length := by
      intro l
      induction l with
      | nil => intro _; simp
      | cons f l ih =>
        intro hl
        have h1 := ih (fun y hy => hl y (List.mem_cons_of_mem _ hy))
        have h2 := hl f List.mem_cons_self
        rw [List.flatMap_cons, List.length_append, List.length_cons]
        simp only [fv, List.length_cons]
        omega
    have hl1 : (cv l2 l3).length < 4611686018427387904 := by
      have := hlen l3 hf
      simp only [cv, List.length_append]
      omega
    have h1 := cf_l1 (cv l2 l3) hv hl1 (cv l2 l3).length 0 (by omega)
    rw [List.drop_zero] at h1
    refine Ev.step (f := fun k => (backstitchref3_CellVals.f k a0 a1 l2 l3).bind fun t148 => (backstitchref3_CellFault.l1 k t148 (t148.length : Int) 0)) (fun k => ?_) (Ev.bind (a := cv l2 l3) ?_ h1)
    · show backstitchref3_CellFault.l0 (k + 1) l3 l3.length i a0 a1 l2 l3 = _
      rw [backstitchref3_CellFault.l0, if_neg (by omega)]
    · refine Ev.congr (fun k => ?_) h
      rw [backstitchref3_CellVals.f, api_Val.f, if_pos (by omega), Option.bind_some]
      rfl
  | d + 1, i, hi, hb => by
    have hlt : i < l3.length := by omega
    rw [Pur.drop_cons l3 i hlt z27, List.any_cons]
    have ex : rd_T27 l3 (i : Int) = l3.getD i z27 := rfl
    generalize hfe : l3.getD i z27 = f at *
    by_cases h5 : 60 < f.f5.length
    · rw [show bigF f = true by rw [bigF, decide_eq_true h5, Bool.true_or], Bool.true_or, if_pos rfl]
      refine Ev.step (f := fun _ => some 2) (fun k => ?_) (Ev.now _)
      show backstitchref3_CellFault.l0 (k + 1) l3 l3.length i a0 a1 l2 l3 = _
      rw [backstitchref3_CellFault.l0, if_pos (by omega), if_pos (by omega), if_pos (by omega), ex, if_pos (by omega)]
    · by_cases h6 : 20 < f.f6.length
      · rw [show bigF f = true by rw [bigF, decide_eq_true h6, Bool.or_true], Bool.true_or, if_pos rfl]
        refine Ev.step (f := fun _ => some 2) (fun k => ?_) (Ev.now _)
        show backstitchref3_CellFault.l0 (k + 1) l3 l3.length i a0 a1 l2 l3 = _
        rw [backstitchref3_CellFault.l0, if_pos (by omega), if_pos (by omega), if_pos (by omega), ex, if_neg (by omega), if_pos (by omega)]
      · have hbf : bigF f = false := by rw [bigF, decide_eq_false h5, decide_eq_false h6]; rfl
        rw [hbf, Bool.false_or]
        refine Ev.step (f := fun k => backstitchref3_CellFault.l0 k l3 l3.length ((i + 1 : Nat) : Int) a0 a1 l2 l3) (fun k => ?_) (cf_l0 a0 a1 l2 l3 h2 h3 h64 d (i + 1) (by omega) (fun j hj => by
          rcases Nat.lt_or_ge j i with h | h
          · exact hb j h
          · obtain rfl : j = i := by omega
            rw [hfe]; exact hbf))
        show backstitchref3_CellFault.l0 (k + 1) l3 l3.length i a0 a1 l2 l3 = _
        rw [backstitchref3_CellFault.l0, if_pos (by omega), if_pos (by omega), if_pos (by omega), ex, if_neg (by omega), if_neg (by omega), Pur.wrap_succ (by omega)]
theorem cf_ev (a0 a1 : Int) (l2 : List S23) (l3 : List S27) (h64 : Cell64 l2 l3) : Ev (fun k => backstitchref3_CellFault.f k a0 a1 l2 l3) (if large a0 l2 l3 = true then 2 else fe 0 (cv l2 l3)) := by
  by_cases hv : (l2.length : Int) > (if a0 = 7 then 600 else 100)
  · rw [show large a0 l2 l3 = true by unfold large; rw [decide_eq_true hv, Bool.true_or, Bool.or_true], if_pos rfl]
    refine Ev.step (f := fun _ => some 2) (fun k => ?_) (Ev.now _)
    show backstitchref3_CellFault.f (k + 1) a0 a1 l2 l3 = _
    rw [backstitchref3_CellFault.f, if_pos (by split at hv <;> omega)]
    by_cases h7 : a0 = 7
    · rw [if_pos h7] at hv
      rw [if_pos h7, if_pos hv, backstitchref3_CellFault.j0, if_pos rfl]
    · rw [if_neg h7, backstitchref3_CellFault.j0, if_pos rfl]
  · by_cases hf : 30 < l3.length
    · rw [show large a0 l2 l3 = true by unfold large; rw [decide_eq_true hf, Bool.or_true, Bool.or_true], if_pos rfl]
      refine Ev.step (f := fun _ => some 2) (fun k => ?_) (Ev.now _)
      show backstitchref3_CellFault.f (k + 1) a0 a1 l2 l3 = _
      have hd : decide ((l3.length : Int) > 30) = true := decide_eq_true (by omega)
      rw [backstitchref3_CellFault.f]
      by_cases h7 : a0 = 7
      · rw [if_pos h7] at hv
        rw [if_pos h7, if_neg hv, hd, backstitchref3_CellFault.j0, if_pos rfl]
        split <;> rfl
      · rw [if_neg h7] at hv
        rw [if_neg hv, hd, backstitchref3_CellFault.j0, if_pos rfl]
    · have h2 : l2.length ≤ 600 := by split at hv <;> omega
      rw [show large a0 l2 l3 = l3.any bigF by unfold large; rw [decide_eq_false hv, decide_eq_false hf]; simp]
      have h := cf_l0 a0 a1 l2 l3 h2 (by omega) h64 l3.length 0 (by omega) (fun j hj => by omega)
      rw [List.drop_zero] at h
      refine Ev.step (f := fun k => backstitchref3_CellFault.l0 k l3 l3.length ((0 : Nat) : Int) a0 a1 l2 l3) (fun k => ?_) h
      show backstitchref3_CellFault.f (k + 1) a0 a1 l2 l3 = _
      have hd : decide ((l3.length : Int) > 30) = false := decide_eq_false (by omega)
      have hj : backstitchref3_CellFault.j0 (k + 1) false a0 a1 l2 l3 = backstitchref3_CellFault.l0 k l3 l3.length ((0 : Nat) : Int) a0 a1 l2 l3 := by
        rw [backstitchref3_CellFault.j0, if_neg (by decide)]
        rfl
      rw [backstitchref3_CellFault.f, hd]
      by_cases h7 : a0 = 7
      · rw [if_pos h7] at hv
        rw [if_pos h7, if_neg hv, hj]
        split <;> rfl
      · rw [if_neg h7] at hv
        rw [if_neg hv, hj]
theorem vw_l0 (l : List S23) (hv : ∀ v ∈ l, V64 v) (hl : l.length ≤ 600) : ∀ (d i : Nat) (acc : List Int), i + d = l.length → acc.length ≤ 1 + i → Ev (fun k => backstitchref3_valWords.l0 k acc l l.length i) (acc ++ (l.drop i).map bw)
  | 0, i, acc, hi, ha => by
    rw [List.drop_eq_nil_of_le (by omega), List.map_nil, List.append_nil]
    refine Ev.step (f := fun _ => some acc) (fun k => ?_) (Ev.now _)
    show backstitchref3_valWords.l0 (k + 1) acc l l.length i = _
    rw [backstitchref3_valWords.l0, if_neg (by omega)]
  | d + 1, i, acc, hi, ha => by
    have hlt : i < l.length := by omega
    rw [Pur.drop_cons l i hlt z23, List.map_cons]
    have ex : rd_T23 l (i : Int) = l.getD i z23 := rfl
    have hm : l.getD i z23 ∈ l := by
      rw [List.getD_eq_getElem?_getD, List.getElem?_eq_getElem hlt, Option.getD_some]
      exact List.getElem_mem _
    have hv1 := hv _ hm
    generalize l.getD i z23 = v at *
    have ih := vw_l0 l hv hl d (i + 1) (acc ++ [bw v]) (by omega) (by simp; omega)
    rw [show acc ++ bw v :: (l.drop (i + 1)).map bw = acc ++ [bw v] ++ (l.drop (i + 1)).map bw by simp]
    refine Ev.step (f := fun k => (backstitchref3_Box.f k v.f0 v.f1).bind fun bt160 => (if acc.length < 17592186044416 then (backstitchref3_valWords.l0 k (acc ++ [bt160.1]) l l.length ((i + 1 : Nat) : Int)) else (none))) (fun k => ?_) (Ev.bind (rbox_ev v.f0 v.f1 hv1) ?_)
    · show backstitchref3_valWords.l0 (k + 1) acc l l.length i = _
      rw [backstitchref3_valWords.l0, if_pos (by omega), if_pos (by omega), if_pos (by omega), ex, Pur.wrap_succ (by omega)]
    · simp only [if_pos (show acc.length < 17592186044416 by omega)]
      exact ih
theorem vw_ev (l : List S23) (hv : ∀ v ∈ l, V64 v) (hl : l.length ≤ 600) : Ev (fun k => backstitchref3_valWords.f k l) (wv l) := by
  have h := vw_l0 l hv hl l.length 0 [U l.length] (by omega) (by simp)
  rw [List.drop_zero] at h
  exact h
theorem cwd_l1 (l3 : List S27) (i : Nat) (l6 : List S44) (h6 : l6.length ≤ 20) (r : List Int) : ∀ (d j : Nat) (acc : List Int), j + d = l6.length → acc.length ≤ 100000 + 2 * j →
    Ev (fun k => backstitchref3_CellWords.l0 k (acc ++ (l6.drop j).flatMap wt) l3 l3.length (wrap64 ((i : Int) + 1))) r → Ev (fun k => backstitchref3_CellWords.l1 k acc l3 l3.length i l6 l6.length j) r
  | 0, j, acc, hj, ha, hr => by
    rw [List.drop_eq_nil_of_le (by omega), List.flatMap_nil, List.append_nil] at hr
    refine Ev.step (f := fun k => backstitchref3_CellWords.l0 k acc l3 l3.length (wrap64 ((i : Int) + 1))) (fun k => ?_) hr
    show backstitchref3_CellWords.l1 (k + 1) acc l3 l3.length i l6 l6.length j = _
    rw [backstitchref3_CellWords.l1, if_neg (by omega)]
  | d + 1, j, acc, hj, ha, hr => by
    have hlt : j < l6.length := by omega
    rw [Pur.drop_cons l6 j hlt z44, List.flatMap_cons, ← List.append_assoc] at hr
    have ex : rd_T44 l6 (j : Int) = l6.getD j z44 := rfl
    generalize l6.getD j z44 = x at *
    refine Ev.step (f := fun k => backstitchref3_CellWords.l1 k (acc ++ wt x) l3 l3.length i l6 l6.length ((j + 1 : Nat) : Int)) (fun k => ?_) (cwd_l1 l3 i l6 h6 r d (j + 1) (acc ++ wt x) (by omega) (by simp [wt]; omega) hr)
    show backstitchref3_CellWords.l1 (k + 1) acc l3 l3.length i l6 l6.length j = _
    rw [backstitchref3_CellWords.l1, if_pos (by omega), if_pos (by omega), if_pos (by omega), ex, Option.bind_some, if_pos (by simp; omega), Pur.wrap_succ (by omega)]
    rfl
theorem cwd_l0 (l3 : List S27) (h3 : l3.length ≤ 30) (hf : ∀ f ∈ l3, F64 f ∧ f.f5.length ≤ 60 ∧ f.f6.length ≤ 20) : ∀ (d i : Nat) (acc : List Int), i + d = l3.length → acc.length ≤ 1000 + 107 * i → Ev (fun k => backstitchref3_CellWords.l0 k acc l3 l3.length i) (acc ++ (l3.drop i).flatMap wf_)
  | 0, i, acc, hi, ha => by
    rw [List.drop_eq_nil_of_le (by omega), List.flatMap_nil, List.append_nil]
    refine Ev.step (f := fun _ => some acc) (fun k => ?_) (Ev.now _)
    show backstitchref3_CellWords.l0 (k + 1) acc l3 l3.length i = _
    rw [backstitchref3_CellWords.l0, if_neg (by omega)]
  | d + 1, i, acc, hi, ha => by
    have hlt : i < l3.length := by omega
    rw [Pur.drop_cons l3 i hlt z27, List.flatMap_cons]
    have ex : rd_T27 l3 (i : Int) = l3.getD i z27 := rfl
    have hm : l3.getD i z27 ∈ l3 := by
      rw [List.getD_eq_getElem?_getD, List.getElem?_eq_getElem hlt, Option.getD_some]
      exact List.getElem_mem _
    obtain ⟨h64, h5, h6⟩ := hf _ hm
    generalize l3.getD i z27 = f at *
    have hwl := wf_len f
    have ih := cwd_l0 l3 h3 hf d (i + 1) (acc ++ wf_ f) (by omega) (by rw [List.length_append]; omega)
    have l1 := cwd_l1 l3 i f.f6 h6 (acc ++ wf_ f ++ (l3.drop (i + 1)).flatMap wf_) f.f6.length 0 (acc ++ [U f.f0, U f.f1, U f.f2, U f.f3] ++ [bw f.f4] ++ wv f.f5 ++ [U f.f6.length]) (by omega) (by simp [wv]; omega) (by
      rw [List.drop_zero, Pur.wrap_succ (by omega)]
      have e : acc ++ [U f.f0, U f.f1, U f.f2, U f.f3] ++ [bw f.f4] ++ wv f.f5 ++ [U f.f6.length] ++ f.f6.flatMap wt = acc ++ wf_ f := by simp [wf_]
      rw [e]
      exact ih)
    rw [← List.append_assoc]
    refine Ev.step (f := fun k => (backstitchref3_valWords.f k [f.f4]).bind fun t => if 1 ≤ (t.length : Int) then (if (acc ++ [U f.f0, U f.f1, U f.f2, U f.f3]).length + (t.drop 1).length < 17592186044416 then (backstitchref3_valWords.f k f.f5).bind fun t2 => (if (acc ++ [U f.f0, U f.f1, U f.f2, U f.f3] ++ t.drop 1).length + t2.length < 17592186044416 then (if (acc ++ [U f.f0, U f.f1, U f.f2, U f.f3] ++ t.drop 1 ++ t2).length + [U f.f6.length].length < 17592186044416 then backstitchref3_CellWords.l1 k (acc ++ [U f.f0, U f.f1, U f.f2, U f.f3] ++ t.drop 1 ++ t2 ++ [U f.f6.length]) l3 l3.length i f.f6 f.f6.length 0 else none) else none) else none) else none) (fun k => ?_) (Ev.bind (vw_ev [f.f4] (fun v hv => by rw [List.mem_singleton.1 hv]; exact h64.1) (by simp)) ?_)
    · show backstitchref3_CellWords.l0 (k + 1) acc l3 l3.length i = _
      rw [backstitchref3_CellWords.l0, if_pos (by omega), if_pos (by omega), if_pos (by omega), ex]
      simp only [Option.bind_some]
      rw [if_pos (by simp; omega)]
    · simp only [wv, List.map_cons, List.map_nil, List.drop_succ_cons, List.drop_zero, List.length_cons, List.length_nil]
      refine Ev.congr (f := fun k => (backstitchref3_valWords.f k f.f5).bind fun t2 => (if (acc ++ [U f.f0, U f.f1, U f.f2, U f.f3] ++ [bw f.f4]).length + t2.length < 17592186044416 then (if (acc ++ [U f.f0, U f.f1, U f.f2, U f.f3] ++ [bw f.f4] ++ t2).length + (0 + 1) < 17592186044416 then backstitchref3_CellWords.l1 k (acc ++ [U f.f0, U f.f1, U f.f2, U f.f3] ++ [bw f.f4] ++ t2 ++ [U f.f6.length]) l3 l3.length i f.f6 f.f6.length 0 else none) else none)) (fun k => ?_) (Ev.bind (vw_ev f.f5 h64.2 (by omega)) ?_)
      · rw [if_pos (by omega), if_pos (by simp; omega)]
      · refine Ev.congr (fun k => ?_) l1
        rw [if_pos (by simp [wv]; omega), if_pos (by simp [wv]; omega)]
        rfl
theorem cwd_ev (a0 a1 : Int) (l2 : List S23) (l3 : List S27) (h : CellOk l2 l3) (h64 : Cell64 l2 l3) : Ev (fun k => backstitchref3_CellWords.f k a0 a1 l2 l3) (cw a0 a1 l2 l3) := by
  have b1 := h.v
  have b2 := h.f
  have h0 := cwd_l0 l3 b2 (fun f hf => ⟨h64.f f hf, h.fs f hf⟩) l3.length 0 ([U a0, U a1] ++ wv l2 ++ [U l3.length]) (by omega) (by simp [wv]; omega)
  rw [List.drop_zero] at h0
  unfold backstitchref3_CellWords.f
  simp only [Option.bind_some]
  refine Ev.bind (vw_ev l2 h64.v b1) ?_
  refine Ev.congr (fun k => ?_) h0
  rw [if_pos (by simp [wv]; omega), if_pos (by simp [wv]; omega)]
  rfl
theorem cw_len (a0 a1 : Int) (l2 : List S23) (l3 : List S27) (h : CellOk l2 l3) : (cw a0 a1 l2 l3).length ≤ 4000 := by
  have b1 := h.v
  have b2 := h.f
  have hl : ∀ l : List S27, (∀ f ∈ l, f.f5.length ≤ 60 ∧ f.f6.length ≤ 20) → (l.flatMap wf_).length ≤ 107 * l.length := by
    intro l
    induction l with
    | nil => intro _; simp
    | cons f l ih =>
      intro hl
      have h1 := ih (fun y hy => hl y (List.mem_cons_of_mem _ hy))
      have h2 := hl f List.mem_cons_self
      have h3 := wf_len f
      rw [List.flatMap_cons, List.length_append, List.length_cons]
      omega
  have := hl l3 h.fs
  simp only [cw, List.length_append, wv, List.length_cons, List.length_nil, List.length_map]
  omega
theorem equ_l0 (l : List Int) (hl : l.length < 4611686018427387904) : ∀ (d i : Nat), i + d = l.length → Ev (fun k => backstitchref3_Eq_uint64.l0 k l l l.length i) true
  | 0, i, hi => by
    refine Ev.step (f := fun _ => some true) (fun k => ?_) (Ev.now _)
    show backstitchref3_Eq_uint64.l0 (k + 1) l l l.length i = _
    rw [backstitchref3_Eq_uint64.l0, if_neg (by omega)]
  | d + 1, i, hi => by
    refine Ev.step (f := fun k => backstitchref3_Eq_uint64.l0 k l l l.length ((i + 1 : Nat) : Int)) (fun k => ?_) (equ_l0 l hl d (i + 1) (by omega))
    show backstitchref3_Eq_uint64.l0 (k + 1) l l l.length i = _
    rw [backstitchref3_Eq_uint64.l0, if_pos (by omega), if_pos (by omega), if_pos (by omega), if_pos (by omega), if_pos rfl, Pur.wrap_succ (by omega)]
theorem equ_ev (l : List Int) (hl : l.length < 4611686018427387904) : Ev (fun k => backstitchref3_Eq_uint64.f k l l) true := by
  refine Ev.congr (f := fun k => backstitchref3_Eq_uint64.l0 k l l l.length ((0 : Nat) : Int)) (fun k => ?_) (equ_l0 l hl l.length 0 (by omega))
  show backstitchref3_Eq_uint64.f k l l = _
  rw [backstitchref3_Eq_uint64.f, if_pos rfl]
  rfl
theorem worded_ev : Ev (fun k => backstitchlaw3_worded.f k) true := Ev.of (fun k => backstitchlaw3_worded.mono k) (k := 12) (by kernel_rfl)
theorem val64 {v : S23} (h : wf23 v) : V64 v := Pur.int_bounds h.2
theorem cell64 {x : S61} (h : wf61 x) : Cell64 x.f2 x.f3 := ⟨fun v hv => val64 (h.2.2.1.2 v hv), fun f hf => ⟨val64 (h.2.2.2.2 f hf).2.2.2.2.1, fun v hv => val64 ((h.2.2.2.2 f hf).2.2.2.2.2.1.2 v hv)⟩⟩
end Go.Proofs.Ytlojkphocbbjdaa.Pure
