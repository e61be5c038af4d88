/- WordsAll: for all cells the law's printed function answers true. -/
import Derived.Test.YtlojkphocbbjdaaCwWordsAll
namespace Go.Proofs.Ytlojkphocbbjdaa.Pure
open Go.RowKit Go.Proofs.Ytlojkphocbbjdaa.PWordsAll Go.Proofs.YtlojkphocbbjdaaW Go.Proofs.YtlojkphocbbjdaaW.PrintWords Go.Proofs.YtlojkphocbbjdaaW.PrintLast
set_option linter.unusedVariables false
set_option linter.unusedSimpArgs false

def flt (x : S61) : Int := if large x.f0 x.f2 x.f3 = true then 2 else fe 0 (cv x.f2 x.f3)
def cwx (x : S61) : List Int := cw x.f0 x.f1 x.f2 x.f3
def af : List S61 → Int
  | [] => 0
  | x :: l => if flt x = 0 then af l else flt x
def res (acc : List Int) (l : List S61) : List Int × Int := if af l = 0 then (acc ++ l.flatMap cwx, 0) else ([], af l)
def Ok (x : S61) : Prop := x.f3.length < 4611686018427387904 ∧ Cell64 x.f2 x.f3
theorem flt_zero {x : S61} (h : flt x = 0) : large x.f0 x.f2 x.f3 = false ∧ fe 0 (cv x.f2 x.f3) = 0 := by
  unfold flt at h
  cases hl : large x.f0 x.f2 x.f3 with
  | true => rw [hl] at h; simp at h
  | false => rw [hl] at h; exact ⟨rfl, by simpa using h⟩
theorem ofS_yes {x : S61} (h : flt x = 0) : ofS x.f0 x.f1 x.f2 x.f3 = (cwx x, 0) := by
  obtain ⟨h1, h2⟩ := flt_zero h
  simp [ofS, h1, h2, cwx]
theorem ofS_no {x : S61} (h : flt x ≠ 0) : ofS x.f0 x.f1 x.f2 x.f3 = ([], flt x) := by
  unfold flt at h ⊢
  cases hl : large x.f0 x.f2 x.f3 with
  | true => simp [ofS, hl]
  | false =>
    rw [hl] at h
    simp only [Bool.false_eq_true, if_false] at h
    simp [ofS, hl, h]
theorem cwx_len {x : S61} (h : flt x = 0) : (cwx x).length ≤ 4000 := cw_len _ _ _ _ (large_ok (flt_zero h).1)
theorem getD_mem {l : List S61} {i : Nat} (h : i < l.length) : l.getD i z61 ∈ l := by
  rw [List.getD_eq_getElem?_getD, List.getElem?_eq_getElem h, Option.getD_some]
  exact List.getElem_mem _
theorem all_l0 (l : List S61) (hl : l.length ≤ 300) (hok : ∀ x ∈ l, Ok x) : ∀ (d i : Nat) (acc : List Int), i + d = l.length → acc.length ≤ 1 + 4000 * i → Ev (fun k => words_All.l0 k acc l l.length i) (res acc (l.drop i))
  | 0, i, acc, hi, ha => by
    rw [List.drop_eq_nil_of_le (by omega), res, af, if_pos rfl, List.flatMap_nil, List.append_nil]
    refine Ev.step (f := fun _ => some (acc, 0)) (fun k => ?_) (Ev.now _)
    show words_All.l0 (k + 1) acc l l.length i = _
    rw [words_All.l0, if_neg (by omega)]
  | d + 1, i, acc, hi, ha => by
    have hlt : i < l.length := by omega
    rw [Pur.drop_cons l i hlt z61]
    have ex : rd_T61 l (i : Int) = l.getD i z61 := rfl
    have hx := hok _ (getD_mem hlt)
    generalize l.getD i z61 = x at *
    refine Ev.step (f := fun k => (words_Of.f k x.f0 x.f1 x.f2 x.f3).bind fun bt221 => (if bt221.2 = 0 then (if acc.length + bt221.1.length < 17592186044416 then (words_All.l0 k (acc ++ bt221.1) l l.length ((i + 1 : Nat) : Int)) else (none)) else (some (([] : List Int), bt221.2)))) (fun k => ?_) (Ev.bind (Of_ev x.f0 x.f1 x.f2 x.f3 hx.1 hx.2) ?_)
    · show words_All.l0 (k + 1) acc l l.length i = _
      rw [words_All.l0, if_pos (by omega), if_pos (by omega), if_pos (by omega), ex, Pur.wrap_succ (by omega)]
    · by_cases h : flt x = 0
      · have hc := cwx_len h
        have ih := all_l0 l hl hok d (i + 1) (acc ++ cwx x) (by omega) (by simp; omega)
        have e : res acc (x :: l.drop (i + 1)) = res (acc ++ cwx x) (l.drop (i + 1)) := by
          simp [res, af, h, List.flatMap_cons]
        rw [ofS_yes h, e]
        refine Ev.congr (fun k => ?_) ih
        rw [if_pos rfl, if_pos (by show acc.length + (cwx x).length < _; omega)]
      · rw [ofS_no h, show res acc (x :: l.drop (i + 1)) = ([], flt x) by simp [res, af, h]]
        exact Pur.ev_some (fun _ => by rw [if_neg h])
theorem law_no (l : List S61) (hl : l.length ≤ 310) (x3 : List Int) (x4 x5 : Int) (h5 : x5 ≠ 0) (h4 : x4 = x5) (h3 : x3 = []) (x6 : List Int) : ∀ (d i : Nat), i + d = l.length → Ev (fun k => backstitchlaw3_WordsAll.l0 k x3 x4 x5 x6 l l.length i) true
  | 0, i, hi => by
    refine Ev.step (f := fun _ => some true) (fun k => ?_) (Ev.now _)
    show backstitchlaw3_WordsAll.l0 (k + 1) x3 x4 x5 x6 l l.length i = _
    rw [backstitchlaw3_WordsAll.l0, if_neg (by omega), if_neg h5, if_pos h4, h3]
    rfl
  | d + 1, i, hi => by
    refine Ev.step (f := fun k => backstitchlaw3_WordsAll.l0 k x3 x4 x5 x6 l l.length ((i + 1 : Nat) : Int)) (fun k => ?_) (law_no l hl x3 x4 x5 h5 h4 h3 x6 d (i + 1) (by omega))
    show backstitchlaw3_WordsAll.l0 (k + 1) x3 x4 x5 x6 l l.length i = _
    rw [backstitchlaw3_WordsAll.l0, if_pos (by omega), if_pos (by omega), if_pos (by omega), if_neg h5, Pur.wrap_succ (by omega)]
theorem law_yes (l : List S61) (hl : l.length ≤ 300) (hok : ∀ x ∈ l, Ok x) (x3 : List Int) (x4 : Int) : ∀ (d i : Nat) (x6 : List Int), i + d = l.length → x6.length ≤ 1 + 4000 * i → (x3, x4) = res x6 (l.drop i) → Ev (fun k => backstitchlaw3_WordsAll.l0 k x3 x4 0 x6 l l.length i) true
  | 0, i, x6, hi, ha, hr => by
    rw [List.drop_eq_nil_of_le (by omega), res, af, if_pos rfl, List.flatMap_nil, List.append_nil] at hr
    simp only [Prod.mk.injEq] at hr
    obtain ⟨rfl, rfl⟩ := hr
    refine Ev.step (f := fun k => (backstitchref3_Eq_uint64.f k x3 x3).bind fun t240 => (some t240)) (fun k => ?_) (Ev.bind (equ_ev x3 (by omega)) (Ev.now _))
    show backstitchlaw3_WordsAll.l0 (k + 1) x3 0 0 x3 l l.length i = _
    rw [backstitchlaw3_WordsAll.l0, if_neg (by omega), if_pos rfl, if_pos rfl]
  | d + 1, i, x6, hi, ha, hr => by
    have hlt : i < l.length := by omega
    rw [Pur.drop_cons l i hlt z61] at hr
    have ex : rd_T61 l (i : Int) = l.getD i z61 := rfl
    have hx := hok _ (getD_mem hlt)
    generalize l.getD i z61 = x at *
    refine Ev.step (f := fun k => (backstitchref3_CellFault.f k x.f0 x.f1 x.f2 x.f3).bind fun t243 => (if t243 = 0 then ((backstitchref3_CellWords.f k x.f0 x.f1 x.f2 x.f3).bind fun t244 => (if x6.length + t244.length < 17592186044416 then (backstitchlaw3_WordsAll.l0 k x3 x4 t243 (x6 ++ t244) l l.length ((i + 1 : Nat) : Int)) else (none))) else (backstitchlaw3_WordsAll.l0 k x3 x4 t243 x6 l l.length ((i + 1 : Nat) : Int)))) (fun k => ?_) (Ev.bind (a := flt x) (cf_ev x.f0 x.f1 x.f2 x.f3 hx.2) ?_)
    · show backstitchlaw3_WordsAll.l0 (k + 1) x3 x4 0 x6 l l.length i = _
      rw [backstitchlaw3_WordsAll.l0, if_pos (by omega), if_pos (by omega), if_pos (by omega), if_pos rfl, ex, Pur.wrap_succ (by omega)]
    · by_cases h : flt x = 0
      · have hc := cwx_len h
        have e : res x6 (x :: l.drop (i + 1)) = res (x6 ++ cwx x) (l.drop (i + 1)) := by
          simp [res, af, h, List.flatMap_cons]
        rw [e] at hr
        have ih := law_yes l hl hok x3 x4 d (i + 1) (x6 ++ cwx x) (by omega) (by simp; omega) hr
        simp only [h, if_true]
        refine Ev.bind (a := cwx x) (cwd_ev x.f0 x.f1 x.f2 x.f3 (large_ok (flt_zero h).1) hx.2) ?_
        refine Ev.congr (fun k => ?_) ih
        rw [if_pos (by omega)]
      · rw [show res x6 (x :: l.drop (i + 1)) = ([], flt x) by simp [res, af, h]] at hr
        simp only [Prod.mk.injEq] at hr
        simp only [if_neg h]
        exact law_no l (by omega) x3 x4 (flt x) h hr.2 hr.1 x6 d (i + 1) (by omega)
theorem WordsAll : backstitchlaw3_WordsAll.Pure := by
  intro l0 hx
  have hlen : l0.length < 4611686018427387904 := by have := hx.1; omega
  have hok0 : ∀ x ∈ l0, Ok x := fun x h => ⟨by have := (hx.2 x h).2.2.2.1; omega, cell64 (hx.2 x h)⟩
  clear hx
  refine Ev.rounds ?_
  show Ev (fun k => backstitchlaw3_WordsAll.f k l0) true
  have hm : ∃ m : Nat, mn (l0.length : Int) 310 = (m : Int) ∧ m ≤ l0.length ∧ m ≤ 310 := by
    unfold mn
    split
    · exact ⟨310, rfl, by omega, Nat.le_refl _⟩
    · exact ⟨l0.length, rfl, Nat.le_refl _, by omega⟩
  obtain ⟨m, hm, hm1, hm2⟩ := hm
  have hok : ∀ x ∈ l0.take m, Ok x := fun x h => hok0 x (List.mem_of_mem_take h)
  have hl : (l0.take m).length ≤ 310 := by rw [List.length_take]; omega
  unfold backstitchlaw3_WordsAll.f
  refine Ev.bind worded_ev ?_
  simp only [if_true, hm, Int.toNat_natCast, Option.bind_some]
  generalize l0.take m = l at *
  have key : Ev (fun k => ((words_All.f k l).bind fun bt233 => (if (l.length : Int) > 300 then (backstitchlaw3_WordsAll.j0 k l bt233.1 bt233.2 2) else (backstitchlaw3_WordsAll.j0 k l bt233.1 bt233.2 0)))) true := by
    by_cases h : 300 < l.length
    · refine Ev.bind (a := (([] : List Int), (2 : Int))) (Pur.ev_some (fun k => by show words_All.f k l = _; rw [words_All.f, if_pos (by omega)])) ?_
      simp only [if_pos (show (l.length : Int) > 300 by omega)]
      exact Ev.step (f := fun k => backstitchlaw3_WordsAll.l0 k [] 2 2 [U l.length] l l.length ((0 : Nat) : Int)) (fun k => rfl) (law_no l hl [] 2 2 (by decide) rfl rfl _ l.length 0 (by omega))
    · have ha := all_l0 l (by omega) hok l.length 0 [U l.length] (by omega) (by simp)
      rw [List.drop_zero] at ha
      have hb := law_yes l (by omega) hok (res [U l.length] l).1 (res [U l.length] l).2 l.length 0 [U l.length] (by omega) (by simp) (by rw [List.drop_zero])
      refine Ev.bind (a := res [U l.length] l) (Ev.congr (fun k => by show words_All.f k l = _; rw [words_All.f, if_neg (by omega)]; rfl) ha) ?_
      simp only [if_neg (show ¬ (l.length : Int) > 300 by omega)]
      exact Ev.step (fun k => rfl) hb
  refine Ev.congr (fun k => ?_) key
  rw [if_pos (by omega), if_pos (by omega)]
end Go.Proofs.Ytlojkphocbbjdaa.Pure
