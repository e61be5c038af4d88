/- MovesTell: for all moves and every spare register the law's printed function answers true. -/
import Derived.Test.YtlojkphocbbjdaaMvMovesTell
namespace Go.Proofs.Ytlojkphocbbjdaa.Pure
open Go.RowKit Go.Proofs.Ytlojkphocbbjdaa.PMovesTell Go.Proofs.YtlojkphocbbjdaaW Go.Proofs.YtlojkphocbbjdaaW.PrintWords Go.Proofs.YtlojkphocbbjdaaW.PrintLast Go.Proofs.YtlojkphocbbjdaaW.PrintMore
set_option linter.unusedVariables false
set_option linter.unusedSimpArgs false

theorem has_l0 (x : Int) (l : List Int) (hl : l.length < 4611686018427387904) : ∀ (d i : Nat), i + d = l.length → Ev (fun k => backstitchref3_Has_int.l0 k x l l.length i) ((l.drop i).contains x)
  | 0, i, hi => by
    rw [List.drop_eq_nil_of_le (by omega)]
    refine Ev.step (f := fun _ => some false) (fun k => ?_) (Ev.now _)
    show backstitchref3_Has_int.l0 (k + 1) x l l.length i = _
    rw [backstitchref3_Has_int.l0, if_neg (by omega)]
  | d + 1, i, hi => by
    have hlt : i < l.length := by omega
    rw [Pur.drop_cons l i hlt 0]
    have ex : rd l (i : Int) = l.getD i 0 := rfl
    have ih := has_l0 x l hl d (i + 1) (by omega)
    generalize l.getD i 0 = y at *
    by_cases h : x = y
    · refine Ev.step (f := fun _ => some true) (fun k => ?_) (by rw [show (y :: l.drop (i + 1)).contains x = true by simp [h]]; exact Ev.now _)
      show backstitchref3_Has_int.l0 (k + 1) x l l.length i = _
      rw [backstitchref3_Has_int.l0, if_pos (by omega), if_pos (by omega), if_pos (by omega), ex, if_pos h]
    · refine Ev.step (fun k => ?_) (by rw [show (y :: l.drop (i + 1)).contains x = (l.drop (i + 1)).contains x by simp [h]]; exact ih)
      show backstitchref3_Has_int.l0 (k + 1) x l l.length i = _
      rw [backstitchref3_Has_int.l0, if_pos (by omega), if_pos (by omega), if_pos (by omega), ex, if_neg h, Pur.wrap_succ (by omega)]
theorem has_ev (x : Int) (l : List Int) (hl : l.length < 4611686018427387904) : Ev (fun k => backstitchref3_Has_int.f k l x) (l.contains x) := by
  have h := has_l0 x l hl l.length 0 (by omega)
  rw [List.drop_zero] at h
  exact h

/-! the fault -/
theorem any_contains (l : List S71) (x : Int) : (l.map (·.f0)).contains x = l.any (fun y => y.f0 == x) := by
  induction l with
  | nil => rfl
  | cons a l ih => simp only [List.map_cons, List.any_cons, List.contains_cons, ih]; congr 1; exact Bool.beq_comm
theorem fault_l1 (sp : Int) (l : List S71) (hl : l.length ≤ 60) : ∀ (d i : Nat), i + d = l.length → Ev (fun k => backstitchref3_MovesFault.l1 k sp l l.length i) (if (l.drop i).any (fun x => x.f0 == sp || x.f1 == sp) = true then 1 else 0)
  | 0, i, hi => by
    rw [List.drop_eq_nil_of_le (by omega)]
    refine Ev.step (f := fun _ => some 0) (fun k => ?_) (Ev.now _)
    show backstitchref3_MovesFault.l1 (k + 1) sp l l.length i = _
    rw [backstitchref3_MovesFault.l1, if_neg (by omega)]
  | d + 1, i, hi => by
    have hlt : i < l.length := by omega
    rw [Pur.drop_cons l i hlt z71]
    have ex : rd_T71 l (i : Int) = l.getD i z71 := rfl
    have ih := fault_l1 sp l hl d (i + 1) (by omega)
    generalize l.getD i z71 = m at *
    rw [List.any_cons]
    by_cases h0 : m.f0 = sp
    · refine Ev.step (f := fun _ => some 1) (fun k => ?_) (by rw [show (m.f0 == sp) = true from beq_iff_eq.2 h0, Bool.true_or, Bool.true_or, if_pos rfl]; exact Ev.now _)
      show backstitchref3_MovesFault.l1 (k + 1) sp l l.length i = _
      rw [backstitchref3_MovesFault.l1, if_pos (by omega), if_pos (by omega), if_pos (by omega), ex, if_pos h0]
    · by_cases h1 : m.f1 = sp
      · refine Ev.step (f := fun _ => some 1) (fun k => ?_) (by rw [show (m.f1 == sp) = true from beq_iff_eq.2 h1, Bool.or_true, Bool.true_or, if_pos rfl]; exact Ev.now _)
        show backstitchref3_MovesFault.l1 (k + 1) sp l l.length i = _
        rw [backstitchref3_MovesFault.l1, if_pos (by omega), if_pos (by omega), if_pos (by omega), ex, if_neg h0, if_pos h1]
      · refine Ev.step (fun k => ?_) (by rw [show (m.f0 == sp) = false from beq_eq_false_iff_ne.2 h0, show (m.f1 == sp) = false from beq_eq_false_iff_ne.2 h1, Bool.or_self, Bool.false_or]; exact ih)
        show backstitchref3_MovesFault.l1 (k + 1) sp l l.length i = _
        rw [backstitchref3_MovesFault.l1, if_pos (by omega), if_pos (by omega), if_pos (by omega), ex, if_neg h0, if_neg h1, Pur.wrap_succ (by omega)]
theorem fault_l0 (sp : Int) (l : List S71) (hl : l.length ≤ 60) : ∀ (d i : Nat), i + d = l.length → Ev (fun k => backstitchref3_MovesFault.l0 k l sp ((l.take i).map (·.f0)) l l.length i) (if chkD l d i = true then 6 else if l.any (fun x => x.f0 == sp || x.f1 == sp) = true then 1 else 0)
  | 0, i, hi => by
    have h1 := fault_l1 sp l hl l.length 0 (by omega)
    rw [List.drop_zero] at h1
    rw [chkD, if_neg (by simp)]
    refine Ev.step (fun k => ?_) h1
    show backstitchref3_MovesFault.l0 (k + 1) l sp _ l l.length i = _
    rw [backstitchref3_MovesFault.l0, if_neg (by omega)]
    rfl
  | d + 1, i, hi => by
    have hlt : i < l.length := by omega
    have ex : rd_T71 l (i : Int) = l.getD i z71 := rfl
    have ih := fault_l0 sp l hl d (i + 1) (by omega)
    rw [List.take_succ_eq_append_getElem hlt, List.map_append, show l[i] = l.getD i z71 by rw [List.getD_eq_getElem?_getD, List.getElem?_eq_getElem hlt, Option.getD_some]] at ih
    have hlen : ((l.take i).map (·.f0)).length ≤ 60 := by rw [List.length_map, List.length_take]; omega
    rw [chkD]
    have ha := any_contains (l.take i) (l.getD i z71).f0
    generalize l.getD i z71 = m at *
    have hh := has_ev m.f0 ((l.take i).map (·.f0)) (by omega)
    rw [ha] at hh
    refine Ev.step (f := fun k => (backstitchref3_Has_int.f k ((l.take i).map (·.f0)) m.f0).bind fun t110 => (if t110 = true then (some 6) else (backstitchref3_MovesFault.l0 k l sp ((l.take i).map (·.f0) ++ [m.f0]) l l.length ((i + 1 : Nat) : Int)))) (fun k => ?_) (Ev.bind hh ?_)
    · show backstitchref3_MovesFault.l0 (k + 1) l sp _ l l.length i = _
      rw [backstitchref3_MovesFault.l0, if_pos (by omega), if_pos (by omega), if_pos (by omega), ex, Pur.wrap_succ (by omega)]
      simp only [if_pos (show ((l.take i).map (·.f0)).length < 17592186044416 by omega)]
    · cases h : (l.take i).any (fun y => y.f0 == m.f0) with
      | true => simp only [if_true, Bool.true_or]; exact Ev.now _
      | false => simp only [Bool.false_or, Bool.false_eq_true, if_false]; exact ih
theorem fault_ev (l : List S71) (sp : Int) : Ev (fun k => backstitchref3_MovesFault.f k l sp) (chkS l sp) := by
  unfold backstitchref3_MovesFault.f chkS
  by_cases h : 60 < l.length
  · simp only [if_pos (show (l.length : Int) > 60 by omega), if_pos h]
    exact Ev.now _
  · simp only [if_neg (show ¬ (l.length : Int) > 60 by omega), if_neg h]
    exact fault_l0 sp l (by omega) l.length 0 (by omega)

/-! the orders -/
def noSelf (l : List S71) : Prop := ∀ m ∈ l, m.f0 ≠ m.f1
theorem fr1_eq {l : List S71} (hs : noSelf l) {m x : S71} (hm : m ∈ l) (hx : x ∈ l) : fr1 m x = (x.f1 == m.f0) := by
  unfold fr1
  by_cases h : x.f1 = m.f0
  · have h1 : ¬ (x.f0 = m.f0) := fun e => hs x hx (by rw [e, h])
    simp [h, h1]
  · simp [h]
def frees (froms : List Int) (m : S71) : Bool := !(froms.contains m.f0)
theorem idx_congr {p q : S71 → Bool} : ∀ (l : List S71) (i : Int), (∀ x ∈ l, p x = q x) → api_RMove_135.idx p l i = api_RMove_135.idx q l i
  | [], _, _ => rfl
  | x :: l, i, h => by
    rw [api_RMove_135.idx, api_RMove_135.idx, h x List.mem_cons_self, idx_congr l (i + 1) (fun y hy => h y (List.mem_cons_of_mem _ hy))]
theorem frS_eq {l : List S71} (hs : noSelf l) : frS l = api_RMove_135.idx (frees (l.map (·.f1))) l 0 := by
  unfold frS
  refine idx_congr l 0 (fun m hm => ?_)
  unfold frees
  congr 1
  have h1 : l.any (fr1 m) = l.any (fun x => x.f1 == m.f0) := by
    rw [Bool.eq_iff_iff, List.any_eq_true, List.any_eq_true]
    exact ⟨fun ⟨x, hx, h⟩ => ⟨x, hx, by rw [← fr1_eq hs hm hx]; exact h⟩, fun ⟨x, hx, h⟩ => ⟨x, hx, by rw [fr1_eq hs hm hx]; exact h⟩⟩
  rw [h1]
  clear h1 hm hs
  induction l with
  | nil => rfl
  | cons a l ih => simp only [List.map_cons, List.any_cons, List.contains_cons, ih]; congr 1; exact Bool.beq_comm
theorem idx_lt {p : S71 → Bool} : ∀ (l : List S71) (i : Int), api_RMove_135.idx p l i < i + l.length ∨ api_RMove_135.idx p l i = -1
  | [], i => .inr rfl
  | x :: l, i => by
    rw [api_RMove_135.idx]
    by_cases h : p x = true
    · rw [if_pos h]; left; simp; omega
    · rw [if_neg h]
      rcases idx_lt (p := p) l (i + 1) with h | h
      · left; simp; omega
      · exact .inr h
/-- One spare round: what wanted from the first one's place wants from the spare one. -/
def spm (sp tto : Int) (m : S71) : S71 := if m.f1 == tto then ⟨m.f0, sp⟩ else m
def spd (sp : Int) (l : List S71) : List S71 := l.map (fun m => if m.f1 == (rd_T71 l 0).f0 then ⟨m.f0, sp⟩ else m)
def mu (l : List S71) : Nat := 2 * l.length + (if 0 ≤ frS l then 0 else 1)
def goodL (sp : Int) (l : List S71) : Prop := noSelf l ∧ ∀ m ∈ l, m.f0 ≠ sp
theorem goodL.erase {sp : Int} {l : List S71} (h : goodL sp l) (i : Nat) : goodL sp (l.eraseIdx i) := ⟨fun m hm => h.1 m (List.mem_of_mem_eraseIdx hm), fun m hm => h.2 m (List.mem_of_mem_eraseIdx hm)⟩
theorem spd_mem {sp : Int} {l : List S71} {m : S71} (hm : m ∈ spd sp l) : ∃ x ∈ l, m.f0 = x.f0 ∧ ((x.f1 = (rd_T71 l 0).f0 ∧ m.f1 = sp) ∨ (x.f1 ≠ (rd_T71 l 0).f0 ∧ m.f1 = x.f1)) := by
  unfold spd at hm
  obtain ⟨x, hx, rfl⟩ := List.mem_map.1 hm
  refine ⟨x, hx, ?_⟩
  by_cases h : x.f1 = (rd_T71 l 0).f0
  · simp [h]
  · simp [h]
theorem goodL.spd {sp : Int} {l : List S71} (h : goodL sp l) : goodL sp (spd sp l) := by
  refine ⟨fun m hm => ?_, fun m hm => ?_⟩
  · obtain ⟨x, hx, h0, ⟨_, h1⟩ | ⟨_, h1⟩⟩ := spd_mem hm
    · rw [h0, h1]; exact h.2 x hx
    · rw [h0, h1]; exact h.1 x hx
  · obtain ⟨x, hx, h0, _⟩ := spd_mem hm
    rw [h0]; exact h.2 x hx
theorem spd_len (sp : Int) (l : List S71) : (spd sp l).length = l.length := by unfold spd; simp
theorem spd_free {sp : Int} {l : List S71} (h : goodL sp l) (h0 : l.length ≠ 0) : 0 ≤ frS (spd sp l) := by
  have hg := h.spd
  rw [frS_eq hg.1]
  obtain ⟨a, t, rfl⟩ : ∃ a t, l = a :: t := by cases l; exact absurd rfl h0; exact ⟨_, _, rfl⟩
  have hr : (rd_T71 (a :: t) 0) = a := rfl
  obtain ⟨b, s, hbs, hb⟩ : ∃ b s, spd sp (a :: t) = b :: s ∧ b.f0 = a.f0 := by
    unfold spd
    rw [hr, List.map_cons]
    refine ⟨_, _, rfl, ?_⟩
    by_cases hh : a.f1 = a.f0 <;> simp [hh]
  rw [hbs, api_RMove_135.idx, if_pos]
  · exact Int.le_refl 0
  · unfold frees
    rw [← hbs, Bool.not_eq_true', ← Bool.not_eq_true, List.contains_iff_mem, hb]
    intro hm
    obtain ⟨m, hm, he⟩ := List.mem_map.1 hm
    obtain ⟨x, hx, _, ⟨_, h1⟩ | ⟨h2, h1⟩⟩ := spd_mem hm
    · exact h.2 a List.mem_cons_self (by rw [← he, h1])
    · exact h2 (by rw [hr, ← he, h1])
/-- What stands behind the search for one that is free. -/
def cont (k : Nat) (x1 : Int) (x5 x6 : List S71) (x12 : Int) : Option (List S71) := if x12 ≥ 0 then (if 0 ≤ x12 then (if x12 < (x5.length : Int) then (if x6.length < 8796093022208 then (if x12 ≤ (x5.length : Int) then ((api_RMove_90.f (x5.take (x12 : Int).toNat)).bind fun t137 => (if 0 ≤ (wrap64 (x12 + 1)) then (if (wrap64 (x12 + 1)) ≤ (x5.length : Int) then ((some (x5.drop ((wrap64 (x12 + 1)) : Int).toNat : List (S71))).bind fun y140 => (if t137.length + y140.length < 8796093022208 then (backstitchref3_Moves.l1 k x1 (t137 ++ y140) (x6 ++ [(⟨(rd_T71 x5 x12).f0, (rd_T71 x5 x12).f1⟩ : S71)])) else (none))) else (none)) else (none))) else (none)) else (none)) else (none)) else (none)) else (if 0 < (x5.length : Int) then (if x6.length < 8796093022208 then (backstitchref3_Moves.l4 k x1 x5 (x6 ++ [(⟨x1, (rd_T71 x5 0).f0⟩ : S71)]) ((rd_T71 x5 0).f0) (x5.length : Int) 0) else (none)) else (none))
def fin (froms : List Int) (l : List S71) (done i : Int) : Int := if done < 0 then api_RMove_135.idx (frees froms) l i else done
theorem m_l3 (sp : Int) (left out : List S71) (froms : List Int) (r : List S71) (h60 : left.length ≤ 60) (hf : froms.length ≤ 60) : ∀ (d i : Nat) (done : Int), i + d = left.length → (done = -1 ∨ 0 ≤ done) → Ev (fun k => cont k sp left out (fin froms (left.drop i) done i)) r → Ev (fun k => backstitchref3_Moves.l3 k sp left out froms done left left.length i) r
  | 0, i, done, hi, hd, h => by
    rw [List.drop_eq_nil_of_le (by omega)] at h
    have he : fin froms [] done i = done := by
      unfold fin
      rcases hd with hd | hd
      · rw [if_pos (by omega), api_RMove_135.idx, hd]
      · rw [if_neg (by omega)]
    rw [he] at h
    refine Ev.step (fun k => ?_) h
    show backstitchref3_Moves.l3 (k + 1) sp left out froms done left left.length i = _
    rw [backstitchref3_Moves.l3, if_neg (by omega)]
    rfl
  | d + 1, i, done, hi, hd, h => by
    have hlt : i < left.length := by omega
    rw [Pur.drop_cons left i hlt z71] at h
    have ex : rd_T71 left (i : Int) = left.getD i z71 := rfl
    have ih := m_l3 sp left out froms r h60 hf d (i + 1)
    generalize left.getD i z71 = m at *
    rcases hd with rfl | hd
    · have hh := has_ev m.f0 froms (by omega)
      refine Ev.step (f := fun k => (backstitchref3_Has_int.f k froms m.f0).bind fun t128 => (if t128 = true then (backstitchref3_Moves.l3 k sp left out froms (-1) left left.length ((i + 1 : Nat) : Int)) else (backstitchref3_Moves.l3 k sp left out froms i left left.length ((i + 1 : Nat) : Int)))) (fun k => ?_) (Ev.bind hh ?_)
      · show backstitchref3_Moves.l3 (k + 1) sp left out froms (-1) left left.length i = _
        rw [backstitchref3_Moves.l3, if_pos (by omega), if_pos (by omega), if_pos (by omega), if_pos (by omega), ex, Pur.wrap_succ (by omega)]
      · cases hc : froms.contains m.f0 with
        | true =>
          simp only [if_true]
          refine ih (-1) (by omega) (.inl rfl) ?_
          have he : fin froms (m :: left.drop (i + 1)) (-1) i = fin froms (left.drop (i + 1)) (-1) ((i + 1 : Nat) : Int) := by
            unfold fin
            rw [if_pos (by omega), if_pos (by omega), api_RMove_135.idx, if_neg (by unfold frees; rw [hc]; simp)]
            rfl
          rw [← he]; exact h
        | false =>
          simp only [Bool.false_eq_true, if_false]
          refine ih i (by omega) (.inr (by omega)) ?_
          have he : fin froms (m :: left.drop (i + 1)) (-1) i = fin froms (left.drop (i + 1)) i ((i + 1 : Nat) : Int) := by
            unfold fin
            rw [if_pos (by omega), if_neg (by omega), api_RMove_135.idx, if_pos (by unfold frees; rw [hc]; rfl)]
          rw [← he]; exact h
    · refine Ev.step (fun k => ?_) (ih done (by omega) (.inr hd) ?_)
      · show backstitchref3_Moves.l3 (k + 1) sp left out froms done left left.length i = _
        rw [backstitchref3_Moves.l3, if_pos (by omega), if_pos (by omega), if_pos (by omega), if_neg (by omega), Pur.wrap_succ (by omega)]
      · have he : fin froms (m :: left.drop (i + 1)) done i = fin froms (left.drop (i + 1)) done ((i + 1 : Nat) : Int) := by
          unfold fin
          rw [if_neg (by omega), if_neg (by omega)]
        rw [← he]; exact h
theorem m_l2 (sp : Int) (left out : List S71) (r : List S71) (h60 : left.length ≤ 60) (h : Ev (fun k => cont k sp left out (api_RMove_135.idx (frees (left.map (·.f1))) left 0)) r) : ∀ (d i : Nat), i + d = left.length → Ev (fun k => backstitchref3_Moves.l2 k sp left out ((left.take i).map (·.f1)) left left.length i) r
  | 0, i, hi => by
    rw [List.take_of_length_le (by omega)]
    refine Ev.step (fun k => ?_) (m_l3 sp left out (left.map (·.f1)) r h60 (by simpa using h60) left.length 0 (-1) (by omega) (.inl rfl) (by unfold fin; simpa using h))
    show backstitchref3_Moves.l2 (k + 1) sp left out _ left left.length i = _
    rw [backstitchref3_Moves.l2, if_neg (by omega)]
    rfl
  | d + 1, i, hi => by
    have hlt : i < left.length := by omega
    have ex : rd_T71 left (i : Int) = left.getD i z71 := rfl
    have ih := m_l2 sp left out r h60 h d (i + 1) (by omega)
    rw [List.take_succ_eq_append_getElem hlt, List.map_append, show left[i] = left.getD i z71 by rw [List.getD_eq_getElem?_getD, List.getElem?_eq_getElem hlt, Option.getD_some]] at ih
    refine Ev.step (fun k => ?_) ih
    show backstitchref3_Moves.l2 (k + 1) sp left out _ left left.length i = _
    rw [backstitchref3_Moves.l2, if_pos (by omega), if_pos (by omega), if_pos (by omega), if_pos (by rw [List.length_map, List.length_take]; omega), ex, Pur.wrap_succ (by omega)]
    rfl
theorem m_l4 (sp tto : Int) (left out : List S71) (r : List S71) (h60 : left.length ≤ 60) (h : Ev (fun k => backstitchref3_Moves.l1 k sp (left.map (spm sp tto)) out) r) : ∀ (d i : Nat), i + d = left.length → Ev (fun k => backstitchref3_Moves.l4 k sp ((left.take i).map (spm sp tto) ++ left.drop i) out tto left.length i) r
  | 0, i, hi => by
    rw [List.take_of_length_le (by omega), List.drop_eq_nil_of_le (by omega), List.append_nil]
    refine Ev.step (fun k => ?_) h
    show backstitchref3_Moves.l4 (k + 1) sp _ out tto left.length i = _
    rw [backstitchref3_Moves.l4, if_neg (by omega)]
  | d + 1, i, hi => by
    have hlt : i < left.length := by omega
    have ih := m_l4 sp tto left out r h60 h d (i + 1) (by omega)
    have hx : left[i]? = some left[i] := List.getElem?_eq_getElem hlt
    have hlen : ((left.take i).map (spm sp tto) ++ left.drop i).length = left.length := by simp; omega
    have ex : rd_T71 ((left.take i).map (spm sp tto) ++ left.drop i) (i : Int) = left[i] := by
      unfold rd_T71
      rw [Int.toNat_natCast, List.getD_eq_getElem?_getD, List.getElem?_append_right (by simp; omega), show i - ((left.take i).map (spm sp tto)).length = 0 by simp; omega, List.getElem?_drop, Nat.add_zero, hx, Option.getD_some]
    have hset := map_take_succ (spm sp tto) left i left[i] hx
    refine Ev.step (fun k => ?_) ih
    show backstitchref3_Moves.l4 (k + 1) sp _ out tto left.length i = _
    rw [backstitchref3_Moves.l4, if_pos (by omega), if_pos (by omega), if_pos (by rw [hlen]; omega), ex, Pur.wrap_succ (by omega), ← hset, Int.toNat_natCast]
    by_cases hq : left[i].f1 = tto
    · rw [if_pos hq, show spm sp tto left[i] = ⟨left[i].f0, sp⟩ by unfold spm; rw [if_pos (beq_iff_eq.2 hq)]]
    · rw [if_neg hq, show spm sp tto left[i] = left[i] by unfold spm; rw [if_neg (fun e => hq (beq_iff_eq.1 e))]]
      rw [set_same (by rw [List.getElem?_append_right (by simp; omega), show i - ((left.take i).map (spm sp tto)).length = 0 by simp; omega, List.getElem?_drop, Nat.add_zero, hx])]
theorem eta71 (x : S71) : (⟨x.f0, x.f1⟩ : S71) = x := rfl
theorem both (sp : Int) : ∀ (n : Nat) (left out : List S71), mu left ≤ n → goodL sp left → left.length ≤ 60 → out.length + mu left ≤ 200 → ∃ r : List S71, r.length ≤ 200 ∧ Ev (fun k => ordL sp k left out) r ∧ Ev (fun k => backstitchref3_Moves.l1 k sp left out) r
  | n, left, out, hn, hg, h60, hol => by
    by_cases h0 : left.length = 0
    · refine ⟨out, by omega, Ev.step (f := fun _ => some out) (fun k => ?_) (Ev.now _), Ev.step (f := fun _ => some out) (fun k => ?_) (Ev.now _)⟩
      · show ordL sp (k + 1) left out = _
        rw [ordL, if_pos h0]
      · show backstitchref3_Moves.l1 (k + 1) sp left out = _
        rw [backstitchref3_Moves.l1, if_neg (by omega)]
    · have hm0 : 0 < mu left := by unfold mu; omega
      have hl1 : ∀ r, Ev (fun k => cont k sp left out (frS left)) r → Ev (fun k => backstitchref3_Moves.l1 k sp left out) r := fun r hr => by
        rw [frS_eq hg.1] at hr
        have h2 := m_l2 sp left out r h60 hr left.length 0 (by omega)
        refine Ev.step (fun k => ?_) h2
        show backstitchref3_Moves.l1 (k + 1) sp left out = _
        rw [backstitchref3_Moves.l1, if_pos (by omega)]
        rfl
      obtain ⟨n, rfl⟩ : ∃ m, n = m + 1 := ⟨n - 1, by omega⟩
      by_cases hf : 0 ≤ frS left
      · have hlt : frS left < left.length := by
          have := idx_lt (p := fun x => !(left.any (fr1 x))) left 0
          unfold frS at hf ⊢
          omega
        have hmu : mu (left.eraseIdx (frS left).toNat) < mu left := by
          unfold mu
          rw [if_pos hf, List.length_eraseIdx_of_lt (by omega)]
          split <;> omega
        obtain ⟨r, hr, h1, h2⟩ := both sp n (left.eraseIdx (frS left).toNat) (out ++ [rd_T71 left (frS left)]) (by omega) (hg.erase _) (by rw [List.length_eraseIdx]; split <;> omega) (by rw [List.length_append, List.length_singleton]; omega)
        refine ⟨r, hr, Ev.step (fun k => ?_) h1, hl1 r ?_⟩
        · show ordL sp (k + 1) left out = _
          rw [ordL, if_neg h0, if_pos (by unfold movesLim; omega), if_pos hf, if_pos hlt]
        · refine Ev.congr (fun k => ?_) h2
          show cont k sp left out (frS left) = _
          have hw : wrap64 (frS left + 1) = frS left + 1 := Pur.wrap_id (by omega) (by omega)
          unfold cont
          have hd : (left.drop (frS left + 1).toNat).length = left.length - (frS left).toNat - 1 := by rw [List.length_drop]; omega
          rw [if_pos hf, if_pos hf, if_pos hlt, if_pos (by omega), if_pos (by omega), api_RMove_90.f, if_pos (by rw [List.length_take]; omega), Option.bind_some, hw, if_pos (by omega), if_pos (by omega), Option.bind_some, if_pos (by rw [hd, List.length_take]; omega), eta71, List.eraseIdx_eq_take_drop_succ, show (frS left + 1).toNat = (frS left).toNat + 1 by omega]
      · have hmu : mu (spd sp left) < mu left := by
          unfold mu
          rw [if_neg hf, if_pos (spd_free hg h0), spd_len]
          omega
        obtain ⟨r, hr, h1, h2⟩ := both sp n (spd sp left) (out ++ [⟨sp, (rd_T71 left 0).f0⟩]) (by omega) hg.spd (by rw [spd_len]; exact h60) (by rw [List.length_append, List.length_singleton]; omega)
        refine ⟨r, hr, Ev.step (fun k => ?_) h1, hl1 r ?_⟩
        · show ordL sp (k + 1) left out = _
          rw [ordL, if_neg h0, if_pos (by unfold movesLim; omega), if_neg hf]
          rfl
        · have h4 := m_l4 sp (rd_T71 left 0).f0 left (out ++ [(⟨sp, (rd_T71 left 0).f0⟩ : S71)]) r h60 (show Ev (fun k => backstitchref3_Moves.l1 k sp (List.map (spm sp (rd_T71 left 0).f0) left) (out ++ [(⟨sp, (rd_T71 left 0).f0⟩ : S71)])) r from h2) left.length 0 (by omega)
          refine Ev.congr (fun k => ?_) h4
          show cont k sp left out (frS left) = _
          unfold cont
          rw [if_neg hf, if_pos (by omega), if_pos (by omega)]
          rfl
theorem m_l0 (sp : Int) (l : List S71) (r : List S71) (h60 : l.length ≤ 60) (h : Ev (fun k => backstitchref3_Moves.l1 k sp (l.filter (fun x => !(x.f0 == x.f1))) []) r) : ∀ (d i : Nat), i + d = l.length → Ev (fun k => backstitchref3_Moves.l0 k sp ((l.take i).filter (fun x => !(x.f0 == x.f1))) l l.length i) r
  | 0, i, hi => by
    rw [List.take_of_length_le (by omega)]
    refine Ev.step (fun k => ?_) h
    show backstitchref3_Moves.l0 (k + 1) sp _ l l.length i = _
    rw [backstitchref3_Moves.l0, if_neg (by omega)]
  | d + 1, i, hi => by
    have hlt : i < l.length := by omega
    have ex : rd_T71 l (i : Int) = l.getD i z71 := rfl
    have ih := m_l0 sp l r h60 h d (i + 1) (by omega)
    have hlen : ((l.take i).filter (fun x => !(x.f0 == x.f1))).length ≤ 60 := Nat.le_trans (List.length_filter_le _ _) (by rw [List.length_take]; omega)
    rw [List.take_succ_eq_append_getElem hlt, List.filter_append, show l[i] = l.getD i z71 by rw [List.getD_eq_getElem?_getD, List.getElem?_eq_getElem hlt, Option.getD_some]] at ih
    generalize l.getD i z71 = m at *
    refine Ev.step (fun k => ?_) ih
    show backstitchref3_Moves.l0 (k + 1) sp _ l l.length i = _
    rw [backstitchref3_Moves.l0, if_pos (by omega), if_pos (by omega), if_pos (by omega), ex, Pur.wrap_succ (by omega)]
    by_cases hq : m.f0 = m.f1
    · rw [if_pos hq, show [m].filter (fun x => !(x.f0 == x.f1)) = [] by simp [hq], List.append_nil]
    · rw [if_neg hq, if_pos (by omega), show [m].filter (fun x => !(x.f0 == x.f1)) = [m] by simp [hq]]
theorem MovesTell : backstitchlaw3_MovesTell.Pure := by
  intro l sp hl hs
  refine Ev.rounds ?_
  show Ev (fun k => backstitchlaw3_MovesTell.f k l sp) true
  unfold backstitchlaw3_MovesTell.f
  refine Ev.bind rung_ev ?_
  simp only [if_true]
  by_cases hc : chkS l sp = 0
  · have h60 := chkS_len hc
    have hspare : ∀ m ∈ l, m.f0 ≠ sp := by
      intro m hm e
      unfold chkS at hc
      rw [if_neg (by omega)] at hc
      split at hc
      · cases hc
      · split at hc
        · cases hc
        · rename_i h
          exact h (List.any_eq_true.2 ⟨m, hm, by simp [e]⟩)
    have hg : goodL sp (l.filter (fun x => !(x.f0 == x.f1))) := ⟨fun m hm => by have := (List.mem_filter.1 hm).2; simpa using this, fun m hm => hspare m (List.mem_filter.1 hm).1⟩
    have hlen : (l.filter (fun x => !(x.f0 == x.f1))).length ≤ 60 := Nat.le_trans (List.length_filter_le _ _) h60
    obtain ⟨r, hr, h1, h2⟩ := both sp _ (l.filter (fun x => !(x.f0 == x.f1))) [] (Nat.le_refl _) hg hlen (by unfold mu; simp only [List.length_nil]; split <;> omega)
    have ho : Ev (fun k => moves_Order.f k l sp) (r, 0) := by
      unfold moves_Order.f
      simp only [if_pos hc, if_pos (show l.length < movesLim by unfold movesLim; omega)]
      exact Ev.bind h1 (Ev.now _)
    have hm : Ev (fun k => backstitchref3_Moves.f k l sp) r := by
      have := m_l0 sp l r h60 h2 l.length 0 (by omega)
      exact this
    have hf := fault_ev l sp
    rw [hc] at hf
    refine Ev.bind ho (Ev.bind hf ?_)
    simp only [if_true]
    exact Ev.bind hm (Ev.bind (mq_ev r (by omega)) (Ev.now _))
  · have ho : Ev (fun k => moves_Order.f k l sp) ([], chkS l sp) := by
      unfold moves_Order.f
      simp only [if_neg hc]
      exact Ev.now _
    refine Ev.bind ho (Ev.bind (fault_ev l sp) ?_)
    simp only [if_neg hc, if_true]
    exact Ev.now _
end Go.Proofs.Ytlojkphocbbjdaa.Pure
