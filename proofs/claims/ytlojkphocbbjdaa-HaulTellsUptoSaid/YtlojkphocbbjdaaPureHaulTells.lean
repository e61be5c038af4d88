/- HaulTells: for every heap, of rows up to the bound, the law's printed function answers true. -/
import Derived.Test.YtlojkphocbbjdaaHbHaulTells
namespace Go.Proofs.Ytlojkphocbbjdaa.Pure
open Go.RowKit Go.Proofs.Ytlojkphocbbjdaa.PHaulTells Go.Proofs.YtlojkphocbbjdaaW Go.Proofs.YtlojkphocbbjdaaW.PrintWords Go.Proofs.YtlojkphocbbjdaaW.PrintLast
set_option linter.unusedVariables false
set_option linter.unusedSimpArgs false

theorem rd_mid (A : List Int) (h : Int) (C : List Int) : rd (A ++ h :: C) (A.length : Int) = h := by
  rw [rd, Int.toNat_natCast, List.getD_eq_getElem?_getD, List.getElem?_append_right (Nat.le_refl _), Nat.sub_self]
  rfl
theorem to_flat {l P O : List Int} (H : Okay l P) : ∀ o : List Int, (∀ x ∈ o, x ∈ P) → (o.flatMap (toS l O)).length = sumS l o
  | [], _ => rfl
  | n :: o, h => by
    rw [List.flatMap_cons, List.length_append, to_flat H o (fun x hx => h x (List.mem_cons_of_mem _ hx)), to_len H (h n List.mem_cons_self), sumS]
theorem rmvs_eq {l P : List Int} (H : Okay l P) : ∀ (o : List Int) (a : Int) (ms : List S71), (∀ x ∈ o, x ∈ P) → 0 ≤ a → a + sumS l o < 4611686018427387904 → ms.length + o.length < 10000 → backstitchref3_Moved.mvs l o a ms = some (ms ++ mvS l o a)
  | [], a, ms, _, _, _, _ => by rw [backstitchref3_Moved.mvs, mvS, List.append_nil]
  | n :: o, a, ms, hs, h0, h1, h2 => by
    have hnP := hs n List.mem_cons_self
    rw [List.length_cons] at h2
    rw [sumS] at h1
    have hw : wrap64 (a + ((obS l n).length : Int)) = a + (szN l n : Int) := by
      rw [ob_len H hnP]
      unfold wrap64
      omega
    rw [backstitchref3_Moved.mvs, if_pos (by omega), obj_ev H hnP, Option.bind_some, hw, rmvs_eq H o _ _ (fun x hx => hs x (List.mem_cons_of_mem _ hx)) (by omega) (by omega) (by simp; omega), mvS, List.append_assoc]
    rfl
theorem turnW_ev {l : List Int} (n : Int) : ∀ (o : List Int) (a x : Int), o.Nodup → 0 ≤ a → a + sumS l o ≤ 4294967295 → Ev (fun k => turnW k n (mvS l o a) x) (match fO l o a n with | some t => (boxS 5 t).1 | none => x)
  | [], a, x, _, _, _ => Ev.now _
  | m :: o, a, x, hn, h0, h1 => by
    rw [sumS] at h1
    obtain ⟨hm, hn2⟩ := List.nodup_cons.1 hn
    by_cases e : m = n
    · subst e
      have ih := turnW_ev (l := l) m o (a + szN l m) (boxS 5 a).1 hn2 (by omega) (by omega)
      rw [fO_none l o _ m hm] at ih
      rw [fO, if_pos rfl]
      refine Ev.congr (f := fun k => (backstitchref3_Box.f k 5 a).bind fun b => turnW k m (mvS l o (a + szN l m)) b.1) (fun k => ?_) (Ev.bind (rbox_ev 5 a ⟨by omega, by omega⟩) ih)
      show turnW k m (⟨a, m⟩ :: mvS l o (a + szN l m)) x = _
      rw [turnW, if_pos rfl]
    · have ih := turnW_ev (l := l) n o (a + szN l m) x hn2 (by omega) (by omega)
      rw [fO, if_neg (fun h => e h.symm)]
      refine Ev.congr (fun k => ?_) ih
      show turnW k n (⟨a, m⟩ :: mvS l o (a + szN l m)) x = _
      rw [turnW, if_neg e]
section
variable {l P O : List Int} (H : Okay l P) (hOP : ∀ x ∈ O, x ∈ P) (hON : O.Nodup)
include H hOP hON
theorem outer_ev : ∀ (d i : Nat) (o : List Int), (∀ x ∈ o, x ∈ P) → o.Nodup → bfS l d i o = some O → i ≤ o.length →
    Ev (fun k => haul_Collect.outer k l d (((o.take i).flatMap (toS l O)).length : Int) ((o.take i).flatMap (toS l O) ++ (o.drop i).flatMap (obS l)) (mvS l o 0) (fO l o 0)) (O.flatMap (toS l O), mvS l O 0, fO l O 0)
  | 0, i, o, _, _, h, _ => by cases h
  | d + 1, i, o, hs, hn, h, hi => by
    have htl : ∀ x ∈ o.take i, x ∈ P := fun x hx => hs x (List.mem_of_mem_take hx)
    have hdr : ∀ x ∈ o.drop i, x ∈ P := fun x hx => hs x (List.mem_of_mem_drop hx)
    have hlen : ((o.take i).flatMap (toS l O) ++ (o.drop i).flatMap (obS l)).length = sumS l o := by
      rw [List.length_append, to_flat H _ htl, flat_sum H _ hdr, ← sum_app, List.take_append_drop]
    have hol := Nat.le_trans (pigeon o P hn hs) (P_len H)
    have hsum := sum_le H o hs
    rw [bfS] at h
    by_cases hlt : i < o.length
    · rw [if_pos hlt] at h
      have hnP := getD_in hlt hs
      obtain ⟨h1, h2⟩ := bf_more H hlt hs hn
      obtain ⟨⟨x, hx⟩, _⟩ := bf_of H d (i + 1) _ O h1 h2 h
      have ih := outer_ev d (i + 1) _ h1 h2 h (by rw [List.length_append]; omega)
      have hdc := Pur.drop_cons o i hlt 0
      generalize hng : o.getD i 0 = n at *
      rw [hdc, List.flatMap_cons] at hlen ⊢
      have e1 : (o ++ newS o (tlS l n)).take (i + 1) = o.take i ++ [n] := by
        rw [List.take_append_of_le_length (by omega), List.take_succ_eq_append_getElem hlt]
        rw [List.getD_eq_getElem?_getD, List.getElem?_eq_getElem hlt, Option.getD_some] at hng
        rw [hng]
      have e2 : (o ++ newS o (tlS l n)).drop (i + 1) = o.drop (i + 1) ++ newS o (tlS l n) := List.drop_append_of_le_length (by omega)
      rw [e1, e2, List.flatMap_append, List.flatMap_append, List.flatMap_cons, List.flatMap_nil, List.append_nil] at ih
      generalize (o.take i).flatMap (toS l O) = A at *
      generalize (o.drop (i + 1)).flatMap (obS l) = B at *
      have htn := tl_len H hnP
      have hsh : A ++ (obS l n ++ B) = A ++ hdS l n :: (tlS l n ++ B) := rfl
      have hrd : rd (A ++ (obS l n ++ B)) (A.length : Int) = hdS l n := by rw [hsh, rd_mid]
      have hlo : (A ++ (obS l n ++ B)).length = A.length + 1 + (tlS l n).length + B.length := by
        rw [hsh]
        simp only [List.length_append, List.length_cons]
        omega
      unfold haul_Collect.outer
      simp only [if_pos (show (A.length : Int) < ((A ++ (obS l n ++ B)).length : Int) by rw [hlo]; omega), if_pos (show 0 ≤ (A.length : Int) ∧ (A ++ (obS l n ++ B)).length < 17592186044416 from ⟨by omega, by rw [hlen]; omega⟩), hrd, hd_mod, Int.toNat_natCast]
      have hin := inner_ev H hOP hON (tlS l n) (A ++ [hdS l n]) B o x (lnS l n.toNat + 1) (fun w hw => (tl_get H hnP hw).1) (fun w hw => (tl_get H hnP hw).2) hx (by rw [← hlen]; simp [obS]) (by rw [htn]; omega)
      rw [show A ++ [hdS l n] ++ tlS l n ++ B = A ++ (obS l n ++ B) by simp [obS], List.length_append, List.length_singleton, htn, Int.natCast_add, show (A.length : Int) + ((1 : Nat) : Int) + (lnS l n.toNat : Int) - 1 = (A.length : Int) + (lnS l n.toNat : Int) by omega, show ((1 : Nat) : Int) = 1 from rfl] at hin
      refine Ev.bind hin ?_
      rw [List.length_append, show (toS l O n).length = szN l n from to_len H hnP, szN, show ((A.length + (1 + lnS l n.toNat) : Nat) : Int) = (A.length : Int) + (1 + (lnS l n.toNat : Int)) by omega, show A ++ toS l O n ++ (B ++ (newS o (tlS l n)).flatMap (obS l)) = A ++ [hdS l n] ++ (tlS l n).map (turnS l O) ++ B ++ (newS o (tlS l n)).flatMap (obS l) by simp [toS]] at ih
      exact ih
    · rw [if_neg hlt] at h
      obtain rfl := Option.some.inj h
      have e : i = o.length := by omega
      subst e
      rw [List.take_length, List.drop_length, List.flatMap_nil, List.append_nil]
      unfold haul_Collect.outer
      simp only [if_neg (show ¬ (((o.flatMap (toS l o)).length : Nat) : Int) < ((o.flatMap (toS l o)).length : Int) by omega)]
      exact Ev.now _
theorem O_sum : sumS l O ≤ 4000000 := by
  have h1 := sum_le H O hOP
  have h2 := O_len H hOP hON
  omega
theorem turnF_ev : ∀ (ws out : List Int), (∀ w ∈ ws, wordB w) → out.length + ws.length < 10000 → Ev (fun k => turnF k (mvS l O 0) ws out) (out ++ ws.map (turnS l O))
  | [], out, _, _ => by
    rw [List.map_nil, List.append_nil]
    exact Ev.now _
  | w :: ws, out, hb, hl => by
    rw [List.length_cons] at hl
    have hwb := hb w List.mem_cons_self
    have ih := turnF_ev ws (out ++ [turnS l O w]) (fun v hv => hb v (List.mem_cons_of_mem _ hv)) (by simp; omega)
    rw [List.append_assoc] at ih
    have hgo : Ev (fun k => turnF k (mvS l O 0) ws (out ++ [turnS l O w])) (out ++ (w :: ws).map (turnS l O)) := ih
    refine Ev.congr (f := fun k => (backstitchref3_Unbox.f k w).bind fun u => if u.2.2 = true then (if u.1 = 5 then (turnW k u.2.1 (mvS l O 0) w).bind fun y => turnF k (mvS l O 0) ws (out ++ [y]) else turnF k (mvS l O 0) ws (out ++ [w])) else turnF k (mvS l O 0) ws (out ++ [w])) (fun k => by show turnF k (mvS l O 0) (w :: ws) out = _; rw [turnF, if_pos (by omega)]) ?_
    refine Ev.bind (runbox_ev w hwb.1 hwb.2) ?_
    rcases hu : unboxS w with _ | ⟨a, n⟩
    · have hr : refS w = none := by unfold refS; rw [hu]
      have ht : turnS l O w = w := by unfold turnS; rw [hr]
      rw [ht] at hgo
      exact hgo
    · by_cases h5 : a = 5
      · subst h5
        have hr : refS w = some n := by unfold refS; rw [hu]; rfl
        have hs := O_sum H hOP hON
        refine Ev.bind (turnW_ev n O 0 w hON (by omega) (by omega)) ?_
        have ht : turnS l O w = (match fO l O 0 n with | some t => (boxS 5 t).1 | none => w) := by unfold turnS; simp only [hr]; rfl
        rw [← ht]
        exact hgo
      · have hr : refS w = none := ref_none hu h5
        have ht : turnS l O w = w := by unfold turnS; rw [hr]
        rw [ht] at hgo
        exact Ev.congr (fun k => if_neg h5) hgo
theorem wds_ev : ∀ (o ws : List Int), (∀ x ∈ o, x ∈ P) → ws.length + sumS l o < 10000000 → Ev (fun k => backstitchref3_Moved.wds k l (mvS l O 0) o ws) (ws ++ o.flatMap (toS l O))
  | [], ws, _, _ => by
    rw [List.flatMap_nil, List.append_nil]
    exact Ev.now _
  | n :: o, ws, hs, hl => by
    have hnP := hs n List.mem_cons_self
    rw [sumS] at hl
    have htl := tl_len H hnP
    have hsz := sz_le H hnP
    rw [szN] at hsz hl
    have ht := turnF_ev H hOP hON (tlS l n) [] (fun w hw => (tl_get H hnP hw).1) (by rw [htl]; simp; omega)
    have ih := wds_ev o (ws ++ toS l O n) (fun x hx => hs x (List.mem_cons_of_mem _ hx)) (by rw [List.length_append, to_len H hnP, szN]; omega)
    rw [List.append_assoc] at ih
    refine Ev.congr (f := fun k => (turnF k (mvS l O 0) (tlS l n) []).bind fun t => if ws.length + t.length < 17592186044414 then backstitchref3_Moved.wds k l (mvS l O 0) o (ws ++ [hdS l n] ++ t) else none) (fun k => ?_) ?_
    · show backstitchref3_Moved.wds k l (mvS l O 0) (n :: o) ws = _
      rw [backstitchref3_Moved.wds, obj_ev H hnP, Option.bind_some, if_pos ⟨by rw [obS, List.length_cons]; omega, by omega⟩]
      rfl
    · refine Ev.bind ht ?_
      rw [List.nil_append]
      simp only [List.length_map, if_pos (show ws.length + (tlS l n).length < 17592186044414 by rw [htl]; omega)]
      rw [List.flatMap_cons, show ws ++ [hdS l n] ++ (tlS l n).map (turnS l O) = ws ++ toS l O n by simp [toS]]
      exact ih
end
theorem right_ref {P : List Int} {w n : Int} (h : rightS (setF P) w = true) (hr : refS w = some n) : n ∈ P := by
  unfold rightS at h
  rw [ref_unbox hr] at h
  exact of_decide_eq_true h
/-- Both move the same. -/
theorem both_ev {l P roots : List Int} (H : Okay l P) (hl : roots.length ≤ 100) (hb : ∀ w ∈ roots, wordB w) (hr : roots.all (rightS (setF P)) = true) (hc : Ev (fun k => haul_Check.f k l roots) 0) :
    ∃ (ws rs : List Int) (ms : List S71), ws.length < 10000000 ∧ rs.length < 10000000 ∧ ms.length < 10000000 ∧ Ev (fun k => haul_Collect.f k l roots) (ws, rs, ms, 0) ∧ Ev (fun k => backstitchref3_Moved.f k l roots) (ws, rs, ms) := by
  have hrr : ∀ w ∈ roots, ∀ n, refS w = some n → n ∈ P := fun w hw n hn => right_ref (List.all_eq_true.1 hr w hw) hn
  have h1 : ∀ x ∈ newS [] roots, x ∈ P := by simpa using sub_new roots [] (by simp) hrr
  have h2 : (newS [] roots).Nodup := by simpa using nodup_new roots [] List.nodup_nil
  have hpl := objs_len H.objs
  obtain ⟨O, hO⟩ := bf_is H (l.length + 1) 0 _ h1 h2 (by omega) (Nat.zero_le _)
  obtain ⟨⟨x, hx⟩, hOP, hON, _⟩ := bf_of H _ _ _ O h1 h2 hO
  have hs := O_sum H hOP hON
  have hol := O_len H hOP hON
  refine ⟨O.flatMap (toS l O), roots.map (turnS l O), mvS l O 0, by rw [to_flat H O hOP]; omega, by rw [List.length_map]; omega, by rw [mv_len]; omega, ?_, ?_⟩
  · unfold haul_Collect.f
    refine Ev.bind hc ?_
    simp only [if_true]
    have hro := roots_ev H hOP hON roots [] [] [] x hb hrr (by simpa using hx) rfl (by simp; omega)
    rw [List.nil_append, List.nil_append, List.nil_append] at hro
    refine Ev.bind hro ?_
    have hou := outer_ev H hOP hON (l.length + 1) 0 _ h1 h2 hO (Nat.zero_le _)
    rw [List.take_zero, List.drop_zero, List.flatMap_nil, List.nil_append] at hou
    exact Ev.bind hou (Ev.now _)
  · unfold backstitchref3_Moved.f
    have hrl := rfs_len roots
    refine Ev.bind (told_ev roots hb (by omega)) (Ev.bind (more_ev (rfs roots) [] (by simp; omega)) ?_)
    rw [more_new, List.nil_append]
    refine Ev.bind (bf_ev H _ 0 _ O h1 h2 hO) ?_
    refine Ev.bind (a := mvS l O 0) (Pur.ev_some (fun _ => rmvs_eq H O 0 [] hOP (by omega) (by omega) (by simp; omega))) ?_
    have hwd := wds_ev H hOP hON O [] hOP (by simp; omega)
    have htr := turnF_ev H hOP hON roots [] hb (by simp; omega)
    rw [List.nil_append] at hwd htr
    exact Ev.bind hwd (Ev.bind htr (Ev.now _))
theorem eqi_l0 (l : List Int) (hl : l.length < 4611686018427387904) : ∀ (d i : Nat), i + d = l.length → Ev (fun k => backstitchref3_Eq_int.l0 k l l l.length i) true
  | 0, i, hi => by
    refine Ev.step (f := fun _ => some true) (fun k => ?_) (Ev.now _)
    show backstitchref3_Eq_int.l0 (k + 1) l l l.length i = _
    rw [backstitchref3_Eq_int.l0, if_neg (by omega)]
  | d + 1, i, hi => by
    refine Ev.step (f := fun k => backstitchref3_Eq_int.l0 k l l l.length ((i + 1 : Nat) : Int)) (fun k => ?_) (eqi_l0 l hl d (i + 1) (by omega))
    show backstitchref3_Eq_int.l0 (k + 1) l l l.length i = _
    rw [backstitchref3_Eq_int.l0, if_pos (by omega), if_pos (by omega), if_pos (by omega), if_pos (by omega), if_pos rfl, Pur.wrap_succ (by omega)]
theorem eqi_ev (l : List Int) (hl : l.length < 4611686018427387904) : Ev (fun k => backstitchref3_Eq_int.f k l l) true := by
  refine Ev.congr (f := fun k => backstitchref3_Eq_int.l0 k l l l.length ((0 : Nat) : Int)) (fun k => ?_) (eqi_l0 l hl l.length 0 (by omega))
  show backstitchref3_Eq_int.f k l l = _
  rw [backstitchref3_Eq_int.f, if_pos rfl]
  rfl
theorem equ_l0 (l : List Int) (hl : l.length < 4611686018427387904) : ∀ (d i : Nat), i + d = l.length → Ev (fun k => backstitchref3_Eq_uint64.l0 k l l l.length i) true
  | 0, i, hi => by
    refine Ev.step (f := fun _ => some true) (fun k => ?_) (Ev.now _)
    show backstitchref3_Eq_uint64.l0 (k + 1) l l l.length i = _
    rw [backstitchref3_Eq_uint64.l0, if_neg (by omega)]
  | d + 1, i, hi => by
    refine Ev.step (f := fun k => backstitchref3_Eq_uint64.l0 k l l l.length ((i + 1 : Nat) : Int)) (fun k => ?_) (equ_l0 l hl d (i + 1) (by omega))
    show backstitchref3_Eq_uint64.l0 (k + 1) l l l.length i = _
    rw [backstitchref3_Eq_uint64.l0, if_pos (by omega), if_pos (by omega), if_pos (by omega), if_pos (by omega), if_pos rfl, Pur.wrap_succ (by omega)]
theorem equ_ev (l : List Int) (hl : l.length < 4611686018427387904) : Ev (fun k => backstitchref3_Eq_uint64.f k l l) true := by
  refine Ev.congr (f := fun k => backstitchref3_Eq_uint64.l0 k l l l.length ((0 : Nat) : Int)) (fun k => ?_) (equ_l0 l hl l.length 0 (by omega))
  show backstitchref3_Eq_uint64.f k l l = _
  rw [backstitchref3_Eq_uint64.f, if_pos rfl]
  rfl
theorem eqm_l0 (l : List S71) (hl : l.length < 4611686018427387904) : ∀ (d i : Nat), i + d = l.length → Ev (fun k => api_RMove.l0 k l l l.length i) true
  | 0, i, hi => by
    refine Ev.step (f := fun _ => some true) (fun k => ?_) (Ev.now _)
    show api_RMove.l0 (k + 1) l l l.length i = _
    rw [api_RMove.l0, if_neg (by omega)]
  | d + 1, i, hi => by
    refine Ev.step (f := fun k => api_RMove.l0 k l l l.length ((i + 1 : Nat) : Int)) (fun k => ?_) (eqm_l0 l hl d (i + 1) (by omega))
    show api_RMove.l0 (k + 1) l l l.length i = _
    rw [api_RMove.l0, if_pos (by omega), if_pos (by omega), if_pos (by omega), if_pos (by omega), if_neg (by simp), Pur.wrap_succ (by omega)]
theorem eqm_ev (l : List S71) (hl : l.length < 4611686018427387904) : Ev (fun k => api_RMove.f k l l) true := by
  refine Ev.congr (f := fun k => api_RMove.l0 k l l l.length ((0 : Nat) : Int)) (fun k => ?_) (eqm_l0 l hl l.length 0 (by omega))
  show api_RMove.f k l l = _
  rw [api_RMove.f, if_pos rfl]
  rfl
theorem hauled_ev : Ev (fun k => backstitchlaw3_hauled.f k) true := Ev.of (fun k => backstitchlaw3_hauled.mono k) (k := 40) (by kernel_rfl)
theorem no_ev {l roots : List Int} {e : Int} (he : ¬ e = 0) (hc : Ev (fun k => haul_Check.f k l roots) e) (hf : Ev (fun k => backstitchref3_HeapFault.f k l roots) e) : Ev (fun k => backstitchlaw3_HaulTells.f k l roots) true := by
  unfold backstitchlaw3_HaulTells.f
  refine Ev.bind hauled_ev ?_
  simp only [if_true]
  refine Ev.bind hf ?_
  have ho : Ev (fun k => haul_Objects.f k l roots) ([], e) := by
    unfold haul_Objects.f
    refine Ev.bind hc ?_
    simp only [if_neg he]
    exact Ev.now _
  have hk : Ev (fun k => haul_Collect.f k l roots) ([], [], [], e) := by
    unfold haul_Collect.f
    refine Ev.bind hc ?_
    simp only [if_neg he]
    exact Ev.now _
  refine Ev.bind ho (Ev.bind hk (Ev.bind hc ?_))
  simp only [if_true, bne_self_eq_false]
  refine Ev.step (f := fun _ => some true) (fun k => ?_) (Ev.now _)
  rw [backstitchlaw3_HaulTells.j0, if_neg (by decide), if_neg he]
  show (if ((0 : Nat) : Int) = 0 then (if ((0 : Nat) : Int) = 0 then some (wrap64 (((0 : Nat) : Int) + ((0 : Nat) : Int)) == 0) else some false) else some false) = some true
  rw [if_pos (show ((0 : Nat) : Int) = 0 from rfl), if_pos (show ((0 : Nat) : Int) = 0 from rfl), show wrap64 (((0 : Nat) : Int) + ((0 : Nat) : Int)) = 0 by unfold wrap64; omega]
  rfl
theorem HaulTells : backstitchlaw3_HaulTells.Pure := by
  intro x0 h0
  obtain ⟨⟨hl0, hw0⟩, hl1, hw1⟩ := h0
  have hw : ∀ z ∈ x0.f0, wordB z := fun z hz => by
    have h := hw0 z hz
    simp [Lit.wf, IntKind.min, IntKind.max, IntKind.signed, IntKind.bits] at h
    exact ⟨by omega, by omega⟩
  have hv : ∀ z ∈ x0.f1, wordB z := fun z hz => by
    have h := hw1 z hz
    simp [Lit.wf, IntKind.min, IntKind.max, IntKind.signed, IntKind.bits] at h
    exact ⟨by omega, by omega⟩
  generalize x0.f0 = l at *
  generalize x0.f1 = roots at *
  refine Ev.rounds (g := fun k => backstitchlaw3_HaulTells.f k l roots) ?_
  by_cases hg : 2000 < l.length ∨ 100 < roots.length
  · obtain ⟨h1, h2⟩ := large_ev l roots hg
    exact no_ev (by decide) h1 h2
  · obtain ⟨e, hc, hf, hP⟩ := fault_ev l roots (by omega) (by omega) hw hv
    by_cases he : e = 0
    · subst he
      obtain ⟨P, ho, hp, hob, hck, hrt⟩ := hP rfl
      have H : Okay l P := ⟨by omega, hw, hob, hck⟩
      obtain ⟨ws, rs, ms, n1, n2, n3, h1, h2⟩ := both_ev H (by omega) hv hrt hc
      have hPl := P_len H
      unfold backstitchlaw3_HaulTells.f
      refine Ev.bind hauled_ev ?_
      simp only [if_true]
      refine Ev.bind hf ?_
      have hoo : Ev (fun k => haul_Objects.f k l roots) (P, 0) := by
        unfold haul_Objects.f
        refine Ev.bind hc ?_
        simp only [if_true]
        exact Ev.bind ho (Ev.now _)
      refine Ev.bind hoo (Ev.bind h1 (Ev.bind hc ?_))
      simp only [if_true, bne_self_eq_false]
      refine Ev.step (f := fun k => (backstitchref3_Places.f k l).bind fun a => (backstitchref3_Moved.f k l roots).bind fun b => (backstitchref3_Eq_int.f k P a.1).bind fun t => if t = true then (api_RMove.f k ms b.2.2).bind fun t => if t = true then (backstitchref3_Eq_uint64.f k ws b.1).bind fun t => if t = true then (backstitchref3_Eq_uint64.f k rs b.2.1).bind fun t => some t else some false else some false else some false) (fun k => ?_) ?_
      · rw [backstitchlaw3_HaulTells.j0, if_neg (by decide), if_pos rfl]
      · refine Ev.bind hp (Ev.bind h2 (Ev.bind (eqi_ev P (by omega)) ?_))
        simp only [if_true]
        refine Ev.bind (eqm_ev ms (by omega)) ?_
        simp only [if_true]
        refine Ev.bind (equ_ev ws (by omega)) ?_
        simp only [if_true]
        exact Ev.bind (equ_ev rs (by omega)) (Ev.now _)
    · exact no_ev he hc hf
end Go.Proofs.Ytlojkphocbbjdaa.Pure
