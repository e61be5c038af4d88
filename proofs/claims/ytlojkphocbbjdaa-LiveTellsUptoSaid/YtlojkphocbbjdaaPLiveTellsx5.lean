-- Printed for this claim by a program of this session (inj.py), beside the kit's print. Not trusted: Lean checks it.
import Derived.Test.YtlojkphocbbjdaaPLiveTellsx0
import Derived.Test.YtlojkphocbbjdaaPLiveTellsx1
import Derived.Test.YtlojkphocbbjdaaPLiveTellsx2
import Derived.Test.YtlojkphocbbjdaaPLiveTellsx4
namespace Go.Proofs.Ytlojkphocbbjdaa.PLiveTells
open Go.RowKit Go.Proofs.YtlojkphocbbjdaaW.PrintWords Go.Proofs.YtlojkphocbbjdaaW.PrintLast Go.Proofs.YtlojkphocbbjdaaW.PrintMore
attribute [local go_sem] max2_int min2_int max_two min_two max_three min_three max_four min_four   -- for this text's walks alone
set_option linter.unusedVariables false
set_option linter.unusedSimpArgs false

attribute [local go_sem high] eqA129
/-! ### live_Spans: function 68 -/
section
open Go.Proofs.YtlojkphocbbjdaaW.Sep Go.Proofs.YtlojkphocbbjdaaW.Reg
def askTo (loop n at_ v : Int) : Int := if v < loop ∧ loop ≤ at_ then n else at_
def askS (loop n at_ : Int) : List Int → List S129 → Option (List S129)
  | [], o => some o
  | v :: l, o => if 0 ≤ v ∧ v < o.length then askS loop n at_ l (o.set v.toNat ⟨v, mx (rd_T129 o v).f1 (askTo loop n at_ v)⟩) else none
theorem out_elem {w : World} {base g N cap : Nat} {ok : Nat → Prop} {xs : List S129} (h : Kd.R k129 129 w base ok (.slice (some ⟨g, 0, none⟩) N cap) xs) (i : Int) (h0 : 0 ≤ i) (h1 : i < N) :
    w.cell? ⟨g, i.toNat * 2, none⟩ = some (.int .i64 (rd_T129 xs i).f0) ∧ w.cell? ⟨g, i.toNat * 2 + 1, none⟩ = some (.int .i64 (rd_T129 xs i).f1) ∧ ∀ j, w.frozen? ⟨g, i.toNat * 2 + j, none⟩ = false := by
  obtain ⟨c, hcl, hM, hcc, hfr⟩ := Kd.R_elem h z129 i h0 h1
  have := k129_openM hM
  subst this
  exact ⟨hcc 0 _ rfl, hcc 1 _ rfl, hfr⟩
set_option maxHeartbeats 8000000 in
set_option maxRecDepth 100000 in
theorem ask_walk (w0 : World) (L : List Asn) (go gn gt : Nat) (at_ n : Int) (a0_0 : Int) (a0_1 : Int) (a0_2 : Int) (A0_3 : Option Addr) (c0_3 : Nat) (l0_3 : List (S181)) (A0_4 : Option Addr) (c0_4 : Nat) (l0_4 : List (S31)) (a0_5 : Int) (a0_6 : Int) (A0_7 : Option Addr) (c0_7 : Nat) (l0_7 : List (S38)) (A0_8 : Option Addr) (c0_8 : Nat) (l0_8 : List (S63)) (a0_9 : Int) (a0_10 : Int) (A0_11 : Option Addr) (c0_11 : Nat) (l0_11 : List (S38)) (A0_12 : Option Addr) (c0_12 : Nat) (l0_12 : List (S63)) (Ao : Option Addr) (N cap : Nat) (xs : List S129) (A : Option Addr) (c : Nat) (l : List Int) (r : List S129) (w : World) (HS_ : St w0 w ((blkA go #[.slice Ao N cap] 125) :: (rowA w0.heap.size k129 129 (.slice Ao N cap) xs) :: (rowA w0.heap.size (Kd.int .i64) 3 (.slice A l.length c) l) :: (blkA gn #[.int .i64 n] 3) :: (blkA gt #[.int .i64 a0_0, .int .i64 a0_1, .int .i64 a0_2, .slice A0_3 l0_3.length c0_3, .slice A0_4 l0_4.length c0_4, .int .i64 a0_5, .int .i64 a0_6, .slice A0_7 l0_7.length c0_7, .slice A0_8 l0_8.length c0_8, .int .i64 a0_9, .int .i64 a0_10, .slice A0_11 l0_11.length c0_11, .slice A0_12 l0_12.length c0_12] 123) :: L)) (hxl : xs.length = N) (h : askS a0_2 n at_ l xs = some r) :
    Calls Try.prog 119 #[.int .i64 at_, .slice A l.length c, .pointer (some ⟨gt, 0, none⟩), .pointer (some ⟨gn, 0, none⟩), .pointer (some ⟨go, 0, none⟩)] w fun e w' => e = .returned (.tuple #[]) ∧ St w0 w' ((blkA go #[.slice Ao N cap] 125) :: (rowA w0.heap.size k129 129 (.slice Ao N cap) r) :: (rowA w0.heap.size (Kd.int .i64) 3 (.slice A l.length c) l) :: (blkA gn #[.int .i64 n] 3) :: (blkA gt #[.int .i64 a0_0, .int .i64 a0_1, .int .i64 a0_2, .slice A0_3 l0_3.length c0_3, .slice A0_4 l0_4.length c0_4, .int .i64 a0_5, .int .i64 a0_6, .slice A0_7 l0_7.length c0_7, .slice A0_8 l0_8.length c0_8, .int .i64 a0_9, .int .i64 a0_10, .slice A0_11 l0_11.length c0_11, .slice A0_12 l0_12.length c0_12] 123) :: L) := by
  have HS0 := Aside0.mk HS_
  have HH := Aside0.mk h
  have HXL := Aside0.mk hxl
  have HLM := Aside0.mk (Kd.C_max (Kd.R_reads' (HS_.row 2 rfl)).2.2)
  clear HS_ h hxl
  go_enter Try.func119, Try.ntmps119
  go_wp2
  go_loopw [12] (fun v12 wr => ∃ (i : Int) (o : List S129), v12 = .int .i64 i ∧ Aside0 (0 ≤ i ∧ i ≤ l.length) ∧ Aside0 (o.length = N ∧ askS a0_2 n at_ (l.drop i.toNat) o = some r) ∧ Aside0 (St w0 wr ((blkA go #[.slice Ao N cap] 125) :: (rowA w0.heap.size k129 129 (.slice Ao N cap) o) :: (rowA w0.heap.size (Kd.int .i64) 3 (.slice A l.length c) l) :: (blkA gn #[.int .i64 n] 3) :: (blkA gt #[.int .i64 a0_0, .int .i64 a0_1, .int .i64 a0_2, .slice A0_3 l0_3.length c0_3, .slice A0_4 l0_4.length c0_4, .int .i64 a0_5, .int .i64 a0_6, .slice A0_7 l0_7.length c0_7, .slice A0_8 l0_8.length c0_8, .int .i64 a0_9, .int .i64 a0_10, .slice A0_11 l0_11.length c0_11, .slice A0_12 l0_12.length c0_12] 123) :: L))) (fun v12 _ => l.length - (intOf v12).toNat)
  case atStart => exact ⟨0, xs, rfl, ⟨by omega⟩, ⟨HXL.out, by simpa using HH.out⟩, HS0⟩
  case round =>
    clear HS0 HH HXL
    obtain ⟨i, o, rfl, Hi, HX, HSr⟩ := hrel
    have hi0 : 0 ≤ i := Hi.out.1
    by_cases hlt : i < (l.length : Int)
    · have ht : decide (i < (l.length : Int)) = true := decide_eq_true hlt
      have HW := Aside0.mk (show wrap64 (i + 1) = i + 1 by have := HLM.out; unfold wrap64; omega)
      have hd : l.drop i.toNat = rd l i :: l.drop (i + 1).toNat := by
        rw [List.drop_eq_getElem_cons (by omega), show (i + 1).toNat = i.toNat + 1 by omega]
        congr 1
        rw [rd, List.getD_eq_getElem?_getD, List.getElem?_eq_getElem (by omega), Option.getD_some]
      have hx := HX.out.2
      have HOL := Aside0.mk HX.out.1
      rw [hd, askS] at hx
      clear hd HX
      split at hx
      case isFalse => cases hx
      rename_i hvr
      obtain ⟨ad, e, hk⟩ := Kd.at_int (Kd.R_reads' (HSr.out.row 2 rfl)).2.2 i hi0 hlt
      cases e
      generalize rd l i = v at *
      have hv0 := hvr.1
      have hv1 : v < (N : Int) := by have := HOL.out; omega
      have c370_ : wr.cell? ⟨gn, 0, none⟩ = some (.int .i64 n) := (HSr.out.cell 3 rfl 0).trans rfl
      have c371_ : wr.cell? ⟨gt, 2, none⟩ = some (.int .i64 a0_2) := (HSr.out.cell 4 rfl 2).trans rfl
      have c372_ : wr.cell? ⟨go, 0, none⟩ = some (.slice Ao N cap) := (HSr.out.cell 0 rfl 0).trans rfl
      obtain ⟨g, cp, hv, hgb, hgl, _⟩ := Kd.R_form (HSr.out.row 1 rfl) (by have := HOL.out; omega)
      obtain ⟨rfl, rfl⟩ : Ao = some ⟨g, 0, none⟩ ∧ cap = cp := by injection hv with a b c; exact ⟨a, c⟩
      obtain ⟨hp0, hp1, _⟩ := out_elem (HSr.out.row 1 rfl) v hv0 hv1
      clear hv hgb hgl hvr
      by_cases c1 : v < a0_2
      · have hb1 : decide (v < a0_2) = true := decide_eq_true c1
        by_cases c2 : a0_2 ≤ at_
        · have hb2 : decide (at_ ≥ a0_2) = true := decide_eq_true c2
          have hb3 : decide (a0_2 ≤ at_) = true := decide_eq_true c2
          rw [show askTo a0_2 n at_ v = n by unfold askTo; rw [if_pos ⟨c1, c2⟩]] at hx
          have HX3 := Aside0.mk (And.intro (show (o.set v.toNat ⟨v, mx (rd_T129 o v).f1 n⟩).length = N by rw [List.length_set]; exact HOL.out) hx)
          clear hx c1 c2
          go_wp2
          go_still_tail 12, (by kernel_rfl)
          change wpList _ _ _ _ _ wr.drew
          have HSd := Aside0.mk HSr.out.drew
          generalize wr.drew = w5 at *
          obtain ⟨hq0, hq1, hff⟩ := out_elem (HSd.out.row 1 rfl) v hv0 hv1
          have hf0 : w5.frozen? ⟨g, v.toNat * 2, none⟩ = false := hff 0
          have hf1 : w5.frozen? ⟨g, v.toNat * 2 + 1, none⟩ = false := hff 1
          have HSP := Aside0.mk (HSd.out.elemset 1 rfl v hv0 hv1 (x' := ⟨v, mx (rd_T129 o v).f1 n⟩) (seg := [.int .i64 v, .int .i64 (mx (rd_T129 o v).f1 n)]) rfl (k129_mkM _ _ _ _))
          clear hff
          go_wp2_with (first | ((with_reducible refine gate_store (t := 129) (p := 39) rfl ?_); refine store_event (t := 129) (p := 39) (v := .tmp 38) (w1 := (w5.setCell ⟨g, v.toNat * 2, none⟩ (.int .i64 v)).setCell ⟨g, v.toNat * 2 + 1, none⟩ (.int .i64 (mx (rd_T129 o v).f1 n))) ?hg ?ho ?hn ?hr ?_; (case ho => rfl); (case hg => rfl); (case hn => rfl); (case hr => first | (go_simp; done) | (go_simp; rfl)); intro w6 hw_; have HS6 : Aside0 (St w0 w6 ((blkA go #[.slice (some ⟨g, 0, none⟩) N cap] 125) :: (rowA w0.heap.size k129 129 (.slice (some ⟨g, 0, none⟩) N cap) (o.set v.toNat ⟨v, mx (rd_T129 o v).f1 n⟩)) :: (rowA w0.heap.size (Kd.int .i64) 3 (.slice (some ad) l.length c) l) :: (blkA gn #[.int .i64 n] 3) :: (blkA gt #[.int .i64 a0_0, .int .i64 a0_1, .int .i64 a0_2, .slice A0_3 l0_3.length c0_3, .slice A0_4 l0_4.length c0_4, .int .i64 a0_5, .int .i64 a0_6, .slice A0_7 l0_7.length c0_7, .slice A0_8 l0_8.length c0_8, .int .i64 a0_9, .int .i64 a0_10, .slice A0_11 l0_11.length c0_11, .slice A0_12 l0_12.length c0_12] 123) :: L)) := ⟨by rw [hw_]; exact HSP.out⟩; clear hw_ HSP hq0 hq1 hf0 hf1))
          go_roundw
          case rel => exact ⟨i + 1, _, by first | rw [HW.out] | rfl, ⟨by omega⟩, HX3, HS6⟩
          case measure => simp only [intOf]; (try rw [HW.out]); omega
        · have hb2 : decide (at_ ≥ a0_2) = false := decide_eq_false c2
          have hb3 : decide (a0_2 ≤ at_) = false := decide_eq_false c2
          rw [show askTo a0_2 n at_ v = at_ by unfold askTo; rw [if_neg (fun h => c2 h.2)]] at hx
          have HX3 := Aside0.mk (And.intro (show (o.set v.toNat ⟨v, mx (rd_T129 o v).f1 at_⟩).length = N by rw [List.length_set]; exact HOL.out) hx)
          clear hx c1 c2
          go_wp2
          go_still_tail 12, (by kernel_rfl)
          change wpList _ _ _ _ _ wr.drew
          have HSd := Aside0.mk HSr.out.drew
          generalize wr.drew = w5 at *
          obtain ⟨hq0, hq1, hff⟩ := out_elem (HSd.out.row 1 rfl) v hv0 hv1
          have hf0 : w5.frozen? ⟨g, v.toNat * 2, none⟩ = false := hff 0
          have hf1 : w5.frozen? ⟨g, v.toNat * 2 + 1, none⟩ = false := hff 1
          have HSP := Aside0.mk (HSd.out.elemset 1 rfl v hv0 hv1 (x' := ⟨v, mx (rd_T129 o v).f1 at_⟩) (seg := [.int .i64 v, .int .i64 (mx (rd_T129 o v).f1 at_)]) rfl (k129_mkM _ _ _ _))
          clear hff
          go_wp2_with (first | ((with_reducible refine gate_store (t := 129) (p := 39) rfl ?_); refine store_event (t := 129) (p := 39) (v := .tmp 38) (w1 := (w5.setCell ⟨g, v.toNat * 2, none⟩ (.int .i64 v)).setCell ⟨g, v.toNat * 2 + 1, none⟩ (.int .i64 (mx (rd_T129 o v).f1 at_))) ?hg ?ho ?hn ?hr ?_; (case ho => rfl); (case hg => rfl); (case hn => rfl); (case hr => first | (go_simp; done) | (go_simp; rfl)); intro w6 hw_; have HS6 : Aside0 (St w0 w6 ((blkA go #[.slice (some ⟨g, 0, none⟩) N cap] 125) :: (rowA w0.heap.size k129 129 (.slice (some ⟨g, 0, none⟩) N cap) (o.set v.toNat ⟨v, mx (rd_T129 o v).f1 at_⟩)) :: (rowA w0.heap.size (Kd.int .i64) 3 (.slice (some ad) l.length c) l) :: (blkA gn #[.int .i64 n] 3) :: (blkA gt #[.int .i64 a0_0, .int .i64 a0_1, .int .i64 a0_2, .slice A0_3 l0_3.length c0_3, .slice A0_4 l0_4.length c0_4, .int .i64 a0_5, .int .i64 a0_6, .slice A0_7 l0_7.length c0_7, .slice A0_8 l0_8.length c0_8, .int .i64 a0_9, .int .i64 a0_10, .slice A0_11 l0_11.length c0_11, .slice A0_12 l0_12.length c0_12] 123) :: L)) := ⟨by rw [hw_]; exact HSP.out⟩; clear hw_ HSP hq0 hq1 hf0 hf1))
          go_roundw
          case rel => exact ⟨i + 1, _, by first | rw [HW.out] | rfl, ⟨by omega⟩, HX3, HS6⟩
          case measure => simp only [intOf]; (try rw [HW.out]); omega
      · have hb1 : decide (v < a0_2) = false := decide_eq_false c1
        rw [show askTo a0_2 n at_ v = at_ by unfold askTo; rw [if_neg (fun h => c1 h.1)]] at hx
        have HX3 := Aside0.mk (And.intro (show (o.set v.toNat ⟨v, mx (rd_T129 o v).f1 at_⟩).length = N by rw [List.length_set]; exact HOL.out) hx)
        clear hx c1
        go_wp2
        go_still_tail 12, (by kernel_rfl)
        change wpList _ _ _ _ _ wr.drew
        have HSd := Aside0.mk HSr.out.drew
        generalize wr.drew = w5 at *
        obtain ⟨hq0, hq1, hff⟩ := out_elem (HSd.out.row 1 rfl) v hv0 hv1
        have hf0 : w5.frozen? ⟨g, v.toNat * 2, none⟩ = false := hff 0
        have hf1 : w5.frozen? ⟨g, v.toNat * 2 + 1, none⟩ = false := hff 1
        have HSP := Aside0.mk (HSd.out.elemset 1 rfl v hv0 hv1 (x' := ⟨v, mx (rd_T129 o v).f1 at_⟩) (seg := [.int .i64 v, .int .i64 (mx (rd_T129 o v).f1 at_)]) rfl (k129_mkM _ _ _ _))
        clear hff
        go_wp2_with (first | ((with_reducible refine gate_store (t := 129) (p := 39) rfl ?_); refine store_event (t := 129) (p := 39) (v := .tmp 38) (w1 := (w5.setCell ⟨g, v.toNat * 2, none⟩ (.int .i64 v)).setCell ⟨g, v.toNat * 2 + 1, none⟩ (.int .i64 (mx (rd_T129 o v).f1 at_))) ?hg ?ho ?hn ?hr ?_; (case ho => rfl); (case hg => rfl); (case hn => rfl); (case hr => first | (go_simp; done) | (go_simp; rfl)); intro w6 hw_; have HS6 : Aside0 (St w0 w6 ((blkA go #[.slice (some ⟨g, 0, none⟩) N cap] 125) :: (rowA w0.heap.size k129 129 (.slice (some ⟨g, 0, none⟩) N cap) (o.set v.toNat ⟨v, mx (rd_T129 o v).f1 at_⟩)) :: (rowA w0.heap.size (Kd.int .i64) 3 (.slice (some ad) l.length c) l) :: (blkA gn #[.int .i64 n] 3) :: (blkA gt #[.int .i64 a0_0, .int .i64 a0_1, .int .i64 a0_2, .slice A0_3 l0_3.length c0_3, .slice A0_4 l0_4.length c0_4, .int .i64 a0_5, .int .i64 a0_6, .slice A0_7 l0_7.length c0_7, .slice A0_8 l0_8.length c0_8, .int .i64 a0_9, .int .i64 a0_10, .slice A0_11 l0_11.length c0_11, .slice A0_12 l0_12.length c0_12] 123) :: L)) := ⟨by rw [hw_]; exact HSP.out⟩; clear hw_ HSP hq0 hq1 hf0 hf1))
        go_roundw
        case rel => exact ⟨i + 1, _, by first | rw [HW.out] | rfl, ⟨by omega⟩, HX3, HS6⟩
        case measure => simp only [intOf]; (try rw [HW.out]); omega
    · have ht : decide (i < (l.length : Int)) = false := decide_eq_false hlt
      have hx := HX.out.2
      rw [List.drop_eq_nil_of_le (by omega), askS] at hx
      obtain rfl := Option.some.inj hx
      clear hx HX
      go_wp2
      go_end0
      exact ⟨rfl, HSr.out⟩
theorem C_blk1 {α : Type} {d : Kd α} {W : World} {g : Nat} {t : TypeId} {x : α} {cs : List Value} (hb : W.heap[g]? = some (.cells cs.toArray t (0, 0))) (hK : d.K W x cs) : d.C W (some ⟨g, 0, none⟩) [x].length [x] := by
  refine ⟨rfl, by simp, fun _ => ⟨⟨g, 0, none⟩, rfl, fun j p hj => ?_⟩⟩
  have h2 := (List.getElem?_eq_some_iff.1 hj).1
  have h0 : j = 0 := by simp at h2; exact h2
  subst h0
  obtain rfl : x = p := by simpa using hj
  refine ⟨cs, d.K_len hK, hK, fun q u hq => ?_⟩
  rw [Nat.zero_mul, Nat.zero_add]
  have e : (⟨g, 0, none⟩ : Addr).add q = ⟨g, q, none⟩ := by
    unfold Addr.add
    split <;> simp_all
  rw [e, blk_cell hb q]
  simpa using hq
def turnS (loop : Int) : List Int → List S129 → Option (List S129)
  | [], o => some o
  | v :: l, o => if 0 ≤ v ∧ v < o.length then turnS loop l (o.set v.toNat ⟨v, mx (rd_T129 o v).f1 loop⟩) else none
def spanIns (k : Nat) (a0_0 : Int) (a0_1 : Int) (a0_2 : Int) (l0_3 : List (S181)) (l0_4 : List (S31)) (a0_5 : Int) (a0_6 : Int) (l0_7 : List (S38)) (l0_8 : List (S63)) (a0_9 : Int) (a0_10 : Int) (l0_11 : List (S38)) (l0_12 : List (S63)) : Nat → Int → List S129 → Option (List S129)
  | 0, _, o => some o
  | d + 1, i, o => (ir_Asks.f (rd_T181 l0_3 i).f0 (rd_T181 l0_3 i).f1 (rd_T181 l0_3 i).f2 (rd_T181 l0_3 i).f3 (rd_T181 l0_3 i).f4 (rd_T181 l0_3 i).f5 (rd_T181 l0_3 i).f6.f0 (rd_T181 l0_3 i).f6.f1).bind fun q => (askS a0_2 (l0_3.length : Int) i q o).bind fun o1 => if 0 ≤ (rd_T181 l0_3 i).f5 then (if (rd_T181 l0_3 i).f5 < l0_4.length then (live_Values.f k (rd_T31 l0_4 (rd_T181 l0_3 i).f5).f0 (rd_T31 l0_4 (rd_T181 l0_3 i).f5).f1 (rd_T31 l0_4 (rd_T181 l0_3 i).f5).f2 (rd_T31 l0_4 (rd_T181 l0_3 i).f5).f3).bind fun vx => (askS a0_2 (l0_3.length : Int) i vx o1).bind fun o2 => spanIns k a0_0 a0_1 a0_2 l0_3 l0_4 a0_5 a0_6 l0_7 l0_8 a0_9 a0_10 l0_11 l0_12 d (i + 1) o2 else none) else spanIns k a0_0 a0_1 a0_2 l0_3 l0_4 a0_5 a0_6 l0_7 l0_8 a0_9 a0_10 l0_11 l0_12 d (i + 1) o1
def spansFin (k : Nat) (a0_0 : Int) (a0_1 : Int) (a0_2 : Int) (l0_3 : List (S181)) (l0_4 : List (S31)) (a0_5 : Int) (a0_6 : Int) (l0_7 : List (S38)) (l0_8 : List (S63)) (a0_9 : Int) (a0_10 : Int) (l0_11 : List (S38)) (l0_12 : List (S63)) (o : List S129) : Option (List S129 × Int) := (live_Values.f k a0_9 a0_10 l0_11 l0_12).bind fun vb => (askS a0_2 (l0_3.length : Int) (l0_3.length : Int) vb o).bind fun o2 => if 0 < a0_2 then (live_Values.f k a0_5 a0_6 l0_7 l0_8).bind fun vt => (turnS a0_2 vt o2).bind fun o3 => some (o3, 0) else some (o2, 0)
def live_Spans.f (k : Nat) (a0_0 : Int) (a0_1 : Int) (a0_2 : Int) (l0_3 : List (S181)) (l0_4 : List (S31)) (a0_5 : Int) (a0_6 : Int) (l0_7 : List (S38)) (l0_8 : List (S63)) (a0_9 : Int) (a0_10 : Int) (l0_11 : List (S38)) (l0_12 : List (S63)) : Option (List S129 × Int) := (live_Check.f k a0_0 a0_1 a0_2 l0_3 l0_4 a0_5 a0_6 l0_7 l0_8 a0_9 a0_10 l0_11 l0_12).bind fun e => if e = 0 then (if l0_3.length < 2147483648 then (spanIns k a0_0 a0_1 a0_2 l0_3 l0_4 a0_5 a0_6 l0_7 l0_8 a0_9 a0_10 l0_11 l0_12 l0_3.length 0 (List.replicate l0_3.length ⟨-1, -1⟩)).bind (spansFin k a0_0 a0_1 a0_2 l0_3 l0_4 a0_5 a0_6 l0_7 l0_8 a0_9 a0_10 l0_11 l0_12) else none) else some ([], e)
theorem spanIns.mono (a0_0 : Int) (a0_1 : Int) (a0_2 : Int) (l0_3 : List (S181)) (l0_4 : List (S31)) (a0_5 : Int) (a0_6 : Int) (l0_7 : List (S38)) (l0_8 : List (S63)) (a0_9 : Int) (a0_10 : Int) (l0_11 : List (S38)) (l0_12 : List (S63)) : ∀ (d : Nat) (i : Int) (o : List S129) (k : Nat), LeO (spanIns k a0_0 a0_1 a0_2 l0_3 l0_4 a0_5 a0_6 l0_7 l0_8 a0_9 a0_10 l0_11 l0_12 d i o) (spanIns (k + 1) a0_0 a0_1 a0_2 l0_3 l0_4 a0_5 a0_6 l0_7 l0_8 a0_9 a0_10 l0_11 l0_12 d i o)
  | 0, i, o, k => LeO.refl _
  | d + 1, i, o, k => by
    unfold spanIns
    exact LeO.bind (LeO.refl _) (fun q => LeO.bind (LeO.refl _) (fun o1 => LeO.ite (LeO.ite (LeO.bind (live_Values.mono _ _ _ _ _) (fun vx => LeO.bind (LeO.refl _) (fun o2 => spanIns.mono a0_0 a0_1 a0_2 l0_3 l0_4 a0_5 a0_6 l0_7 l0_8 a0_9 a0_10 l0_11 l0_12 d (i + 1) o2 k))) (LeO.refl _)) (spanIns.mono a0_0 a0_1 a0_2 l0_3 l0_4 a0_5 a0_6 l0_7 l0_8 a0_9 a0_10 l0_11 l0_12 d (i + 1) o1 k)))
theorem live_Spans.mono : ∀ a0_0 a0_1 a0_2 l0_3 l0_4 a0_5 a0_6 l0_7 l0_8 a0_9 a0_10 l0_11 l0_12 k, LeO (live_Spans.f k a0_0 a0_1 a0_2 l0_3 l0_4 a0_5 a0_6 l0_7 l0_8 a0_9 a0_10 l0_11 l0_12) (live_Spans.f (k + 1) a0_0 a0_1 a0_2 l0_3 l0_4 a0_5 a0_6 l0_7 l0_8 a0_9 a0_10 l0_11 l0_12) := by
  intro a0_0 a0_1 a0_2 l0_3 l0_4 a0_5 a0_6 l0_7 l0_8 a0_9 a0_10 l0_11 l0_12 k
  unfold live_Spans.f spansFin
  refine LeO.bind (live_Check.mono a0_0 a0_1 a0_2 l0_3 l0_4 a0_5 a0_6 l0_7 l0_8 a0_9 a0_10 l0_11 l0_12 k) (fun e => LeO.ite (LeO.ite (LeO.bind (spanIns.mono a0_0 a0_1 a0_2 l0_3 l0_4 a0_5 a0_6 l0_7 l0_8 a0_9 a0_10 l0_11 l0_12 _ _ _ _) (fun o => ?_)) (LeO.refl _)) (LeO.refl _))
  exact LeO.bind (live_Values.mono _ _ _ _ _) (fun vb => LeO.bind (LeO.refl _) (fun o2 => LeO.ite (LeO.bind (live_Values.mono _ _ _ _ _) (fun vt => LeO.refl _)) (LeO.refl _)))
theorem askS.len {loop n at_ : Int} : ∀ {l : List Int} {o r : List S129}, askS loop n at_ l o = some r → r.length = o.length
  | [], o, r, h => by rw [askS] at h; rw [Option.some.inj h]
  | v :: l, o, r, h => by
    rw [askS] at h
    split at h
    · rw [askS.len h, List.length_set]
    · cases h
set_option maxHeartbeats 16000000 in
set_option maxRecDepth 100000 in
theorem live_Spans.calls (k : Nat) (a0_0 : Int) (a0_1 : Int) (a0_2 : Int) (A0_3 : Option Addr) (c0_3 : Nat) (l0_3 : List (S181)) (A0_4 : Option Addr) (c0_4 : Nat) (l0_4 : List (S31)) (a0_5 : Int) (a0_6 : Int) (A0_7 : Option Addr) (c0_7 : Nat) (l0_7 : List (S38)) (A0_8 : Option Addr) (c0_8 : Nat) (l0_8 : List (S63)) (a0_9 : Int) (a0_10 : Int) (A0_11 : Option Addr) (c0_11 : Nat) (l0_11 : List (S38)) (A0_12 : Option Addr) (c0_12 : Nat) (l0_12 : List (S63)) (r1 : List S129) (r2 : Int) (w : World) (hr0_3 : Kd.C k181 w A0_3 l0_3.length l0_3) (hc0_3 : l0_3.length ≤ c0_3) (hr0_4 : Kd.C k31 w A0_4 l0_4.length l0_4) (hc0_4 : l0_4.length ≤ c0_4) (hr0_7 : Kd.C k38 w A0_7 l0_7.length l0_7) (hc0_7 : l0_7.length ≤ c0_7) (hr0_8 : Kd.C k63 w A0_8 l0_8.length l0_8) (hc0_8 : l0_8.length ≤ c0_8) (hr0_11 : Kd.C k38 w A0_11 l0_11.length l0_11) (hc0_11 : l0_11.length ≤ c0_11) (hr0_12 : Kd.C k63 w A0_12 l0_12.length l0_12) (hc0_12 : l0_12.length ≤ c0_12) (h : live_Spans.f k a0_0 a0_1 a0_2 l0_3 l0_4 a0_5 a0_6 l0_7 l0_8 a0_9 a0_10 l0_11 l0_12 = some (r1, r2)) :
    Calls Try.prog 68 #[.agg #[.int .i64 a0_0, .int .i64 a0_1, .int .i64 a0_2, .slice A0_3 l0_3.length c0_3, .slice A0_4 l0_4.length c0_4, .int .i64 a0_5, .int .i64 a0_6, .slice A0_7 l0_7.length c0_7, .slice A0_8 l0_8.length c0_8, .int .i64 a0_9, .int .i64 a0_10, .slice A0_11 l0_11.length c0_11, .slice A0_12 l0_12.length c0_12]] w fun e w' => ∃ v0_ : Value, e = .returned (.tuple #[v0_, .int .i64 r2]) ∧ Kd.R k129 129 w' w.heap.size (fun _ => True) v0_ r1 ∧ Below w.heap.size w w' := by
  have HT := Aside0.mk (show TraceAt w a0_0 a0_1 a0_2 A0_3 c0_3 l0_3 A0_4 c0_4 l0_4 a0_5 a0_6 A0_7 c0_7 l0_7 A0_8 c0_8 l0_8 a0_9 a0_10 A0_11 c0_11 l0_11 A0_12 c0_12 l0_12 from ⟨⟨hr0_3, hc0_3⟩, ⟨hr0_4, hc0_4⟩, ⟨hr0_7, hc0_7⟩, ⟨hr0_8, hc0_8⟩, ⟨hr0_11, hc0_11⟩, ⟨hr0_12, hc0_12⟩⟩)
  have HS0 := Aside0.mk (St.nil (Below.refl w.heap.size w))
  have HR3 := Aside0.mk hr0_3
  have HR4 := Aside0.mk hr0_4
  clear hr0_3 hc0_3 hr0_4 hc0_4 hr0_7 hc0_7 hr0_8 hc0_8 hr0_11 hc0_11 hr0_12 hc0_12
  unfold live_Spans.f at h
  obtain ⟨e0, he0, h⟩ := Option.bind_eq_some_iff.1 h
  have HE := Aside0.mk he0
  clear he0
  by_cases hc : e0 = 0
  case neg =>
    rw [if_neg hc] at h
    simp only [Option.some.injEq, Prod.mk.injEq] at h
    obtain ⟨rfl, rfl⟩ := h
    have he1 : (e0 == 0) = false := beq_eq_false_iff_ne.mpr hc
    have he2 : (e0 != 0) = true := bne_iff_ne.mpr hc
    clear hc
    go_enter Try.func68, Try.ntmps68
    go_wp2_with (first | ((with_reducible refine gate_dst (N := 1) rfl ?_); (try (refine gate_guard (by rfl) ?_; dsimp only)); refine box_event ?hg (N := 1) ?hd (cs := #[.int .i64 a0_0, .int .i64 a0_1, .int .i64 a0_2, .slice A0_3 l0_3.length c0_3, .slice A0_4 l0_4.length c0_4, .int .i64 a0_5, .int .i64 a0_6, .slice A0_7 l0_7.length c0_7, .slice A0_8 l0_8.length c0_8, .int .i64 a0_9, .int .i64 a0_10, .slice A0_11 l0_11.length c0_11, .slice A0_12 l0_12.length c0_12]) (t := 123) ?hr ?_; (case hd => rfl); (case hg => rfl); (case hr => first | (go_simp; done) | (go_simp; rfl)); intro gt hg_ w373_ hx_ hb_; have HS374_ := Aside0.mk (HS0.out.box hg_ hx_ hb_); have c375_ : w373_.cell? ⟨gt, 0, none⟩ = some (.int .i64 a0_0) := (HS374_.out.cell 0 rfl 0).trans rfl; have c376_ : w373_.cell? ⟨gt, 1, none⟩ = some (.int .i64 a0_1) := (HS374_.out.cell 0 rfl 1).trans rfl; have c377_ : w373_.cell? ⟨gt, 2, none⟩ = some (.int .i64 a0_2) := (HS374_.out.cell 0 rfl 2).trans rfl; have c378_ : w373_.cell? ⟨gt, 3, none⟩ = some (.slice A0_3 l0_3.length c0_3) := (HS374_.out.cell 0 rfl 3).trans rfl; have c379_ : w373_.cell? ⟨gt, 4, none⟩ = some (.slice A0_4 l0_4.length c0_4) := (HS374_.out.cell 0 rfl 4).trans rfl; have c380_ : w373_.cell? ⟨gt, 5, none⟩ = some (.int .i64 a0_5) := (HS374_.out.cell 0 rfl 5).trans rfl; have c381_ : w373_.cell? ⟨gt, 6, none⟩ = some (.int .i64 a0_6) := (HS374_.out.cell 0 rfl 6).trans rfl; have c382_ : w373_.cell? ⟨gt, 7, none⟩ = some (.slice A0_7 l0_7.length c0_7) := (HS374_.out.cell 0 rfl 7).trans rfl; have c383_ : w373_.cell? ⟨gt, 8, none⟩ = some (.slice A0_8 l0_8.length c0_8) := (HS374_.out.cell 0 rfl 8).trans rfl; have c384_ : w373_.cell? ⟨gt, 9, none⟩ = some (.int .i64 a0_9) := (HS374_.out.cell 0 rfl 9).trans rfl; have c385_ : w373_.cell? ⟨gt, 10, none⟩ = some (.int .i64 a0_10) := (HS374_.out.cell 0 rfl 10).trans rfl; have c386_ : w373_.cell? ⟨gt, 11, none⟩ = some (.slice A0_11 l0_11.length c0_11) := (HS374_.out.cell 0 rfl 11).trans rfl; have c387_ : w373_.cell? ⟨gt, 12, none⟩ = some (.slice A0_12 l0_12.length c0_12) := (HS374_.out.cell 0 rfl 12).trans rfl; clear hg_ hx_ hb_  HS0) | (go_at_call 69; have HTV := TraceAt.below a0_0 a0_1 a0_2 A0_3 c0_3 l0_3 A0_4 c0_4 l0_4 a0_5 a0_6 A0_7 c0_7 l0_7 A0_8 c0_8 l0_8 a0_9 a0_10 A0_11 c0_11 l0_11 A0_12 c0_12 l0_12 HT.out HS374_.out.below; unfold TraceAt at HTV; refine (live_Check.calls k a0_0 a0_1 a0_2 A0_3 c0_3 l0_3 A0_4 c0_4 l0_4 a0_5 a0_6 A0_7 c0_7 l0_7 A0_8 c0_8 l0_8 a0_9 a0_10 A0_11 c0_11 l0_11 A0_12 c0_12 l0_12 e0 _ HTV.1.1 HTV.1.2 HTV.2.1.1 HTV.2.1.2 HTV.2.2.1.1 HTV.2.2.1.2 HTV.2.2.2.1.1 HTV.2.2.2.1.2 HTV.2.2.2.2.1.1 HTV.2.2.2.2.1.2 HTV.2.2.2.2.2.1 HTV.2.2.2.2.2.2 HE.out).mono ?_; rintro e_ w388_ ⟨rfl, hb_⟩; have HS389_ := Aside0.mk (HS374_.out.call hb_); have c390_ : w388_.cell? ⟨gt, 3, none⟩ = some (.slice A0_3 l0_3.length c0_3) := (HS389_.out.cell 0 rfl 3).trans rfl; clear hb_ HTV; clear c375_ c376_ c377_ c378_ c379_ c380_ c381_ c382_ c383_ c384_ c385_ c386_ c387_ HS374_))
    go_ret2
    exact ⟨_, rfl, Kd.R_nil _ _ _ _ _, HS389_.out.below⟩
  subst hc
  rw [if_pos rfl] at h
  split at h
  case isFalse => cases h
  rename_i hlen
  have HLEN := Aside0.mk hlen
  have HH := Aside0.mk h
  have HREP := Aside0.mk (show api_RSpan_118.f [⟨-1, -1⟩] (l0_3.length : Int) = some (List.replicate l0_3.length ⟨-1, -1⟩) by unfold api_RSpan_118.f; rw [if_pos ⟨rfl, by omega, by omega⟩, Int.toNat_natCast]; rfl)
  clear h hlen
  go_enter Try.func68, Try.ntmps68
  go_wp2_with (first | ((with_reducible refine gate_dst (N := 1) rfl ?_); (try (refine gate_guard (by rfl) ?_; dsimp only)); refine box_event ?hg (N := 1) ?hd (cs := #[.int .i64 a0_0, .int .i64 a0_1, .int .i64 a0_2, .slice A0_3 l0_3.length c0_3, .slice A0_4 l0_4.length c0_4, .int .i64 a0_5, .int .i64 a0_6, .slice A0_7 l0_7.length c0_7, .slice A0_8 l0_8.length c0_8, .int .i64 a0_9, .int .i64 a0_10, .slice A0_11 l0_11.length c0_11, .slice A0_12 l0_12.length c0_12]) (t := 123) ?hr ?_; (case hd => rfl); (case hg => rfl); (case hr => first | (go_simp; done) | (go_simp; rfl)); intro gt hg_ w391_ hx_ hb_; have HS392_ := Aside0.mk (HS0.out.box hg_ hx_ hb_); have c393_ : w391_.cell? ⟨gt, 0, none⟩ = some (.int .i64 a0_0) := (HS392_.out.cell 0 rfl 0).trans rfl; have c394_ : w391_.cell? ⟨gt, 1, none⟩ = some (.int .i64 a0_1) := (HS392_.out.cell 0 rfl 1).trans rfl; have c395_ : w391_.cell? ⟨gt, 2, none⟩ = some (.int .i64 a0_2) := (HS392_.out.cell 0 rfl 2).trans rfl; have c396_ : w391_.cell? ⟨gt, 3, none⟩ = some (.slice A0_3 l0_3.length c0_3) := (HS392_.out.cell 0 rfl 3).trans rfl; have c397_ : w391_.cell? ⟨gt, 4, none⟩ = some (.slice A0_4 l0_4.length c0_4) := (HS392_.out.cell 0 rfl 4).trans rfl; have c398_ : w391_.cell? ⟨gt, 5, none⟩ = some (.int .i64 a0_5) := (HS392_.out.cell 0 rfl 5).trans rfl; have c399_ : w391_.cell? ⟨gt, 6, none⟩ = some (.int .i64 a0_6) := (HS392_.out.cell 0 rfl 6).trans rfl; have c400_ : w391_.cell? ⟨gt, 7, none⟩ = some (.slice A0_7 l0_7.length c0_7) := (HS392_.out.cell 0 rfl 7).trans rfl; have c401_ : w391_.cell? ⟨gt, 8, none⟩ = some (.slice A0_8 l0_8.length c0_8) := (HS392_.out.cell 0 rfl 8).trans rfl; have c402_ : w391_.cell? ⟨gt, 9, none⟩ = some (.int .i64 a0_9) := (HS392_.out.cell 0 rfl 9).trans rfl; have c403_ : w391_.cell? ⟨gt, 10, none⟩ = some (.int .i64 a0_10) := (HS392_.out.cell 0 rfl 10).trans rfl; have c404_ : w391_.cell? ⟨gt, 11, none⟩ = some (.slice A0_11 l0_11.length c0_11) := (HS392_.out.cell 0 rfl 11).trans rfl; have c405_ : w391_.cell? ⟨gt, 12, none⟩ = some (.slice A0_12 l0_12.length c0_12) := (HS392_.out.cell 0 rfl 12).trans rfl; clear hg_ hx_ hb_  HS0) | (go_at_call 69; have HTV := TraceAt.below a0_0 a0_1 a0_2 A0_3 c0_3 l0_3 A0_4 c0_4 l0_4 a0_5 a0_6 A0_7 c0_7 l0_7 A0_8 c0_8 l0_8 a0_9 a0_10 A0_11 c0_11 l0_11 A0_12 c0_12 l0_12 HT.out HS392_.out.below; unfold TraceAt at HTV; refine (live_Check.calls k a0_0 a0_1 a0_2 A0_3 c0_3 l0_3 A0_4 c0_4 l0_4 a0_5 a0_6 A0_7 c0_7 l0_7 A0_8 c0_8 l0_8 a0_9 a0_10 A0_11 c0_11 l0_11 A0_12 c0_12 l0_12 0 _ HTV.1.1 HTV.1.2 HTV.2.1.1 HTV.2.1.2 HTV.2.2.1.1 HTV.2.2.1.2 HTV.2.2.2.1.1 HTV.2.2.2.1.2 HTV.2.2.2.2.1.1 HTV.2.2.2.2.1.2 HTV.2.2.2.2.2.1 HTV.2.2.2.2.2.2 HE.out).mono ?_; rintro e_ w406_ ⟨rfl, hb_⟩; have HS407_ := Aside0.mk (HS392_.out.call hb_); have c408_ : w406_.cell? ⟨gt, 3, none⟩ = some (.slice A0_3 l0_3.length c0_3) := (HS407_.out.cell 0 rfl 3).trans rfl; clear hb_ HTV; clear c393_ c394_ c395_ c396_ c397_ c398_ c399_ c400_ c401_ c402_ c403_ c404_ c405_ HS392_) | ((with_reducible refine gate_dst (N := 5) rfl ?_); (try (refine gate_guard (by rfl) ?_; dsimp only)); refine box_event ?hg (N := 5) ?hd (cs := #[.int .i64 0]) (t := 3) ?hr ?_; (case hd => rfl); (case hg => rfl); (case hr => first | (go_simp; done) | (go_simp; rfl)); intro gn hg_ w409_ hx_ hb_; have HS410_ := Aside0.mk (HS407_.out.box hg_ hx_ hb_); have c411_ : w409_.cell? ⟨gn, 0, none⟩ = some (.int .i64 0) := (HS410_.out.cell 0 rfl 0).trans rfl; have f412_ : w409_.frozen? ⟨gn, 0, none⟩ = false := HS410_.out.frz 0 rfl 0; clear hg_ hx_ hb_ c408_ HS407_) | ((with_reducible refine gate_store (t := 3) (p := 5) rfl ?_); refine store_event (t := 3) (p := 5) (v := .tmp 19) (w1 := (w409_.setCell ⟨gn, 0, none⟩ (.int .i64 (l0_3.length : Int)))) ?hg ?ho ?hn ?hr ?_; (case ho => rfl); (case hg => rfl); (case hn => rfl); (case hr => first | (go_simp; done) | (go_simp; rfl)); intro w413_ hw_; have HS414_ : Aside0 (St w w413_ ((blkA gn #[.int .i64 (l0_3.length : Int)] 3) :: (blkA gt #[.int .i64 a0_0, .int .i64 a0_1, .int .i64 a0_2, .slice A0_3 l0_3.length c0_3, .slice A0_4 l0_4.length c0_4, .int .i64 a0_5, .int .i64 a0_6, .slice A0_7 l0_7.length c0_7, .slice A0_8 l0_8.length c0_8, .int .i64 a0_9, .int .i64 a0_10, .slice A0_11 l0_11.length c0_11, .slice A0_12 l0_12.length c0_12] 123) :: [])) := ⟨by rw [hw_]; exact (HS410_.out.put 0 rfl 0 (.int .i64 (l0_3.length : Int)) rfl)⟩; have c415_ : w413_.cell? ⟨gt, 3, none⟩ = some (.slice A0_3 l0_3.length c0_3) := (HS414_.out.cell 1 rfl 3).trans rfl; clear hw_ c411_ f412_ HS410_; have cn_ : ∀ o, (w413_.alloc o).cell? ⟨gn, 0, none⟩ = some (.int .i64 (l0_3.length : Int)) := fun o => ((HS414_.out.alloc o).cell 0 rfl 0).trans rfl) | (go_at_call 118; refine (api_RSpan_118.calls (some ⟨w413_.heap.size, 0, none⟩) 1 [⟨-1, -1⟩] (l0_3.length : Int) (List.replicate l0_3.length ⟨-1, -1⟩) _ (C_blk1 (YtlojkphocbbjdaaW.Bas.heap_alloc_self _ _) (k129_mk _ ⟨-1, -1⟩)) (Nat.le_refl _) HREP.out).mono ?_; rintro e_ wq ⟨v4, rfl, hr4, hb4⟩; obtain ⟨Ao, cap, rfl⟩ := Kd.R_slice hr4; rw [List.length_replicate] at hr4 ⊢; have HSq := Aside0.mk ((HS414_.out.alloc _).mrow hb4 hr4); clear hr4 hb4 cn_ c415_ HS414_) | ((with_reducible refine gate_dst (N := 6) rfl ?_); (try (refine gate_guard (by rfl) ?_; dsimp only)); refine box_event ?hg (N := 6) ?hd (cs := #[.slice none 0 0]) (t := 125) ?hr ?_; (case hd => rfl); (case hg => rfl); (case hr => first | (go_simp; done) | (go_simp; rfl)); intro go hg_ w416_ hx_ hb_; have HS417_ := Aside0.mk (HSq.out.box hg_ hx_ hb_); have c418_ : w416_.cell? ⟨go, 0, none⟩ = some (.slice none 0 0) := (HS417_.out.cell 0 rfl 0).trans rfl; have f419_ : w416_.frozen? ⟨go, 0, none⟩ = false := HS417_.out.frz 0 rfl 0; clear hg_ hx_ hb_  HSq) | ((with_reducible refine gate_store (t := 125) (p := 6) rfl ?_); refine store_event (t := 125) (p := 6) (v := .tmp 23) (w1 := (w416_.setCell ⟨go, 0, none⟩ (.slice Ao l0_3.length cap))) ?hg ?ho ?hn ?hr ?_; (case ho => rfl); (case hg => rfl); (case hn => rfl); (case hr => first | (go_simp; done) | (go_simp; rfl)); intro w420_ hw_; have HS421_ : Aside0 (St w w420_ ((blkA go #[.slice Ao l0_3.length cap] 125) :: (rowA w.heap.size k129 129 (.slice Ao l0_3.length cap) (List.replicate l0_3.length ⟨-1, -1⟩)) :: (blkA gn #[.int .i64 (l0_3.length : Int)] 3) :: (blkA gt #[.int .i64 a0_0, .int .i64 a0_1, .int .i64 a0_2, .slice A0_3 l0_3.length c0_3, .slice A0_4 l0_4.length c0_4, .int .i64 a0_5, .int .i64 a0_6, .slice A0_7 l0_7.length c0_7, .slice A0_8 l0_8.length c0_8, .int .i64 a0_9, .int .i64 a0_10, .slice A0_11 l0_11.length c0_11, .slice A0_12 l0_12.length c0_12] 123) :: [])) := ⟨by rw [hw_]; exact (HS417_.out.put 0 rfl 0 (.slice Ao l0_3.length cap) rfl)⟩; have c422_ : w420_.cell? ⟨gt, 3, none⟩ = some (.slice A0_3 l0_3.length c0_3) := (HS421_.out.cell 3 rfl 3).trans rfl; clear hw_ c418_ f419_ HS417_))
  clear c422_
  go_loopw [28] (fun v28 wr => ∃ (i : Int) (o : List S129), v28 = .int .i64 i ∧ Aside0 (0 ≤ i ∧ i ≤ l0_3.length) ∧ Aside0 (o.length = l0_3.length ∧ (spanIns k a0_0 a0_1 a0_2 l0_3 l0_4 a0_5 a0_6 l0_7 l0_8 a0_9 a0_10 l0_11 l0_12 (l0_3.length - i.toNat) i o).bind (spansFin k a0_0 a0_1 a0_2 l0_3 l0_4 a0_5 a0_6 l0_7 l0_8 a0_9 a0_10 l0_11 l0_12) = some (r1, r2)) ∧ Aside0 (St w wr ((blkA go #[.slice Ao l0_3.length cap] 125) :: (rowA w.heap.size k129 129 (.slice Ao l0_3.length cap) o) :: (blkA gn #[.int .i64 (l0_3.length : Int)] 3) :: (blkA gt #[.int .i64 a0_0, .int .i64 a0_1, .int .i64 a0_2, .slice A0_3 l0_3.length c0_3, .slice A0_4 l0_4.length c0_4, .int .i64 a0_5, .int .i64 a0_6, .slice A0_7 l0_7.length c0_7, .slice A0_8 l0_8.length c0_8, .int .i64 a0_9, .int .i64 a0_10, .slice A0_11 l0_11.length c0_11, .slice A0_12 l0_12.length c0_12] 123) :: []))) (fun v28 _ => l0_3.length - (intOf v28).toNat)
  case atStart => exact ⟨0, _, rfl, ⟨by omega⟩, ⟨List.length_replicate, HH.out⟩, HS421_⟩
  case round =>
    clear HH HS421_
    obtain ⟨i, o, rfl, Hi, HX, HSr⟩ := hrel
    have hi0 : 0 ≤ i := Hi.out.1
    by_cases hlt : i < (l0_3.length : Int)
    · have ht : decide (i < (l0_3.length : Int)) = true := decide_eq_true hlt
      have HW := Aside0.mk (show wrap64 (i + 1) = i + 1 by have := HLEN.out; unfold wrap64; omega)
      have hx := HX.out.2
      have HOL := Aside0.mk HX.out.1
      rw [show l0_3.length - i.toNat = (l0_3.length - (i + 1).toNat) + 1 by omega, spanIns] at hx
      obtain ⟨oe, hu1, hfin⟩ := Option.bind_eq_some_iff.1 hx
      obtain ⟨q, hq, hu2⟩ := Option.bind_eq_some_iff.1 hu1
      obtain ⟨o1, ho1, hu3⟩ := Option.bind_eq_some_iff.1 hu2
      have HQ := Aside0.mk hq
      have HA1 := Aside0.mk ho1
      have HOL1 := Aside0.mk ((askS.len ho1).trans HOL.out)
      have HF := Aside0.mk hfin
      obtain ⟨adi, e, hx0_, hx1_, hx2_, hx3_, hx4_, hx5_, hx6_, hx7_⟩ := at_T181 HR3.out i hi0 hlt
      cases e
      have hx0 := hx0_
      clear hx0_
      have hx1 := hx1_
      clear hx1_
      have hx2 := hx2_
      clear hx2_
      have hx3 := hx3_
      clear hx3_
      have hx4 := hx4_
      clear hx4_
      have hx5 := hx5_
      clear hx5_
      have hx6 := hx6_
      clear hx6_
      have hx7 := hx7_
      clear hx7_
      generalize rd_T181 l0_3 i = x at *
      clear hx hu1 hu2 hq ho1 hfin HX
      replace hx0 := (HSr.out.below.cell (World.block_lt_of_cell? w _ hx0)).trans hx0
      replace hx1 := (HSr.out.below.cell (World.block_lt_of_cell? w _ hx1)).trans hx1
      replace hx2 := (HSr.out.below.cell (World.block_lt_of_cell? w _ hx2)).trans hx2
      replace hx3 := (HSr.out.below.cell (World.block_lt_of_cell? w _ hx3)).trans hx3
      replace hx4 := (HSr.out.below.cell (World.block_lt_of_cell? w _ hx4)).trans hx4
      replace hx5 := (HSr.out.below.cell (World.block_lt_of_cell? w _ hx5)).trans hx5
      replace hx6 := (HSr.out.below.cell (World.block_lt_of_cell? w _ hx6)).trans hx6
      replace hx7 := (HSr.out.below.cell (World.block_lt_of_cell? w _ hx7)).trans hx7
      by_cases hc : 0 ≤ x.f5
      · rw [if_pos hc] at hu3
        split at hu3
        case isFalse => cases hu3
        rename_i hex
        obtain ⟨vx, hvx, hu4⟩ := Option.bind_eq_some_iff.1 hu3
        obtain ⟨o2, ho2, hu5⟩ := Option.bind_eq_some_iff.1 hu4
        have HV := Aside0.mk hvx
        have HA2 := Aside0.mk ho2
        have HXN := Aside0.mk (And.intro ((askS.len ho2).trans HOL1.out) (show (spanIns k a0_0 a0_1 a0_2 l0_3 l0_4 a0_5 a0_6 l0_7 l0_8 a0_9 a0_10 l0_11 l0_12 (l0_3.length - (i + 1).toNat) (i + 1) o2).bind (spansFin k a0_0 a0_1 a0_2 l0_3 l0_4 a0_5 a0_6 l0_7 l0_8 a0_9 a0_10 l0_11 l0_12) = some (r1, r2) by rw [hu5]; exact HF.out))
        obtain ⟨ady, Y2, d2, Y3, d3, e, hy0, hy1, hy2, hy3, hd2, hC2, hd3, hC3⟩ := at_T31 HR4.out x.f5 hc hex
        cases e
        generalize rd_T31 l0_4 x.f5 = y at *
        have HY2 := Aside0.mk hC2
        have HY3 := Aside0.mk hC3
        have HD2 := Aside0.mk hd2
        have HD3 := Aside0.mk hd3
        have hb1 : decide (x.f5 ≥ 0) = true := decide_eq_true hc
        have hb2 : decide (0 ≤ x.f5) = true := decide_eq_true hc
        clear hu3 hvx hu4 ho2 hu5 hC2 hC3 hd2 hd3
        go_wp2_with (first | ((with_reducible refine gate_dst (N := 9) rfl ?_); (try (refine gate_guard (by rfl) ?_; dsimp only)); refine box_event ?hg (N := 9) ?hd (cs := #[.int .i64 0, .int .i64 0, .int .i64 0, .int .i64 0, .int .i64 0, .int .i64 0, .int .i64 0, .int .i64 0]) (t := 181) ?hr ?_; (case hd => rfl); (case hg => rfl); (case hr => first | (go_simp; done) | (go_simp; rfl)); intro gx hg_ w456_ hx_ hb_; have HS457_ := Aside0.mk (HSr.out.box hg_ hx_ hb_); have c458_ : w456_.cell? ⟨gx, 0, none⟩ = some (.int .i64 0) := (HS457_.out.cell 0 rfl 0).trans rfl; have c459_ : w456_.cell? ⟨gx, 1, none⟩ = some (.int .i64 0) := (HS457_.out.cell 0 rfl 1).trans rfl; have c460_ : w456_.cell? ⟨gx, 2, none⟩ = some (.int .i64 0) := (HS457_.out.cell 0 rfl 2).trans rfl; have c461_ : w456_.cell? ⟨gx, 3, none⟩ = some (.int .i64 0) := (HS457_.out.cell 0 rfl 3).trans rfl; have c462_ : w456_.cell? ⟨gx, 4, none⟩ = some (.int .i64 0) := (HS457_.out.cell 0 rfl 4).trans rfl; have c463_ : w456_.cell? ⟨gx, 5, none⟩ = some (.int .i64 0) := (HS457_.out.cell 0 rfl 5).trans rfl; have c464_ : w456_.cell? ⟨gx, 6, none⟩ = some (.int .i64 0) := (HS457_.out.cell 0 rfl 6).trans rfl; have c465_ : w456_.cell? ⟨gx, 7, none⟩ = some (.int .i64 0) := (HS457_.out.cell 0 rfl 7).trans rfl; have f466_ : w456_.frozen? ⟨gx, 0, none⟩ = false := HS457_.out.frz 0 rfl 0; have f467_ : w456_.frozen? ⟨gx, 1, none⟩ = false := HS457_.out.frz 0 rfl 1; have f468_ : w456_.frozen? ⟨gx, 2, none⟩ = false := HS457_.out.frz 0 rfl 2; have f469_ : w456_.frozen? ⟨gx, 3, none⟩ = false := HS457_.out.frz 0 rfl 3; have f470_ : w456_.frozen? ⟨gx, 4, none⟩ = false := HS457_.out.frz 0 rfl 4; have f471_ : w456_.frozen? ⟨gx, 5, none⟩ = false := HS457_.out.frz 0 rfl 5; have f472_ : w456_.frozen? ⟨gx, 6, none⟩ = false := HS457_.out.frz 0 rfl 6; have f473_ : w456_.frozen? ⟨gx, 7, none⟩ = false := HS457_.out.frz 0 rfl 7; have hbx_ := hb_; replace hx0 := (hbx_.cell (World.block_lt_of_cell? _ _ hx0)).trans hx0; replace hx1 := (hbx_.cell (World.block_lt_of_cell? _ _ hx1)).trans hx1; replace hx2 := (hbx_.cell (World.block_lt_of_cell? _ _ hx2)).trans hx2; replace hx3 := (hbx_.cell (World.block_lt_of_cell? _ _ hx3)).trans hx3; replace hx4 := (hbx_.cell (World.block_lt_of_cell? _ _ hx4)).trans hx4; replace hx5 := (hbx_.cell (World.block_lt_of_cell? _ _ hx5)).trans hx5; replace hx6 := (hbx_.cell (World.block_lt_of_cell? _ _ hx6)).trans hx6; replace hx7 := (hbx_.cell (World.block_lt_of_cell? _ _ hx7)).trans hx7; clear hbx_; clear hg_ hx_ hb_  HSr) | ((with_reducible refine gate_store (t := 181) (p := 9) rfl ?_); refine store_event (t := 181) (p := 9) (v := .tmp 32) (w1 := ((((((((w456_.setCell ⟨gx, 0, none⟩ (.int .i64 x.f0)).setCell ⟨gx, 1, none⟩ (.int .i64 x.f1)).setCell ⟨gx, 2, none⟩ (.int .i64 x.f2)).setCell ⟨gx, 3, none⟩ (.int .i64 x.f3)).setCell ⟨gx, 4, none⟩ (.int .i64 x.f4)).setCell ⟨gx, 5, none⟩ (.int .i64 x.f5)).setCell ⟨gx, 6, none⟩ (.int .i64 x.f6.f0)).setCell ⟨gx, 7, none⟩ (.int .i64 x.f6.f1))) ?hg ?ho ?hn ?hr ?_; (case ho => rfl); (case hg => rfl); (case hn => rfl); (case hr => first | (go_simp; done) | (go_simp; rfl)); intro w474_ hw_; have HS475_ : Aside0 (St w w474_ ((blkA gx #[.int .i64 x.f0, .int .i64 x.f1, .int .i64 x.f2, .int .i64 x.f3, .int .i64 x.f4, .int .i64 x.f5, .int .i64 x.f6.f0, .int .i64 x.f6.f1] 181) :: (blkA go #[.slice Ao l0_3.length cap] 125) :: (rowA w.heap.size k129 129 (.slice Ao l0_3.length cap) o) :: (blkA gn #[.int .i64 (l0_3.length : Int)] 3) :: (blkA gt #[.int .i64 a0_0, .int .i64 a0_1, .int .i64 a0_2, .slice (some adi) l0_3.length c0_3, .slice (some ady) l0_4.length c0_4, .int .i64 a0_5, .int .i64 a0_6, .slice A0_7 l0_7.length c0_7, .slice A0_8 l0_8.length c0_8, .int .i64 a0_9, .int .i64 a0_10, .slice A0_11 l0_11.length c0_11, .slice A0_12 l0_12.length c0_12] 123) :: [])) := ⟨by rw [hw_]; exact ((((((((HS457_.out.put 0 rfl 0 (.int .i64 x.f0) rfl).put 0 rfl 1 (.int .i64 x.f1) rfl).put 0 rfl 2 (.int .i64 x.f2) rfl).put 0 rfl 3 (.int .i64 x.f3) rfl).put 0 rfl 4 (.int .i64 x.f4) rfl).put 0 rfl 5 (.int .i64 x.f5) rfl).put 0 rfl 6 (.int .i64 x.f6.f0) rfl).put 0 rfl 7 (.int .i64 x.f6.f1) rfl)⟩; have c476_ : w474_.cell? ⟨gx, 0, none⟩ = some (.int .i64 x.f0) := (HS475_.out.cell 0 rfl 0).trans rfl; have c477_ : w474_.cell? ⟨gx, 1, none⟩ = some (.int .i64 x.f1) := (HS475_.out.cell 0 rfl 1).trans rfl; have c478_ : w474_.cell? ⟨gx, 2, none⟩ = some (.int .i64 x.f2) := (HS475_.out.cell 0 rfl 2).trans rfl; have c479_ : w474_.cell? ⟨gx, 3, none⟩ = some (.int .i64 x.f3) := (HS475_.out.cell 0 rfl 3).trans rfl; have c480_ : w474_.cell? ⟨gx, 4, none⟩ = some (.int .i64 x.f4) := (HS475_.out.cell 0 rfl 4).trans rfl; have c481_ : w474_.cell? ⟨gx, 5, none⟩ = some (.int .i64 x.f5) := (HS475_.out.cell 0 rfl 5).trans rfl; have c482_ : w474_.cell? ⟨gx, 6, none⟩ = some (.int .i64 x.f6.f0) := (HS475_.out.cell 0 rfl 6).trans rfl; have c483_ : w474_.cell? ⟨gx, 7, none⟩ = some (.int .i64 x.f6.f1) := (HS475_.out.cell 0 rfl 7).trans rfl; clear hw_ c458_ c459_ c460_ c461_ c462_ c463_ c464_ c465_ f466_ f467_ f468_ f469_ f470_ f471_ f472_ f473_ HS457_ hx0 hx1 hx2 hx3 hx4 hx5 hx6 hx7) | (go_at_call 120; refine (ir_Asks.calls x.f0 x.f1 x.f2 x.f3 x.f4 x.f5 x.f6.f0 x.f6.f1 q _ HQ.out).mono ?_; rintro e_ w484_ ⟨v4, rfl, hr4, hb4⟩; obtain ⟨A4, c4, rfl⟩ := Kd.R_slice hr4; have HS485_ := Aside0.mk (HS475_.out.mrow hb4 hr4); clear hr4 hb4; clear c476_ c477_ c478_ c479_ c480_ c481_ c482_ c483_ HS475_) | (go_at_call 119; refine (ask_walk w ((blkA gx #[.int .i64 x.f0, .int .i64 x.f1, .int .i64 x.f2, .int .i64 x.f3, .int .i64 x.f4, .int .i64 x.f5, .int .i64 x.f6.f0, .int .i64 x.f6.f1] 181) :: []) go gn gt i (l0_3.length : Int) a0_0 a0_1 a0_2 (some adi) c0_3 l0_3 (some ady) c0_4 l0_4 a0_5 a0_6 A0_7 c0_7 l0_7 A0_8 c0_8 l0_8 a0_9 a0_10 A0_11 c0_11 l0_11 A0_12 c0_12 l0_12 Ao l0_3.length cap o A4 c4 q o1 _ ((((((HS485_.out).front 5 rfl).front 5 rfl).front 2 rfl).front 5 rfl).front 5 rfl) HOL.out HA1.out).mono ?_; rintro e_ w486_ ⟨rfl, hs_⟩; have HS487_ := Aside0.mk hs_; have c488_ : w486_.cell? ⟨gx, 5, none⟩ = some (.int .i64 x.f5) := (HS487_.out.cell 5 rfl 5).trans rfl; have c489_ : w486_.cell? ⟨gt, 4, none⟩ = some (.slice (some ady) l0_4.length c0_4) := (HS487_.out.cell 4 rfl 4).trans rfl; clear hs_  HS485_; have hz0_ := ((HS487_.out.below).cell (World.block_lt_of_cell? w _ hy0)).trans hy0; have hz1_ := ((HS487_.out.below).cell (World.block_lt_of_cell? w _ hy1)).trans hy1; have hz2_ := ((HS487_.out.below).cell (World.block_lt_of_cell? w _ hy2)).trans hy2; have hz3_ := ((HS487_.out.below).cell (World.block_lt_of_cell? w _ hy3)).trans hy3) | (go_at_call 121; refine (live_Values.calls k y.f0 y.f1 Y2 d2 y.f2 Y3 d3 y.f3 vx _ (Kd.C_below HY2.out HS487_.out.below) HD2.out (Kd.C_below HY3.out HS487_.out.below) HD3.out HV.out).mono ?_; rintro e_ w490_ ⟨v6, rfl, hr6, hb6⟩; obtain ⟨A6, c6, rfl⟩ := Kd.R_slice hr6; have HS491_ := Aside0.mk (HS487_.out.mrow hb6 hr6); clear hr6 hb6 hz0_ hz1_ hz2_ hz3_; clear c488_ c489_ HS487_) | (go_at_call 119; refine (ask_walk w ((rowA w.heap.size (Kd.int .i64) 3 (.slice A4 q.length c4) q) :: (blkA gx #[.int .i64 x.f0, .int .i64 x.f1, .int .i64 x.f2, .int .i64 x.f3, .int .i64 x.f4, .int .i64 x.f5, .int .i64 x.f6.f0, .int .i64 x.f6.f1] 181) :: []) go gn gt i (l0_3.length : Int) a0_0 a0_1 a0_2 (some adi) c0_3 l0_3 (some ady) c0_4 l0_4 a0_5 a0_6 A0_7 c0_7 l0_7 A0_8 c0_8 l0_8 a0_9 a0_10 A0_11 c0_11 l0_11 A0_12 c0_12 l0_12 Ao l0_3.length cap o1 A6 c6 vx o2 _ ((((((HS491_.out).front 5 rfl).front 5 rfl).front 2 rfl).front 4 rfl).front 4 rfl) HOL1.out HA2.out).mono ?_; rintro e_ w492_ ⟨rfl, hs_⟩; have HS493_ := Aside0.mk hs_; clear hs_  HS491_))
        go_roundw
        case rel => exact ⟨i + 1, o2, by first | rw [HW.out] | rfl, ⟨by omega⟩, HXN, ⟨(((((((HS493_.out).drop 2 rfl).drop 4 rfl).drop 4 rfl).front 3 rfl).front 3 rfl).front 3 rfl).front 3 rfl⟩⟩
        case measure => simp only [intOf]; (try rw [HW.out]); omega
      · rw [if_neg hc] at hu3
        have HXN := Aside0.mk (And.intro HOL1.out (show (spanIns k a0_0 a0_1 a0_2 l0_3 l0_4 a0_5 a0_6 l0_7 l0_8 a0_9 a0_10 l0_11 l0_12 (l0_3.length - (i + 1).toNat) (i + 1) o1).bind (spansFin k a0_0 a0_1 a0_2 l0_3 l0_4 a0_5 a0_6 l0_7 l0_8 a0_9 a0_10 l0_11 l0_12) = some (r1, r2) by rw [hu3]; exact HF.out))
        have hb1 : decide (x.f5 ≥ 0) = false := decide_eq_false hc
        have hb2 : decide (0 ≤ x.f5) = false := decide_eq_false hc
        clear hu3 hc
        go_wp2_with (first | ((with_reducible refine gate_dst (N := 9) rfl ?_); (try (refine gate_guard (by rfl) ?_; dsimp only)); refine box_event ?hg (N := 9) ?hd (cs := #[.int .i64 0, .int .i64 0, .int .i64 0, .int .i64 0, .int .i64 0, .int .i64 0, .int .i64 0, .int .i64 0]) (t := 181) ?hr ?_; (case hd => rfl); (case hg => rfl); (case hr => first | (go_simp; done) | (go_simp; rfl)); intro gx hg_ w423_ hx_ hb_; have HS424_ := Aside0.mk (HSr.out.box hg_ hx_ hb_); have c425_ : w423_.cell? ⟨gx, 0, none⟩ = some (.int .i64 0) := (HS424_.out.cell 0 rfl 0).trans rfl; have c426_ : w423_.cell? ⟨gx, 1, none⟩ = some (.int .i64 0) := (HS424_.out.cell 0 rfl 1).trans rfl; have c427_ : w423_.cell? ⟨gx, 2, none⟩ = some (.int .i64 0) := (HS424_.out.cell 0 rfl 2).trans rfl; have c428_ : w423_.cell? ⟨gx, 3, none⟩ = some (.int .i64 0) := (HS424_.out.cell 0 rfl 3).trans rfl; have c429_ : w423_.cell? ⟨gx, 4, none⟩ = some (.int .i64 0) := (HS424_.out.cell 0 rfl 4).trans rfl; have c430_ : w423_.cell? ⟨gx, 5, none⟩ = some (.int .i64 0) := (HS424_.out.cell 0 rfl 5).trans rfl; have c431_ : w423_.cell? ⟨gx, 6, none⟩ = some (.int .i64 0) := (HS424_.out.cell 0 rfl 6).trans rfl; have c432_ : w423_.cell? ⟨gx, 7, none⟩ = some (.int .i64 0) := (HS424_.out.cell 0 rfl 7).trans rfl; have f433_ : w423_.frozen? ⟨gx, 0, none⟩ = false := HS424_.out.frz 0 rfl 0; have f434_ : w423_.frozen? ⟨gx, 1, none⟩ = false := HS424_.out.frz 0 rfl 1; have f435_ : w423_.frozen? ⟨gx, 2, none⟩ = false := HS424_.out.frz 0 rfl 2; have f436_ : w423_.frozen? ⟨gx, 3, none⟩ = false := HS424_.out.frz 0 rfl 3; have f437_ : w423_.frozen? ⟨gx, 4, none⟩ = false := HS424_.out.frz 0 rfl 4; have f438_ : w423_.frozen? ⟨gx, 5, none⟩ = false := HS424_.out.frz 0 rfl 5; have f439_ : w423_.frozen? ⟨gx, 6, none⟩ = false := HS424_.out.frz 0 rfl 6; have f440_ : w423_.frozen? ⟨gx, 7, none⟩ = false := HS424_.out.frz 0 rfl 7; have hbx_ := hb_; replace hx0 := (hbx_.cell (World.block_lt_of_cell? _ _ hx0)).trans hx0; replace hx1 := (hbx_.cell (World.block_lt_of_cell? _ _ hx1)).trans hx1; replace hx2 := (hbx_.cell (World.block_lt_of_cell? _ _ hx2)).trans hx2; replace hx3 := (hbx_.cell (World.block_lt_of_cell? _ _ hx3)).trans hx3; replace hx4 := (hbx_.cell (World.block_lt_of_cell? _ _ hx4)).trans hx4; replace hx5 := (hbx_.cell (World.block_lt_of_cell? _ _ hx5)).trans hx5; replace hx6 := (hbx_.cell (World.block_lt_of_cell? _ _ hx6)).trans hx6; replace hx7 := (hbx_.cell (World.block_lt_of_cell? _ _ hx7)).trans hx7; clear hbx_; clear hg_ hx_ hb_  HSr) | ((with_reducible refine gate_store (t := 181) (p := 9) rfl ?_); refine store_event (t := 181) (p := 9) (v := .tmp 32) (w1 := ((((((((w423_.setCell ⟨gx, 0, none⟩ (.int .i64 x.f0)).setCell ⟨gx, 1, none⟩ (.int .i64 x.f1)).setCell ⟨gx, 2, none⟩ (.int .i64 x.f2)).setCell ⟨gx, 3, none⟩ (.int .i64 x.f3)).setCell ⟨gx, 4, none⟩ (.int .i64 x.f4)).setCell ⟨gx, 5, none⟩ (.int .i64 x.f5)).setCell ⟨gx, 6, none⟩ (.int .i64 x.f6.f0)).setCell ⟨gx, 7, none⟩ (.int .i64 x.f6.f1))) ?hg ?ho ?hn ?hr ?_; (case ho => rfl); (case hg => rfl); (case hn => rfl); (case hr => first | (go_simp; done) | (go_simp; rfl)); intro w441_ hw_; have HS442_ : Aside0 (St w w441_ ((blkA gx #[.int .i64 x.f0, .int .i64 x.f1, .int .i64 x.f2, .int .i64 x.f3, .int .i64 x.f4, .int .i64 x.f5, .int .i64 x.f6.f0, .int .i64 x.f6.f1] 181) :: (blkA go #[.slice Ao l0_3.length cap] 125) :: (rowA w.heap.size k129 129 (.slice Ao l0_3.length cap) o) :: (blkA gn #[.int .i64 (l0_3.length : Int)] 3) :: (blkA gt #[.int .i64 a0_0, .int .i64 a0_1, .int .i64 a0_2, .slice (some adi) l0_3.length c0_3, .slice A0_4 l0_4.length c0_4, .int .i64 a0_5, .int .i64 a0_6, .slice A0_7 l0_7.length c0_7, .slice A0_8 l0_8.length c0_8, .int .i64 a0_9, .int .i64 a0_10, .slice A0_11 l0_11.length c0_11, .slice A0_12 l0_12.length c0_12] 123) :: [])) := ⟨by rw [hw_]; exact ((((((((HS424_.out.put 0 rfl 0 (.int .i64 x.f0) rfl).put 0 rfl 1 (.int .i64 x.f1) rfl).put 0 rfl 2 (.int .i64 x.f2) rfl).put 0 rfl 3 (.int .i64 x.f3) rfl).put 0 rfl 4 (.int .i64 x.f4) rfl).put 0 rfl 5 (.int .i64 x.f5) rfl).put 0 rfl 6 (.int .i64 x.f6.f0) rfl).put 0 rfl 7 (.int .i64 x.f6.f1) rfl)⟩; have c443_ : w441_.cell? ⟨gx, 0, none⟩ = some (.int .i64 x.f0) := (HS442_.out.cell 0 rfl 0).trans rfl; have c444_ : w441_.cell? ⟨gx, 1, none⟩ = some (.int .i64 x.f1) := (HS442_.out.cell 0 rfl 1).trans rfl; have c445_ : w441_.cell? ⟨gx, 2, none⟩ = some (.int .i64 x.f2) := (HS442_.out.cell 0 rfl 2).trans rfl; have c446_ : w441_.cell? ⟨gx, 3, none⟩ = some (.int .i64 x.f3) := (HS442_.out.cell 0 rfl 3).trans rfl; have c447_ : w441_.cell? ⟨gx, 4, none⟩ = some (.int .i64 x.f4) := (HS442_.out.cell 0 rfl 4).trans rfl; have c448_ : w441_.cell? ⟨gx, 5, none⟩ = some (.int .i64 x.f5) := (HS442_.out.cell 0 rfl 5).trans rfl; have c449_ : w441_.cell? ⟨gx, 6, none⟩ = some (.int .i64 x.f6.f0) := (HS442_.out.cell 0 rfl 6).trans rfl; have c450_ : w441_.cell? ⟨gx, 7, none⟩ = some (.int .i64 x.f6.f1) := (HS442_.out.cell 0 rfl 7).trans rfl; clear hw_ c425_ c426_ c427_ c428_ c429_ c430_ c431_ c432_ f433_ f434_ f435_ f436_ f437_ f438_ f439_ f440_ HS424_ hx0 hx1 hx2 hx3 hx4 hx5 hx6 hx7) | (go_at_call 120; refine (ir_Asks.calls x.f0 x.f1 x.f2 x.f3 x.f4 x.f5 x.f6.f0 x.f6.f1 q _ HQ.out).mono ?_; rintro e_ w451_ ⟨v4, rfl, hr4, hb4⟩; obtain ⟨A4, c4, rfl⟩ := Kd.R_slice hr4; have HS452_ := Aside0.mk (HS442_.out.mrow hb4 hr4); clear hr4 hb4; clear c443_ c444_ c445_ c446_ c447_ c448_ c449_ c450_ HS442_) | (go_at_call 119; refine (ask_walk w ((blkA gx #[.int .i64 x.f0, .int .i64 x.f1, .int .i64 x.f2, .int .i64 x.f3, .int .i64 x.f4, .int .i64 x.f5, .int .i64 x.f6.f0, .int .i64 x.f6.f1] 181) :: []) go gn gt i (l0_3.length : Int) a0_0 a0_1 a0_2 (some adi) c0_3 l0_3 A0_4 c0_4 l0_4 a0_5 a0_6 A0_7 c0_7 l0_7 A0_8 c0_8 l0_8 a0_9 a0_10 A0_11 c0_11 l0_11 A0_12 c0_12 l0_12 Ao l0_3.length cap o A4 c4 q o1 _ ((((((HS452_.out).front 5 rfl).front 5 rfl).front 2 rfl).front 5 rfl).front 5 rfl) HOL.out HA1.out).mono ?_; rintro e_ w453_ ⟨rfl, hs_⟩; have HS454_ := Aside0.mk hs_; have c455_ : w453_.cell? ⟨gx, 5, none⟩ = some (.int .i64 x.f5) := (HS454_.out.cell 5 rfl 5).trans rfl; clear hs_  HS452_))
        go_roundw
        case rel => exact ⟨i + 1, o1, by first | rw [HW.out] | rfl, ⟨by omega⟩, HXN, ⟨((((((HS454_.out).drop 2 rfl).drop 4 rfl).front 3 rfl).front 3 rfl).front 3 rfl).front 3 rfl⟩⟩
        case measure => simp only [intOf]; (try rw [HW.out]); omega
    · have ht : decide (i < (l0_3.length : Int)) = false := decide_eq_false hlt
      have hx := HX.out.2
      have HOL := Aside0.mk HX.out.1
      rw [show l0_3.length - i.toNat = 0 by omega, spanIns, Option.bind_some, spansFin] at hx
      obtain ⟨vb, hvb, hx2⟩ := Option.bind_eq_some_iff.1 hx
      obtain ⟨o2, ho2, hx3⟩ := Option.bind_eq_some_iff.1 hx2
      have HVB := Aside0.mk hvb
      have HA2 := Aside0.mk ho2
      have HOL2 := Aside0.mk ((askS.len ho2).trans HOL.out)
      have HSd := Aside0.mk HSr.out.drew
      have HTd := Aside0.mk (TraceAt.below a0_0 a0_1 a0_2 A0_3 c0_3 l0_3 A0_4 c0_4 l0_4 a0_5 a0_6 A0_7 c0_7 l0_7 A0_8 c0_8 l0_8 a0_9 a0_10 A0_11 c0_11 l0_11 A0_12 c0_12 l0_12 HT.out HSd.out.below)
      have hnw0 : wr.cell? ⟨gn, 0, none⟩ = some (.int .i64 (l0_3.length : Int)) := (HSr.out.cell 2 rfl 0).trans rfl
      have htw90 : wr.cell? ⟨gt, 9, none⟩ = some (.int .i64 a0_9) := (HSr.out.cell 3 rfl 9).trans rfl
      have htw100 : wr.cell? ⟨gt, 10, none⟩ = some (.int .i64 a0_10) := (HSr.out.cell 3 rfl 10).trans rfl
      have htw110 : wr.cell? ⟨gt, 11, none⟩ = some (.slice A0_11 l0_11.length c0_11) := (HSr.out.cell 3 rfl 11).trans rfl
      have htw120 : wr.cell? ⟨gt, 12, none⟩ = some (.slice A0_12 l0_12.length c0_12) := (HSr.out.cell 3 rfl 12).trans rfl
      have hnw : wr.drew.cell? ⟨gn, 0, none⟩ = some (.int .i64 (l0_3.length : Int)) := (HSd.out.cell 2 rfl 0).trans rfl
      have htw9 : wr.drew.cell? ⟨gt, 9, none⟩ = some (.int .i64 a0_9) := (HSd.out.cell 3 rfl 9).trans rfl
      have htw10 : wr.drew.cell? ⟨gt, 10, none⟩ = some (.int .i64 a0_10) := (HSd.out.cell 3 rfl 10).trans rfl
      have htw11 : wr.drew.cell? ⟨gt, 11, none⟩ = some (.slice A0_11 l0_11.length c0_11) := (HSd.out.cell 3 rfl 11).trans rfl
      have htw12 : wr.drew.cell? ⟨gt, 12, none⟩ = some (.slice A0_12 l0_12.length c0_12) := (HSd.out.cell 3 rfl 12).trans rfl
      clear hx hx2 hvb ho2 HX
      have HF := Aside0.mk hx3
      clear hx3
      go_wp2
      go_region_held3 (fun w' => w'.cell? ⟨gn, 0, none⟩ = some (.int .i64 (l0_3.length : Int)) ∧ w'.cell? ⟨gt, 9, none⟩ = some (.int .i64 a0_9) ∧ w'.cell? ⟨gt, 10, none⟩ = some (.int .i64 a0_10) ∧ w'.cell? ⟨gt, 11, none⟩ = some (.slice A0_11 l0_11.length c0_11) ∧ w'.cell? ⟨gt, 12, none⟩ = some (.slice A0_12 l0_12.length c0_12)) (first | go_keep | exact ⟨hnwg, htw9g, htw10g, htw11g, htw12g⟩ | exact ⟨hnwe, htw9e, htw10e, htw11e, htw12e⟩) ((first | (go_at_call 121; have HTV := HTd.out; unfold TraceAt at HTV; with_reducible refine (live_Values.calls k a0_9 a0_10 A0_11 c0_11 l0_11 A0_12 c0_12 l0_12 vb _ HTV.2.2.2.2.1.1 HTV.2.2.2.2.1.2 HTV.2.2.2.2.2.1 HTV.2.2.2.2.2.2 HVB.out).mono ?_; rintro e w4 ⟨v4, rfl, hr4, hb4⟩; obtain ⟨A4, c4, rfl⟩ := Kd.R_slice hr4; have HS4 := Aside0.mk (HSd.out.mrow hb4 hr4); have hnwe := (hb4.cell (World.block_lt_of_cell? _ _ hnw)).trans hnw; have htw9e := (hb4.cell (World.block_lt_of_cell? _ _ htw9)).trans htw9; have htw10e := (hb4.cell (World.block_lt_of_cell? _ _ htw10)).trans htw10; have htw11e := (hb4.cell (World.block_lt_of_cell? _ _ htw11)).trans htw11; have htw12e := (hb4.cell (World.block_lt_of_cell? _ _ htw12)).trans htw12; clear hr4 hb4 HTV) | (go_at_call 119; (with_reducible refine (ask_walk w [] go gn gt (l0_3.length : Int) (l0_3.length : Int) a0_0 a0_1 a0_2 A0_3 c0_3 l0_3 A0_4 c0_4 l0_4 a0_5 a0_6 A0_7 c0_7 l0_7 A0_8 c0_8 l0_8 a0_9 a0_10 A0_11 c0_11 l0_11 A0_12 c0_12 l0_12 Ao l0_3.length cap o A4 c4 vb o2 _ ?s1 HOL.out HA2.out).mono ?_); (case s1 => exact ((((((HS4.out).front 4 rfl).front 4 rfl).front 2 rfl).front 4 rfl).front 4 rfl)); rintro e w6 ⟨rfl, hs6⟩; have HS6 := Aside0.mk hs6; have hnwg := (HS6.out.cell 3 rfl 0).trans (show _ = some (.int .i64 (l0_3.length : Int)) from rfl); have htw9g := (HS6.out.cell 4 rfl 9).trans (show _ = some (.int .i64 a0_9) from rfl); have htw10g := (HS6.out.cell 4 rfl 10).trans (show _ = some (.int .i64 a0_10) from rfl); have htw11g := (HS6.out.cell 4 rfl 11).trans (show _ = some (.slice A0_11 l0_11.length c0_11) from rfl); have htw12g := (HS6.out.cell 4 rfl 12).trans (show _ = some (.slice A0_12 l0_12.length c0_12) from rfl); clear hs6)))
      all_goals
        have hf := HF.out
        have c494_ : w6.cell? ⟨gt, 2, none⟩ = some (.int .i64 a0_2) := (HS6.out.cell 4 rfl 2).trans rfl
        have c495_ : w6.cell? ⟨go, 0, none⟩ = some (.slice Ao l0_3.length cap) := (HS6.out.cell 0 rfl 0).trans rfl
        have c496_ : w6.cell? ⟨gt, 5, none⟩ = some (.int .i64 a0_5) := (HS6.out.cell 4 rfl 5).trans rfl
        have c497_ : w6.cell? ⟨gt, 6, none⟩ = some (.int .i64 a0_6) := (HS6.out.cell 4 rfl 6).trans rfl
        have c498_ : w6.cell? ⟨gt, 7, none⟩ = some (.slice A0_7 l0_7.length c0_7) := (HS6.out.cell 4 rfl 7).trans rfl
        have c499_ : w6.cell? ⟨gt, 8, none⟩ = some (.slice A0_8 l0_8.length c0_8) := (HS6.out.cell 4 rfl 8).trans rfl
        by_cases hc : 0 < a0_2
        · rw [if_pos hc] at hf
          obtain ⟨vt, hvt, hf2⟩ := Option.bind_eq_some_iff.1 hf
          obtain ⟨o3, ho3, hf3⟩ := Option.bind_eq_some_iff.1 hf2
          simp only [Option.some.injEq, Prod.mk.injEq] at hf3
          obtain ⟨rfl, rfl⟩ := hf3
          have HVT := Aside0.mk hvt
          have HA3 := Aside0.mk ho3
          have hb1 : decide (a0_2 > 0) = true := decide_eq_true hc
          have hb2 : decide (0 < a0_2) = true := decide_eq_true hc
          clear hf hvt hf2 ho3 hc
          go_wp2_with (first | (go_at_call 121; have HTV := TraceAt.below a0_0 a0_1 a0_2 A0_3 c0_3 l0_3 A0_4 c0_4 l0_4 a0_5 a0_6 A0_7 c0_7 l0_7 A0_8 c0_8 l0_8 a0_9 a0_10 A0_11 c0_11 l0_11 A0_12 c0_12 l0_12 HT.out HS6.out.below; unfold TraceAt at HTV; refine (live_Values.calls k a0_5 a0_6 A0_7 c0_7 l0_7 A0_8 c0_8 l0_8 vt _ HTV.2.2.1.1 HTV.2.2.1.2 HTV.2.2.2.1.1 HTV.2.2.2.1.2 HVT.out).mono ?_; rintro e w8 ⟨v8, rfl, hr8, hb8⟩; obtain ⟨A8, c8, rfl⟩ := Kd.R_slice hr8; have HS8 := Aside0.mk (HS6.out.mrow hb8 hr8); clear hr8 hb8 HTV c494_ c495_ c496_ c497_ c498_ c499_))
          have HLT := Aside0.mk (Kd.C_max (Kd.R_reads' (HS8.out.row 0 rfl)).2.2)
          go_loopw [65] (fun v65 wr => ∃ (j : Int) (o' : List S129), v65 = .int .i64 j ∧ Aside0 (0 ≤ j ∧ j ≤ vt.length) ∧ Aside0 (o'.length = l0_3.length ∧ turnS a0_2 (vt.drop j.toNat) o' = some o3) ∧ Aside0 (St w wr ((blkA go #[.slice Ao l0_3.length cap] 125) :: (rowA w.heap.size k129 129 (.slice Ao l0_3.length cap) o') :: (rowA w.heap.size (Kd.int .i64) 3 (.slice A8 vt.length c8) vt) :: (blkA gn #[.int .i64 (l0_3.length : Int)] 3) :: (blkA gt #[.int .i64 a0_0, .int .i64 a0_1, .int .i64 a0_2, .slice A0_3 l0_3.length c0_3, .slice A0_4 l0_4.length c0_4, .int .i64 a0_5, .int .i64 a0_6, .slice A0_7 l0_7.length c0_7, .slice A0_8 l0_8.length c0_8, .int .i64 a0_9, .int .i64 a0_10, .slice A0_11 l0_11.length c0_11, .slice A0_12 l0_12.length c0_12] 123) :: (rowA w.heap.size (Kd.int .i64) 3 (.slice A4 vb.length c4) vb) :: []))) (fun v65 _ => vt.length - (intOf v65).toNat)
          case atStart => exact ⟨0, o2, rfl, ⟨by omega⟩, ⟨HOL2.out, by simpa using HA3.out⟩, ⟨(((((HS8.out).front 5 rfl).front 5 rfl).front 2 rfl).front 4 rfl).front 4 rfl⟩⟩
          case round =>
            obtain ⟨j, o', rfl, Hj, HX, HSj⟩ := hrel
            have hj0 : 0 ≤ j := Hj.out.1
            by_cases hlj : j < (vt.length : Int)
            · have htj : decide (j < (vt.length : Int)) = true := decide_eq_true hlj
              have HWj := Aside0.mk (show wrap64 (j + 1) = j + 1 by have := HLT.out; unfold wrap64; omega)
              have hd : vt.drop j.toNat = rd vt j :: vt.drop (j + 1).toNat := by
                rw [List.drop_eq_getElem_cons (by omega), show (j + 1).toNat = j.toNat + 1 by omega]
                congr 1
                rw [rd, List.getD_eq_getElem?_getD, List.getElem?_eq_getElem (by omega), Option.getD_some]
              have hx := HX.out.2
              have HOJ := Aside0.mk HX.out.1
              rw [hd, turnS] at hx
              clear hd HX
              split at hx
              case isFalse => cases hx
              rename_i hvr
              obtain ⟨ad, e, hk⟩ := Kd.at_int (Kd.R_reads' (HSj.out.row 2 rfl)).2.2 j hj0 hlj
              cases e
              generalize rd vt j = v at *
              have hv0 := hvr.1
              have hv1 : v < (l0_3.length : Int) := by have := HOJ.out; omega
              have c500_ : wr.cell? ⟨go, 0, none⟩ = some (.slice Ao l0_3.length cap) := (HSj.out.cell 0 rfl 0).trans rfl
              have c501_ : wr.cell? ⟨gt, 2, none⟩ = some (.int .i64 a0_2) := (HSj.out.cell 4 rfl 2).trans rfl
              obtain ⟨g, cp, hv, hgb, hgl, _⟩ := Kd.R_form (HSj.out.row 1 rfl) (by have := HOJ.out; omega)
              obtain ⟨rfl, rfl⟩ : Ao = some ⟨g, 0, none⟩ ∧ cap = cp := by injection hv with a b c; exact ⟨a, c⟩
              obtain ⟨hp0, hp1, _⟩ := out_elem (HSj.out.row 1 rfl) v hv0 hv1
              have HXJ := Aside0.mk (And.intro (show (o'.set v.toNat ⟨v, mx (rd_T129 o' v).f1 a0_2⟩).length = l0_3.length by rw [List.length_set]; exact HOJ.out) hx)
              clear hv hgb hgl hvr hx
              go_wp2
              go_still_tail 13, (by kernel_rfl)
              change wpList _ _ _ _ _ wr.drew
              have HSe := Aside0.mk HSj.out.drew
              generalize wr.drew = w5 at *
              obtain ⟨hq0, hq1, hff⟩ := out_elem (HSe.out.row 1 rfl) v hv0 hv1
              have hf0 : w5.frozen? ⟨g, v.toNat * 2, none⟩ = false := hff 0
              have hf1 : w5.frozen? ⟨g, v.toNat * 2 + 1, none⟩ = false := hff 1
              have HSP := Aside0.mk (HSe.out.elemset 1 rfl v hv0 hv1 (x' := ⟨v, mx (rd_T129 o' v).f1 a0_2⟩) (seg := [.int .i64 v, .int .i64 (mx (rd_T129 o' v).f1 a0_2)]) rfl (k129_mkM _ _ _ _))
              clear hff
              go_wp2_with (first | ((with_reducible refine gate_store (t := 129) (p := 81) rfl ?_); refine store_event (t := 129) (p := 81) (v := .tmp 80) (w1 := (w5.setCell ⟨g, v.toNat * 2, none⟩ (.int .i64 v)).setCell ⟨g, v.toNat * 2 + 1, none⟩ (.int .i64 (mx (rd_T129 o' v).f1 a0_2))) ?hg ?ho ?hn ?hr ?_; (case ho => rfl); (case hg => rfl); (case hn => rfl); (case hr => first | (go_simp; done) | (go_simp; rfl)); intro w6 hw_; have HS6j : Aside0 (St w w6 ((blkA go #[.slice (some ⟨g, 0, none⟩) l0_3.length cap] 125) :: (rowA w.heap.size k129 129 (.slice (some ⟨g, 0, none⟩) l0_3.length cap) (o'.set v.toNat ⟨v, mx (rd_T129 o' v).f1 a0_2⟩)) :: (rowA w.heap.size (Kd.int .i64) 3 (.slice (some ad) vt.length c8) vt) :: (blkA gn #[.int .i64 (l0_3.length : Int)] 3) :: (blkA gt #[.int .i64 a0_0, .int .i64 a0_1, .int .i64 a0_2, .slice A0_3 l0_3.length c0_3, .slice A0_4 l0_4.length c0_4, .int .i64 a0_5, .int .i64 a0_6, .slice A0_7 l0_7.length c0_7, .slice A0_8 l0_8.length c0_8, .int .i64 a0_9, .int .i64 a0_10, .slice A0_11 l0_11.length c0_11, .slice A0_12 l0_12.length c0_12] 123) :: (rowA w.heap.size (Kd.int .i64) 3 (.slice A4 vb.length c4) vb) :: [])) := ⟨by rw [hw_]; exact HSP.out⟩; clear hw_ HSP hq0 hq1 hf0 hf1))
              go_roundw
              case rel => exact ⟨j + 1, _, by first | rw [HWj.out] | rfl, ⟨by omega⟩, HXJ, HS6j⟩
              case measure => simp only [intOf]; (try rw [HWj.out]); omega
            · have htj : decide (j < (vt.length : Int)) = false := decide_eq_false hlj
              have hx := HX.out.2
              rw [List.drop_eq_nil_of_le (by omega), turnS] at hx
              obtain rfl := Option.some.inj hx
              clear hx HX
              have c502_ : wr.cell? ⟨go, 0, none⟩ = some (.slice Ao l0_3.length cap) := (HSj.out.cell 0 rfl 0).trans rfl
              go_wp2
              go_ret2
              exact ⟨_, rfl, HSj.out.row 1 rfl, HSj.out.below⟩
        · rw [if_neg hc] at hf
          simp only [Option.some.injEq, Prod.mk.injEq] at hf
          obtain ⟨rfl, rfl⟩ := hf
          have hb1 : decide (a0_2 > 0) = false := decide_eq_false hc
          have hb2 : decide (0 < a0_2) = false := decide_eq_false hc
          clear hc
          go_wp2
          go_ret2
          exact ⟨_, rfl, HS6.out.row 1 rfl, HS6.out.below⟩
end

/-! ### api_RSpan_113: function 113 -/
def api_RSpan_113.l0 : Nat → List (S129) → List (S129) → Int → Int → Option (Bool)
  | 0, _, _, _, _ => none
  | k + 1, x1, x12, x13, x14 => if x14 < x13 then (if 0 ≤ x14 then (if x14 < (x12.length : Int) then (if x14 < (x1.length : Int) then (if (!(((rd_T129 x12 x14).f0) == ((rd_T129 x1 x14).f0)) || (!(((rd_T129 x12 x14).f1) == ((rd_T129 x1 x14).f1)))) = true then (some false) else (api_RSpan_113.l0 k x1 x12 x13 (wrap64 (x14 + 1)))) else (none)) else (none)) else (none)) else (some true)
def api_RSpan_113.f (k : Nat) (l0 : List (S129)) (l1 : List (S129)) : Option (Bool) := if (l0.length : Int) = (l1.length : Int) then (api_RSpan_113.l0 k l1 l0 (l0.length : Int) 0) else (some false)
theorem api_RSpan_113.mono_l : ∀ k, (∀ y0 y1 y2 y3, LeO (api_RSpan_113.l0 k y0 y1 y2 y3) (api_RSpan_113.l0 (k + 1) y0 y1 y2 y3))
  | 0 => fun _ _ _ _ r h => by simp [api_RSpan_113.l0] at h
  | k + 1 => by
    have ih0 := api_RSpan_113.mono_l k
    · intro y0 y1 y2 y3
      unfold api_RSpan_113.l0
      repeat' first
      | (with_reducible exact ih0 _ _ _ _)
      | (with_reducible exact LeO.refl _)
      | (with_reducible exact LeO.none _)
      | (with_reducible refine LeO.ite ?_ ?_)
      | (with_reducible refine LeO.bind ?_ (fun _ => ?_))
      | exact ih0 _ _ _ _
      | exact LeO.none _
      | refine LeO.ite ?_ ?_
      | refine LeO.bind ?_ (fun _ => ?_)
theorem api_RSpan_113.mono : ∀ a0 a1 k, LeO (api_RSpan_113.f k a0 a1) (api_RSpan_113.f (k + 1) a0 a1) := by
  intro a0 a1 k
  have ih0 := api_RSpan_113.mono_l k
  unfold api_RSpan_113.f
  repeat' first
      | (with_reducible exact ih0 _ _ _ _)
      | (with_reducible exact LeO.refl _)
      | (with_reducible exact LeO.none _)
      | (with_reducible refine LeO.ite ?_ ?_)
      | (with_reducible refine LeO.bind ?_ (fun _ => ?_))
      | exact ih0 _ _ _ _
      | exact LeO.none _
      | refine LeO.ite ?_ ?_
      | refine LeO.bind ?_ (fun _ => ?_)
set_option maxHeartbeats 8000000 in
set_option maxRecDepth 100000 in
theorem api_RSpan_113.calls (k : Nat) (A0 : Option Addr) (c0 : Nat) (l0 : List (S129)) (A1 : Option Addr) (c1 : Nat) (l1 : List (S129)) (r : Bool) (w : World) (hr0 : Kd.C k129 w A0 l0.length l0) (hc0 : l0.length ≤ c0) (hr1 : Kd.C k129 w A1 l1.length l1) (hc1 : l1.length ≤ c1) (h : api_RSpan_113.f k l0 l1 = some r) :
    Calls Try.prog 113 #[.slice A0 l0.length c0, .slice A1 l1.length c1] w fun e w' => e = .returned (.bool r) ∧ Below w.heap.size w w' := by
  have hu129 := Try.underlying129
  have HR0 := Aside0.mk hr0
  have HC0 := Aside0.mk hc0
  clear hr0 hc0
  have HR1 := Aside0.mk hr1
  have HC1 := Aside0.mk hc1
  clear hr1 hc1
  have HB := Aside0.mk (Below.refl w.heap.size w)
  have H : (if (l0.length : Int) = (l1.length : Int) then (api_RSpan_113.l0 k l1 l0 (l0.length : Int) 0) else (some false)) = some r := h
  clear h
  by_cases c3 : (l0.length : Int) = (l1.length : Int)
  · rw [if_pos c3] at H
    have c3b0 : ((l0.length : Int) == (l1.length : Int)) = true := beq_iff_eq.mpr c3
    have c3b1 : ((l0.length : Int) != (l1.length : Int)) = false := bne_eq_false_iff_eq.mpr c3
    have c3b2 : (l0.length == l1.length) = true := by first | simpa using c3 | (simp at c3 ⊢; omega)
    clear c3
    have H' := Aside0.mk H
    clear H
    go_enter Try.func113, Try.ntmps113
    go_wp2
    repeat (go_quiet (fail); try go_wp2)
    go_loopg [14] k (fun kq v14 w' => ∃ (x14_1 : Int), v14 = .int .i64 x14_1 ∧ Aside0 (api_RSpan_113.l0 kq l1 l0 (l0.length : Int) x14_1 = some r) ∧ Aside0 (kq ≤ k) ∧ Aside0 (Below w.heap.size w w'))
    case atStart => exact ⟨(0), (by first | rfl | (simp; done) | (simp [*]; done)), H', ⟨Nat.le_refl _⟩, ⟨by repeat (first | (with_reducible first | exact HB.out | apply below_alloc | apply pw_below_drewN | apply below_drew1) | exact HB.out)⟩⟩
    case round =>
      clear H'
      try clear c1
      try clear p2
      try clear c3
      try clear c3b0
      try clear c3b1
      try clear c3b2
      obtain ⟨x14_1, rfl, HA, HK1, HB⟩ := hrel
      cases gk with
      | zero => exact absurd HA.out (by simp [api_RSpan_113.l0])
      | succ k1 =>
        have H := HA.out
        clear HA
        simp only [api_RSpan_113.l0] at H
        by_cases c4 : x14_1 < (l0.length : Int)
        · rw [if_pos c4] at H
          have c4b0 : decide (x14_1 < (l0.length : Int)) = true := decide_eq_true c4
          clear c4
          by_cases c5 : 0 ≤ x14_1
          · rw [if_pos c5] at H
            have c5b0 : decide (0 ≤ x14_1) = true := decide_eq_true c5
            clear c5
            by_cases c6 : x14_1 < (l0.length : Int)
            · rw [if_pos c6] at H
              have c6b0 : decide (x14_1 < (l0.length : Int)) = true := decide_eq_true c6
              clear c6
              by_cases c7 : x14_1 < (l1.length : Int)
              · rw [if_pos c7] at H
                have c7b0 : decide (x14_1 < (l1.length : Int)) = true := decide_eq_true c7
                clear c7
                by_cases c8 : (!(((rd_T129 l0 x14_1).f0) == ((rd_T129 l1 x14_1).f0)) || (!(((rd_T129 l0 x14_1).f1) == ((rd_T129 l1 x14_1).f1)))) = true
                · rw [if_pos c8] at H
                  have c8b0 : (!(((rd_T129 l0 x14_1).f0) == ((rd_T129 l1 x14_1).f0)) || (!(((rd_T129 l0 x14_1).f1) == ((rd_T129 l1 x14_1).f1)))) = true := c8
                  clear c8
                  obtain rfl := Option.some.inj H
                  have p117 : 0 ≤ (x14_1 : Int) := of_decide_eq_true (by first | (with_reducible assumption) | assumption)
                  have q117 : x14_1 < (l0.length : Int) := of_decide_eq_true (by first | (with_reducible assumption) | assumption)
                  obtain ⟨ad117, e117, hx117_0, hx117_1⟩ := at_T129 HR0.out x14_1 p117 q117
                  cases e117
                  try replace hx117_0 := (HB.out.cell (World.block_lt_of_cell? w _ hx117_0)).trans hx117_0
                  try replace hx117_1 := (HB.out.cell (World.block_lt_of_cell? w _ hx117_1)).trans hx117_1
                  replace p117 := eq_true p117
                  replace q117 := eq_true q117
                  go_wp2_with (first | ((with_reducible refine gate_dst (N := 6) rfl ?_); refine box_event ?hg (N := 6) ?hd (cs := #[.int .i64 0, .int .i64 0]) (t := 129) ?hr ?_; (case hd => rfl); (case hg => rfl); (case hr => first | (go_simp; done) | (go_simp; rfl)); intro gb118 hg w9 hbox hb; have n0_ := Aside0.mk (below_step (by repeat (first | (with_reducible first | exact HB.out | apply below_alloc | apply pw_below_drewN | apply below_drew1) | exact HB.out)) hb); have n1_ := Aside0.mk (hbox); have n2_ := Aside0.mk ((by rw [hg]; exact (below_size (by repeat (first | (with_reducible first | exact HB.out | apply below_alloc | apply pw_below_drewN | apply below_drew1) | exact HB.out))) : w.heap.size ≤ gb118)); have n3_ := Aside0.mk ((by rw [hg]; exact (below_size (by repeat (first | (with_reducible first | exact HB.out | apply below_alloc | apply pw_below_drewN | apply below_drew1) | exact HB.out))) : w.heap.size ≤ gb118)); clear HB; have HB := n0_; have BK118 := n1_; have GW118 := n2_; have GE118 := n3_; clear n0_ n1_ n2_ n3_; clear hb hbox hg; have hcz10_0 : w9.cell? ⟨gb118, 0, none⟩ = some (.int .i64 0) := (blk_cell BK118.out 0).trans rfl; have hcz10_1 : w9.cell? ⟨gb118, 1, none⟩ = some (.int .i64 0) := (blk_cell BK118.out 1).trans rfl; have hfz10_0 := blk_frozen BK118.out 0; have hfz10_1 := blk_frozen BK118.out 1; have p119 : 0 ≤ (x14_1 : Int) := of_decide_eq_true (by first | (with_reducible assumption) | assumption); have q119 : x14_1 < (l1.length : Int) := of_decide_eq_true (by first | (with_reducible assumption) | assumption); obtain ⟨ad119, e119, hx119_0, hx119_1⟩ := at_T129 HR1.out x14_1 p119 q119; cases e119; have hn119_0 : ad119.block ≠ gb118 := Nat.ne_of_lt (Nat.lt_of_lt_of_le (by have := World.block_lt_of_cell? _ _ hx119_0; first | rwa [add_block] at this | exact this) GW118.out); have hn119_1 : ad119.block ≠ gb118 := Nat.ne_of_lt (Nat.lt_of_lt_of_le (by have := World.block_lt_of_cell? _ _ hx119_0; first | rwa [add_block] at this | exact this) GW118.out); try replace hx119_0 := (HB.out.cell (World.block_lt_of_cell? w _ hx119_0)).trans hx119_0; try replace hx119_1 := (HB.out.cell (World.block_lt_of_cell? w _ hx119_1)).trans hx119_1; replace hx119_0 := (cell_far (p := ⟨gb118, 0, none⟩) (by first | (rw [add_block]; exact hn119_0) | (show (Addr.add _ _).block ≠ _; rw [add_block]; exact hn119_0) | exact hn119_0) (.int .i64 ((rd_T129 l0 x14_1).f0))).trans hx119_0; replace hx119_1 := (cell_far (p := ⟨gb118, 0, none⟩) (by first | (rw [add_block]; exact hn119_0) | (show (Addr.add _ _).block ≠ _; rw [add_block]; exact hn119_0) | exact hn119_0) (.int .i64 ((rd_T129 l0 x14_1).f0))).trans hx119_1; replace hx119_0 := (cell_far (p := ⟨gb118, 1, none⟩) (by first | (rw [add_block]; exact hn119_1) | (show (Addr.add _ _).block ≠ _; rw [add_block]; exact hn119_1) | exact hn119_1) (.int .i64 ((rd_T129 l0 x14_1).f1))).trans hx119_0; replace hx119_1 := (cell_far (p := ⟨gb118, 1, none⟩) (by first | (rw [add_block]; exact hn119_1) | (show (Addr.add _ _).block ≠ _; rw [add_block]; exact hn119_1) | exact hn119_1) (.int .i64 ((rd_T129 l0 x14_1).f1))).trans hx119_1; (try have hy119_0 := fun (n_ : Nat) => (show ((((w9.drewN n_).setCell ⟨gb118, 0, none⟩ (.int .i64 ((rd_T129 l0 x14_1).f0))).setCell ⟨gb118, 1, none⟩ (.int .i64 ((rd_T129 l0 x14_1).f1)))).cell? _ = some _ from hx119_0)); (try have hy119_1 := fun (n_ : Nat) => (show ((((w9.drewN n_).setCell ⟨gb118, 0, none⟩ (.int .i64 ((rd_T129 l0 x14_1).f0))).setCell ⟨gb118, 1, none⟩ (.int .i64 ((rd_T129 l0 x14_1).f1)))).cell? _ = some _ from hx119_1)); clear hn119_0; clear hn119_1; replace p119 := eq_true p119; replace q119 := eq_true q119))
                  repeat (go_quiet (first | ((with_reducible refine gate_dst (N := 6) rfl ?_); refine box_event ?hg (N := 6) ?hd (cs := #[.int .i64 0, .int .i64 0]) (t := 129) ?hr ?_; (case hd => rfl); (case hg => rfl); (case hr => first | (go_simp; done) | (go_simp; rfl)); intro gb118 hg w9 hbox hb; have n0_ := Aside0.mk (below_step (by repeat (first | (with_reducible first | exact HB.out | apply below_alloc | apply pw_below_drewN | apply below_drew1) | exact HB.out)) hb); have n1_ := Aside0.mk (hbox); have n2_ := Aside0.mk ((by rw [hg]; exact (below_size (by repeat (first | (with_reducible first | exact HB.out | apply below_alloc | apply pw_below_drewN | apply below_drew1) | exact HB.out))) : w.heap.size ≤ gb118)); have n3_ := Aside0.mk ((by rw [hg]; exact (below_size (by repeat (first | (with_reducible first | exact HB.out | apply below_alloc | apply pw_below_drewN | apply below_drew1) | exact HB.out))) : w.heap.size ≤ gb118)); clear HB; have HB := n0_; have BK118 := n1_; have GW118 := n2_; have GE118 := n3_; clear n0_ n1_ n2_ n3_; clear hb hbox hg; have hcz10_0 : w9.cell? ⟨gb118, 0, none⟩ = some (.int .i64 0) := (blk_cell BK118.out 0).trans rfl; have hcz10_1 : w9.cell? ⟨gb118, 1, none⟩ = some (.int .i64 0) := (blk_cell BK118.out 1).trans rfl; have hfz10_0 := blk_frozen BK118.out 0; have hfz10_1 := blk_frozen BK118.out 1; have p119 : 0 ≤ (x14_1 : Int) := of_decide_eq_true (by first | (with_reducible assumption) | assumption); have q119 : x14_1 < (l1.length : Int) := of_decide_eq_true (by first | (with_reducible assumption) | assumption); obtain ⟨ad119, e119, hx119_0, hx119_1⟩ := at_T129 HR1.out x14_1 p119 q119; cases e119; have hn119_0 : ad119.block ≠ gb118 := Nat.ne_of_lt (Nat.lt_of_lt_of_le (by have := World.block_lt_of_cell? _ _ hx119_0; first | rwa [add_block] at this | exact this) GW118.out); have hn119_1 : ad119.block ≠ gb118 := Nat.ne_of_lt (Nat.lt_of_lt_of_le (by have := World.block_lt_of_cell? _ _ hx119_0; first | rwa [add_block] at this | exact this) GW118.out); try replace hx119_0 := (HB.out.cell (World.block_lt_of_cell? w _ hx119_0)).trans hx119_0; try replace hx119_1 := (HB.out.cell (World.block_lt_of_cell? w _ hx119_1)).trans hx119_1; replace hx119_0 := (cell_far (p := ⟨gb118, 0, none⟩) (by first | (rw [add_block]; exact hn119_0) | (show (Addr.add _ _).block ≠ _; rw [add_block]; exact hn119_0) | exact hn119_0) (.int .i64 ((rd_T129 l0 x14_1).f0))).trans hx119_0; replace hx119_1 := (cell_far (p := ⟨gb118, 0, none⟩) (by first | (rw [add_block]; exact hn119_0) | (show (Addr.add _ _).block ≠ _; rw [add_block]; exact hn119_0) | exact hn119_0) (.int .i64 ((rd_T129 l0 x14_1).f0))).trans hx119_1; replace hx119_0 := (cell_far (p := ⟨gb118, 1, none⟩) (by first | (rw [add_block]; exact hn119_1) | (show (Addr.add _ _).block ≠ _; rw [add_block]; exact hn119_1) | exact hn119_1) (.int .i64 ((rd_T129 l0 x14_1).f1))).trans hx119_0; replace hx119_1 := (cell_far (p := ⟨gb118, 1, none⟩) (by first | (rw [add_block]; exact hn119_1) | (show (Addr.add _ _).block ≠ _; rw [add_block]; exact hn119_1) | exact hn119_1) (.int .i64 ((rd_T129 l0 x14_1).f1))).trans hx119_1; (try have hy119_0 := fun (n_ : Nat) => (show ((((w9.drewN n_).setCell ⟨gb118, 0, none⟩ (.int .i64 ((rd_T129 l0 x14_1).f0))).setCell ⟨gb118, 1, none⟩ (.int .i64 ((rd_T129 l0 x14_1).f1)))).cell? _ = some _ from hx119_0)); (try have hy119_1 := fun (n_ : Nat) => (show ((((w9.drewN n_).setCell ⟨gb118, 0, none⟩ (.int .i64 ((rd_T129 l0 x14_1).f0))).setCell ⟨gb118, 1, none⟩ (.int .i64 ((rd_T129 l0 x14_1).f1)))).cell? _ = some _ from hx119_1)); clear hn119_0; clear hn119_1; replace p119 := eq_true p119; replace q119 := eq_true q119)); try go_wp2_with (first | ((with_reducible refine gate_dst (N := 6) rfl ?_); refine box_event ?hg (N := 6) ?hd (cs := #[.int .i64 0, .int .i64 0]) (t := 129) ?hr ?_; (case hd => rfl); (case hg => rfl); (case hr => first | (go_simp; done) | (go_simp; rfl)); intro gb118 hg w9 hbox hb; have n0_ := Aside0.mk (below_step (by repeat (first | (with_reducible first | exact HB.out | apply below_alloc | apply pw_below_drewN | apply below_drew1) | exact HB.out)) hb); have n1_ := Aside0.mk (hbox); have n2_ := Aside0.mk ((by rw [hg]; exact (below_size (by repeat (first | (with_reducible first | exact HB.out | apply below_alloc | apply pw_below_drewN | apply below_drew1) | exact HB.out))) : w.heap.size ≤ gb118)); have n3_ := Aside0.mk ((by rw [hg]; exact (below_size (by repeat (first | (with_reducible first | exact HB.out | apply below_alloc | apply pw_below_drewN | apply below_drew1) | exact HB.out))) : w.heap.size ≤ gb118)); clear HB; have HB := n0_; have BK118 := n1_; have GW118 := n2_; have GE118 := n3_; clear n0_ n1_ n2_ n3_; clear hb hbox hg; have hcz10_0 : w9.cell? ⟨gb118, 0, none⟩ = some (.int .i64 0) := (blk_cell BK118.out 0).trans rfl; have hcz10_1 : w9.cell? ⟨gb118, 1, none⟩ = some (.int .i64 0) := (blk_cell BK118.out 1).trans rfl; have hfz10_0 := blk_frozen BK118.out 0; have hfz10_1 := blk_frozen BK118.out 1; have p119 : 0 ≤ (x14_1 : Int) := of_decide_eq_true (by first | (with_reducible assumption) | assumption); have q119 : x14_1 < (l1.length : Int) := of_decide_eq_true (by first | (with_reducible assumption) | assumption); obtain ⟨ad119, e119, hx119_0, hx119_1⟩ := at_T129 HR1.out x14_1 p119 q119; cases e119; have hn119_0 : ad119.block ≠ gb118 := Nat.ne_of_lt (Nat.lt_of_lt_of_le (by have := World.block_lt_of_cell? _ _ hx119_0; first | rwa [add_block] at this | exact this) GW118.out); have hn119_1 : ad119.block ≠ gb118 := Nat.ne_of_lt (Nat.lt_of_lt_of_le (by have := World.block_lt_of_cell? _ _ hx119_0; first | rwa [add_block] at this | exact this) GW118.out); try replace hx119_0 := (HB.out.cell (World.block_lt_of_cell? w _ hx119_0)).trans hx119_0; try replace hx119_1 := (HB.out.cell (World.block_lt_of_cell? w _ hx119_1)).trans hx119_1; replace hx119_0 := (cell_far (p := ⟨gb118, 0, none⟩) (by first | (rw [add_block]; exact hn119_0) | (show (Addr.add _ _).block ≠ _; rw [add_block]; exact hn119_0) | exact hn119_0) (.int .i64 ((rd_T129 l0 x14_1).f0))).trans hx119_0; replace hx119_1 := (cell_far (p := ⟨gb118, 0, none⟩) (by first | (rw [add_block]; exact hn119_0) | (show (Addr.add _ _).block ≠ _; rw [add_block]; exact hn119_0) | exact hn119_0) (.int .i64 ((rd_T129 l0 x14_1).f0))).trans hx119_1; replace hx119_0 := (cell_far (p := ⟨gb118, 1, none⟩) (by first | (rw [add_block]; exact hn119_1) | (show (Addr.add _ _).block ≠ _; rw [add_block]; exact hn119_1) | exact hn119_1) (.int .i64 ((rd_T129 l0 x14_1).f1))).trans hx119_0; replace hx119_1 := (cell_far (p := ⟨gb118, 1, none⟩) (by first | (rw [add_block]; exact hn119_1) | (show (Addr.add _ _).block ≠ _; rw [add_block]; exact hn119_1) | exact hn119_1) (.int .i64 ((rd_T129 l0 x14_1).f1))).trans hx119_1; (try have hy119_0 := fun (n_ : Nat) => (show ((((w9.drewN n_).setCell ⟨gb118, 0, none⟩ (.int .i64 ((rd_T129 l0 x14_1).f0))).setCell ⟨gb118, 1, none⟩ (.int .i64 ((rd_T129 l0 x14_1).f1)))).cell? _ = some _ from hx119_0)); (try have hy119_1 := fun (n_ : Nat) => (show ((((w9.drewN n_).setCell ⟨gb118, 0, none⟩ (.int .i64 ((rd_T129 l0 x14_1).f0))).setCell ⟨gb118, 1, none⟩ (.int .i64 ((rd_T129 l0 x14_1).f1)))).cell? _ = some _ from hx119_1)); clear hn119_0; clear hn119_1; replace p119 := eq_true p119; replace q119 := eq_true q119)))
                  go_ret
                  exact ⟨by first | rfl | (simp [errW_none, errW_some] <;> rfl) | (simp [*, errW_none, errW_some] <;> rfl), by repeat (first | (with_reducible first | exact HB.out | apply below_alloc | apply pw_below_drewN | apply below_drew1 | refine below_set ?_ GE118.out) | exact HB.out)⟩
                · rw [if_neg c8] at H
                  have c8b0 : (!(((rd_T129 l0 x14_1).f0) == ((rd_T129 l1 x14_1).f0)) || (!(((rd_T129 l0 x14_1).f1) == ((rd_T129 l1 x14_1).f1)))) = false := by simpa using c8
                  clear c8
                  have H' := Aside0.mk H
                  clear H
                  have p117 : 0 ≤ (x14_1 : Int) := of_decide_eq_true (by first | (with_reducible assumption) | assumption)
                  have q117 : x14_1 < (l0.length : Int) := of_decide_eq_true (by first | (with_reducible assumption) | assumption)
                  obtain ⟨ad117, e117, hx117_0, hx117_1⟩ := at_T129 HR0.out x14_1 p117 q117
                  cases e117
                  try replace hx117_0 := (HB.out.cell (World.block_lt_of_cell? w _ hx117_0)).trans hx117_0
                  try replace hx117_1 := (HB.out.cell (World.block_lt_of_cell? w _ hx117_1)).trans hx117_1
                  replace p117 := eq_true p117
                  replace q117 := eq_true q117
                  go_wp2_with (first | ((with_reducible refine gate_dst (N := 6) rfl ?_); refine box_event ?hg (N := 6) ?hd (cs := #[.int .i64 0, .int .i64 0]) (t := 129) ?hr ?_; (case hd => rfl); (case hg => rfl); (case hr => first | (go_simp; done) | (go_simp; rfl)); intro gb118 hg w11 hbox hb; have n0_ := Aside0.mk (below_step (by repeat (first | (with_reducible first | exact HB.out | apply below_alloc | apply pw_below_drewN | apply below_drew1) | exact HB.out)) hb); have n1_ := Aside0.mk (hbox); have n2_ := Aside0.mk ((by rw [hg]; exact (below_size (by repeat (first | (with_reducible first | exact HB.out | apply below_alloc | apply pw_below_drewN | apply below_drew1) | exact HB.out))) : w.heap.size ≤ gb118)); have n3_ := Aside0.mk ((by rw [hg]; exact (below_size (by repeat (first | (with_reducible first | exact HB.out | apply below_alloc | apply pw_below_drewN | apply below_drew1) | exact HB.out))) : w.heap.size ≤ gb118)); clear HB; have HB := n0_; have BK118 := n1_; have GW118 := n2_; have GE118 := n3_; clear n0_ n1_ n2_ n3_; clear hb hbox hg; have hcz12_0 : w11.cell? ⟨gb118, 0, none⟩ = some (.int .i64 0) := (blk_cell BK118.out 0).trans rfl; have hcz12_1 : w11.cell? ⟨gb118, 1, none⟩ = some (.int .i64 0) := (blk_cell BK118.out 1).trans rfl; have hfz12_0 := blk_frozen BK118.out 0; have hfz12_1 := blk_frozen BK118.out 1; have p119 : 0 ≤ (x14_1 : Int) := of_decide_eq_true (by first | (with_reducible assumption) | assumption); have q119 : x14_1 < (l1.length : Int) := of_decide_eq_true (by first | (with_reducible assumption) | assumption); obtain ⟨ad119, e119, hx119_0, hx119_1⟩ := at_T129 HR1.out x14_1 p119 q119; cases e119; have hn119_0 : ad119.block ≠ gb118 := Nat.ne_of_lt (Nat.lt_of_lt_of_le (by have := World.block_lt_of_cell? _ _ hx119_0; first | rwa [add_block] at this | exact this) GW118.out); have hn119_1 : ad119.block ≠ gb118 := Nat.ne_of_lt (Nat.lt_of_lt_of_le (by have := World.block_lt_of_cell? _ _ hx119_0; first | rwa [add_block] at this | exact this) GW118.out); try replace hx119_0 := (HB.out.cell (World.block_lt_of_cell? w _ hx119_0)).trans hx119_0; try replace hx119_1 := (HB.out.cell (World.block_lt_of_cell? w _ hx119_1)).trans hx119_1; replace hx119_0 := (cell_far (p := ⟨gb118, 0, none⟩) (by first | (rw [add_block]; exact hn119_0) | (show (Addr.add _ _).block ≠ _; rw [add_block]; exact hn119_0) | exact hn119_0) (.int .i64 ((rd_T129 l0 x14_1).f0))).trans hx119_0; replace hx119_1 := (cell_far (p := ⟨gb118, 0, none⟩) (by first | (rw [add_block]; exact hn119_0) | (show (Addr.add _ _).block ≠ _; rw [add_block]; exact hn119_0) | exact hn119_0) (.int .i64 ((rd_T129 l0 x14_1).f0))).trans hx119_1; replace hx119_0 := (cell_far (p := ⟨gb118, 1, none⟩) (by first | (rw [add_block]; exact hn119_1) | (show (Addr.add _ _).block ≠ _; rw [add_block]; exact hn119_1) | exact hn119_1) (.int .i64 ((rd_T129 l0 x14_1).f1))).trans hx119_0; replace hx119_1 := (cell_far (p := ⟨gb118, 1, none⟩) (by first | (rw [add_block]; exact hn119_1) | (show (Addr.add _ _).block ≠ _; rw [add_block]; exact hn119_1) | exact hn119_1) (.int .i64 ((rd_T129 l0 x14_1).f1))).trans hx119_1; (try have hy119_0 := fun (n_ : Nat) => (show ((((w11.drewN n_).setCell ⟨gb118, 0, none⟩ (.int .i64 ((rd_T129 l0 x14_1).f0))).setCell ⟨gb118, 1, none⟩ (.int .i64 ((rd_T129 l0 x14_1).f1)))).cell? _ = some _ from hx119_0)); (try have hy119_1 := fun (n_ : Nat) => (show ((((w11.drewN n_).setCell ⟨gb118, 0, none⟩ (.int .i64 ((rd_T129 l0 x14_1).f0))).setCell ⟨gb118, 1, none⟩ (.int .i64 ((rd_T129 l0 x14_1).f1)))).cell? _ = some _ from hx119_1)); clear hn119_0; clear hn119_1; replace p119 := eq_true p119; replace q119 := eq_true q119))
                  repeat (go_quiet (first | ((with_reducible refine gate_dst (N := 6) rfl ?_); refine box_event ?hg (N := 6) ?hd (cs := #[.int .i64 0, .int .i64 0]) (t := 129) ?hr ?_; (case hd => rfl); (case hg => rfl); (case hr => first | (go_simp; done) | (go_simp; rfl)); intro gb118 hg w11 hbox hb; have n0_ := Aside0.mk (below_step (by repeat (first | (with_reducible first | exact HB.out | apply below_alloc | apply pw_below_drewN | apply below_drew1) | exact HB.out)) hb); have n1_ := Aside0.mk (hbox); have n2_ := Aside0.mk ((by rw [hg]; exact (below_size (by repeat (first | (with_reducible first | exact HB.out | apply below_alloc | apply pw_below_drewN | apply below_drew1) | exact HB.out))) : w.heap.size ≤ gb118)); have n3_ := Aside0.mk ((by rw [hg]; exact (below_size (by repeat (first | (with_reducible first | exact HB.out | apply below_alloc | apply pw_below_drewN | apply below_drew1) | exact HB.out))) : w.heap.size ≤ gb118)); clear HB; have HB := n0_; have BK118 := n1_; have GW118 := n2_; have GE118 := n3_; clear n0_ n1_ n2_ n3_; clear hb hbox hg; have hcz12_0 : w11.cell? ⟨gb118, 0, none⟩ = some (.int .i64 0) := (blk_cell BK118.out 0).trans rfl; have hcz12_1 : w11.cell? ⟨gb118, 1, none⟩ = some (.int .i64 0) := (blk_cell BK118.out 1).trans rfl; have hfz12_0 := blk_frozen BK118.out 0; have hfz12_1 := blk_frozen BK118.out 1; have p119 : 0 ≤ (x14_1 : Int) := of_decide_eq_true (by first | (with_reducible assumption) | assumption); have q119 : x14_1 < (l1.length : Int) := of_decide_eq_true (by first | (with_reducible assumption) | assumption); obtain ⟨ad119, e119, hx119_0, hx119_1⟩ := at_T129 HR1.out x14_1 p119 q119; cases e119; have hn119_0 : ad119.block ≠ gb118 := Nat.ne_of_lt (Nat.lt_of_lt_of_le (by have := World.block_lt_of_cell? _ _ hx119_0; first | rwa [add_block] at this | exact this) GW118.out); have hn119_1 : ad119.block ≠ gb118 := Nat.ne_of_lt (Nat.lt_of_lt_of_le (by have := World.block_lt_of_cell? _ _ hx119_0; first | rwa [add_block] at this | exact this) GW118.out); try replace hx119_0 := (HB.out.cell (World.block_lt_of_cell? w _ hx119_0)).trans hx119_0; try replace hx119_1 := (HB.out.cell (World.block_lt_of_cell? w _ hx119_1)).trans hx119_1; replace hx119_0 := (cell_far (p := ⟨gb118, 0, none⟩) (by first | (rw [add_block]; exact hn119_0) | (show (Addr.add _ _).block ≠ _; rw [add_block]; exact hn119_0) | exact hn119_0) (.int .i64 ((rd_T129 l0 x14_1).f0))).trans hx119_0; replace hx119_1 := (cell_far (p := ⟨gb118, 0, none⟩) (by first | (rw [add_block]; exact hn119_0) | (show (Addr.add _ _).block ≠ _; rw [add_block]; exact hn119_0) | exact hn119_0) (.int .i64 ((rd_T129 l0 x14_1).f0))).trans hx119_1; replace hx119_0 := (cell_far (p := ⟨gb118, 1, none⟩) (by first | (rw [add_block]; exact hn119_1) | (show (Addr.add _ _).block ≠ _; rw [add_block]; exact hn119_1) | exact hn119_1) (.int .i64 ((rd_T129 l0 x14_1).f1))).trans hx119_0; replace hx119_1 := (cell_far (p := ⟨gb118, 1, none⟩) (by first | (rw [add_block]; exact hn119_1) | (show (Addr.add _ _).block ≠ _; rw [add_block]; exact hn119_1) | exact hn119_1) (.int .i64 ((rd_T129 l0 x14_1).f1))).trans hx119_1; (try have hy119_0 := fun (n_ : Nat) => (show ((((w11.drewN n_).setCell ⟨gb118, 0, none⟩ (.int .i64 ((rd_T129 l0 x14_1).f0))).setCell ⟨gb118, 1, none⟩ (.int .i64 ((rd_T129 l0 x14_1).f1)))).cell? _ = some _ from hx119_0)); (try have hy119_1 := fun (n_ : Nat) => (show ((((w11.drewN n_).setCell ⟨gb118, 0, none⟩ (.int .i64 ((rd_T129 l0 x14_1).f0))).setCell ⟨gb118, 1, none⟩ (.int .i64 ((rd_T129 l0 x14_1).f1)))).cell? _ = some _ from hx119_1)); clear hn119_0; clear hn119_1; replace p119 := eq_true p119; replace q119 := eq_true q119)); try go_wp2_with (first | ((with_reducible refine gate_dst (N := 6) rfl ?_); refine box_event ?hg (N := 6) ?hd (cs := #[.int .i64 0, .int .i64 0]) (t := 129) ?hr ?_; (case hd => rfl); (case hg => rfl); (case hr => first | (go_simp; done) | (go_simp; rfl)); intro gb118 hg w11 hbox hb; have n0_ := Aside0.mk (below_step (by repeat (first | (with_reducible first | exact HB.out | apply below_alloc | apply pw_below_drewN | apply below_drew1) | exact HB.out)) hb); have n1_ := Aside0.mk (hbox); have n2_ := Aside0.mk ((by rw [hg]; exact (below_size (by repeat (first | (with_reducible first | exact HB.out | apply below_alloc | apply pw_below_drewN | apply below_drew1) | exact HB.out))) : w.heap.size ≤ gb118)); have n3_ := Aside0.mk ((by rw [hg]; exact (below_size (by repeat (first | (with_reducible first | exact HB.out | apply below_alloc | apply pw_below_drewN | apply below_drew1) | exact HB.out))) : w.heap.size ≤ gb118)); clear HB; have HB := n0_; have BK118 := n1_; have GW118 := n2_; have GE118 := n3_; clear n0_ n1_ n2_ n3_; clear hb hbox hg; have hcz12_0 : w11.cell? ⟨gb118, 0, none⟩ = some (.int .i64 0) := (blk_cell BK118.out 0).trans rfl; have hcz12_1 : w11.cell? ⟨gb118, 1, none⟩ = some (.int .i64 0) := (blk_cell BK118.out 1).trans rfl; have hfz12_0 := blk_frozen BK118.out 0; have hfz12_1 := blk_frozen BK118.out 1; have p119 : 0 ≤ (x14_1 : Int) := of_decide_eq_true (by first | (with_reducible assumption) | assumption); have q119 : x14_1 < (l1.length : Int) := of_decide_eq_true (by first | (with_reducible assumption) | assumption); obtain ⟨ad119, e119, hx119_0, hx119_1⟩ := at_T129 HR1.out x14_1 p119 q119; cases e119; have hn119_0 : ad119.block ≠ gb118 := Nat.ne_of_lt (Nat.lt_of_lt_of_le (by have := World.block_lt_of_cell? _ _ hx119_0; first | rwa [add_block] at this | exact this) GW118.out); have hn119_1 : ad119.block ≠ gb118 := Nat.ne_of_lt (Nat.lt_of_lt_of_le (by have := World.block_lt_of_cell? _ _ hx119_0; first | rwa [add_block] at this | exact this) GW118.out); try replace hx119_0 := (HB.out.cell (World.block_lt_of_cell? w _ hx119_0)).trans hx119_0; try replace hx119_1 := (HB.out.cell (World.block_lt_of_cell? w _ hx119_1)).trans hx119_1; replace hx119_0 := (cell_far (p := ⟨gb118, 0, none⟩) (by first | (rw [add_block]; exact hn119_0) | (show (Addr.add _ _).block ≠ _; rw [add_block]; exact hn119_0) | exact hn119_0) (.int .i64 ((rd_T129 l0 x14_1).f0))).trans hx119_0; replace hx119_1 := (cell_far (p := ⟨gb118, 0, none⟩) (by first | (rw [add_block]; exact hn119_0) | (show (Addr.add _ _).block ≠ _; rw [add_block]; exact hn119_0) | exact hn119_0) (.int .i64 ((rd_T129 l0 x14_1).f0))).trans hx119_1; replace hx119_0 := (cell_far (p := ⟨gb118, 1, none⟩) (by first | (rw [add_block]; exact hn119_1) | (show (Addr.add _ _).block ≠ _; rw [add_block]; exact hn119_1) | exact hn119_1) (.int .i64 ((rd_T129 l0 x14_1).f1))).trans hx119_0; replace hx119_1 := (cell_far (p := ⟨gb118, 1, none⟩) (by first | (rw [add_block]; exact hn119_1) | (show (Addr.add _ _).block ≠ _; rw [add_block]; exact hn119_1) | exact hn119_1) (.int .i64 ((rd_T129 l0 x14_1).f1))).trans hx119_1; (try have hy119_0 := fun (n_ : Nat) => (show ((((w11.drewN n_).setCell ⟨gb118, 0, none⟩ (.int .i64 ((rd_T129 l0 x14_1).f0))).setCell ⟨gb118, 1, none⟩ (.int .i64 ((rd_T129 l0 x14_1).f1)))).cell? _ = some _ from hx119_0)); (try have hy119_1 := fun (n_ : Nat) => (show ((((w11.drewN n_).setCell ⟨gb118, 0, none⟩ (.int .i64 ((rd_T129 l0 x14_1).f0))).setCell ⟨gb118, 1, none⟩ (.int .i64 ((rd_T129 l0 x14_1).f1)))).cell? _ = some _ from hx119_1)); clear hn119_0; clear hn119_1; replace p119 := eq_true p119; replace q119 := eq_true q119)))
                  go_roundg k1
                  case measure => have := HK1.out; omega
                  case rel => exact ⟨(wrap64 (x14_1 + 1)), (by first | rfl | (simp; done) | (simp [*]; done)), H', ⟨by have := HK1.out; omega⟩, ⟨by repeat (first | (with_reducible first | exact HB.out | apply below_alloc | apply pw_below_drewN | apply below_drew1 | refine below_set ?_ GE118.out) | exact HB.out)⟩⟩
              · rw [if_neg c7] at H
                exact absurd H (by simp)
            · rw [if_neg c6] at H
              exact absurd H (by simp)
          · rw [if_neg c5] at H
            exact absurd H (by simp)
        · rw [if_neg c4] at H
          have c4b0 : decide (x14_1 < (l0.length : Int)) = false := decide_eq_false c4
          clear c4
          obtain rfl := Option.some.inj H
          go_wp2
          repeat (go_quiet (fail); try go_wp2)
          go_ret
          exact ⟨by first | rfl | (simp [errW_none, errW_some] <;> rfl) | (simp [*, errW_none, errW_some] <;> rfl), by repeat (first | (with_reducible first | exact HB.out | apply below_alloc | apply pw_below_drewN | apply below_drew1) | exact HB.out)⟩
  · rw [if_neg c3] at H
    have c3b0 : ((l0.length : Int) == (l1.length : Int)) = false := beq_eq_false_iff_ne.mpr c3
    have c3b1 : ((l0.length : Int) != (l1.length : Int)) = true := bne_iff_ne.mpr c3
    have c3b2 : (l0.length == l1.length) = false := by first | simpa using c3 | (simp at c3 ⊢; omega)
    obtain rfl := Option.some.inj H
    go_enter Try.func113, Try.ntmps113
    go_wp2
    repeat (go_quiet (fail); try go_wp2)
    go_ret
    exact ⟨by first | rfl | (simp [errW_none, errW_some] <;> rfl) | (simp [*, errW_none, errW_some] <;> rfl), by repeat (first | (with_reducible first | exact HB.out | apply below_alloc | apply pw_below_drewN | apply below_drew1) | exact HB.out)⟩

/-! ### backstitchlaw3_lived: function 66 -/
def backstitchlaw3_lived.f (k : Nat)  : Option (Bool) := (live_Spans.f k 0 0 0 (([(⟨3, (-1), (-1), (-1), 0, (-1), (⟨0, 0⟩ : S23)⟩ : S181)] : List (S181))) ([] : List (S31)) 0 0 ([] : List (S38)) ([] : List (S63)) 0 0 (([(⟨0, 0⟩ : S38)] : List (S38))) ([] : List (S63))).bind fun bt127 => (if bt127.2 = 0 then ((api_RSpan_113.f k bt127.1 (([(⟨0, 1⟩ : S129)] : List (S129)))).bind fun t134 => (some t134)) else (some false))
theorem backstitchlaw3_lived.mono : ∀ k, LeO (backstitchlaw3_lived.f k ) (backstitchlaw3_lived.f (k + 1) ) := by
  intro  k
  unfold backstitchlaw3_lived.f
  repeat' first
      | (with_reducible exact api_RSpan_113.mono _ _ _)
      | (with_reducible exact live_Spans.mono _ _ _ _ _ _ _ _ _ _ _ _ _ _)
      | (with_reducible exact LeO.refl _)
      | (with_reducible exact LeO.none _)
      | (with_reducible refine LeO.ite ?_ ?_)
      | (with_reducible refine LeO.bind ?_ (fun _ => ?_))
      | exact api_RSpan_113.mono _ _ _
      | exact live_Spans.mono _ _ _ _ _ _ _ _ _ _ _ _ _ _
      | exact LeO.none _
      | refine LeO.ite ?_ ?_
      | refine LeO.bind ?_ (fun _ => ?_)
set_option maxHeartbeats 8000000 in
set_option maxRecDepth 100000 in
theorem backstitchlaw3_lived.calls (k : Nat)  (r : Bool) (w : World) (h : backstitchlaw3_lived.f k  = some r) :
    Calls Try.prog 66 #[] w fun e w' => e = .returned (.bool r) ∧ Below w.heap.size w w' := by
  have hu181 := Try.underlying181
  have hu38 := Try.underlying38
  have hu31 := Try.underlying31
  have hu123 := Try.underlying123
  have hu129 := Try.underlying129
  have HB := Aside0.mk (Below.refl w.heap.size w)
  have H : ((live_Spans.f k 0 0 0 (([(⟨3, (-1), (-1), (-1), 0, (-1), (⟨0, 0⟩ : S23)⟩ : S181)] : List (S181))) ([] : List (S31)) 0 0 ([] : List (S38)) ([] : List (S63)) 0 0 (([(⟨0, 0⟩ : S38)] : List (S38))) ([] : List (S63))).bind fun bt127 => (if bt127.2 = 0 then ((api_RSpan_113.f k bt127.1 (([(⟨0, 1⟩ : S129)] : List (S129)))).bind fun t134 => (some t134)) else (some false))) = some r := h
  clear h
  obtain ⟨y120, hy120⟩ : ∃ y_ : List (S181), y_ = (([(⟨3, (-1), (-1), (-1), 0, (-1), (⟨0, 0⟩ : S23)⟩ : S181)] : List (S181))) := ⟨_, rfl⟩
  replace H : ((live_Spans.f k 0 0 0 y120 ([] : List (S31)) 0 0 ([] : List (S38)) ([] : List (S63)) 0 0 (([(⟨0, 0⟩ : S38)] : List (S38))) ([] : List (S63))).bind fun bt127 => (if bt127.2 = 0 then ((api_RSpan_113.f k bt127.1 (([(⟨0, 1⟩ : S129)] : List (S129)))).bind fun t134 => (some t134)) else (some false))) = some r := by first | (rw [hy120]; with_reducible exact H) | (have H2_ := (Option.bind_some _ _).symm.trans H; rw [hy120]; with_reducible exact H2_) | (have H2_ := (Option.bind_some _ _).symm.trans H; with_reducible exact H2_) | with_reducible exact H | (rw [hy120]; exact H) | exact H
  have Ny120 := Aside0.mk hy120
  clear hy120
  obtain ⟨y123, hy123⟩ : ∃ y_ : List (S38), y_ = (([(⟨0, 0⟩ : S38)] : List (S38))) := ⟨_, rfl⟩
  replace H : ((live_Spans.f k 0 0 0 y120 ([] : List (S31)) 0 0 ([] : List (S38)) ([] : List (S63)) 0 0 y123 ([] : List (S63))).bind fun bt127 => (if bt127.2 = 0 then ((api_RSpan_113.f k bt127.1 (([(⟨0, 1⟩ : S129)] : List (S129)))).bind fun t134 => (some t134)) else (some false))) = some r := by first | (rw [hy123]; with_reducible exact H) | (have H2_ := (Option.bind_some _ _).symm.trans H; rw [hy123]; with_reducible exact H2_) | (have H2_ := (Option.bind_some _ _).symm.trans H; with_reducible exact H2_) | with_reducible exact H | (rw [hy123]; exact H) | exact H
  have Ny123 := Aside0.mk hy123
  clear hy123
  replace H := Option.bind_eq_some_iff.mp H
  obtain ⟨⟨t127, t130⟩, A10, H⟩ := H
  replace H : (if t130 = 0 then ((api_RSpan_113.f k t127 (([(⟨0, 1⟩ : S129)] : List (S129)))).bind fun t134 => (some t134)) else (some false)) = some r := H
  have A1 := Aside0.mk A10
  clear A10
  by_cases c2 : t130 = 0
  · rw [if_pos c2] at H
    have c2b0 : (t130 == 0) = true := beq_iff_eq.mpr c2
    have c2b1 : (t130 != 0) = false := bne_eq_false_iff_eq.mpr c2
    clear c2
    obtain ⟨y131, hy131⟩ : ∃ y_ : List (S129), y_ = (([(⟨0, 1⟩ : S129)] : List (S129))) := ⟨_, rfl⟩
    replace H : ((api_RSpan_113.f k t127 y131).bind fun t134 => (some t134)) = some r := by first | (rw [hy131]; with_reducible exact H) | (have H2_ := (Option.bind_some _ _).symm.trans H; rw [hy131]; with_reducible exact H2_) | (have H2_ := (Option.bind_some _ _).symm.trans H; with_reducible exact H2_) | with_reducible exact H | (rw [hy131]; exact H) | exact H
    have Ny131 := Aside0.mk hy131
    clear hy131
    replace H := Option.bind_eq_some_iff.mp H
    obtain ⟨t134, A30, H⟩ := H
    replace H : (some t134) = some r := H
    have A3 := Aside0.mk A30
    clear A30
    obtain rfl := Option.some.inj H
    go_enter Try.func66, Try.ntmps66
    go_wp2_with (first | ((with_reducible refine gate_dst (N := 5) rfl ?_); (try (refine gate_guard (by rfl) ?_; dsimp only)); refine Kd.R_lit k181 _ 181 ?hg (N := 5) ?hd (xs := ([(⟨3, (-1), (-1), (-1), 0, (-1), (⟨0, 0⟩ : S23)⟩ : S181)] : List (S181))) (inner := [.int .i64 3, .int .i64 (-1), .int .i64 (-1), .int .i64 (-1), .int .i64 0, .int .i64 (-1), .int .i64 0, .int .i64 0]) (ok := fun _ => True) (okp := fun _ => True) ?hr ?hp (fun _ hk => hk) trivial (Below.refl _ _) (Nat.le_refl _) (by simp) ?_; (case hd => rfl); (case hg => rfl); (case hr => first | (go_simp; done) | (go_simp; rfl)); (case hp => exact (Reps.c8 (show Kd.M k181 _ _ _ (⟨3, (-1), (-1), (-1), 0, (-1), (⟨0, 0⟩ : S23)⟩ : S181) [.int .i64 3, .int .i64 (-1), .int .i64 (-1), .int .i64 (-1), .int .i64 0, .int .i64 (-1), .int .i64 0, .int .i64 0] from (k181_mkM _ _ _ (⟨3, (-1), (-1), (-1), 0, (-1), (⟨0, 0⟩ : S23)⟩ : S181) )) (Reps.none _ _))); intro v121 w4 ho5 hb hg_ hnew_; clear hg_ hnew_; (first | rw [← Ny120.out] at ho5 | (simp only [Int.reduceToNat] at ho5; rw [← Ny120.out] at ho5)); have n0_ := Aside0.mk (Kd.R_lower ho5 (below_size (by repeat (first | (with_reducible first | exact HB.out | apply below_alloc | apply pw_below_drewN | apply below_drew1) | exact HB.out)))); have n1_ := Aside0.mk (below_step (by repeat (first | (with_reducible first | exact HB.out | apply below_alloc | apply pw_below_drewN | apply below_drew1) | exact HB.out)) hb); clear HB; have HO122 := n0_; have HB := n1_; clear n0_ n1_; clear hb ho5) | ((with_reducible refine gate_dst (N := 7) rfl ?_); (try (refine gate_guard (by rfl) ?_; dsimp only)); refine Kd.R_lit k38 _ 38 ?hg (N := 7) ?hd (xs := ([(⟨0, 0⟩ : S38)] : List (S38))) (inner := [.int .i64 0, .int .i64 0]) (ok := fun _ => True) (okp := fun _ => True) ?hr ?hp (fun _ hk => hk) trivial (Below.refl _ _) (Nat.le_refl _) (by simp) ?_; (case hd => rfl); (case hg => rfl); (case hr => first | (go_simp; done) | (go_simp; rfl)); (case hp => exact (Reps.c2 (show Kd.M k38 _ _ _ (⟨0, 0⟩ : S38) [.int .i64 0, .int .i64 0] from (k38_mkM _ _ _ (⟨0, 0⟩ : S38) )) (Reps.none _ _))); intro v124 w6 ho7 hb hg_ hnew_; clear hg_ hnew_; (first | rw [← Ny123.out] at ho7 | (simp only [Int.reduceToNat] at ho7; rw [← Ny123.out] at ho7)); have n0_ := Aside0.mk (Kd.R_below (by (with_reducible repeat (first | apply Kd.R_alloc | apply Kd.R_drewN | apply Kd.R_drew)); exact HO122.out) hb); have n1_ := Aside0.mk (Kd.R_lower ho7 (below_size (by repeat (first | (with_reducible first | exact HB.out | apply below_alloc | apply pw_below_drewN | apply below_drew1) | exact HB.out)))); have n2_ := Aside0.mk (below_step (by repeat (first | (with_reducible first | exact HB.out | apply below_alloc | apply pw_below_drewN | apply below_drew1) | exact HB.out)) hb); clear HO122; clear HB; have HO122 := n0_; have HO125 := n1_; have HB := n2_; clear n0_ n1_ n2_; clear hb ho7; obtain ⟨Ao8, co8, eo8⟩ := Kd.R_slice HO125.out; subst eo8; obtain ⟨Ao9, co9, eo9⟩ := Kd.R_slice HO122.out; subst eo9) | ((with_reducible refine gate_dst (N := 1) rfl ?_); (try (refine gate_guard (by rfl) ?_; dsimp only)); refine box_event ?hg (N := 1) ?hd (cs := #[.int .i64 0, .int .i64 0, .int .i64 0, .slice none 0 0, .slice none 0 0, .int .i64 0, .int .i64 0, .slice none 0 0, .slice none 0 0, .int .i64 0, .int .i64 0, .slice none 0 0, .slice none 0 0]) (t := 123) ?hr ?_; (case hd => rfl); (case hg => rfl); (case hr => first | (go_simp; done) | (go_simp; rfl)); intro gb126 hg w10 hbox hb; have n0_ := Aside0.mk (Kd.R_below (by (with_reducible repeat (first | apply Kd.R_alloc | apply Kd.R_drewN | apply Kd.R_drew)); exact HO122.out) hb); have n1_ := Aside0.mk (Kd.R_below (by (with_reducible repeat (first | apply Kd.R_alloc | apply Kd.R_drewN | apply Kd.R_drew)); exact HO125.out) hb); have n2_ := Aside0.mk (below_step (by repeat (first | (with_reducible first | exact HB.out | apply below_alloc | apply pw_below_drewN | apply below_drew1) | exact HB.out)) hb); have n3_ := Aside0.mk (hbox); have n4_ := Aside0.mk ((by rw [hg]; exact (below_size (by repeat (first | (with_reducible first | exact HB.out | apply below_alloc | apply pw_below_drewN | apply below_drew1) | exact HB.out))) : w.heap.size ≤ gb126)); have n5_ := Aside0.mk ((by rw [hg]; exact (below_size (by repeat (first | (with_reducible first | exact HB.out | apply below_alloc | apply pw_below_drewN | apply below_drew1) | exact HB.out))) : w.heap.size ≤ gb126)); clear HO122; clear HO125; clear HB; have HO122 := n0_; have HO125 := n1_; have HB := n2_; have BK126 := n3_; have GW126 := n4_; have GE126 := n5_; clear n0_ n1_ n2_ n3_ n4_ n5_; clear hb hbox hg; have hcz11_0 : w10.cell? ⟨gb126, 0, none⟩ = some (.int .i64 0) := (blk_cell BK126.out 0).trans rfl; have hcz11_1 : w10.cell? ⟨gb126, 1, none⟩ = some (.int .i64 0) := (blk_cell BK126.out 1).trans rfl; have hcz11_2 : w10.cell? ⟨gb126, 2, none⟩ = some (.int .i64 0) := (blk_cell BK126.out 2).trans rfl; have hcz11_3 : w10.cell? ⟨gb126, 3, none⟩ = some (.slice none 0 0) := (blk_cell BK126.out 3).trans rfl; have hcz11_4 : w10.cell? ⟨gb126, 4, none⟩ = some (.slice none 0 0) := (blk_cell BK126.out 4).trans rfl; have hcz11_5 : w10.cell? ⟨gb126, 5, none⟩ = some (.int .i64 0) := (blk_cell BK126.out 5).trans rfl; have hcz11_6 : w10.cell? ⟨gb126, 6, none⟩ = some (.int .i64 0) := (blk_cell BK126.out 6).trans rfl; have hcz11_7 : w10.cell? ⟨gb126, 7, none⟩ = some (.slice none 0 0) := (blk_cell BK126.out 7).trans rfl; have hcz11_8 : w10.cell? ⟨gb126, 8, none⟩ = some (.slice none 0 0) := (blk_cell BK126.out 8).trans rfl; have hcz11_9 : w10.cell? ⟨gb126, 9, none⟩ = some (.int .i64 0) := (blk_cell BK126.out 9).trans rfl; have hcz11_10 : w10.cell? ⟨gb126, 10, none⟩ = some (.int .i64 0) := (blk_cell BK126.out 10).trans rfl; have hcz11_11 : w10.cell? ⟨gb126, 11, none⟩ = some (.slice none 0 0) := (blk_cell BK126.out 11).trans rfl; have hcz11_12 : w10.cell? ⟨gb126, 12, none⟩ = some (.slice none 0 0) := (blk_cell BK126.out 12).trans rfl; have hfz11_0 := blk_frozen BK126.out 0; have hfz11_1 := blk_frozen BK126.out 1; have hfz11_2 := blk_frozen BK126.out 2; have hfz11_3 := blk_frozen BK126.out 3; have hfz11_4 := blk_frozen BK126.out 4; have hfz11_5 := blk_frozen BK126.out 5; have hfz11_6 := blk_frozen BK126.out 6; have hfz11_7 := blk_frozen BK126.out 7; have hfz11_8 := blk_frozen BK126.out 8; have hfz11_9 := blk_frozen BK126.out 9; have hfz11_10 := blk_frozen BK126.out 10; have hfz11_11 := blk_frozen BK126.out 11; have hfz11_12 := blk_frozen BK126.out 12) | ((with_reducible refine gate_callee (f := 68) rfl ?_); refine goesL_ (some 12) rfl rfl Try.func68 (by kernel_rfl) rfl #[.agg #[.int .i64 0, .int .i64 0, .int .i64 0, .slice Ao9 y120.length co9, .slice none 0 0, .int .i64 0, .int .i64 0, .slice none 0 0, .slice none 0 0, .int .i64 0, .int .i64 0, .slice Ao8 y123.length co8, .slice none 0 0]] rfl (by (try simp only [List.map_toArray, List.map_cons, List.map_nil]); first | done | rfl | (simp only [List.length_drop, List.length_take]; rfl)) ?_; (refine (live_Spans.calls k 0 0 0 _ _ y120 _ _ ([] : List (S31)) 0 0 _ _ ([] : List (S38)) _ _ ([] : List (S63)) 0 0 _ _ y123 _ _ ([] : List (S63)) t127 t130 _ ?side1 ?side2 ?side3 ?side4 ?side5 ?side6 ?side7 ?side8 ?side9 ?side10 ?side11 ?side12 A1.out).mono ?_); (case side1 => refine (Kd.R_reads' (e := 181) (base := w.heap.size) (ok := fun k_ => True) (n := y120.length) (c := co9) ?_).2.2; exact (by (with_reducible repeat (first | apply Kd.R_alloc | apply Kd.R_drewN | apply Kd.R_drew)); exact (Kd.R_mono (Kd.R_far (p := ⟨gb126, 12, none⟩) (Kd.R_far (p := ⟨gb126, 11, none⟩) (Kd.R_far (p := ⟨gb126, 10, none⟩) (Kd.R_far (p := ⟨gb126, 9, none⟩) (Kd.R_far (p := ⟨gb126, 8, none⟩) (Kd.R_far (p := ⟨gb126, 7, none⟩) (Kd.R_far (p := ⟨gb126, 6, none⟩) (Kd.R_far (p := ⟨gb126, 5, none⟩) (Kd.R_far (p := ⟨gb126, 4, none⟩) (Kd.R_far (p := ⟨gb126, 3, none⟩) (Kd.R_far (p := ⟨gb126, 2, none⟩) (Kd.R_far (p := ⟨gb126, 1, none⟩) (Kd.R_far (p := ⟨gb126, 0, none⟩) (Kd.R_types HO122.out BK126.out (by decide)) (fun _ hk => hk.2) (.int .i64 0)) (fun _ hk => hk.2) (.int .i64 0)) (fun _ hk => hk.2) (.int .i64 0)) (fun _ hk => hk.2) (.slice Ao9 y120.length co9)) (fun _ hk => hk.2) (.slice none 0 0)) (fun _ hk => hk.2) (.int .i64 0)) (fun _ hk => hk.2) (.int .i64 0)) (fun _ hk => hk.2) (.slice none 0 0)) (fun _ hk => hk.2) (.slice none 0 0)) (fun _ hk => hk.2) (.int .i64 0)) (fun _ hk => hk.2) (.int .i64 0)) (fun _ hk => hk.2) (.slice Ao8 y123.length co8)) (fun _ hk => hk.2) (.slice none 0 0)) (fun _ h_ => h_.1)))); (case side2 => exact (Kd.R_reads' HO122.out).2.1); (case side3 => exact Kd.C_nil _ _); (case side4 => exact Nat.le_refl _); (case side5 => exact Kd.C_nil _ _); (case side6 => exact Nat.le_refl _); (case side7 => exact Kd.C_nil _ _); (case side8 => exact Nat.le_refl _); (case side9 => refine (Kd.R_reads' (e := 38) (base := w.heap.size) (ok := fun k_ => True) (n := y123.length) (c := co8) ?_).2.2; exact (by (with_reducible repeat (first | apply Kd.R_alloc | apply Kd.R_drewN | apply Kd.R_drew)); exact (Kd.R_mono (Kd.R_far (p := ⟨gb126, 12, none⟩) (Kd.R_far (p := ⟨gb126, 11, none⟩) (Kd.R_far (p := ⟨gb126, 10, none⟩) (Kd.R_far (p := ⟨gb126, 9, none⟩) (Kd.R_far (p := ⟨gb126, 8, none⟩) (Kd.R_far (p := ⟨gb126, 7, none⟩) (Kd.R_far (p := ⟨gb126, 6, none⟩) (Kd.R_far (p := ⟨gb126, 5, none⟩) (Kd.R_far (p := ⟨gb126, 4, none⟩) (Kd.R_far (p := ⟨gb126, 3, none⟩) (Kd.R_far (p := ⟨gb126, 2, none⟩) (Kd.R_far (p := ⟨gb126, 1, none⟩) (Kd.R_far (p := ⟨gb126, 0, none⟩) (Kd.R_types HO125.out BK126.out (by decide)) (fun _ hk => hk.2) (.int .i64 0)) (fun _ hk => hk.2) (.int .i64 0)) (fun _ hk => hk.2) (.int .i64 0)) (fun _ hk => hk.2) (.slice Ao9 y120.length co9)) (fun _ hk => hk.2) (.slice none 0 0)) (fun _ hk => hk.2) (.int .i64 0)) (fun _ hk => hk.2) (.int .i64 0)) (fun _ hk => hk.2) (.slice none 0 0)) (fun _ hk => hk.2) (.slice none 0 0)) (fun _ hk => hk.2) (.int .i64 0)) (fun _ hk => hk.2) (.int .i64 0)) (fun _ hk => hk.2) (.slice Ao8 y123.length co8)) (fun _ hk => hk.2) (.slice none 0 0)) (fun _ h_ => h_.1)))); (case side10 => exact (Kd.R_reads' HO125.out).2.1); (case side11 => exact Kd.C_nil _ _); (case side12 => exact Nat.le_refl _); rintro e w12 ⟨v128, rfl, ho0, hb⟩; refine ⟨_, rfl, ?_⟩; have n0_ := Aside0.mk (Kd.R_below (by (with_reducible repeat (first | apply Kd.R_alloc | apply Kd.R_drewN | apply Kd.R_drew)); exact (Kd.R_mono (Kd.R_far (p := ⟨gb126, 12, none⟩) (Kd.R_far (p := ⟨gb126, 11, none⟩) (Kd.R_far (p := ⟨gb126, 10, none⟩) (Kd.R_far (p := ⟨gb126, 9, none⟩) (Kd.R_far (p := ⟨gb126, 8, none⟩) (Kd.R_far (p := ⟨gb126, 7, none⟩) (Kd.R_far (p := ⟨gb126, 6, none⟩) (Kd.R_far (p := ⟨gb126, 5, none⟩) (Kd.R_far (p := ⟨gb126, 4, none⟩) (Kd.R_far (p := ⟨gb126, 3, none⟩) (Kd.R_far (p := ⟨gb126, 2, none⟩) (Kd.R_far (p := ⟨gb126, 1, none⟩) (Kd.R_far (p := ⟨gb126, 0, none⟩) (Kd.R_types HO122.out BK126.out (by decide)) (fun _ hk => hk.2) (.int .i64 0)) (fun _ hk => hk.2) (.int .i64 0)) (fun _ hk => hk.2) (.int .i64 0)) (fun _ hk => hk.2) (.slice Ao9 y120.length co9)) (fun _ hk => hk.2) (.slice none 0 0)) (fun _ hk => hk.2) (.int .i64 0)) (fun _ hk => hk.2) (.int .i64 0)) (fun _ hk => hk.2) (.slice none 0 0)) (fun _ hk => hk.2) (.slice none 0 0)) (fun _ hk => hk.2) (.int .i64 0)) (fun _ hk => hk.2) (.int .i64 0)) (fun _ hk => hk.2) (.slice Ao8 y123.length co8)) (fun _ hk => hk.2) (.slice none 0 0)) (fun _ h_ => h_.1))) hb); have n1_ := Aside0.mk (Kd.R_below (by (with_reducible repeat (first | apply Kd.R_alloc | apply Kd.R_drewN | apply Kd.R_drew)); exact (Kd.R_mono (Kd.R_far (p := ⟨gb126, 12, none⟩) (Kd.R_far (p := ⟨gb126, 11, none⟩) (Kd.R_far (p := ⟨gb126, 10, none⟩) (Kd.R_far (p := ⟨gb126, 9, none⟩) (Kd.R_far (p := ⟨gb126, 8, none⟩) (Kd.R_far (p := ⟨gb126, 7, none⟩) (Kd.R_far (p := ⟨gb126, 6, none⟩) (Kd.R_far (p := ⟨gb126, 5, none⟩) (Kd.R_far (p := ⟨gb126, 4, none⟩) (Kd.R_far (p := ⟨gb126, 3, none⟩) (Kd.R_far (p := ⟨gb126, 2, none⟩) (Kd.R_far (p := ⟨gb126, 1, none⟩) (Kd.R_far (p := ⟨gb126, 0, none⟩) (Kd.R_types HO125.out BK126.out (by decide)) (fun _ hk => hk.2) (.int .i64 0)) (fun _ hk => hk.2) (.int .i64 0)) (fun _ hk => hk.2) (.int .i64 0)) (fun _ hk => hk.2) (.slice Ao9 y120.length co9)) (fun _ hk => hk.2) (.slice none 0 0)) (fun _ hk => hk.2) (.int .i64 0)) (fun _ hk => hk.2) (.int .i64 0)) (fun _ hk => hk.2) (.slice none 0 0)) (fun _ hk => hk.2) (.slice none 0 0)) (fun _ hk => hk.2) (.int .i64 0)) (fun _ hk => hk.2) (.int .i64 0)) (fun _ hk => hk.2) (.slice Ao8 y123.length co8)) (fun _ hk => hk.2) (.slice none 0 0)) (fun _ h_ => h_.1))) hb); have n2_ := Aside0.mk (Kd.R_lower ho0 (below_size (by repeat (first | (with_reducible first | exact HB.out | apply below_alloc | apply pw_below_drewN | apply below_drew1 | refine below_set ?_ GE126.out) | exact HB.out)))); have n3_ := Aside0.mk (blk_below (g := gb126) (o := .cells #[.int .i64 0, .int .i64 0, .int .i64 0, .slice Ao9 y120.length co9, .slice none 0 0, .int .i64 0, .int .i64 0, .slice none 0 0, .slice none 0 0, .int .i64 0, .int .i64 0, .slice Ao8 y123.length co8, .slice none 0 0] 123 (0, 0)) (by (with_reducible repeat (first | refine blk_drewN ?_ _ | refine blk_drew ?_ | refine blk_alloc ?_ _)); refine blk_put (cs := #[.int .i64 0, .int .i64 0, .int .i64 0, .slice Ao9 y120.length co9, .slice none 0 0, .int .i64 0, .int .i64 0, .slice none 0 0, .slice none 0 0, .int .i64 0, .int .i64 0, .slice Ao8 y123.length co8, .slice none 0 0]) ?_ 12 _ rfl; (with_reducible repeat (first | refine blk_drewN ?_ _ | refine blk_drew ?_ | refine blk_alloc ?_ _)); refine blk_put (cs := #[.int .i64 0, .int .i64 0, .int .i64 0, .slice Ao9 y120.length co9, .slice none 0 0, .int .i64 0, .int .i64 0, .slice none 0 0, .slice none 0 0, .int .i64 0, .int .i64 0, .slice none 0 0, .slice none 0 0]) ?_ 11 _ rfl; (with_reducible repeat (first | refine blk_drewN ?_ _ | refine blk_drew ?_ | refine blk_alloc ?_ _)); refine blk_put (cs := #[.int .i64 0, .int .i64 0, .int .i64 0, .slice Ao9 y120.length co9, .slice none 0 0, .int .i64 0, .int .i64 0, .slice none 0 0, .slice none 0 0, .int .i64 0, .int .i64 0, .slice none 0 0, .slice none 0 0]) ?_ 10 _ rfl; (with_reducible repeat (first | refine blk_drewN ?_ _ | refine blk_drew ?_ | refine blk_alloc ?_ _)); refine blk_put (cs := #[.int .i64 0, .int .i64 0, .int .i64 0, .slice Ao9 y120.length co9, .slice none 0 0, .int .i64 0, .int .i64 0, .slice none 0 0, .slice none 0 0, .int .i64 0, .int .i64 0, .slice none 0 0, .slice none 0 0]) ?_ 9 _ rfl; (with_reducible repeat (first | refine blk_drewN ?_ _ | refine blk_drew ?_ | refine blk_alloc ?_ _)); refine blk_put (cs := #[.int .i64 0, .int .i64 0, .int .i64 0, .slice Ao9 y120.length co9, .slice none 0 0, .int .i64 0, .int .i64 0, .slice none 0 0, .slice none 0 0, .int .i64 0, .int .i64 0, .slice none 0 0, .slice none 0 0]) ?_ 8 _ rfl; (with_reducible repeat (first | refine blk_drewN ?_ _ | refine blk_drew ?_ | refine blk_alloc ?_ _)); refine blk_put (cs := #[.int .i64 0, .int .i64 0, .int .i64 0, .slice Ao9 y120.length co9, .slice none 0 0, .int .i64 0, .int .i64 0, .slice none 0 0, .slice none 0 0, .int .i64 0, .int .i64 0, .slice none 0 0, .slice none 0 0]) ?_ 7 _ rfl; (with_reducible repeat (first | refine blk_drewN ?_ _ | refine blk_drew ?_ | refine blk_alloc ?_ _)); refine blk_put (cs := #[.int .i64 0, .int .i64 0, .int .i64 0, .slice Ao9 y120.length co9, .slice none 0 0, .int .i64 0, .int .i64 0, .slice none 0 0, .slice none 0 0, .int .i64 0, .int .i64 0, .slice none 0 0, .slice none 0 0]) ?_ 6 _ rfl; (with_reducible repeat (first | refine blk_drewN ?_ _ | refine blk_drew ?_ | refine blk_alloc ?_ _)); refine blk_put (cs := #[.int .i64 0, .int .i64 0, .int .i64 0, .slice Ao9 y120.length co9, .slice none 0 0, .int .i64 0, .int .i64 0, .slice none 0 0, .slice none 0 0, .int .i64 0, .int .i64 0, .slice none 0 0, .slice none 0 0]) ?_ 5 _ rfl; (with_reducible repeat (first | refine blk_drewN ?_ _ | refine blk_drew ?_ | refine blk_alloc ?_ _)); refine blk_put (cs := #[.int .i64 0, .int .i64 0, .int .i64 0, .slice Ao9 y120.length co9, .slice none 0 0, .int .i64 0, .int .i64 0, .slice none 0 0, .slice none 0 0, .int .i64 0, .int .i64 0, .slice none 0 0, .slice none 0 0]) ?_ 4 _ rfl; (with_reducible repeat (first | refine blk_drewN ?_ _ | refine blk_drew ?_ | refine blk_alloc ?_ _)); refine blk_put (cs := #[.int .i64 0, .int .i64 0, .int .i64 0, .slice none 0 0, .slice none 0 0, .int .i64 0, .int .i64 0, .slice none 0 0, .slice none 0 0, .int .i64 0, .int .i64 0, .slice none 0 0, .slice none 0 0]) ?_ 3 _ rfl; (with_reducible repeat (first | refine blk_drewN ?_ _ | refine blk_drew ?_ | refine blk_alloc ?_ _)); refine blk_put (cs := #[.int .i64 0, .int .i64 0, .int .i64 0, .slice none 0 0, .slice none 0 0, .int .i64 0, .int .i64 0, .slice none 0 0, .slice none 0 0, .int .i64 0, .int .i64 0, .slice none 0 0, .slice none 0 0]) ?_ 2 _ rfl; (with_reducible repeat (first | refine blk_drewN ?_ _ | refine blk_drew ?_ | refine blk_alloc ?_ _)); refine blk_put (cs := #[.int .i64 0, .int .i64 0, .int .i64 0, .slice none 0 0, .slice none 0 0, .int .i64 0, .int .i64 0, .slice none 0 0, .slice none 0 0, .int .i64 0, .int .i64 0, .slice none 0 0, .slice none 0 0]) ?_ 1 _ rfl; (with_reducible repeat (first | refine blk_drewN ?_ _ | refine blk_drew ?_ | refine blk_alloc ?_ _)); refine blk_put (cs := #[.int .i64 0, .int .i64 0, .int .i64 0, .slice none 0 0, .slice none 0 0, .int .i64 0, .int .i64 0, .slice none 0 0, .slice none 0 0, .int .i64 0, .int .i64 0, .slice none 0 0, .slice none 0 0]) ?_ 0 _ rfl; (with_reducible repeat (first | refine blk_drewN ?_ _ | refine blk_drew ?_ | refine blk_alloc ?_ _)); exact BK126.out) hb); have n4_ := Aside0.mk (below_step (by repeat (first | (with_reducible first | exact HB.out | apply below_alloc | apply pw_below_drewN | apply below_drew1 | refine below_set ?_ GE126.out) | exact HB.out)) hb); clear HO122; clear HO125; clear BK126; clear HB; have HO122 := n0_; have HO125 := n1_; have HO129 := n2_; have BK126 := n3_; have HB := n4_; clear n0_ n1_ n2_ n3_ n4_; (try clear hb); (try clear hb2); (try clear hk); (try clear hi); (try clear ho0)) | ((with_reducible refine gate_dst (N := 20) rfl ?_); (try (refine gate_guard (by rfl) ?_; dsimp only)); refine Kd.R_lit k129 _ 129 ?hg (N := 20) ?hd (xs := ([(⟨0, 1⟩ : S129)] : List (S129))) (inner := [.int .i64 0, .int .i64 1]) (ok := fun _ => True) (okp := fun _ => True) ?hr ?hp (fun _ hk => hk) trivial (Below.refl _ _) (Nat.le_refl _) (by simp) ?_; (case hd => rfl); (case hg => rfl); (case hr => first | (go_simp; done) | (go_simp; rfl)); (case hp => exact (Reps.c2 (show Kd.M k129 _ _ _ (⟨0, 1⟩ : S129) [.int .i64 0, .int .i64 1] from (k129_mkM _ _ _ (⟨0, 1⟩ : S129) )) (Reps.none _ _))); intro v132 w13 ho14 hb hg_ hnew_; clear hg_ hnew_; (first | rw [← Ny131.out] at ho14 | (simp only [Int.reduceToNat] at ho14; rw [← Ny131.out] at ho14)); have n0_ := Aside0.mk (Kd.R_below (by (with_reducible repeat (first | apply Kd.R_alloc | apply Kd.R_drewN | apply Kd.R_drew)); exact HO122.out) hb); have n1_ := Aside0.mk (Kd.R_below (by (with_reducible repeat (first | apply Kd.R_alloc | apply Kd.R_drewN | apply Kd.R_drew)); exact HO125.out) hb); have n2_ := Aside0.mk (Kd.R_elder' (by (with_reducible repeat (first | apply Kd.R_alloc | apply Kd.R_drewN | apply Kd.R_drew)); exact HO129.out) (Kd.R_base ho14) hb); have n3_ := Aside0.mk (Kd.R_lower (Kd.R_new' ho14 (Kd.R_lt (by (with_reducible repeat (first | apply Kd.R_alloc | apply Kd.R_drewN | apply Kd.R_drew)); exact HO129.out))) (below_size (by repeat (first | (with_reducible first | exact HB.out | apply below_alloc | apply pw_below_drewN | apply below_drew1 | refine below_set ?_ GE126.out) | exact HB.out)))); have n4_ := Aside0.mk (blk_below (g := gb126) (o := .cells #[.int .i64 0, .int .i64 0, .int .i64 0, .slice Ao9 y120.length co9, .slice none 0 0, .int .i64 0, .int .i64 0, .slice none 0 0, .slice none 0 0, .int .i64 0, .int .i64 0, .slice Ao8 y123.length co8, .slice none 0 0] 123 (0, 0)) (by (with_reducible repeat (first | refine blk_drewN ?_ _ | refine blk_drew ?_ | refine blk_alloc ?_ _)); exact BK126.out) hb); have n5_ := Aside0.mk (below_step (by repeat (first | (with_reducible first | exact HB.out | apply below_alloc | apply pw_below_drewN | apply below_drew1 | refine below_set ?_ GE126.out) | exact HB.out)) hb); clear HO122; clear HO125; clear HO129; clear BK126; clear HB; have HO122 := n0_; have HO125 := n1_; have HO129 := n2_; have HO133 := n3_; have BK126 := n4_; have HB := n5_; clear n0_ n1_ n2_ n3_ n4_ n5_; clear hb ho14; obtain ⟨Ao15, co15, eo15⟩ := Kd.R_slice HO129.out; subst eo15; obtain ⟨Ao16, co16, eo16⟩ := Kd.R_slice HO133.out; subst eo16) | (go_at_call 113; (with_reducible refine (api_RSpan_113.calls k _ _ t127 _ _ y131 t134 _ ?side1 ?side2 ?side3 ?side4 A3.out).mono ?_); (case side1 => repeat (first | exact (Kd.R_reads' HO129.out).2.2 | (with_reducible refine Kd.C_alloc ?_ _) | (with_reducible refine Kd.C_drewN ?_ _) | (with_reducible refine Kd.C_drew ?_))); (case side2 => exact (Kd.R_reads' HO129.out).2.1); (case side3 => repeat (first | exact (Kd.R_reads' HO133.out).2.2 | (with_reducible refine Kd.C_alloc ?_ _) | (with_reducible refine Kd.C_drewN ?_ _) | (with_reducible refine Kd.C_drew ?_))); (case side4 => exact (Kd.R_reads' HO133.out).2.1); rintro e w17 ⟨rfl, hb⟩; have n0_ := Aside0.mk (Kd.R_below (by (with_reducible repeat (first | apply Kd.R_alloc | apply Kd.R_drewN | apply Kd.R_drew)); exact HO122.out) hb); have n1_ := Aside0.mk (Kd.R_below (by (with_reducible repeat (first | apply Kd.R_alloc | apply Kd.R_drewN | apply Kd.R_drew)); exact HO125.out) hb); have n2_ := Aside0.mk (Kd.R_below (by (with_reducible repeat (first | apply Kd.R_alloc | apply Kd.R_drewN | apply Kd.R_drew)); exact HO129.out) hb); have n3_ := Aside0.mk (Kd.R_below (by (with_reducible repeat (first | apply Kd.R_alloc | apply Kd.R_drewN | apply Kd.R_drew)); exact HO133.out) hb); have n4_ := Aside0.mk (blk_below (g := gb126) (o := .cells #[.int .i64 0, .int .i64 0, .int .i64 0, .slice Ao9 y120.length co9, .slice none 0 0, .int .i64 0, .int .i64 0, .slice none 0 0, .slice none 0 0, .int .i64 0, .int .i64 0, .slice Ao8 y123.length co8, .slice none 0 0] 123 (0, 0)) (by (with_reducible repeat (first | refine blk_drewN ?_ _ | refine blk_drew ?_ | refine blk_alloc ?_ _)); exact BK126.out) hb); have n5_ := Aside0.mk (below_step (by repeat (first | (with_reducible first | exact HB.out | apply below_alloc | apply pw_below_drewN | apply below_drew1 | refine below_set ?_ GE126.out) | exact HB.out)) hb); clear HO122; clear HO125; clear HO129; clear HO133; clear BK126; clear HB; have HO122 := n0_; have HO125 := n1_; have HO129 := n2_; have HO133 := n3_; have BK126 := n4_; have HB := n5_; clear n0_ n1_ n2_ n3_ n4_ n5_; (try clear hb); (try clear hb2); (try clear hk); (try clear hi)))
    go_ret
    exact ⟨by first | rfl | (simp [errW_none, errW_some] <;> rfl) | (simp [*, errW_none, errW_some] <;> rfl), by repeat (first | (with_reducible first | exact HB.out | apply below_alloc | apply pw_below_drewN | apply below_drew1 | refine below_set ?_ GE126.out) | exact HB.out)⟩
  · rw [if_neg c2] at H
    have c2b0 : (t130 == 0) = false := beq_eq_false_iff_ne.mpr c2
    have c2b1 : (t130 != 0) = true := bne_iff_ne.mpr c2
    obtain rfl := Option.some.inj H
    go_enter Try.func66, Try.ntmps66
    go_wp2_with (first | ((with_reducible refine gate_dst (N := 5) rfl ?_); (try (refine gate_guard (by rfl) ?_; dsimp only)); refine Kd.R_lit k181 _ 181 ?hg (N := 5) ?hd (xs := ([(⟨3, (-1), (-1), (-1), 0, (-1), (⟨0, 0⟩ : S23)⟩ : S181)] : List (S181))) (inner := [.int .i64 3, .int .i64 (-1), .int .i64 (-1), .int .i64 (-1), .int .i64 0, .int .i64 (-1), .int .i64 0, .int .i64 0]) (ok := fun _ => True) (okp := fun _ => True) ?hr ?hp (fun _ hk => hk) trivial (Below.refl _ _) (Nat.le_refl _) (by simp) ?_; (case hd => rfl); (case hg => rfl); (case hr => first | (go_simp; done) | (go_simp; rfl)); (case hp => exact (Reps.c8 (show Kd.M k181 _ _ _ (⟨3, (-1), (-1), (-1), 0, (-1), (⟨0, 0⟩ : S23)⟩ : S181) [.int .i64 3, .int .i64 (-1), .int .i64 (-1), .int .i64 (-1), .int .i64 0, .int .i64 (-1), .int .i64 0, .int .i64 0] from (k181_mkM _ _ _ (⟨3, (-1), (-1), (-1), 0, (-1), (⟨0, 0⟩ : S23)⟩ : S181) )) (Reps.none _ _))); intro v121 w18 ho19 hb hg_ hnew_; clear hg_ hnew_; (first | rw [← Ny120.out] at ho19 | (simp only [Int.reduceToNat] at ho19; rw [← Ny120.out] at ho19)); have n0_ := Aside0.mk (Kd.R_lower ho19 (below_size (by repeat (first | (with_reducible first | exact HB.out | apply below_alloc | apply pw_below_drewN | apply below_drew1) | exact HB.out)))); have n1_ := Aside0.mk (below_step (by repeat (first | (with_reducible first | exact HB.out | apply below_alloc | apply pw_below_drewN | apply below_drew1) | exact HB.out)) hb); clear HB; have HO122 := n0_; have HB := n1_; clear n0_ n1_; clear hb ho19) | ((with_reducible refine gate_dst (N := 7) rfl ?_); (try (refine gate_guard (by rfl) ?_; dsimp only)); refine Kd.R_lit k38 _ 38 ?hg (N := 7) ?hd (xs := ([(⟨0, 0⟩ : S38)] : List (S38))) (inner := [.int .i64 0, .int .i64 0]) (ok := fun _ => True) (okp := fun _ => True) ?hr ?hp (fun _ hk => hk) trivial (Below.refl _ _) (Nat.le_refl _) (by simp) ?_; (case hd => rfl); (case hg => rfl); (case hr => first | (go_simp; done) | (go_simp; rfl)); (case hp => exact (Reps.c2 (show Kd.M k38 _ _ _ (⟨0, 0⟩ : S38) [.int .i64 0, .int .i64 0] from (k38_mkM _ _ _ (⟨0, 0⟩ : S38) )) (Reps.none _ _))); intro v124 w20 ho21 hb hg_ hnew_; clear hg_ hnew_; (first | rw [← Ny123.out] at ho21 | (simp only [Int.reduceToNat] at ho21; rw [← Ny123.out] at ho21)); have n0_ := Aside0.mk (Kd.R_below (by (with_reducible repeat (first | apply Kd.R_alloc | apply Kd.R_drewN | apply Kd.R_drew)); exact HO122.out) hb); have n1_ := Aside0.mk (Kd.R_lower ho21 (below_size (by repeat (first | (with_reducible first | exact HB.out | apply below_alloc | apply pw_below_drewN | apply below_drew1) | exact HB.out)))); have n2_ := Aside0.mk (below_step (by repeat (first | (with_reducible first | exact HB.out | apply below_alloc | apply pw_below_drewN | apply below_drew1) | exact HB.out)) hb); clear HO122; clear HB; have HO122 := n0_; have HO125 := n1_; have HB := n2_; clear n0_ n1_ n2_; clear hb ho21; obtain ⟨Ao22, co22, eo22⟩ := Kd.R_slice HO125.out; subst eo22; obtain ⟨Ao23, co23, eo23⟩ := Kd.R_slice HO122.out; subst eo23) | ((with_reducible refine gate_dst (N := 1) rfl ?_); (try (refine gate_guard (by rfl) ?_; dsimp only)); refine box_event ?hg (N := 1) ?hd (cs := #[.int .i64 0, .int .i64 0, .int .i64 0, .slice none 0 0, .slice none 0 0, .int .i64 0, .int .i64 0, .slice none 0 0, .slice none 0 0, .int .i64 0, .int .i64 0, .slice none 0 0, .slice none 0 0]) (t := 123) ?hr ?_; (case hd => rfl); (case hg => rfl); (case hr => first | (go_simp; done) | (go_simp; rfl)); intro gb126 hg w24 hbox hb; have n0_ := Aside0.mk (Kd.R_below (by (with_reducible repeat (first | apply Kd.R_alloc | apply Kd.R_drewN | apply Kd.R_drew)); exact HO122.out) hb); have n1_ := Aside0.mk (Kd.R_below (by (with_reducible repeat (first | apply Kd.R_alloc | apply Kd.R_drewN | apply Kd.R_drew)); exact HO125.out) hb); have n2_ := Aside0.mk (below_step (by repeat (first | (with_reducible first | exact HB.out | apply below_alloc | apply pw_below_drewN | apply below_drew1) | exact HB.out)) hb); have n3_ := Aside0.mk (hbox); have n4_ := Aside0.mk ((by rw [hg]; exact (below_size (by repeat (first | (with_reducible first | exact HB.out | apply below_alloc | apply pw_below_drewN | apply below_drew1) | exact HB.out))) : w.heap.size ≤ gb126)); have n5_ := Aside0.mk ((by rw [hg]; exact (below_size (by repeat (first | (with_reducible first | exact HB.out | apply below_alloc | apply pw_below_drewN | apply below_drew1) | exact HB.out))) : w.heap.size ≤ gb126)); clear HO122; clear HO125; clear HB; have HO122 := n0_; have HO125 := n1_; have HB := n2_; have BK126 := n3_; have GW126 := n4_; have GE126 := n5_; clear n0_ n1_ n2_ n3_ n4_ n5_; clear hb hbox hg; have hcz25_0 : w24.cell? ⟨gb126, 0, none⟩ = some (.int .i64 0) := (blk_cell BK126.out 0).trans rfl; have hcz25_1 : w24.cell? ⟨gb126, 1, none⟩ = some (.int .i64 0) := (blk_cell BK126.out 1).trans rfl; have hcz25_2 : w24.cell? ⟨gb126, 2, none⟩ = some (.int .i64 0) := (blk_cell BK126.out 2).trans rfl; have hcz25_3 : w24.cell? ⟨gb126, 3, none⟩ = some (.slice none 0 0) := (blk_cell BK126.out 3).trans rfl; have hcz25_4 : w24.cell? ⟨gb126, 4, none⟩ = some (.slice none 0 0) := (blk_cell BK126.out 4).trans rfl; have hcz25_5 : w24.cell? ⟨gb126, 5, none⟩ = some (.int .i64 0) := (blk_cell BK126.out 5).trans rfl; have hcz25_6 : w24.cell? ⟨gb126, 6, none⟩ = some (.int .i64 0) := (blk_cell BK126.out 6).trans rfl; have hcz25_7 : w24.cell? ⟨gb126, 7, none⟩ = some (.slice none 0 0) := (blk_cell BK126.out 7).trans rfl; have hcz25_8 : w24.cell? ⟨gb126, 8, none⟩ = some (.slice none 0 0) := (blk_cell BK126.out 8).trans rfl; have hcz25_9 : w24.cell? ⟨gb126, 9, none⟩ = some (.int .i64 0) := (blk_cell BK126.out 9).trans rfl; have hcz25_10 : w24.cell? ⟨gb126, 10, none⟩ = some (.int .i64 0) := (blk_cell BK126.out 10).trans rfl; have hcz25_11 : w24.cell? ⟨gb126, 11, none⟩ = some (.slice none 0 0) := (blk_cell BK126.out 11).trans rfl; have hcz25_12 : w24.cell? ⟨gb126, 12, none⟩ = some (.slice none 0 0) := (blk_cell BK126.out 12).trans rfl; have hfz25_0 := blk_frozen BK126.out 0; have hfz25_1 := blk_frozen BK126.out 1; have hfz25_2 := blk_frozen BK126.out 2; have hfz25_3 := blk_frozen BK126.out 3; have hfz25_4 := blk_frozen BK126.out 4; have hfz25_5 := blk_frozen BK126.out 5; have hfz25_6 := blk_frozen BK126.out 6; have hfz25_7 := blk_frozen BK126.out 7; have hfz25_8 := blk_frozen BK126.out 8; have hfz25_9 := blk_frozen BK126.out 9; have hfz25_10 := blk_frozen BK126.out 10; have hfz25_11 := blk_frozen BK126.out 11; have hfz25_12 := blk_frozen BK126.out 12) | ((with_reducible refine gate_callee (f := 68) rfl ?_); refine goesL_ (some 12) rfl rfl Try.func68 (by kernel_rfl) rfl #[.agg #[.int .i64 0, .int .i64 0, .int .i64 0, .slice Ao23 y120.length co23, .slice none 0 0, .int .i64 0, .int .i64 0, .slice none 0 0, .slice none 0 0, .int .i64 0, .int .i64 0, .slice Ao22 y123.length co22, .slice none 0 0]] rfl (by (try simp only [List.map_toArray, List.map_cons, List.map_nil]); first | done | rfl | (simp only [List.length_drop, List.length_take]; rfl)) ?_; (refine (live_Spans.calls k 0 0 0 _ _ y120 _ _ ([] : List (S31)) 0 0 _ _ ([] : List (S38)) _ _ ([] : List (S63)) 0 0 _ _ y123 _ _ ([] : List (S63)) t127 t130 _ ?side1 ?side2 ?side3 ?side4 ?side5 ?side6 ?side7 ?side8 ?side9 ?side10 ?side11 ?side12 A1.out).mono ?_); (case side1 => refine (Kd.R_reads' (e := 181) (base := w.heap.size) (ok := fun k_ => True) (n := y120.length) (c := co23) ?_).2.2; exact (by (with_reducible repeat (first | apply Kd.R_alloc | apply Kd.R_drewN | apply Kd.R_drew)); exact (Kd.R_mono (Kd.R_far (p := ⟨gb126, 12, none⟩) (Kd.R_far (p := ⟨gb126, 11, none⟩) (Kd.R_far (p := ⟨gb126, 10, none⟩) (Kd.R_far (p := ⟨gb126, 9, none⟩) (Kd.R_far (p := ⟨gb126, 8, none⟩) (Kd.R_far (p := ⟨gb126, 7, none⟩) (Kd.R_far (p := ⟨gb126, 6, none⟩) (Kd.R_far (p := ⟨gb126, 5, none⟩) (Kd.R_far (p := ⟨gb126, 4, none⟩) (Kd.R_far (p := ⟨gb126, 3, none⟩) (Kd.R_far (p := ⟨gb126, 2, none⟩) (Kd.R_far (p := ⟨gb126, 1, none⟩) (Kd.R_far (p := ⟨gb126, 0, none⟩) (Kd.R_types HO122.out BK126.out (by decide)) (fun _ hk => hk.2) (.int .i64 0)) (fun _ hk => hk.2) (.int .i64 0)) (fun _ hk => hk.2) (.int .i64 0)) (fun _ hk => hk.2) (.slice Ao23 y120.length co23)) (fun _ hk => hk.2) (.slice none 0 0)) (fun _ hk => hk.2) (.int .i64 0)) (fun _ hk => hk.2) (.int .i64 0)) (fun _ hk => hk.2) (.slice none 0 0)) (fun _ hk => hk.2) (.slice none 0 0)) (fun _ hk => hk.2) (.int .i64 0)) (fun _ hk => hk.2) (.int .i64 0)) (fun _ hk => hk.2) (.slice Ao22 y123.length co22)) (fun _ hk => hk.2) (.slice none 0 0)) (fun _ h_ => h_.1)))); (case side2 => exact (Kd.R_reads' HO122.out).2.1); (case side3 => exact Kd.C_nil _ _); (case side4 => exact Nat.le_refl _); (case side5 => exact Kd.C_nil _ _); (case side6 => exact Nat.le_refl _); (case side7 => exact Kd.C_nil _ _); (case side8 => exact Nat.le_refl _); (case side9 => refine (Kd.R_reads' (e := 38) (base := w.heap.size) (ok := fun k_ => True) (n := y123.length) (c := co22) ?_).2.2; exact (by (with_reducible repeat (first | apply Kd.R_alloc | apply Kd.R_drewN | apply Kd.R_drew)); exact (Kd.R_mono (Kd.R_far (p := ⟨gb126, 12, none⟩) (Kd.R_far (p := ⟨gb126, 11, none⟩) (Kd.R_far (p := ⟨gb126, 10, none⟩) (Kd.R_far (p := ⟨gb126, 9, none⟩) (Kd.R_far (p := ⟨gb126, 8, none⟩) (Kd.R_far (p := ⟨gb126, 7, none⟩) (Kd.R_far (p := ⟨gb126, 6, none⟩) (Kd.R_far (p := ⟨gb126, 5, none⟩) (Kd.R_far (p := ⟨gb126, 4, none⟩) (Kd.R_far (p := ⟨gb126, 3, none⟩) (Kd.R_far (p := ⟨gb126, 2, none⟩) (Kd.R_far (p := ⟨gb126, 1, none⟩) (Kd.R_far (p := ⟨gb126, 0, none⟩) (Kd.R_types HO125.out BK126.out (by decide)) (fun _ hk => hk.2) (.int .i64 0)) (fun _ hk => hk.2) (.int .i64 0)) (fun _ hk => hk.2) (.int .i64 0)) (fun _ hk => hk.2) (.slice Ao23 y120.length co23)) (fun _ hk => hk.2) (.slice none 0 0)) (fun _ hk => hk.2) (.int .i64 0)) (fun _ hk => hk.2) (.int .i64 0)) (fun _ hk => hk.2) (.slice none 0 0)) (fun _ hk => hk.2) (.slice none 0 0)) (fun _ hk => hk.2) (.int .i64 0)) (fun _ hk => hk.2) (.int .i64 0)) (fun _ hk => hk.2) (.slice Ao22 y123.length co22)) (fun _ hk => hk.2) (.slice none 0 0)) (fun _ h_ => h_.1)))); (case side10 => exact (Kd.R_reads' HO125.out).2.1); (case side11 => exact Kd.C_nil _ _); (case side12 => exact Nat.le_refl _); rintro e w26 ⟨v128, rfl, ho0, hb⟩; refine ⟨_, rfl, ?_⟩; have n0_ := Aside0.mk (Kd.R_below (by (with_reducible repeat (first | apply Kd.R_alloc | apply Kd.R_drewN | apply Kd.R_drew)); exact (Kd.R_mono (Kd.R_far (p := ⟨gb126, 12, none⟩) (Kd.R_far (p := ⟨gb126, 11, none⟩) (Kd.R_far (p := ⟨gb126, 10, none⟩) (Kd.R_far (p := ⟨gb126, 9, none⟩) (Kd.R_far (p := ⟨gb126, 8, none⟩) (Kd.R_far (p := ⟨gb126, 7, none⟩) (Kd.R_far (p := ⟨gb126, 6, none⟩) (Kd.R_far (p := ⟨gb126, 5, none⟩) (Kd.R_far (p := ⟨gb126, 4, none⟩) (Kd.R_far (p := ⟨gb126, 3, none⟩) (Kd.R_far (p := ⟨gb126, 2, none⟩) (Kd.R_far (p := ⟨gb126, 1, none⟩) (Kd.R_far (p := ⟨gb126, 0, none⟩) (Kd.R_types HO122.out BK126.out (by decide)) (fun _ hk => hk.2) (.int .i64 0)) (fun _ hk => hk.2) (.int .i64 0)) (fun _ hk => hk.2) (.int .i64 0)) (fun _ hk => hk.2) (.slice Ao23 y120.length co23)) (fun _ hk => hk.2) (.slice none 0 0)) (fun _ hk => hk.2) (.int .i64 0)) (fun _ hk => hk.2) (.int .i64 0)) (fun _ hk => hk.2) (.slice none 0 0)) (fun _ hk => hk.2) (.slice none 0 0)) (fun _ hk => hk.2) (.int .i64 0)) (fun _ hk => hk.2) (.int .i64 0)) (fun _ hk => hk.2) (.slice Ao22 y123.length co22)) (fun _ hk => hk.2) (.slice none 0 0)) (fun _ h_ => h_.1))) hb); have n1_ := Aside0.mk (Kd.R_below (by (with_reducible repeat (first | apply Kd.R_alloc | apply Kd.R_drewN | apply Kd.R_drew)); exact (Kd.R_mono (Kd.R_far (p := ⟨gb126, 12, none⟩) (Kd.R_far (p := ⟨gb126, 11, none⟩) (Kd.R_far (p := ⟨gb126, 10, none⟩) (Kd.R_far (p := ⟨gb126, 9, none⟩) (Kd.R_far (p := ⟨gb126, 8, none⟩) (Kd.R_far (p := ⟨gb126, 7, none⟩) (Kd.R_far (p := ⟨gb126, 6, none⟩) (Kd.R_far (p := ⟨gb126, 5, none⟩) (Kd.R_far (p := ⟨gb126, 4, none⟩) (Kd.R_far (p := ⟨gb126, 3, none⟩) (Kd.R_far (p := ⟨gb126, 2, none⟩) (Kd.R_far (p := ⟨gb126, 1, none⟩) (Kd.R_far (p := ⟨gb126, 0, none⟩) (Kd.R_types HO125.out BK126.out (by decide)) (fun _ hk => hk.2) (.int .i64 0)) (fun _ hk => hk.2) (.int .i64 0)) (fun _ hk => hk.2) (.int .i64 0)) (fun _ hk => hk.2) (.slice Ao23 y120.length co23)) (fun _ hk => hk.2) (.slice none 0 0)) (fun _ hk => hk.2) (.int .i64 0)) (fun _ hk => hk.2) (.int .i64 0)) (fun _ hk => hk.2) (.slice none 0 0)) (fun _ hk => hk.2) (.slice none 0 0)) (fun _ hk => hk.2) (.int .i64 0)) (fun _ hk => hk.2) (.int .i64 0)) (fun _ hk => hk.2) (.slice Ao22 y123.length co22)) (fun _ hk => hk.2) (.slice none 0 0)) (fun _ h_ => h_.1))) hb); have n2_ := Aside0.mk (Kd.R_lower ho0 (below_size (by repeat (first | (with_reducible first | exact HB.out | apply below_alloc | apply pw_below_drewN | apply below_drew1 | refine below_set ?_ GE126.out) | exact HB.out)))); have n3_ := Aside0.mk (blk_below (g := gb126) (o := .cells #[.int .i64 0, .int .i64 0, .int .i64 0, .slice Ao23 y120.length co23, .slice none 0 0, .int .i64 0, .int .i64 0, .slice none 0 0, .slice none 0 0, .int .i64 0, .int .i64 0, .slice Ao22 y123.length co22, .slice none 0 0] 123 (0, 0)) (by (with_reducible repeat (first | refine blk_drewN ?_ _ | refine blk_drew ?_ | refine blk_alloc ?_ _)); refine blk_put (cs := #[.int .i64 0, .int .i64 0, .int .i64 0, .slice Ao23 y120.length co23, .slice none 0 0, .int .i64 0, .int .i64 0, .slice none 0 0, .slice none 0 0, .int .i64 0, .int .i64 0, .slice Ao22 y123.length co22, .slice none 0 0]) ?_ 12 _ rfl; (with_reducible repeat (first | refine blk_drewN ?_ _ | refine blk_drew ?_ | refine blk_alloc ?_ _)); refine blk_put (cs := #[.int .i64 0, .int .i64 0, .int .i64 0, .slice Ao23 y120.length co23, .slice none 0 0, .int .i64 0, .int .i64 0, .slice none 0 0, .slice none 0 0, .int .i64 0, .int .i64 0, .slice none 0 0, .slice none 0 0]) ?_ 11 _ rfl; (with_reducible repeat (first | refine blk_drewN ?_ _ | refine blk_drew ?_ | refine blk_alloc ?_ _)); refine blk_put (cs := #[.int .i64 0, .int .i64 0, .int .i64 0, .slice Ao23 y120.length co23, .slice none 0 0, .int .i64 0, .int .i64 0, .slice none 0 0, .slice none 0 0, .int .i64 0, .int .i64 0, .slice none 0 0, .slice none 0 0]) ?_ 10 _ rfl; (with_reducible repeat (first | refine blk_drewN ?_ _ | refine blk_drew ?_ | refine blk_alloc ?_ _)); refine blk_put (cs := #[.int .i64 0, .int .i64 0, .int .i64 0, .slice Ao23 y120.length co23, .slice none 0 0, .int .i64 0, .int .i64 0, .slice none 0 0, .slice none 0 0, .int .i64 0, .int .i64 0, .slice none 0 0, .slice none 0 0]) ?_ 9 _ rfl; (with_reducible repeat (first | refine blk_drewN ?_ _ | refine blk_drew ?_ | refine blk_alloc ?_ _)); refine blk_put (cs := #[.int .i64 0, .int .i64 0, .int .i64 0, .slice Ao23 y120.length co23, .slice none 0 0, .int .i64 0, .int .i64 0, .slice none 0 0, .slice none 0 0, .int .i64 0, .int .i64 0, .slice none 0 0, .slice none 0 0]) ?_ 8 _ rfl; (with_reducible repeat (first | refine blk_drewN ?_ _ | refine blk_drew ?_ | refine blk_alloc ?_ _)); refine blk_put (cs := #[.int .i64 0, .int .i64 0, .int .i64 0, .slice Ao23 y120.length co23, .slice none 0 0, .int .i64 0, .int .i64 0, .slice none 0 0, .slice none 0 0, .int .i64 0, .int .i64 0, .slice none 0 0, .slice none 0 0]) ?_ 7 _ rfl; (with_reducible repeat (first | refine blk_drewN ?_ _ | refine blk_drew ?_ | refine blk_alloc ?_ _)); refine blk_put (cs := #[.int .i64 0, .int .i64 0, .int .i64 0, .slice Ao23 y120.length co23, .slice none 0 0, .int .i64 0, .int .i64 0, .slice none 0 0, .slice none 0 0, .int .i64 0, .int .i64 0, .slice none 0 0, .slice none 0 0]) ?_ 6 _ rfl; (with_reducible repeat (first | refine blk_drewN ?_ _ | refine blk_drew ?_ | refine blk_alloc ?_ _)); refine blk_put (cs := #[.int .i64 0, .int .i64 0, .int .i64 0, .slice Ao23 y120.length co23, .slice none 0 0, .int .i64 0, .int .i64 0, .slice none 0 0, .slice none 0 0, .int .i64 0, .int .i64 0, .slice none 0 0, .slice none 0 0]) ?_ 5 _ rfl; (with_reducible repeat (first | refine blk_drewN ?_ _ | refine blk_drew ?_ | refine blk_alloc ?_ _)); refine blk_put (cs := #[.int .i64 0, .int .i64 0, .int .i64 0, .slice Ao23 y120.length co23, .slice none 0 0, .int .i64 0, .int .i64 0, .slice none 0 0, .slice none 0 0, .int .i64 0, .int .i64 0, .slice none 0 0, .slice none 0 0]) ?_ 4 _ rfl; (with_reducible repeat (first | refine blk_drewN ?_ _ | refine blk_drew ?_ | refine blk_alloc ?_ _)); refine blk_put (cs := #[.int .i64 0, .int .i64 0, .int .i64 0, .slice none 0 0, .slice none 0 0, .int .i64 0, .int .i64 0, .slice none 0 0, .slice none 0 0, .int .i64 0, .int .i64 0, .slice none 0 0, .slice none 0 0]) ?_ 3 _ rfl; (with_reducible repeat (first | refine blk_drewN ?_ _ | refine blk_drew ?_ | refine blk_alloc ?_ _)); refine blk_put (cs := #[.int .i64 0, .int .i64 0, .int .i64 0, .slice none 0 0, .slice none 0 0, .int .i64 0, .int .i64 0, .slice none 0 0, .slice none 0 0, .int .i64 0, .int .i64 0, .slice none 0 0, .slice none 0 0]) ?_ 2 _ rfl; (with_reducible repeat (first | refine blk_drewN ?_ _ | refine blk_drew ?_ | refine blk_alloc ?_ _)); refine blk_put (cs := #[.int .i64 0, .int .i64 0, .int .i64 0, .slice none 0 0, .slice none 0 0, .int .i64 0, .int .i64 0, .slice none 0 0, .slice none 0 0, .int .i64 0, .int .i64 0, .slice none 0 0, .slice none 0 0]) ?_ 1 _ rfl; (with_reducible repeat (first | refine blk_drewN ?_ _ | refine blk_drew ?_ | refine blk_alloc ?_ _)); refine blk_put (cs := #[.int .i64 0, .int .i64 0, .int .i64 0, .slice none 0 0, .slice none 0 0, .int .i64 0, .int .i64 0, .slice none 0 0, .slice none 0 0, .int .i64 0, .int .i64 0, .slice none 0 0, .slice none 0 0]) ?_ 0 _ rfl; (with_reducible repeat (first | refine blk_drewN ?_ _ | refine blk_drew ?_ | refine blk_alloc ?_ _)); exact BK126.out) hb); have n4_ := Aside0.mk (below_step (by repeat (first | (with_reducible first | exact HB.out | apply below_alloc | apply pw_below_drewN | apply below_drew1 | refine below_set ?_ GE126.out) | exact HB.out)) hb); clear HO122; clear HO125; clear BK126; clear HB; have HO122 := n0_; have HO125 := n1_; have HO129 := n2_; have BK126 := n3_; have HB := n4_; clear n0_ n1_ n2_ n3_ n4_; (try clear hb); (try clear hb2); (try clear hk); (try clear hi); (try clear ho0)))
    go_ret
    exact ⟨by first | rfl | (simp [errW_none, errW_some] <;> rfl) | (simp [*, errW_none, errW_some] <;> rfl), by repeat (first | (with_reducible first | exact HB.out | apply below_alloc | apply pw_below_drewN | apply below_drew1 | refine below_set ?_ GE126.out) | exact HB.out)⟩

/-! ### backstitchref3_Has_int: function 89 -/
def backstitchref3_Has_int.l0 : Nat → Int → List Int → Int → Int → Option (Bool)
  | 0, _, _, _, _ => none
  | k + 1, x1, x7, x8, x9 => if x9 < x8 then (if 0 ≤ x9 then (if x9 < (x7.length : Int) then (if x1 = (rd x7 x9) then (some true) else (backstitchref3_Has_int.l0 k x1 x7 x8 (wrap64 (x9 + 1)))) else (none)) else (none)) else (some false)
def backstitchref3_Has_int.f (k : Nat) (l0 : List Int) (a1 : Int) : Option (Bool) := backstitchref3_Has_int.l0 k a1 l0 (l0.length : Int) 0
theorem backstitchref3_Has_int.mono_l : ∀ k, (∀ y0 y1 y2 y3, LeO (backstitchref3_Has_int.l0 k y0 y1 y2 y3) (backstitchref3_Has_int.l0 (k + 1) y0 y1 y2 y3))
  | 0 => fun _ _ _ _ r h => by simp [backstitchref3_Has_int.l0] at h
  | k + 1 => by
    have ih0 := backstitchref3_Has_int.mono_l k
    · intro y0 y1 y2 y3
      unfold backstitchref3_Has_int.l0
      repeat' first
      | (with_reducible exact ih0 _ _ _ _)
      | (with_reducible exact LeO.refl _)
      | (with_reducible exact LeO.none _)
      | (with_reducible refine LeO.ite ?_ ?_)
      | (with_reducible refine LeO.bind ?_ (fun _ => ?_))
      | exact ih0 _ _ _ _
      | exact LeO.none _
      | refine LeO.ite ?_ ?_
      | refine LeO.bind ?_ (fun _ => ?_)
theorem backstitchref3_Has_int.mono : ∀ a0 a1 k, LeO (backstitchref3_Has_int.f k a0 a1) (backstitchref3_Has_int.f (k + 1) a0 a1) := by
  intro a0 a1 k
  have ih0 := backstitchref3_Has_int.mono_l k
  unfold backstitchref3_Has_int.f
  repeat' first
      | (with_reducible exact ih0 _ _ _ _)
      | (with_reducible exact LeO.refl _)
      | (with_reducible exact LeO.none _)
      | (with_reducible refine LeO.ite ?_ ?_)
      | (with_reducible refine LeO.bind ?_ (fun _ => ?_))
      | exact ih0 _ _ _ _
      | exact LeO.none _
      | refine LeO.ite ?_ ?_
      | refine LeO.bind ?_ (fun _ => ?_)
set_option maxHeartbeats 8000000 in
set_option maxRecDepth 100000 in
theorem backstitchref3_Has_int.calls (k : Nat) (A0 : Option Addr) (c0 : Nat) (l0 : List Int) (a1 : Int) (r : Bool) (w : World) (hr0 : Kd.C (Kd.int .i64) w A0 l0.length l0) (hc0 : l0.length ≤ c0) (h : backstitchref3_Has_int.f k l0 a1 = some r) :
    Calls Try.prog 89 #[.slice A0 l0.length c0, .int .i64 a1] w fun e w' => e = .returned (.bool r) ∧ Drawn0 w w' := by
  have HR0 := Aside0.mk hr0
  have HC0 := Aside0.mk hc0
  clear hr0 hc0
  have H : (backstitchref3_Has_int.l0 k a1 l0 (l0.length : Int) 0) = some r := h
  clear h
  have H' := Aside0.mk H
  clear H
  go_enter Try.func89, Try.ntmps89
  go_wp2
  go_loopg [9] k (fun kq v9 w' => ∃ (x9_1 : Int), v9 = .int .i64 x9_1 ∧ Aside0 (backstitchref3_Has_int.l0 kq a1 l0 (l0.length : Int) x9_1 = some r) ∧ Aside0 (kq ≤ k) ∧ Drawn0 w w')
  case atStart => exact ⟨(0), (by first | rfl | (simp; done) | (simp [*]; done)), H', ⟨Nat.le_refl _⟩, by repeat (first | exact Drawn0.refl _ | apply Drawn0.step)⟩
  case round =>
    clear H'
    try clear p2
    obtain ⟨x9_1, rfl, HA, HK1, ⟨m1, rfl⟩⟩ := hrel
    cases gk with
    | zero => exact absurd HA.out (by simp [backstitchref3_Has_int.l0])
    | succ k1 =>
      have H := HA.out
      clear HA
      simp only [backstitchref3_Has_int.l0] at H
      by_cases c3 : x9_1 < (l0.length : Int)
      · rw [if_pos c3] at H
        have c3b0 : decide (x9_1 < (l0.length : Int)) = true := decide_eq_true c3
        clear c3
        by_cases c4 : 0 ≤ x9_1
        · rw [if_pos c4] at H
          have c4b0 : decide (0 ≤ x9_1) = true := decide_eq_true c4
          clear c4
          by_cases c5 : x9_1 < (l0.length : Int)
          · rw [if_pos c5] at H
            have c5b0 : decide (x9_1 < (l0.length : Int)) = true := decide_eq_true c5
            clear c5
            by_cases c6 : a1 = (rd l0 x9_1)
            · rw [if_pos c6] at H
              have c6b0 : (a1 == (rd l0 x9_1)) = true := beq_iff_eq.mpr c6
              have c6b1 : (a1 != (rd l0 x9_1)) = false := bne_eq_false_iff_eq.mpr c6
              clear c6
              obtain rfl := Option.some.inj H
              have p135 : 0 ≤ (x9_1 : Int) := of_decide_eq_true (by first | (with_reducible assumption) | assumption)
              have q135 : x9_1 < (l0.length : Int) := of_decide_eq_true (by first | (with_reducible assumption) | assumption)
              obtain ⟨ad135, e135, hx135_0⟩ := Kd.at_int HR0.out x9_1 p135 q135
              cases e135
              replace p135 := eq_true p135
              replace q135 := eq_true q135
              go_wp2
              go_ret
              exact ⟨by first | rfl | (simp; done) | (simp [*]; done), by repeat (first | exact Drawn0.refl _ | apply Drawn0.step)⟩
            · rw [if_neg c6] at H
              have c6b0 : (a1 == (rd l0 x9_1)) = false := beq_eq_false_iff_ne.mpr c6
              have c6b1 : (a1 != (rd l0 x9_1)) = true := bne_iff_ne.mpr c6
              have H' := Aside0.mk H
              clear H
              have p135 : 0 ≤ (x9_1 : Int) := of_decide_eq_true (by first | (with_reducible assumption) | assumption)
              have q135 : x9_1 < (l0.length : Int) := of_decide_eq_true (by first | (with_reducible assumption) | assumption)
              obtain ⟨ad135, e135, hx135_0⟩ := Kd.at_int HR0.out x9_1 p135 q135
              cases e135
              replace p135 := eq_true p135
              replace q135 := eq_true q135
              go_wp2
              go_roundg k1
              case measure => have := HK1.out; omega
              case rel => exact ⟨(wrap64 (x9_1 + 1)), (by first | rfl | (simp; done) | (simp [*]; done)), H', ⟨by have := HK1.out; omega⟩, by repeat (first | exact Drawn0.refl _ | apply Drawn0.step)⟩
          · rw [if_neg c5] at H
            exact absurd H (by simp)
        · rw [if_neg c4] at H
          exact absurd H (by simp)
      · rw [if_neg c3] at H
        have c3b0 : decide (x9_1 < (l0.length : Int)) = false := decide_eq_false c3
        clear c3
        obtain rfl := Option.some.inj H
        go_wp2
        go_ret
        exact ⟨by first | rfl | (simp; done) | (simp [*]; done), by repeat (first | exact Drawn0.refl _ | apply Drawn0.step)⟩

/-! ### backstitchref3_Tells: function 151 -/
def backstitchref3_Tells.f (k : Nat) (a0 : Int) : Option (Bool) := (backstitchref3_Has_int.f k (([1, 2, 3, 7, 8, 10, 13, 15, 16, 18] : List Int)) a0).bind fun t139 => (some t139)
theorem backstitchref3_Tells.mono : ∀ a0 k, LeO (backstitchref3_Tells.f k a0) (backstitchref3_Tells.f (k + 1) a0) := by
  intro a0 k
  unfold backstitchref3_Tells.f
  repeat' first
      | (with_reducible exact backstitchref3_Has_int.mono _ _ _)
      | (with_reducible exact LeO.refl _)
      | (with_reducible exact LeO.none _)
      | (with_reducible refine LeO.ite ?_ ?_)
      | (with_reducible refine LeO.bind ?_ (fun _ => ?_))
      | exact backstitchref3_Has_int.mono _ _ _
      | exact LeO.none _
      | refine LeO.ite ?_ ?_
      | refine LeO.bind ?_ (fun _ => ?_)
set_option maxHeartbeats 8000000 in
set_option maxRecDepth 100000 in
theorem backstitchref3_Tells.calls (k : Nat) (a0 : Int) (r : Bool) (w : World) (h : backstitchref3_Tells.f k a0 = some r) :
    Calls Try.prog 151 #[.int .i64 a0] w fun e w' => e = .returned (.bool r) ∧ Below w.heap.size w w' := by
  have HB := Aside0.mk (Below.refl w.heap.size w)
  have H : ((backstitchref3_Has_int.f k (([1, 2, 3, 7, 8, 10, 13, 15, 16, 18] : List Int)) a0).bind fun t139 => (some t139)) = some r := h
  clear h
  obtain ⟨y136, hy136⟩ : ∃ y_ : List Int, y_ = (([1, 2, 3, 7, 8, 10, 13, 15, 16, 18] : List Int)) := ⟨_, rfl⟩
  replace H : ((backstitchref3_Has_int.f k y136 a0).bind fun t139 => (some t139)) = some r := by first | (rw [hy136]; with_reducible exact H) | (have H2_ := (Option.bind_some _ _).symm.trans H; rw [hy136]; with_reducible exact H2_) | (have H2_ := (Option.bind_some _ _).symm.trans H; with_reducible exact H2_) | with_reducible exact H | (rw [hy136]; exact H) | exact H
  have Ny136 := Aside0.mk hy136
  clear hy136
  replace H := Option.bind_eq_some_iff.mp H
  obtain ⟨t139, A20, H⟩ := H
  replace H : (some t139) = some r := H
  have A2 := Aside0.mk A20
  clear A20
  obtain rfl := Option.some.inj H
  go_enter Try.func151, Try.ntmps151
  go_wp2_with (first | ((with_reducible refine gate_dst (N := 3) rfl ?_); refine Kd.R_lit (Kd.int .i64) _ 3 ?hg (N := 3) ?hd (xs := ([1, 2, 3, 7, 8, 10, 13, 15, 16, 18] : List Int)) (inner := [.int .i64 1, .int .i64 2, .int .i64 3, .int .i64 7, .int .i64 8, .int .i64 10, .int .i64 13, .int .i64 15, .int .i64 16, .int .i64 18]) (ok := fun _ => True) (okp := fun _ => True) ?hr ?hp (fun _ hk => hk) trivial (Below.refl _ _) (Nat.le_refl _) (by simp) ?_; (case hd => rfl); (case hg => rfl); (case hr => first | (go_simp; done) | (go_simp; rfl)); (case hp => exact (Reps.one (show Kd.M (Kd.int .i64) _ _ _ 1 [.int .i64 1] from rfl) (Reps.one (show Kd.M (Kd.int .i64) _ _ _ 2 [.int .i64 2] from rfl) (Reps.one (show Kd.M (Kd.int .i64) _ _ _ 3 [.int .i64 3] from rfl) (Reps.one (show Kd.M (Kd.int .i64) _ _ _ 7 [.int .i64 7] from rfl) (Reps.one (show Kd.M (Kd.int .i64) _ _ _ 8 [.int .i64 8] from rfl) (Reps.one (show Kd.M (Kd.int .i64) _ _ _ 10 [.int .i64 10] from rfl) (Reps.one (show Kd.M (Kd.int .i64) _ _ _ 13 [.int .i64 13] from rfl) (Reps.one (show Kd.M (Kd.int .i64) _ _ _ 15 [.int .i64 15] from rfl) (Reps.one (show Kd.M (Kd.int .i64) _ _ _ 16 [.int .i64 16] from rfl) (Reps.one (show Kd.M (Kd.int .i64) _ _ _ 18 [.int .i64 18] from rfl) (Reps.none _ _)))))))))))); intro v137 w3 ho4 hb hg_ hnew_; clear hg_ hnew_; (first | rw [← Ny136.out] at ho4 | (simp only [Int.reduceToNat] at ho4; rw [← Ny136.out] at ho4)); have n0_ := Aside0.mk (Kd.R_lower ho4 (below_size (by repeat (first | (with_reducible first | exact HB.out | apply below_alloc | apply pw_below_drewN | apply below_drew1) | exact HB.out)))); have n1_ := Aside0.mk (below_step (by repeat (first | (with_reducible first | exact HB.out | apply below_alloc | apply pw_below_drewN | apply below_drew1) | exact HB.out)) hb); clear HB; have HO138 := n0_; have HB := n1_; clear n0_ n1_; clear hb ho4; obtain ⟨Ao5, co5, eo5⟩ := Kd.R_slice HO138.out; subst eo5) | ((with_reducible refine gate_callee (f := 89) rfl ?_); refine goesL_ (some 5) rfl rfl Try.func89 (by kernel_rfl) rfl #[.slice Ao5 y136.length co5, .int .i64 a0] rfl (by (try simp only [List.map_toArray, List.map_cons, List.map_nil]); first | done | rfl | (simp only [List.length_drop, List.length_take]; rfl)) ?_; (with_reducible refine (backstitchref3_Has_int.calls k _ _ y136 a0 t139 _ ?side1 ?side2 A2.out).mono ?_); (case side1 => repeat (first | exact (Kd.R_reads' HO138.out).2.2 | (with_reducible refine Kd.C_alloc ?_ _) | (with_reducible refine Kd.C_drewN ?_ _) | (with_reducible refine Kd.C_drew ?_))); (case side2 => exact (Kd.R_reads' HO138.out).2.1); rintro e w' ⟨rfl, ⟨nd, rfl⟩⟩; refine ⟨_, rfl, ?_⟩))
  go_ret
  exact ⟨by first | rfl | (simp [errW_none, errW_some] <;> rfl) | (simp [*, errW_none, errW_some] <;> rfl), by repeat (first | (with_reducible first | exact HB.out | apply below_alloc | apply pw_below_drewN | apply below_drew1) | exact HB.out)⟩

end Go.Proofs.Ytlojkphocbbjdaa.PLiveTells
