-- Printed for this claim by a program of this session (inj.py), beside the kit's print. Not trusted: Lean checks it.
import Derived.Test.YtlojkphocbbjdabPEndsTellx0
import Derived.Test.YtlojkphocbbjdabPEndsTellx1
import Derived.Test.YtlojkphocbbjdabPEndsTellx2
import Derived.Test.YtlojkphocbbjdabPEndsTellx4
namespace Go.Proofs.Ytlojkphocbbjdab.PEndsTell
open Go.RowKit Go.Proofs.YtlojkphocbbjdabW.PrintWords Go.Proofs.YtlojkphocbbjdabW.PrintLast Go.Proofs.YtlojkphocbbjdabW.PrintMore
attribute [local go_sem] max2_int min2_int max_two min_two max_three min_three max_four min_four   -- for this text's walks alone
set_option linter.unusedVariables false
set_option linter.unusedSimpArgs false

/-! ### ends_Rounds: function 54 -/
section
open Go.Maps Go.Proofs.YtlojkphocbbjdabW.Sep Go.Proofs.YtlojkphocbbjdabW.Mapw Go.Proofs.YtlojkphocbbjdabW.Reg
theorem ends_Rounds.law : Go.Maps.Keyed Try.prog 3 := Go.Maps.int_keyed Try.underlying3
theorem ends_Rounds.zero (w : World) : (zeroValue 149).run Try.prog w = .ok (.slice none 0 0) w := by kernel_rfl
set_option maxHeartbeats 2000000 in
theorem rounds11_walk (W : World) (gq bm gm : Nat) (n x : Int) (M : Int → Option (List Bool)) (hq : W.cell? ⟨gq, 0, none⟩ = some (.int .i64 n)) (hm : W.cell? ⟨bm, 0, none⟩ = some (.map (some gm))) (hM : MR W Try.prog 3 gm M) (hx : x ≠ n → ∃ s, M x = some s ∧ 0 ≤ n ∧ n < (s.length : Int)) (hwf : (Lit.int .i64 x).wf = true) :
    Calls Try.prog 126 #[.int .i64 x, .pointer (some ⟨gq, 0, none⟩), .pointer (some ⟨bm, 0, none⟩)] W fun e w' => e = .returned (.bool (x != n && rdOf false ((M x).getD []) n)) ∧ Below W.heap.size W w' := by
  by_cases c1 : x = n
  · subst c1
    have hc1 : (x != x) = false := by simp
    have hc2 : (x == x) = true := by simp
    clear hx hM hwf
    go_enter Try.func126, Try.ntmps126
    go_wp2
    go_ret
    exact ⟨by simp, Below.refl _ _⟩
  · obtain ⟨s, hs, h0, h1⟩ := hx c1
    have hc1 : (x != n) = true := bne_iff_ne.mpr c1
    have hc2 : (x == n) = false := beq_eq_false_iff_ne.mpr c1
    obtain ⟨A, c, hrun, _, hC⟩ := MR.look (t := 184) hM ends_Rounds.law Try.underlying184 (ends_Rounds.zero W) x s hs (keyOf_int_mk Try.underlying3 hwf)
    have HRUN := Aside0.mk hrun
    have HSX := Aside0.mk hs
    obtain ⟨ad, e, hk⟩ := Kd.at_bool hC n h0 h1
    cases e
    clear hx hM hwf hC hrun hs c1
    go_enter Try.func126, Try.ntmps126
    go_wp2_with (first | ((try (refine gate_guard (by rfl) ?_; dsimp only)); at_lookup; refine look_ev _ rfl _ _ 184 rfl rfl rfl HRUN.out ?_))
    go_ret
    exact ⟨by rw [HSX.out, hc1]; rfl, Below.refl _ _⟩
set_option maxHeartbeats 2000000 in
set_option maxRecDepth 100000 in
theorem rounds1_walk (W : World) (bl bm gm : Nat) (Al : Option Addr) (cl : Nat) (left : List Int) (n : Int) (M : Int → Option (List Bool)) (hl : W.cell? ⟨bl, 0, none⟩ = some (.slice Al left.length cl)) (hC : Kd.C (Kd.int .i64) W Al left.length left) (hm : W.cell? ⟨bm, 0, none⟩ = some (.map (some gm))) (hM : MR W Try.prog 3 gm M)
    (hin : ∀ x ∈ left, (Lit.int .i64 x).wf = true ∧ (x ≠ n → ∃ s, M x = some s ∧ 0 ≤ n ∧ n < (s.length : Int))) (hn : left.length < 4611686018427387904) :
    Calls Try.prog 124 #[.int .i64 n, .pointer (some ⟨bl, 0, none⟩), .pointer (some ⟨bm, 0, none⟩)] W fun e w' => e = .returned (.bool (left.any fun j => j != n && rdOf false ((M j).getD []) n)) ∧ Below W.heap.size W w' := by
  have HL := Aside0.mk hl
  have HC := Aside0.mk hC
  have HM := Aside0.mk hm
  have HMR := Aside0.mk hM
  have HIN := Aside0.mk hin
  have HN := Aside0.mk hn
  have HS0 := Aside0.mk (St.nil (Below.refl W.heap.size W))
  clear hl hC hm hM hin hn
  go_enter Try.func124, Try.ntmps124
  go_wp2_with (first | ((with_reducible refine gate_dst (N := 3) rfl ?_); (try (refine gate_guard (by rfl) ?_; dsimp only)); refine box_event ?hg (N := 3) ?hd (cs := #[.int .i64 n]) (t := 3) ?hr ?_; (case hd => rfl); (case hg => rfl); (case hr => first | (go_simp; done) | (go_simp; rfl)); intro gq hg_ w32_ hx_ hb_; have HS33_ := Aside0.mk (HS0.out.box hg_ hx_ hb_); have cl_ := (HS33_.out.below.cell (World.block_lt_of_cell? W _ HL.out)).trans HL.out; clear hg_ hx_ hb_  HS0; have HM1 := Aside0.mk ((HS33_.out.below.cell (World.block_lt_of_cell? W _ HM.out)).trans HM.out); have HM2 := Aside0.mk (HMR.out.below HS33_.out.below)) | (go_at_call 125; refine (slices_ContainsFunc_int_int.walk Al cl left 126 #[.pointer (some ⟨gq, 0, none⟩), .pointer (some ⟨bm, 0, none⟩)] (fun j => j != n && rdOf false ((M j).getD []) n) _ (Kd.C_below HC.out HS33_.out.below) HN.out (fun _ _ => by rfl) (fun j W2 hj hb2 => rounds11_walk W2 gq bm gm n j M ((hb2.cell (HS33_.out.blkN 0 rfl).2).trans ((HS33_.out.cell 0 rfl 0).trans rfl)) ((hb2.cell (World.block_lt_of_cell? _ _ HM1.out)).trans HM1.out) (HM2.out.below hb2) (HIN.out j hj).2 (HIN.out j hj).1)).mono ?_; rintro e_ w9 ⟨rfl, hb_⟩; have HSE := Aside0.mk (HS33_.out.call hb_); clear hb_ HS33_))
  go_ret
  exact ⟨rfl, HSE.out.below⟩
theorem index_val (l : List Int) (a : Int) (hl : l.length < 1000000) : ∀ (k : Nat) (i : Int), 0 ≤ i → i ≤ l.length → (l.length : Int) - i < k → ∃ r, slices_Index_int_int.l0 k l a (l.length : Int) i = some r ∧ decide (r ≥ 0) = (l.drop i.toNat).contains a
  | 0, i, h0, h1, h2 => by omega
  | k + 1, i, h0, h1, h2 => by
    rw [slices_Index_int_int.l0]
    by_cases hlt : i < (l.length : Int)
    · rw [if_pos hlt, if_pos h0, if_pos hlt]
      have hd : l.drop i.toNat = rd l i :: l.drop (i + 1).toNat := by
        rw [List.drop_eq_getElem_cons (by omega), show (i + 1).toNat = i.toNat + 1 by omega]
        congr 1
        rw [rd, List.getD_eq_getElem?_getD, List.getElem?_eq_getElem (by omega), Option.getD_some]
      rw [hd, List.contains_cons]
      by_cases he : a = rd l i
      · rw [if_pos he]
        exact ⟨i, rfl, by simp [he, h0]⟩
      · rw [if_neg he, show wrap64 (i + 1) = i + 1 by unfold wrap64; omega]
        obtain ⟨r, h3, h4⟩ := index_val l a hl k (i + 1) (by omega) (by omega) (by omega)
        exact ⟨r, h3, by rw [h4]; simp [he]⟩
    · rw [if_neg hlt, List.drop_eq_nil_of_le (by omega)]
      exact ⟨-1, rfl, by simp⟩
theorem contains_val (l : List Int) (a : Int) (hl : l.length < 1000000) : slices_Contains_int_int.f (l.length + 1) l a = some (l.contains a) := by
  obtain ⟨r, h1, h2⟩ := index_val l a hl (l.length + 1) 0 (by omega) (by omega) (by omega)
  unfold slices_Contains_int_int.f slices_Index_int_int.f
  rw [h1, Option.bind_some, h2]
  simp
set_option maxHeartbeats 2000000 in
theorem rounds2_walk (W : World) (bn : Nat) (An : Option Addr) (cn : Nat) (now : List Int) (x : Int) (hl : W.cell? ⟨bn, 0, none⟩ = some (.slice An now.length cn)) (hC : Kd.C (Kd.int .i64) W An now.length now) (hc : now.length ≤ cn) (hn : now.length < 1000000) :
    Calls Try.prog 127 #[.int .i64 x, .pointer (some ⟨bn, 0, none⟩)] W fun e w' => e = .returned (.bool (now.contains x)) ∧ Below W.heap.size W w' := by
  have HC := Aside0.mk hC
  have HCN := Aside0.mk hc
  have HV := Aside0.mk (contains_val now x hn)
  clear hC hn hc
  go_enter Try.func127, Try.ntmps127
  go_wp2_with (first | (go_at_call 128; refine (slices_Contains_int_int.calls _ An cn now x _ _ HC.out HCN.out HV.out).mono ?_; rintro e_ w9 ⟨rfl, ⟨nd, rfl⟩⟩))
  go_ret
  exact ⟨by simp, pw_below_drewN (Below.refl _ _) _⟩
def ends_Rounds.T8 : Bool × List (List Nat × List Nat) := (true, [([], []), ([], []), ([], []), ([], []), ([3], [3]), ([], []), ([4, 5], [4, 5]), ([6], [6]), ([2, 7], [2, 7]), ([0, 1, 8, 8, 0, 1, 2, 3, 4, 5, 6, 7, 8], [0, 1, 8])])
def ends_Rounds.B8 : List Nat := [0, 0, 0, 0, 8, 0, 56, 120, 252, 511]
theorem ends_Rounds.tab8 : rtab .any (opsOf Try.f54 8) = ends_Rounds.T8 := by kernel_rfl
theorem ends_Rounds.bits8 : waitsOk ends_Rounds.T8.2 ends_Rounds.B8 = true := by kernel_rfl
def hadF (k : Nat) (l0 : List (List Int)) (rt : List Int) : List Int → (Int → Option (List Bool)) → Option (Int → Option (List Bool))
  | [], m => some m
  | n :: o, m => if 0 ≤ n ∧ n < (l0.length : Int) ∧ n < 1000000 then (weak_From.f k l0 rt (l0.getD n.toNat [])).bind fun s => hadF k l0 rt o (fun c => if c = n then some s else m c) else none
def roundIn (M : Int → Option (List Bool)) (left : List Int) : Bool := left.all fun x => decide (0 ≤ x ∧ x < 1000000) && (left.all fun n => decide (x = n) || (match M x with | some s => decide (n < (s.length : Int)) | none => false))
theorem roundIn_mem {M : Int → Option (List Bool)} {left : List Int} (h : roundIn M left = true) : ∀ n ∈ left, ∀ x ∈ left, (Lit.int .i64 x).wf = true ∧ (x ≠ n → ∃ s, M x = some s ∧ 0 ≤ n ∧ n < (s.length : Int)) := by
  intro n hn x hx
  rw [roundIn, List.all_eq_true] at h
  have h1 := h x hx
  have h2 := h n hn
  simp only [Bool.and_eq_true, decide_eq_true_eq, List.all_eq_true, Bool.or_eq_true] at h1 h2
  refine ⟨WalkArith.wf_i64 (by omega), fun he => ?_⟩
  rcases h1.2 n hn with h3 | h3
  · exact absurd h3 he
  · cases hm : M x with
    | none => rw [hm] at h3; cases h3
    | some s => rw [hm] at h3; exact ⟨s, rfl, h2.1.1, by simpa using h3⟩
def nowF (M : Int → Option (List Bool)) (left : List Int) : List Int := left.filter (fun x => !(left.any fun j => j != x && rdOf false ((M j).getD []) x))
def roundsF : Nat → (Int → Option (List Bool)) → List Int → List (List Int) → Option (List (List Int))
  | 0, _, _, _ => none
  | k + 1, M, left, out => if left.length = 0 then some out else if (roundIn M left = true ∧ left.length ≤ 1000) ∧ out.length ≤ 1000 then (if (nowF M left).length = 0 then roundsF k M (left.filter (fun x => !(left.contains x))) (out ++ [left]) else roundsF k M (left.filter (fun x => !((nowF M left).contains x))) (out ++ [nowF M left])) else none
def ends_Rounds.f (k : Nat) (l0_0 : List (List Int)) (l0_1 : List (Int)) (l1 : List (Int)) : Option (List (List Int) × Int) := (ends_due.f k l0_0 l0_1 l1).bind fun q => if q.2.2 = 0 then (if q.1.length ≤ 1000 then (hadF k l0_0 l0_1 q.1 (fun _ => none)).bind fun M => (roundsF k M q.1 []).bind fun o => some (o, 0) else none) else some ([], q.2.2)
set_option maxHeartbeats 8000000 in
set_option maxRecDepth 100000 in
theorem ends_Rounds.calls (k : Nat) (A0_0 : Option Addr) (c0_0 : Nat) (l0_0 : List (List Int)) (A0_1 : Option Addr) (c0_1 : Nat) (l0_1 : List (Int)) (A1 : Option Addr) (c1 : Nat) (l1 : List (Int)) (r1 : List (List Int)) (r2 : Int) (w : World) (hr0_0 : Kd.C (Kd.slice 3 (Kd.int .i64)) w A0_0 l0_0.length l0_0) (hc0_0 : l0_0.length ≤ c0_0) (hr0_1 : Kd.C (Kd.int .i64) w A0_1 l0_1.length l0_1) (hc0_1 : l0_1.length ≤ c0_1) (hr1 : Kd.C (Kd.int .i64) w A1 l1.length l1) (hc1 : l1.length ≤ c1) (h : ends_Rounds.f k l0_0 l0_1 l1 = some (r1, r2)) :
    Calls Try.prog 54 #[.agg #[.slice A0_0 l0_0.length c0_0, .slice A0_1 l0_1.length c0_1], .slice A1 l1.length c1] w fun e w' => ∃ v0_ : Value, e = .returned (.tuple #[v0_, .int .i64 r2]) ∧ Kd.N (Kd.slice 3 (Kd.int .i64)) 36 w' w.heap.size (fun k_ => (w.heap.size ≤ k_)) v0_ r1 ∧ Below w.heap.size w w' := by
  unfold ends_Rounds.f at h
  have HR0_0 := Aside0.mk hr0_0
  have HC0_0 := Aside0.mk hc0_0
  have HR0_1 := Aside0.mk hr0_1
  have HC0_1 := Aside0.mk hc0_1
  have HR1 := Aside0.mk hr1
  have HC1 := Aside0.mk hc1
  have HS0 := Aside0.mk (St.nil (Below.refl w.heap.size w))
  clear hr0_0 hc0_0 hr0_1 hc0_1 hr1 hc1
  obtain ⟨⟨q1, q2, e0⟩, hdue, h⟩ := Option.bind_eq_some_iff.1 h
  have HDUE := Aside0.mk hdue
  clear hdue
  by_cases he : e0 = 0
  case neg =>
    rw [if_neg he] at h
    simp only [Option.some.injEq, Prod.mk.injEq] at h
    obtain ⟨rfl, rfl⟩ := h
    have hne : (e0 != 0) = true := bne_iff_ne.mpr he
    clear he
    go_enter Try.func54, Try.ntmps54
    go_wp2_with (first | ((with_reducible refine gate_dst (N := 2) rfl ?_); (try (refine gate_guard (by rfl) ?_; dsimp only)); refine box_event ?hg (N := 2) ?hd (cs := #[.slice A0_0 l0_0.length c0_0, .slice A0_1 l0_1.length c0_1]) (t := 41) ?hr ?_; (case hd => rfl); (case hg => rfl); (case hr => first | (go_simp; done) | (go_simp; rfl)); intro gh hg_ w34_ hx_ hb_; have HS35_ := Aside0.mk (HS0.out.box hg_ hx_ hb_); have c36_ : w34_.cell? ⟨gh, 0, none⟩ = some (.slice A0_0 l0_0.length c0_0) := (HS35_.out.cell 0 rfl 0).trans rfl; have c37_ : w34_.cell? ⟨gh, 1, none⟩ = some (.slice A0_1 l0_1.length c0_1) := (HS35_.out.cell 0 rfl 1).trans rfl; clear hg_ hx_ hb_  HS0) | (go_at_call 121; refine (ends_due.calls k A0_0 c0_0 l0_0 A0_1 c0_1 l0_1 A1 c1 l1 q1 q2 e0 _ (Kd.C_below HR0_0.out HS35_.out.below) HC0_0.out (Kd.C_below HR0_1.out HS35_.out.below) HC0_1.out (Kd.C_below HR1.out HS35_.out.below) HC1.out HDUE.out).mono ?_; rintro e_ w38_ ⟨v6_, v7_, rfl, ho_, ho2_, hb_⟩; obtain ⟨A6, c6, rfl⟩ := Kd.R_slice ho_; have HS39_ := Aside0.mk (HS35_.out.mrow hb_ ho_); clear ho_ ho2_ hb_; clear c36_ c37_ HS35_) | ((with_reducible refine gate_dst (N := 6) rfl ?_); (try (refine gate_guard (by rfl) ?_; dsimp only)); refine box_event ?hg (N := 6) ?hd (cs := #[.slice none 0 0]) (t := 36) ?hr ?_; (case hd => rfl); (case hg => rfl); (case hr => first | (go_simp; done) | (go_simp; rfl)); intro bl hg_ w40_ hx_ hb_; have HS41_ := Aside0.mk (HS39_.out.box hg_ hx_ hb_); have c42_ : w40_.cell? ⟨bl, 0, none⟩ = some (.slice none 0 0) := (HS41_.out.cell 0 rfl 0).trans rfl; have f43_ : w40_.frozen? ⟨bl, 0, none⟩ = false := HS41_.out.frz 0 rfl 0; clear hg_ hx_ hb_  HS39_) | ((with_reducible refine gate_store (t := 36) (p := 6) rfl ?_); refine store_event (t := 36) (p := 6) (v := .tmp 18) (w1 := (w40_.setCell ⟨bl, 0, none⟩ (.slice A6 q1.length c6))) ?hg ?ho ?hn ?hr ?_; (case ho => rfl); (case hg => rfl); (case hn => rfl); (case hr => first | (go_simp; done) | (go_simp; rfl)); intro w44_ hw_; have HS45_ : Aside0 (St w w44_ ((blkA bl #[.slice A6 q1.length c6] 36) :: (rowA w.heap.size (Kd.int .i64) 3 (.slice A6 q1.length c6) q1) :: (blkA gh #[.slice A0_0 l0_0.length c0_0, .slice A0_1 l0_1.length c0_1] 41) :: [])) := ⟨by rw [hw_]; exact (HS41_.out.put 0 rfl 0 (.slice A6 q1.length c6) rfl)⟩; clear hw_ c42_ f43_ HS41_))
    go_ret2
    exact ⟨_, rfl, Kd.N_nil _ _ _ _ _, HS45_.out.below⟩
  subst he
  rw [if_pos rfl] at h
  split at h
  case isFalse => cases h
  rename_i hq
  obtain ⟨M0, hM0, h⟩ := Option.bind_eq_some_iff.1 h
  obtain ⟨o, ho, h⟩ := Option.bind_eq_some_iff.1 h
  simp only [Option.some.injEq, Prod.mk.injEq] at h
  obtain ⟨rfl, rfl⟩ := h
  have HQ := Aside0.mk (show q1.length ≤ 1000 from hq)
  have HX0 := Aside0.mk (show hadF k l0_0 l0_1 (q1.drop (0 : Int).toNat) (fun _ => none) = some M0 from hM0)
  have HY0 := Aside0.mk ho
  clear hq hM0 ho
  have hmm := @run_makeMap Try.prog
  go_enter Try.func54, Try.ntmps54
  go_wp2_with (first | ((with_reducible refine gate_dst (N := 2) rfl ?_); (try (refine gate_guard (by rfl) ?_; dsimp only)); refine box_event ?hg (N := 2) ?hd (cs := #[.slice A0_0 l0_0.length c0_0, .slice A0_1 l0_1.length c0_1]) (t := 41) ?hr ?_; (case hd => rfl); (case hg => rfl); (case hr => first | (go_simp; done) | (go_simp; rfl)); intro gh hg_ w46_ hx_ hb_; have HS47_ := Aside0.mk (HS0.out.box hg_ hx_ hb_); have c48_ : w46_.cell? ⟨gh, 0, none⟩ = some (.slice A0_0 l0_0.length c0_0) := (HS47_.out.cell 0 rfl 0).trans rfl; have c49_ : w46_.cell? ⟨gh, 1, none⟩ = some (.slice A0_1 l0_1.length c0_1) := (HS47_.out.cell 0 rfl 1).trans rfl; clear hg_ hx_ hb_  HS0) | (go_at_call 121; refine (ends_due.calls k A0_0 c0_0 l0_0 A0_1 c0_1 l0_1 A1 c1 l1 q1 q2 0 _ (Kd.C_below HR0_0.out HS47_.out.below) HC0_0.out (Kd.C_below HR0_1.out HS47_.out.below) HC0_1.out (Kd.C_below HR1.out HS47_.out.below) HC1.out HDUE.out).mono ?_; rintro e_ w50_ ⟨v6_, v7_, rfl, ho_, ho2_, hb_⟩; obtain ⟨A6, c6, rfl⟩ := Kd.R_slice ho_; have HS51_ := Aside0.mk (HS47_.out.mrow hb_ ho_); clear ho_ ho2_ hb_; clear c48_ c49_ HS47_) | ((with_reducible refine gate_dst (N := 6) rfl ?_); (try (refine gate_guard (by rfl) ?_; dsimp only)); refine box_event ?hg (N := 6) ?hd (cs := #[.slice none 0 0]) (t := 36) ?hr ?_; (case hd => rfl); (case hg => rfl); (case hr => first | (go_simp; done) | (go_simp; rfl)); intro bl hg_ w52_ hx_ hb_; have HS53_ := Aside0.mk (HS51_.out.box hg_ hx_ hb_); have c54_ : w52_.cell? ⟨bl, 0, none⟩ = some (.slice none 0 0) := (HS53_.out.cell 0 rfl 0).trans rfl; have f55_ : w52_.frozen? ⟨bl, 0, none⟩ = false := HS53_.out.frz 0 rfl 0; clear hg_ hx_ hb_  HS51_) | ((with_reducible refine gate_store (t := 36) (p := 6) rfl ?_); refine store_event (t := 36) (p := 6) (v := .tmp 18) (w1 := (w52_.setCell ⟨bl, 0, none⟩ (.slice A6 q1.length c6))) ?hg ?ho ?hn ?hr ?_; (case ho => rfl); (case hg => rfl); (case hn => rfl); (case hr => first | (go_simp; done) | (go_simp; rfl)); intro w56_ hw_; have HS57_ : Aside0 (St w w56_ ((blkA bl #[.slice A6 q1.length c6] 36) :: (rowA w.heap.size (Kd.int .i64) 3 (.slice A6 q1.length c6) q1) :: (blkA gh #[.slice A0_0 l0_0.length c0_0, .slice A0_1 l0_1.length c0_1] 41) :: [])) := ⟨by rw [hw_]; exact (HS53_.out.put 0 rfl 0 (.slice A6 q1.length c6) rfl)⟩; clear hw_ c54_ f55_ HS53_; have HSm := Aside0.mk (HS57_.out.mrN Try.prog 3 4); clear HS57_) | ((with_reducible refine gate_dst (N := 9) rfl ?_); (try (refine gate_guard (by rfl) ?_; dsimp only)); refine box_event ?hg (N := 9) ?hd (cs := #[.map none]) (t := 184) ?hr ?_; (case hd => rfl); (case hg => rfl); (case hr => first | (go_simp; done) | (go_simp; rfl)); intro bm hg_ w58_ hx_ hb_; have HS59_ := Aside0.mk (HSm.out.box hg_ hx_ hb_); have c60_ : w58_.cell? ⟨bm, 0, none⟩ = some (.map none) := (HS59_.out.cell 0 rfl 0).trans rfl; have f61_ : w58_.frozen? ⟨bm, 0, none⟩ = false := HS59_.out.frz 0 rfl 0; clear hg_ hx_ hb_  HSm) | ((with_reducible refine gate_store (t := 184) (p := 9) rfl ?_); refine store_event (t := 184) (p := 9) (v := .tmp 24) (w1 := (w58_.setCell ⟨bm, 0, none⟩ (.map (some w56_.heap.size)))) ?hg ?ho ?hn ?hr ?_; (case ho => rfl); (case hg => rfl); (case hn => rfl); (case hr => first | (go_simp; done) | (go_simp; rfl)); intro w62_ hw_; have HS63_ : Aside0 (St w w62_ ((blkA bm #[.map (some w56_.heap.size)] 184) :: (mrA w.heap.size Try.prog 3 4 w56_.heap.size 0 (fun _ => none)) :: (blkA bl #[.slice A6 q1.length c6] 36) :: (rowA w.heap.size (Kd.int .i64) 3 (.slice A6 q1.length c6) q1) :: (blkA gh #[.slice A0_0 l0_0.length c0_0, .slice A0_1 l0_1.length c0_1] 41) :: [])) := ⟨by rw [hw_]; exact (HS59_.out.put 0 rfl 0 (.map (some w56_.heap.size)) rfl)⟩; have c64_ : w62_.cell? ⟨bl, 0, none⟩ = some (.slice A6 q1.length c6) := (HS63_.out.cell 2 rfl 0).trans rfl; clear hw_ c60_ f61_ HS59_))
  clear hmm c64_
  have HSr := Aside0.mk ((HS63_.out).front 1 rfl)
  clear HS63_
  generalize w56_.heap.size = gm at *
  go_loopw [27] (fun v27 wr => ∃ (i : Int) (nn : Nat) (M : Int → Option (List Bool)), v27 = .int .i64 i ∧ Aside0 (0 ≤ i ∧ i ≤ q1.length) ∧ Aside0 (nn ≤ i.toNat) ∧ Aside0 (hadF k l0_0 l0_1 (q1.drop i.toNat) M = some M0) ∧ Aside0 (St w wr ((mrA w.heap.size Try.prog 3 4 gm nn M) :: (blkA bm #[.map (some gm)] 184) :: (blkA bl #[.slice A6 q1.length c6] 36) :: (rowA w.heap.size (Kd.int .i64) 3 (.slice A6 q1.length c6) q1) :: (blkA gh #[.slice A0_0 l0_0.length c0_0, .slice A0_1 l0_1.length c0_1] 41) :: []))) (fun v27 _ => q1.length - (intOf v27).toNat)
  case atStart => exact ⟨0, 0, _, rfl, ⟨by omega⟩, ⟨by omega⟩, HX0, HSr⟩
  case round =>
    clear HSr HX0
    obtain ⟨i, nn, M, rfl, Hi, Hn, HX, HSr⟩ := hrel
    have hi0 : 0 ≤ i := Hi.out.1
    by_cases hlt : i < (q1.length : Int)
    · have ht : decide (i < (q1.length : Int)) = true := decide_eq_true hlt
      have HW := Aside0.mk (show wrap64 (i + 1) = i + 1 by have := HQ.out; unfold wrap64; omega)
      have HNM := Aside0.mk (show nn < maxLen by have := HQ.out; have := Hn.out; have := Hi.out; unfold maxLen; omega)
      have hd : q1.drop i.toNat = rd q1 i :: q1.drop (i + 1).toNat := by
        rw [List.drop_eq_getElem_cons (by omega), show (i + 1).toNat = i.toNat + 1 by omega]
        congr 1
        rw [rd, List.getD_eq_getElem?_getD, List.getElem?_eq_getElem (by omega), Option.getD_some]
      have hx := HX.out
      rw [hd, hadF] at hx
      clear hd HX
      obtain ⟨ad6, e, hk⟩ := Kd.at_int (Kd.R_reads' (HSr.out.row 3 rfl)).2.2 i hi0 hlt
      cases e
      generalize rd q1 i = x at *
      split at hx
      case isFalse => cases hx
      rename_i hb
      obtain ⟨x0, x1, x2⟩ := hb
      obtain ⟨s, hfr, hx⟩ := Option.bind_eq_some_iff.1 hx
      have HX4 := Aside0.mk hx
      have HK := Aside0.mk (show keyOf Try.prog 3 (.int .i64 x) = some (.int .i64 x) from keyOf_int_mk Try.underlying3 (WalkArith.wf_i64 (by omega)))
      obtain ⟨adh, Ai, ci, e, hkx, hli, hci⟩ := at_row HR0_0.out x x0 x1
      cases e
      generalize l0_0.getD x.toNat [] = lx at *
      have HFR := Aside0.mk hfr
      have HKX := Aside0.mk hkx
      have HLI := Aside0.mk hli
      have HCI := Aside0.mk hci
      clear hx hfr hkx hli hci
      go_wp2
      have HSd := Aside0.mk (HSr.out.nrow Kd.bool 4)
      clear HSr
      have HF_ := Aside0.mk HSd.out.drew
      refine st_ (fun w' => St w w' ((blkA bm #[.map (some gm)] 184) :: (blkA bl #[.slice (some ad6) q1.length c6] 36) :: (rowA w.heap.size (Kd.int .i64) 3 (.slice (some ad6) q1.length c6) q1) :: (blkA gh #[.slice (some adh) l0_0.length c0_0, .slice A0_1 l0_1.length c0_1] 41) :: [])) ends_Rounds.tab8 ends_Rounds.bits8 (((HF_.out).drop 0 rfl).drop 0 rfl) (fun HT_ HW_ hHeld => ?_)
      clear HSd
      generalize wr.drew = w65_ at hHeld HF_ ⊢
      refine pu_ (v := ?_) (a' := ?_) HT_.out 1 (some 32) ?_ ?_ ?_; rotate_left 2; (intro w'; go_simp; with_reducible rfl); (simp only [Act.put, List.setIfInBounds_toArray, List.set_cons_zero, List.set_cons_succ, i64_w, i32_w]; rfl)
      refine pu_ (v := ?_) (a' := ?_) HT_.out 3 (some 34) ?_ ?_ ?_; rotate_left 2; (intro w'; go_simp; with_reducible rfl); (simp only [Act.put, List.setIfInBounds_toArray, List.set_cons_zero, List.set_cons_succ, i64_w, i32_w]; rfl)
      refine pu_ (v := ?_) (a' := ?_) HT_.out 5 (some 36) ?_ ?_ ?_; rotate_left 2; (intro w'; go_simp; with_reducible rfl); (simp only [Act.put, List.setIfInBounds_toArray, List.set_cons_zero, List.set_cons_succ, i64_w, i32_w]; rfl)
      refine tk_ (v := ?_) (a' := ?_) HT_.out HW_.out hHeld 0 (some 31) ?_ ?_ ?_; rotate_left 2; (intro w' hS; have s0 : w'.cell? ⟨bm, 0, none⟩ = some _ := hS.cell 0 rfl 0; go_simp; with_reducible rfl); (simp only [Act.put, List.setIfInBounds_toArray, List.set_cons_zero, List.set_cons_succ, i64_w, i32_w]; rfl)
      refine tk_ (v := ?_) (a' := ?_) HT_.out HW_.out hHeld 2 (some 33) ?_ ?_ ?_; rotate_left 2; (intro w' hS; have s0 : w'.cell? ⟨gh, 0, none⟩ = some _ := hS.cell 3 rfl 0; have s1 : w'.cell? ⟨gh, 1, none⟩ = some _ := hS.cell 3 rfl 1; go_simp; with_reducible rfl); (simp only [Act.put, List.setIfInBounds_toArray, List.set_cons_zero, List.set_cons_succ, i64_w, i32_w]; rfl)
      refine tk_ (v := ?_) (a' := ?_) HT_.out HW_.out hHeld 4 (some 35) ?_ ?_ ?_; rotate_left 2; (intro w' hS; have s0 : w'.cell? ⟨gh, 0, none⟩ = some _ := hS.cell 3 rfl 0; go_simp; with_reducible rfl); (simp only [Act.put, List.setIfInBounds_toArray, List.set_cons_zero, List.set_cons_succ, i64_w, i32_w]; rfl)
      refine pu_ (v := ?_) (a' := ?_) HT_.out 6 (some 37) ?_ ?_ ?_; rotate_left 2; (intro w'; go_simp; with_reducible rfl); (simp only [Act.put, List.setIfInBounds_toArray, List.set_cons_zero, List.set_cons_succ, i64_w, i32_w]; rfl)
      refine tk_ (v := ?_) (a' := ?_) HT_.out HW_.out hHeld 7 (some 38) ?_ ?_ ?_; rotate_left 2; (intro w' hS; have s0 : w'.cell? (adh.add x.toNat) = some (.slice Ai lx.length ci) := (hS.below.cell (World.block_lt_of_cell? w _ HKX.out)).trans HKX.out; go_simp; with_reducible rfl); (simp only [Act.put, List.setIfInBounds_toArray, List.set_cons_zero, List.set_cons_succ, i64_w, i32_w]; rfl)
      refine on_ HT_.out 8 (some 39) (fun K hK => ?_)
      refine goes_ Try.func122 (by kernel_rfl) rfl #[.agg #[.slice (some adh) l0_0.length c0_0, .slice A0_1 l0_1.length c0_1], .slice Ai lx.length ci] (by rfl) rfl rfl (by simp only [List.map_toArray, List.map_cons, List.map_nil]; rfl) ?_
      with_reducible refine (weak_From.calls k _ _ l0_0 A0_1 c0_1 l0_1 Ai ci lx s _ (Kd.C_below HR0_0.out HF_.out.below) HC0_0.out (Kd.C_below HR0_1.out HF_.out.below) HC0_1.out (Kd.C_below HCI.out HF_.out.below) HLI.out HFR.out).mono ?_
      rintro e_ w68_ ⟨v9_, rfl, ho_, hb_⟩
      refine ⟨_, rfl, ?_⟩
      obtain ⟨A9, c9, rfl⟩ := Kd.R_slice ho_
      have HS69_ := Aside0.mk (HF_.out.tail.mrow hb_ ho_)
      clear ho_ hb_ HF_
      try clear hHeld
      refine hK.out _ _ (((HS69_.out).drop 0 rfl).drop 0 rfl) (fun hHeld => ?_)
      clear hK K
      refine norm_ (a' := ?_) ?_ ?_; rotate_left; (show Act.put _ (some 39) _ = _; simp only [Act.put, List.setIfInBounds_toArray, List.set_cons_zero, List.set_cons_succ, i64_w, i32_w]; rfl)
      refine on_ HT_.out 9 none (fun K hK => ?_)
      obtain ⟨D_, n9_, hn9_, ho_, hu_⟩ := HS69_.out.mrU x (ends_Rounds.law.key HK.out)
      obtain ⟨w72_, hrun_, h1_, h2_⟩ := ho_.update ends_Rounds.law Try.underlying184 (Nat.lt_of_le_of_lt hn9_ HNM.out) HK.out (show heldElem (.slice A9 s.length c9) = some (.held (.slice A9 s.length c9), []) from rfl)
      have HS73_ := Aside0.mk ((hu_ _ h1_ h2_).nrow Kd.bool 4)
      refine skip_ (w1 := w72_) (by rfl) rfl ?hru_ ?_; (case hru_ => (go_simp; first | done | rfl))
      clear hu_ h1_ h2_ ho_ hn9_ hrun_ HS69_
      try clear hHeld
      refine hK.out _ _ (((HS73_.out).drop 0 rfl).drop 0 rfl) (fun hHeld => ?_)
      clear hK K
      refine dn_ HT_.out ?_
      clear hHeld HT_ HW_
      go_wp2
      go_roundw
      case rel => exact ⟨i + 1, nn + 1, _, by first | rw [HW.out] | rfl, ⟨by omega⟩, ⟨by have := Hn.out; omega⟩, HX4, ⟨HS73_.out.tail⟩⟩
      case measure => simp only [intOf]; (try rw [HW.out]); omega
    · have ht : decide (i < (q1.length : Int)) = false := decide_eq_false hlt
      have hx := HX.out
      rw [List.drop_eq_nil_of_le (by omega), hadF] at hx
      obtain rfl := Option.some.inj hx
      have HSb := Aside0.mk ((((((((HSr.out.nN (Kd.slice 3 (Kd.int .i64)) 36 (Kd.int .i64))).front 5 rfl).front 3 rfl).front 3 rfl).front 3 rfl).front 4 rfl).front 5 rfl)
      clear hx HX HSr ht
      go_wp2
      go_loopg [12] k (fun kq v12 wr => ∃ (Al : Option Addr) (cl : Nat) (left : List Int) (Ao : Option Addr) (co : Nat) (out : List (List Int)), v12 = .slice Ao out.length co ∧ Aside0 (roundsF kq M left out = some o) ∧ Aside0 (St w wr ((rowA w.heap.size (Kd.int .i64) 3 (.slice Al left.length cl) left) :: (blkA bl #[.slice Al left.length cl] 36) :: (nA w.heap.size (Kd.slice 3 (Kd.int .i64)) 36 (.slice Ao out.length co) out (Kd.int .i64) ([] : List (Option Addr × List Int))) :: (mrA w.heap.size Try.prog 3 4 gm nn M) :: (blkA bm #[.map (some gm)] 184) :: (blkA gh #[.slice A0_0 l0_0.length c0_0, .slice A0_1 l0_1.length c0_1] 41) :: []))) 
      case atStart => exact ⟨_, _, q1, none, 0, [], rfl, HY0, HSb⟩
      case round =>
        clear HSb HY0
        obtain ⟨Al, cl, left, Ao, co, out, rfl, HX, HSr⟩ := hrel
        cases gk with
        | zero => exact absurd HX.out (by simp [roundsF])
        | succ k1 =>
          have hx := HX.out
          rw [roundsF] at hx
          clear HX
          have cl0_ : wr.cell? ⟨bl, 0, none⟩ = some (.slice Al left.length cl) := (HSr.out.cell 1 rfl 0).trans rfl
          by_cases h0 : left.length = 0
          · rw [if_pos h0] at hx
            obtain rfl := Option.some.inj hx
            have hb0 : decide (0 < left.length) = false := decide_eq_false (by omega)
            have hb1 : decide ((0 : Int) < (left.length : Int)) = false := decide_eq_false (by omega)
            clear hx h0
            go_wp2
            go_ret2
            exact ⟨_, rfl, HSr.out.nrowN 2 rfl, HSr.out.below⟩
          rw [if_neg h0] at hx
          split at hx
          case isFalse => cases hx
          rename_i hb
          obtain ⟨⟨hin, hl1⟩, hlo⟩ := hb
          have hb0 : decide (0 < left.length) = true := decide_eq_true (by omega)
          have hb1 : decide ((0 : Int) < (left.length : Int)) = true := decide_eq_true (by omega)
          have HIN := Aside0.mk (roundIn_mem hin)
          have HLL := Aside0.mk (show left.length < 4611686018427387904 by omega)
          have HLX := Aside0.mk (show left.length < 1000000 by omega)
          have HLO := Aside0.mk hlo
          have HLC := Aside0.mk (Kd.R_reads' (HSr.out.row 0 rfl)).2.1
          have HCL := Aside0.mk (show slices_Clone_int_int.f left = some left by unfold slices_Clone_int_int.f; rw [if_pos (by omega)])
          obtain ⟨nw, hnw⟩ : ∃ nw, nw = nowF M left := ⟨_, rfl⟩
          rw [← hnw] at hx
          have HNX := Aside0.mk (show nw.length < 1000000 by rw [hnw, nowF]; exact Nat.lt_of_le_of_lt (List.length_filter_le _ _) (by omega))
          have HNW := Aside0.mk (show nw = left.filter (fun x => !(left.any fun j => j != x && rdOf false ((M j).getD []) x)) from hnw)
          clear hin hl1 hlo hnw
          by_cases h9 : nw.length = 0
          · rw [if_pos h9] at hx
            have HX4 := Aside0.mk hx
            have hn0 : ((nw.length : Int) == 0) = true := beq_iff_eq.mpr (by omega)
            have hn1 : (nw.length == 0) = true := beq_iff_eq.mpr h9
            clear hx h9 h0
            go_wp2_with (first | (go_at_call 81; refine (slices_Clone_int_int.calls Al cl left left _ (Kd.R_reads' (HSr.out.row 0 rfl)).2.2 (Kd.R_reads' (HSr.out.row 0 rfl)).2.1 HCL.out).mono ?_; rintro e_ w74_ ⟨v5, rfl, ho_, hb_⟩; have HS75_ := Aside0.mk (HSr.out.mrow hb_ ho_); clear ho_ hb_; clear HSr) | (go_at_call 80; refine (del_st 124 #[.pointer (some ⟨bl, 0, none⟩), .pointer (some ⟨bm, 0, none⟩)] (fun x => left.any fun j => j != x && rdOf false ((M j).getD []) x) HS75_.out HLL.out (fun _ _ => by rfl) (fun x W hx hS => rounds1_walk W bl bm gm Al cl left x M ((hS.cell 1 rfl 0).trans rfl) (Kd.R_reads' (hS.row 0 rfl)).2.2 ((hS.cell 4 rfl 0).trans rfl) (hS.mrR 3 rfl) (HIN.out x hx) HLL.out)).mono ?_; rintro e_ w76_ ⟨v6, rfl, hs_⟩; rw [← HNW.out] at hs_; obtain ⟨An0, cn0, rfl⟩ := Kd.R_slice (hs_.row 0 rfl); have HS77_ : Aside0 (St w w76_ ((rowA w.heap.size (Kd.int .i64) 3 (.slice An0 nw.length cn0) nw) :: (rowA w.heap.size (Kd.int .i64) 3 (.slice Al left.length cl) left) :: (blkA bl #[.slice Al left.length cl] 36) :: (nA w.heap.size (Kd.slice 3 (Kd.int .i64)) 36 (.slice Ao out.length co) out (Kd.int .i64) ([] : List (Option Addr × List Int))) :: (mrA w.heap.size Try.prog 3 4 gm nn M) :: (blkA bm #[.map (some gm)] 184) :: (blkA gh #[.slice A0_0 l0_0.length c0_0, .slice A0_1 l0_1.length c0_1] 41) :: [])) := ⟨hs_⟩; clear hs_ HS75_ ) | ((with_reducible refine gate_dst (N := 13) rfl ?_); (try (refine gate_guard (by rfl) ?_; dsimp only)); refine box_event ?hg (N := 13) ?hd (cs := #[.slice none 0 0]) (t := 36) ?hr ?_; (case hd => rfl); (case hg => rfl); (case hr => first | (go_simp; done) | (go_simp; rfl)); intro bn hg_ w78_ hx_ hb_; have HS79_ := Aside0.mk (HS77_.out.box hg_ hx_ hb_); have c80_ : w78_.cell? ⟨bn, 0, none⟩ = some (.slice none 0 0) := (HS79_.out.cell 0 rfl 0).trans rfl; have f81_ : w78_.frozen? ⟨bn, 0, none⟩ = false := HS79_.out.frz 0 rfl 0; clear hg_ hx_ hb_  HS77_) | ((with_reducible refine gate_store (t := 36) (p := 13) rfl ?_); refine store_event (t := 36) (p := 13) (v := .tmp 47) (w1 := (w78_.setCell ⟨bn, 0, none⟩ (.slice An0 nw.length cn0))) ?hg ?ho ?hn ?hr ?_; (case ho => rfl); (case hg => rfl); (case hn => rfl); (case hr => first | (go_simp; done) | (go_simp; rfl)); intro w82_ hw_; have HS83_ : Aside0 (St w w82_ ((blkA bn #[.slice An0 nw.length cn0] 36) :: (rowA w.heap.size (Kd.int .i64) 3 (.slice An0 nw.length cn0) nw) :: (rowA w.heap.size (Kd.int .i64) 3 (.slice Al left.length cl) left) :: (blkA bl #[.slice Al left.length cl] 36) :: (nA w.heap.size (Kd.slice 3 (Kd.int .i64)) 36 (.slice Ao out.length co) out (Kd.int .i64) ([] : List (Option Addr × List Int))) :: (mrA w.heap.size Try.prog 3 4 gm nn M) :: (blkA bm #[.map (some gm)] 184) :: (blkA gh #[.slice A0_0 l0_0.length c0_0, .slice A0_1 l0_1.length c0_1] 41) :: [])) := ⟨by rw [hw_]; exact (HS79_.out.put 0 rfl 0 (.slice An0 nw.length cn0) rfl)⟩; have c84_ : w82_.cell? ⟨bn, 0, none⟩ = some (.slice An0 nw.length cn0) := (HS83_.out.cell 0 rfl 0).trans rfl; have c85_ : w82_.cell? ⟨bl, 0, none⟩ = some (.slice Al left.length cl) := (HS83_.out.cell 3 rfl 0).trans rfl; clear hw_ c80_ f81_ HS79_; have f86_ : w82_.frozen? ⟨bn, 0, none⟩ = false := HS83_.out.frz 0 rfl 0) | ((with_reducible refine gate_store (t := 36) (p := 13) rfl ?_); refine store_event (t := 36) (p := 13) (v := .tmp 51) (w1 := (w82_.setCell ⟨bn, 0, none⟩ (.slice Al left.length cl))) ?hg ?ho ?hn ?hr ?_; (case ho => rfl); (case hg => rfl); (case hn => rfl); (case hr => first | (go_simp; done) | (go_simp; rfl)); intro w87_ hw_; have HS88_ : Aside0 (St w w87_ ((blkA bn #[.slice Al left.length cl] 36) :: (rowA w.heap.size (Kd.int .i64) 3 (.slice An0 nw.length cn0) nw) :: (rowA w.heap.size (Kd.int .i64) 3 (.slice Al left.length cl) left) :: (blkA bl #[.slice Al left.length cl] 36) :: (nA w.heap.size (Kd.slice 3 (Kd.int .i64)) 36 (.slice Ao out.length co) out (Kd.int .i64) ([] : List (Option Addr × List Int))) :: (mrA w.heap.size Try.prog 3 4 gm nn M) :: (blkA bm #[.map (some gm)] 184) :: (blkA gh #[.slice A0_0 l0_0.length c0_0, .slice A0_1 l0_1.length c0_1] 41) :: [])) := ⟨by rw [hw_]; exact (HS83_.out.put 0 rfl 0 (.slice Al left.length cl) rfl)⟩; have c89_ : w87_.cell? ⟨bn, 0, none⟩ = some (.slice Al left.length cl) := (HS88_.out.cell 0 rfl 0).trans rfl; clear hw_ c84_ c85_ f86_ HS83_) | ((with_reducible refine gate_builtin (b := .append) (xs := #[.tmp 52, .tmp 54]) rfl ?_); (try (refine gate_guard (by rfl) ?_; dsimp only)); at_builtin; have hT_ := (((HS88_.out).drop 1 rfl).front 3 rfl).front 2 rfl; obtain ⟨ok_, okp_, hf_, hn_, hfk_, hok_, hs_⟩ := hT_.napp (Kd.R_reads' (hT_.row 0 rfl)).2.1; refine Kd.N_append (Kd.slice 3 (Kd.int .i64)) (w0 := w) w.heap.size rfl (.tmp 52) (.tmp 54) 39 36 (.slice none 0 0) 24 rfl Try.underlying39 info36 rfl (by decide) (by omega) (.slice Ao out.length co) out left [.slice Al left.length cl] ok_ okp_ rfl rfl hfk_ hok_ hf_ hn_ HS88_.out.below HS88_.out.size ?aL ?_; (case aL => have := HLO.out; omega); intro v1_ w90_ hr_ hb_ hg_ hat_; obtain ⟨Ap, cp, rfl⟩ := Kd.N_slice hr_; have HS91_ : Aside0 (St w w90_ ((nA w.heap.size (Kd.slice 3 (Kd.int .i64)) 36 (.slice Ap (out ++ [left]).length cp) (out ++ [left]) (Kd.int .i64) [(Al, left)]) :: (blkA bn #[.slice Al left.length cl] 36) :: (blkA bl #[.slice Al left.length cl] 36) :: (mrA w.heap.size Try.prog 3 4 gm nn M) :: (blkA bm #[.map (some gm)] 184) :: (blkA gh #[.slice A0_0 l0_0.length c0_0, .slice A0_1 l0_1.length c0_1] 41) :: [])) := ⟨hs_ _ _ _ hr_ hb_ hg_⟩; have c92_ : w90_.cell? ⟨bl, 0, none⟩ = some (.slice Al left.length cl) := (HS91_.out.cell 2 rfl 0).trans rfl; clear hT_ ok_ okp_ hf_ hn_ hfk_ hok_ hs_ hr_ hb_ hg_ hat_ HS88_ c89_) | (go_at_call 81; refine (slices_Clone_int_int.calls Al cl left left _ (HS91_.out.nread 0 rfl (Al, left) (by simp)) HLC.out HCL.out).mono ?_; rintro e_ w93_ ⟨v7, rfl, ho_, hb_⟩; have HS94_ := Aside0.mk (HS91_.out.mrow hb_ ho_); clear ho_ hb_; clear c92_ HS91_) | (go_at_call 80; refine (del_st 127 #[.pointer (some ⟨bn, 0, none⟩)] (fun x => left.contains x) HS94_.out HLL.out (fun _ _ => by rfl) (fun x W hx hS => rounds2_walk W bn Al cl left x ((hS.cell 1 rfl 0).trans rfl) (hS.nread 0 rfl (Al, left) (by simp)) HLC.out HLX.out)).mono ?_; rintro e_ w95_ ⟨v8, rfl, hs_⟩; obtain ⟨A8, c8, rfl⟩ := Kd.R_slice (hs_.row 0 rfl); have HS96_ : Aside0 (St w w95_ ((rowA w.heap.size (Kd.int .i64) 3 (.slice A8 (left.filter (fun x => !(left.contains x))).length c8) (left.filter (fun x => !(left.contains x)))) :: (nA w.heap.size (Kd.slice 3 (Kd.int .i64)) 36 (.slice Ap (out ++ [left]).length cp) (out ++ [left]) (Kd.int .i64) [(Al, left)]) :: (blkA bn #[.slice Al left.length cl] 36) :: (blkA bl #[.slice Al left.length cl] 36) :: (mrA w.heap.size Try.prog 3 4 gm nn M) :: (blkA bm #[.map (some gm)] 184) :: (blkA gh #[.slice A0_0 l0_0.length c0_0, .slice A0_1 l0_1.length c0_1] 41) :: [])) := ⟨hs_⟩; have c97_ : w95_.cell? ⟨bl, 0, none⟩ = some (.slice Al left.length cl) := (HS96_.out.cell 3 rfl 0).trans rfl; have f98_ : w95_.frozen? ⟨bl, 0, none⟩ = false := HS96_.out.frz 3 rfl 0; clear hs_ HS94_ ) | ((with_reducible refine gate_store (t := 36) (p := 6) rfl ?_); refine store_event (t := 36) (p := 6) (v := .tmp 59) (w1 := (w95_.setCell ⟨bl, 0, none⟩ (.slice A8 (left.filter (fun x => !(left.contains x))).length c8))) ?hg ?ho ?hn ?hr ?_; (case ho => rfl); (case hg => rfl); (case hn => rfl); (case hr => first | (go_simp; done) | (go_simp; rfl)); intro w99_ hw_; have HS100_ : Aside0 (St w w99_ ((rowA w.heap.size (Kd.int .i64) 3 (.slice A8 (left.filter (fun x => !(left.contains x))).length c8) (left.filter (fun x => !(left.contains x)))) :: (nA w.heap.size (Kd.slice 3 (Kd.int .i64)) 36 (.slice Ap (out ++ [left]).length cp) (out ++ [left]) (Kd.int .i64) [(Al, left)]) :: (blkA bn #[.slice Al left.length cl] 36) :: (blkA bl #[.slice A8 (left.filter (fun x => !(left.contains x))).length c8] 36) :: (mrA w.heap.size Try.prog 3 4 gm nn M) :: (blkA bm #[.map (some gm)] 184) :: (blkA gh #[.slice A0_0 l0_0.length c0_0, .slice A0_1 l0_1.length c0_1] 41) :: [])) := ⟨by rw [hw_]; exact (HS96_.out.put 3 rfl 0 (.slice A8 (left.filter (fun x => !(left.contains x))).length c8) rfl)⟩; clear hw_ c97_ f98_ HS96_))
            go_roundg k1
            case rel => exact ⟨A8, c8, _, Ap, cp, _, by first | rfl | simp, HX4, ⟨(((((((((HS100_.out).drop 2 rfl).front 1 rfl).nless (E' := []) (by simp)).front 5 rfl).front 5 rfl).front 5 rfl).front 3 rfl).front 5 rfl).front 5 rfl⟩⟩
            case measure => omega
          · rw [if_neg h9] at hx
            have HX4 := Aside0.mk hx
            have hn0 : ((nw.length : Int) == 0) = false := beq_eq_false_iff_ne.mpr (by omega)
            have hn1 : (nw.length == 0) = false := beq_eq_false_iff_ne.mpr h9
            clear hx h9 h0
            go_wp2_with (first | (go_at_call 81; refine (slices_Clone_int_int.calls Al cl left left _ (Kd.R_reads' (HSr.out.row 0 rfl)).2.2 (Kd.R_reads' (HSr.out.row 0 rfl)).2.1 HCL.out).mono ?_; rintro e_ w101_ ⟨v5, rfl, ho_, hb_⟩; have HS102_ := Aside0.mk (HSr.out.mrow hb_ ho_); clear ho_ hb_; clear HSr) | (go_at_call 80; refine (del_st 124 #[.pointer (some ⟨bl, 0, none⟩), .pointer (some ⟨bm, 0, none⟩)] (fun x => left.any fun j => j != x && rdOf false ((M j).getD []) x) HS102_.out HLL.out (fun _ _ => by rfl) (fun x W hx hS => rounds1_walk W bl bm gm Al cl left x M ((hS.cell 1 rfl 0).trans rfl) (Kd.R_reads' (hS.row 0 rfl)).2.2 ((hS.cell 4 rfl 0).trans rfl) (hS.mrR 3 rfl) (HIN.out x hx) HLL.out)).mono ?_; rintro e_ w103_ ⟨v6, rfl, hs_⟩; rw [← HNW.out] at hs_; obtain ⟨An0, cn0, rfl⟩ := Kd.R_slice (hs_.row 0 rfl); have HS104_ : Aside0 (St w w103_ ((rowA w.heap.size (Kd.int .i64) 3 (.slice An0 nw.length cn0) nw) :: (rowA w.heap.size (Kd.int .i64) 3 (.slice Al left.length cl) left) :: (blkA bl #[.slice Al left.length cl] 36) :: (nA w.heap.size (Kd.slice 3 (Kd.int .i64)) 36 (.slice Ao out.length co) out (Kd.int .i64) ([] : List (Option Addr × List Int))) :: (mrA w.heap.size Try.prog 3 4 gm nn M) :: (blkA bm #[.map (some gm)] 184) :: (blkA gh #[.slice A0_0 l0_0.length c0_0, .slice A0_1 l0_1.length c0_1] 41) :: [])) := ⟨hs_⟩; clear hs_ HS102_ ; have HNC := Aside0.mk (Kd.R_reads' (HS104_.out.row 0 rfl)).2.1) | ((with_reducible refine gate_dst (N := 13) rfl ?_); (try (refine gate_guard (by rfl) ?_; dsimp only)); refine box_event ?hg (N := 13) ?hd (cs := #[.slice none 0 0]) (t := 36) ?hr ?_; (case hd => rfl); (case hg => rfl); (case hr => first | (go_simp; done) | (go_simp; rfl)); intro bn hg_ w105_ hx_ hb_; have HS106_ := Aside0.mk (HS104_.out.box hg_ hx_ hb_); have c107_ : w105_.cell? ⟨bn, 0, none⟩ = some (.slice none 0 0) := (HS106_.out.cell 0 rfl 0).trans rfl; have f108_ : w105_.frozen? ⟨bn, 0, none⟩ = false := HS106_.out.frz 0 rfl 0; clear hg_ hx_ hb_  HS104_) | ((with_reducible refine gate_store (t := 36) (p := 13) rfl ?_); refine store_event (t := 36) (p := 13) (v := .tmp 47) (w1 := (w105_.setCell ⟨bn, 0, none⟩ (.slice An0 nw.length cn0))) ?hg ?ho ?hn ?hr ?_; (case ho => rfl); (case hg => rfl); (case hn => rfl); (case hr => first | (go_simp; done) | (go_simp; rfl)); intro w109_ hw_; have HS110_ : Aside0 (St w w109_ ((blkA bn #[.slice An0 nw.length cn0] 36) :: (rowA w.heap.size (Kd.int .i64) 3 (.slice An0 nw.length cn0) nw) :: (rowA w.heap.size (Kd.int .i64) 3 (.slice Al left.length cl) left) :: (blkA bl #[.slice Al left.length cl] 36) :: (nA w.heap.size (Kd.slice 3 (Kd.int .i64)) 36 (.slice Ao out.length co) out (Kd.int .i64) ([] : List (Option Addr × List Int))) :: (mrA w.heap.size Try.prog 3 4 gm nn M) :: (blkA bm #[.map (some gm)] 184) :: (blkA gh #[.slice A0_0 l0_0.length c0_0, .slice A0_1 l0_1.length c0_1] 41) :: [])) := ⟨by rw [hw_]; exact (HS106_.out.put 0 rfl 0 (.slice An0 nw.length cn0) rfl)⟩; have c111_ : w109_.cell? ⟨bn, 0, none⟩ = some (.slice An0 nw.length cn0) := (HS110_.out.cell 0 rfl 0).trans rfl; clear hw_ c107_ f108_ HS106_) | ((with_reducible refine gate_builtin (b := .append) (xs := #[.tmp 52, .tmp 54]) rfl ?_); (try (refine gate_guard (by rfl) ?_; dsimp only)); at_builtin; have hT_ := ((HS110_.out).front 4 rfl).front 2 rfl; obtain ⟨ok_, okp_, hf_, hn_, hfk_, hok_, hs_⟩ := hT_.napp (Kd.R_reads' (hT_.row 0 rfl)).2.1; refine Kd.N_append (Kd.slice 3 (Kd.int .i64)) (w0 := w) w.heap.size rfl (.tmp 52) (.tmp 54) 39 36 (.slice none 0 0) 24 rfl Try.underlying39 info36 rfl (by decide) (by omega) (.slice Ao out.length co) out nw [.slice An0 nw.length cn0] ok_ okp_ rfl rfl hfk_ hok_ hf_ hn_ HS110_.out.below HS110_.out.size ?aL ?_; (case aL => have := HLO.out; omega); intro v1_ w112_ hr_ hb_ hg_ hat_; obtain ⟨Ap, cp, rfl⟩ := Kd.N_slice hr_; have HS113_ : Aside0 (St w w112_ ((nA w.heap.size (Kd.slice 3 (Kd.int .i64)) 36 (.slice Ap (out ++ [nw]).length cp) (out ++ [nw]) (Kd.int .i64) [(Al, left), (An0, nw)]) :: (blkA bn #[.slice An0 nw.length cn0] 36) :: (blkA bl #[.slice Al left.length cl] 36) :: (mrA w.heap.size Try.prog 3 4 gm nn M) :: (blkA bm #[.map (some gm)] 184) :: (blkA gh #[.slice A0_0 l0_0.length c0_0, .slice A0_1 l0_1.length c0_1] 41) :: [])) := ⟨((hs_ _ _ _ hr_ hb_ hg_).front 2 rfl).nabs⟩; have c114_ : w112_.cell? ⟨bl, 0, none⟩ = some (.slice Al left.length cl) := (HS113_.out.cell 2 rfl 0).trans rfl; clear hT_ ok_ okp_ hf_ hn_ hfk_ hok_ hs_ hr_ hb_ hg_ hat_ HS110_ c111_) | (go_at_call 81; refine (slices_Clone_int_int.calls Al cl left left _ (HS113_.out.nread 0 rfl (Al, left) (by simp)) HLC.out HCL.out).mono ?_; rintro e_ w115_ ⟨v7, rfl, ho_, hb_⟩; have HS116_ := Aside0.mk (HS113_.out.mrow hb_ ho_); clear ho_ hb_; clear c114_ HS113_) | (go_at_call 80; refine (del_st 127 #[.pointer (some ⟨bn, 0, none⟩)] (fun x => nw.contains x) HS116_.out HLL.out (fun _ _ => by rfl) (fun x W hx hS => rounds2_walk W bn An0 cn0 nw x ((hS.cell 1 rfl 0).trans rfl) (hS.nread 0 rfl (An0, nw) (by simp)) HNC.out HNX.out)).mono ?_; rintro e_ w117_ ⟨v8, rfl, hs_⟩; obtain ⟨A8, c8, rfl⟩ := Kd.R_slice (hs_.row 0 rfl); have HS118_ : Aside0 (St w w117_ ((rowA w.heap.size (Kd.int .i64) 3 (.slice A8 (left.filter (fun x => !(nw.contains x))).length c8) (left.filter (fun x => !(nw.contains x)))) :: (nA w.heap.size (Kd.slice 3 (Kd.int .i64)) 36 (.slice Ap (out ++ [nw]).length cp) (out ++ [nw]) (Kd.int .i64) [(Al, left), (An0, nw)]) :: (blkA bn #[.slice An0 nw.length cn0] 36) :: (blkA bl #[.slice Al left.length cl] 36) :: (mrA w.heap.size Try.prog 3 4 gm nn M) :: (blkA bm #[.map (some gm)] 184) :: (blkA gh #[.slice A0_0 l0_0.length c0_0, .slice A0_1 l0_1.length c0_1] 41) :: [])) := ⟨hs_⟩; have c119_ : w117_.cell? ⟨bl, 0, none⟩ = some (.slice Al left.length cl) := (HS118_.out.cell 3 rfl 0).trans rfl; have f120_ : w117_.frozen? ⟨bl, 0, none⟩ = false := HS118_.out.frz 3 rfl 0; clear hs_ HS116_ ) | ((with_reducible refine gate_store (t := 36) (p := 6) rfl ?_); refine store_event (t := 36) (p := 6) (v := .tmp 59) (w1 := (w117_.setCell ⟨bl, 0, none⟩ (.slice A8 (left.filter (fun x => !(nw.contains x))).length c8))) ?hg ?ho ?hn ?hr ?_; (case ho => rfl); (case hg => rfl); (case hn => rfl); (case hr => first | (go_simp; done) | (go_simp; rfl)); intro w121_ hw_; have HS122_ : Aside0 (St w w121_ ((rowA w.heap.size (Kd.int .i64) 3 (.slice A8 (left.filter (fun x => !(nw.contains x))).length c8) (left.filter (fun x => !(nw.contains x)))) :: (nA w.heap.size (Kd.slice 3 (Kd.int .i64)) 36 (.slice Ap (out ++ [nw]).length cp) (out ++ [nw]) (Kd.int .i64) [(Al, left), (An0, nw)]) :: (blkA bn #[.slice An0 nw.length cn0] 36) :: (blkA bl #[.slice A8 (left.filter (fun x => !(nw.contains x))).length c8] 36) :: (mrA w.heap.size Try.prog 3 4 gm nn M) :: (blkA bm #[.map (some gm)] 184) :: (blkA gh #[.slice A0_0 l0_0.length c0_0, .slice A0_1 l0_1.length c0_1] 41) :: [])) := ⟨by rw [hw_]; exact (HS118_.out.put 3 rfl 0 (.slice A8 (left.filter (fun x => !(nw.contains x))).length c8) rfl)⟩; clear hw_ c119_ f120_ HS118_))
            go_roundg k1
            case rel => exact ⟨A8, c8, _, Ap, cp, _, by first | rfl | simp, HX4, ⟨(((((((((HS122_.out).drop 2 rfl).front 1 rfl).nless (E' := []) (by simp)).front 5 rfl).front 5 rfl).front 5 rfl).front 3 rfl).front 5 rfl).front 5 rfl⟩⟩
            case measure => omega
end

-- NOT PRINTED: function 184 (backstitchref3_From_1)

/-! ### backstitchref3_From: function 129 -/
/-- The reference's row of what was seen (g), in a variable (gv). -/
structure SeIs (w : World) (base g gv n : Nat) (s : List Bool) : Prop where
  hv : w.heap[gv]? = some (.cells #[.slice (some ⟨g, 0, none⟩) n n] 149 (0, 0))
  hb : base ≤ gv
  seen : Kd.R Kd.bool 4 w base (fun _ => True) (.slice (some ⟨g, 0, none⟩) n n) s
/-- The variable that tells whether there was more. -/
structure MoIs (w : World) (base gm : Nat) (m : Bool) : Prop where
  hm : w.heap[gm]? = some (.cells #[.bool m] 4 (0, 0))
  hb : base ≤ gm
theorem SeIs.len {w : World} {base g gv n : Nat} {s : List Bool} (h : SeIs w base g gv n s) : s.length = n := (Kd.R_reads' h.seen).1.symm
theorem SeIs.ne {w : World} {base g gv n : Nat} {s : List Bool} (h : SeIs w base g gv n s) : gv ≠ g := fun e => Kd.R_ne h.seen h.hv (by decide) (by rw [e]; rfl)
theorem SeIs.ne_m {w : World} {base g gv n gm : Nat} {s : List Bool} {m : Bool} (h : SeIs w base g gv n s) (hm : MoIs w base gm m) : gv ≠ gm := blk_ne h.hv hm.hm (by decide)
theorem SeIs.mark {w : World} {base g gv n : Nat} {s : List Bool} (h : SeIs w base g gv n s) (i : Int) : SeIs (w.setCell ⟨g, i.toNat, none⟩ (.bool true)) base g gv n (s.set i.toNat true) :=
  ⟨(Below.heap_setCell w _ _ gv h.ne).trans h.hv, h.hb, Kd.R_putn h.seen i true⟩
theorem MoIs.mark {w : World} {base g gm : Nat} {m : Bool} (h : MoIs w base gm m) (hne : gm ≠ g) (i : Nat) : MoIs (w.setCell ⟨g, i, none⟩ (.bool true)) base gm m :=
  ⟨(Below.heap_setCell w _ _ gm hne).trans h.hm, h.hb⟩
theorem MoIs.put {w : World} {base gm : Nat} {m : Bool} (h : MoIs w base gm m) (m' : Bool) : MoIs (w.setCell ⟨gm, 0, none⟩ (.bool m')) base gm m' := ⟨blk_put h.hm 0 _ rfl, h.hb⟩
theorem SeIs.put {w : World} {base g gv n gm : Nat} {s : List Bool} (h : SeIs w base g gv n s) (hne : gm ≠ g) (hne2 : gv ≠ gm) (v : Value) : SeIs (w.setCell ⟨gm, 0, none⟩ v) base g gv n s :=
  ⟨(Below.heap_setCell w _ _ gv hne2).trans h.hv, h.hb, Kd.R_mono (Kd.R_far (p := ⟨gm, 0, none⟩) (Kd.R_tight rfl h.seen) (fun k hk e => hne (by have e' : k = gm := e; have h2 : some k = some g := hk; injection h2 with h2; omega)) _) (fun _ _ => trivial)⟩
theorem SeIs.below {w w1 : World} {base g gv n : Nat} {s : List Bool} (h : SeIs w base g gv n s) (hb : Below w.heap.size w w1) : SeIs w1 base g gv n s :=
  ⟨blk_below h.hv hb, h.hb, Kd.R_mono (Kd.R_kept (S := fun _ => False) (Kd.R_tight rfl h.seen) (Kept.of_below hb _) (fun _ _ h => h)) (fun _ _ => trivial)⟩
theorem SeIs.kept {w w1 : World} {base g gv n : Nat} {s : List Bool} (h : SeIs w base g gv n s) (hb : Kept w w1 (fun _ => False)) : SeIs w1 base g gv n s :=
  ⟨blk_kept h.hv hb (fun h => h), h.hb, Kd.R_mono (Kd.R_kept (S := fun _ => False) (Kd.R_tight rfl h.seen) hb (fun _ _ h => h)) (fun _ _ => trivial)⟩
theorem MoIs.kept {w w1 : World} {base gm : Nat} {m : Bool} (h : MoIs w base gm m) (hb : Kept w w1 (fun _ => False)) : MoIs w1 base gm m := ⟨blk_kept h.hm hb (fun h => h), h.hb⟩
theorem MoIs.below {w w1 : World} {base gm : Nat} {m : Bool} (h : MoIs w base gm m) (hb : Below w.heap.size w w1) : MoIs w1 base gm m := ⟨blk_below h.hm hb, h.hb⟩
theorem SeIs.alloc {w : World} {base g gv n : Nat} {s : List Bool} (h : SeIs w base g gv n s) (o : Obj) : SeIs (w.alloc o) base g gv n s := h.below (below_alloc (Below.refl _ _) o)
def seeS (n : Int) (s : List Bool) (m : Bool) : Option (List Bool × Bool) := if 0 ≤ n ∧ n < s.length then some (s.set n.toNat true, m || !rdOf false s n) else none
set_option maxHeartbeats 4000000 in
set_option maxRecDepth 100000 in
theorem see_walk (w0 : World) (x : Int) (g gv gm n : Nat) (s : List Bool) (m : Bool) (z : List Bool × Bool) (w : World)
    (hS : SeIs w w0.heap.size g gv n s) (hM : MoIs w w0.heap.size gm m) (hne : gm ≠ g) (hB : Below w0.heap.size w0 w) (h : seeS x s m = some z) :
    Calls Try.prog 184 #[.int .i64 x, .pointer (some ⟨gm, 0, none⟩), .pointer (some ⟨gv, 0, none⟩)] w fun e w' => e = .returned (.tuple #[]) ∧ SeIs w' w0.heap.size g gv n z.1 ∧ MoIs w' w0.heap.size gm z.2 ∧ Below w0.heap.size w0 w' := by
  unfold seeS at h
  split at h
  case isFalse => cases h
  rename_i hr
  obtain rfl := Option.some.inj h
  clear h
  obtain ⟨hr0, hr1⟩ := hr
  obtain ⟨hs1, hs2⟩ := Kd.R_celln false hS.seen x hr0 (by have := hS.len; omega)
  have hln : (s.length : Int) = (n : Int) := by rw [hS.len]
  rw [hln] at hr1
  have hv0 : w.cell? ⟨gv, 0, none⟩ = some (.slice (some ⟨g, 0, none⟩) n n) := by simp [World.cell?, hS.hv]
  have hm0 : w.cell? ⟨gm, 0, none⟩ = some (.bool m) := by simp [World.cell?, hM.hm]
  have hf0 : w.frozen? ⟨gm, 0, none⟩ = false := by simp [World.frozen?, hM.hm]
  have HNE2 := Aside0.mk (hS.ne_m hM)
  have HNE := Aside0.mk hne
  have HB2 := Aside0.mk (below_set hB hM.hb (g := gm) (j := 0) (v := .bool (m || !rdOf false s x)))
  have HM2 := Aside0.mk (hM.put (m || !rdOf false s x))
  have HS2 := Aside0.mk (hS.put hne HNE2.out (.bool (m || !rdOf false s x)))
  have HM2' := Aside0.mk (hM.put true)
  clear hS hM hne hB hln
  generalize hb : rdOf false s x = bx at *
  obtain ⟨mv, hmv⟩ : ∃ mv, (m || !bx) = mv := ⟨_, rfl⟩
  rw [hmv] at HB2 HM2 HS2
  rw [hmv]
  rcases m with _ | _ <;> rcases bx with _ | _
  all_goals
    simp only [Bool.false_or, Bool.true_or, Bool.not_true, Bool.not_false] at hmv
    have HMV := Aside0.mk hmv.symm
    clear hb HM2' hmv
    go_enter Try.func184, Try.ntmps184
    go_wp2_with (((with_reducible refine gate_store (t := 4) (p := 1) rfl ?_); refine store_event (t := 4) (p := 1) (v := .tmp 11) (w1 := w.setCell ⟨gm, 0, none⟩ (.bool mv)) ?hg ?ho ?hn ?hr ?_; (case ho => rfl); (case hg => rfl); (case hn => rfl); (case hr => rw [HMV.out]; first | (go_simp; done) | (go_simp; rfl)); intro w2 hw; rw [← hw] at HB2 HM2 HS2; have hv1 : w2.cell? ⟨gv, 0, none⟩ = some (.slice (some ⟨g, 0, none⟩) n n) := (by simp [World.cell?, HS2.out.hv]); have hs5 := (Kd.R_celln false HS2.out.seen x hr0 hr1).1; have hs6 := (Kd.R_celln false HS2.out.seen x hr0 hr1).2; clear hw hs1 hs2 hv0 hm0 hf0))
    go_end0
    exact ⟨rfl, HS2.out.mark x, HM2.out.mark HNE.out _, below_set HB2.out (Kd.R_base HS2.out.seen g rfl)⟩
theorem SeIs.made {wb w7 : World} {base n gv : Nat} (hb0 : base ≤ wb.heap.size) (hn : n ≤ maxLen) (hg : gv = (wb.alloc (.cells (madeCells #[.bool false] n) 4)).heap.size) (hbox : w7.heap[gv]? = some (.cells #[.slice none 0 0] 149 (0, 0)))
    (hb : Below (wb.alloc (.cells (madeCells #[.bool false] n) 4)).heap.size (wb.alloc (.cells (madeCells #[.bool false] n) 4)) w7) :
    SeIs (w7.setCell ⟨gv, 0, none⟩ (.slice (some ⟨wb.heap.size, 0, none⟩) n n)) base wb.heap.size gv n (List.replicate n false) := by
  refine ⟨blk_put hbox 0 _ rfl, by rw [hg, World.size_alloc]; omega, ?_⟩
  exact Kd.R_mono (Kd.R_kept (S := fun _ => False) (Kd.R_tight rfl (R_madeBools wb base n hb0 hn)) (Kept.setCell (Kept.of_below hb (fun _ => False)) (p := ⟨gv, 0, none⟩) (.inr (Nat.le_of_eq hg.symm)) _) (fun _ _ h => h)) (fun _ _ => trivial)
def setS : List Int → List Bool → Option (List Bool)
  | [], s => some s
  | x :: l, s => if 0 ≤ x ∧ x < s.length then setS l (s.set x.toNat true) else none
def ownS : List Int → Int → List Bool → Bool → Option (List Bool × Bool)
  | [], _, s, m => some (s, m)
  | x :: l, i, s, m => if i < s.length then (if rdOf false s i = true then (seeS x s m).bind fun q => ownS l i q.1 q.2 else ownS l i s m) else none
def hasS : List (List Int) → Int → List Bool → Bool → Option (List Bool × Bool)
  | [], _, s, m => some (s, m)
  | o :: l, i, s, m => (ownS o i s m).bind fun q => hasS l (i + 1) q.1 q.2
def prS : List S236 → List Bool → Bool → Option (List Bool × Bool)
  | [], s, m => some (s, m)
  | p :: l, s, m => if 0 ≤ p.f0 ∧ p.f0 < s.length then (if rdOf false s p.f0 = true then (seeS p.f1 s m).bind fun q => prS l q.1 q.2 else prS l s m) else none
def fromR (has : List (List Int)) (ps : List S236) : Nat → List Bool → Option (List Bool)
  | 0, _ => none
  | k + 1, s => (hasS has 0 s false).bind fun q => (prS ps q.1 q.2).bind fun z => if z.2 = true then fromR has ps k z.1 else some z.1
def backstitchref3_From.f (k : Nat) (l0_0 : List (List Int)) (l0_1 : List Int) (l1 : List Int) (l2 : List (S236)) : Option (List Bool) :=
  if l0_0.length ≤ 281474976710656 then (setS l1 (List.replicate l0_0.length false)).bind fun s => fromR l0_0 l2 k s else none
set_option maxHeartbeats 40000000 in
set_option maxRecDepth 100000 in
theorem backstitchref3_From.calls (k : Nat) (A0_0 : Option Addr) (c0_0 : Nat) (l0_0 : List (List Int)) (A0_1 : Option Addr) (c0_1 : Nat) (l0_1 : List Int) (A1 : Option Addr) (c1 : Nat) (l1 : List Int) (A2 : Option Addr) (c2 : Nat) (l2 : List (S236)) (r : List Bool) (w : World)
    (hr0_0 : Kd.C (Kd.slice 3 (Kd.int .i64)) w A0_0 l0_0.length l0_0) (hc0_0 : l0_0.length ≤ c0_0) (hr0_1 : Kd.C (Kd.int .i64) w A0_1 l0_1.length l0_1) (hc0_1 : l0_1.length ≤ c0_1) (hr1 : Kd.C (Kd.int .i64) w A1 l1.length l1) (hc1 : l1.length ≤ c1) (hr2 : Kd.C k236 w A2 l2.length l2) (hc2 : l2.length ≤ c2) (h : backstitchref3_From.f k l0_0 l0_1 l1 l2 = some r) :
    Calls Try.prog 129 #[.agg #[.slice A0_0 l0_0.length c0_0, .slice A0_1 l0_1.length c0_1], .slice A1 l1.length c1, .slice A2 l2.length c2] w fun e w' => ∃ v0_ : Value, e = .returned v0_ ∧ Kd.R Kd.bool 4 w' w.heap.size (fun _ => True) v0_ r ∧ Below w.heap.size w w' := by
  have HR0 := Aside0.mk hr0_0
  have HR1 := Aside0.mk hr1
  have HR2 := Aside0.mk hr2
  clear hr0_0 hr0_1 hr1 hr2 hc0_0 hc0_1 hc1 hc2
  unfold backstitchref3_From.f at h
  split at h
  case isFalse => cases h
  rename_i hlen
  have HLEN := Aside0.mk hlen
  obtain ⟨s0, hs, hf⟩ := Option.bind_eq_some_iff.1 h
  have HSET := Aside0.mk hs
  have HFR := Aside0.mk hf
  clear h hs hf hlen
  have HN1 := Aside0.mk (Kd.F_max (Kd.C_F (Kd.heap_int .i64) HR1.out))
  have HN2 := Aside0.mk (show l2.length ≤ 9223372036854775807 from HR2.out.2.1)
  have hmk : ∀ W : World, (Instr.makeSlice 149 (.int .i64 (l0_0.length : Int)) (.int .i64 (l0_0.length : Int))).run Try.prog W = .ok (.slice (some ⟨W.heap.size, 0, none⟩) l0_0.length l0_0.length) (W.alloc (.cells (madeCells #[.bool false] l0_0.length) 4)) := fun W => by
    have hti := info4
    obtain ⟨i0, hi, hzz⟩ := Option.map_eq_some_iff.1 hti
    simp only [Prod.mk.injEq] at hzz
    obtain ⟨hz0, hz1, hz2⟩ := hzz
    have hL := HLEN.out
    have hr := run_make (P := Try.prog) W 149 4 i0 (.bool false) Try.underlying149 hi hz0 .i64 .i64 (l0_0.length : Int) (l0_0.length : Int) (by omega) (by omega) (by rw [hz2]; omega) (by omega)
    rw [hz1, show (Value.bool false).cells = #[.bool false] from rfl] at hr
    simpa using hr
  go_enter Try.func129, Try.ntmps129
  go_wp2_with (first | ((with_reducible refine gate_dst (N := 3) rfl ?_); (try (refine gate_guard (by rfl) ?_; dsimp only)); refine box_event ?hg (N := 3) ?hd (cs := #[.slice A0_0 l0_0.length c0_0, .slice A0_1 l0_1.length c0_1]) (t := 41) ?hr ?_; (case hd => rfl); (case hg => rfl); (case hr => first | (go_simp; done) | (go_simp; rfl)); intro gb hg wb hbox hb; have BK := Aside0.mk hbox; have HRb0 := Aside0.mk (Kd.C_below HR0.out hb); have HRb1 := Aside0.mk (Kd.C_below HR1.out hb); have HRb2 := Aside0.mk (Kd.C_below HR2.out hb); have HBw := Aside0.mk hb; have hq0 : wb.cell? ⟨gb, 0, none⟩ = some (.slice A0_0 l0_0.length c0_0) := (blk_cell BK.out 0).trans rfl; clear hg hbox hb) | ((with_reducible refine gate_dst (N := 7) rfl ?_); (try (refine gate_guard (by rfl) ?_; dsimp only)); refine box_event ?hg (N := 7) ?hd (cs := #[.slice none 0 0]) (t := 149) ?hr ?_; (case hd => rfl); (case hg => rfl); (case hr => first | (go_simp; done) | (go_simp; rfl)); intro gv hgv w7 hbox hb; have HS7 := Aside0.mk (SeIs.made (Nat.le_refl _) (by have := HLEN.out; simp only [maxLen]; omega) hgv hbox hb); have GV := Aside0.mk (show wb.heap.size ≤ gv by rw [hgv, World.size_alloc]; omega); have HB7 := Aside0.mk (below_step (below_alloc (Below.refl wb.heap.size wb) (.cells (madeCells #[.bool false] l0_0.length) 4)) hb); have hv0 : w7.cell? ⟨gv, 0, none⟩ = some (.slice none 0 0) := (blk_cell hbox 0).trans rfl; have hfv := blk_frozen hbox 0; clear hgv hbox hb hq0) | ((with_reducible refine gate_store (t := 149) (p := 7) rfl ?_); refine store_event (t := 149) (p := 7) (v := .tmp 21) (w1 := w7.setCell ⟨gv, 0, none⟩ (.slice (some ⟨wb.heap.size, 0, none⟩) l0_0.length l0_0.length)) ?hg ?ho ?hn ?hr ?_; (case ho => rfl); (case hg => rfl); (case hn => rfl); (case hr => first | (go_simp; done) | (go_simp; rfl)); intro w8 hw; have HB8 := Aside0.mk (below_set HB7.out GV.out (g := gv) (j := 0) (v := .slice (some ⟨wb.heap.size, 0, none⟩) l0_0.length l0_0.length)); rw [← hw] at HS7 HB8; clear hw hv0 hfv HB7))
  obtain ⟨g, hs7, hg⟩ : ∃ g, SeIs w8 wb.heap.size g gv l0_0.length (List.replicate l0_0.length false) ∧ wb.heap.size ≤ g := ⟨_, HS7.out, Nat.le_refl _⟩
  clear HS7
  have HS7 := Aside0.mk hs7
  have GG := Aside0.mk hg
  clear hs7 hg hmk
  go_loopw [24] (fun v24 wr => ∃ (i : Int) (s : List Bool), v24 = .int .i64 i ∧ Aside0 (0 ≤ i ∧ i ≤ l1.length) ∧ Aside0 (setS (l1.drop i.toNat) s = some s0) ∧ Aside0 (SeIs wr wb.heap.size g gv l0_0.length s) ∧ Aside0 (Below wb.heap.size wb wr)) (fun v24 _ => l1.length - (intOf v24).toNat)
  case atStart => exact ⟨0, _, rfl, ⟨by omega⟩, ⟨by simpa using HSET.out⟩, HS7, HB8⟩
  case round =>
    clear HS7 HB8 HSET
    obtain ⟨i, s, rfl, Hi, HX, HS, HB⟩ := hrel
    have hi0 : 0 ≤ i := Hi.out.1
    by_cases hlt : i < (l1.length : Int)
    · have ht : decide (i < (l1.length : Int)) = true := decide_eq_true hlt
      have HW := Aside0.mk (show wrap64 (i + 1) = i + 1 by have := HN1.out; unfold wrap64; omega)
      have hd : l1.drop i.toNat = rd l1 i :: l1.drop (i + 1).toNat := by
        rw [List.drop_eq_getElem_cons (by omega), show (i + 1).toNat = i.toNat + 1 by omega]
        congr 1
        rw [rd, List.getD_eq_getElem?_getD, List.getElem?_eq_getElem (by omega), Option.getD_some]
      have hx := HX.out
      rw [hd, setS] at hx
      clear hd
      obtain ⟨ad, e, h1⟩ := Kd.at_int HRb1.out i hi0 hlt
      cases e
      replace h1 := (HB.out.cell (World.block_lt_of_cell? wb _ h1)).trans h1
      generalize rd l1 i = x at *
      split at hx
      case isFalse => cases hx
      rename_i hr
      obtain ⟨hr0, hr1⟩ := hr
      have hsl : (s.length : Int) = (l0_0.length : Int) := by rw [HS.out.len]
      rw [hsl] at hr1
      have HX2 := Aside0.mk hx
      clear hx hsl HX
      obtain ⟨hs1, hs2⟩ := Kd.R_celln false HS.out.seen x hr0 hr1
      have hv0 : wr.cell? ⟨gv, 0, none⟩ = some (.slice (some ⟨g, 0, none⟩) l0_0.length l0_0.length) := (blk_cell HS.out.hv 0).trans rfl
      have HS2 := Aside0.mk (HS.out.mark x)
      have HB2 := Aside0.mk (below_set HB.out GG.out (g := g) (j := x.toNat) (v := .bool true))
      go_wp2
      go_roundw
      case rel => exact ⟨i + 1, s.set x.toNat true, by first | rw [HW.out] | rfl, ⟨by omega⟩, HX2, HS2, HB2⟩
      case measure => simp only [intOf]; (try rw [HW.out]); omega
    · have ht : decide (i < (l1.length : Int)) = false := decide_eq_false hlt
      have hx := HX.out
      rw [List.drop_eq_nil_of_le (by omega), setS] at hx
      obtain rfl := Option.some.inj hx
      clear hx HX
      go_wp2_with (first | ((with_reducible refine gate_dst (N := 10) rfl ?_); (try (refine gate_guard (by rfl) ?_; dsimp only)); refine box_event ?hg (N := 10) ?hd (cs := #[.bool false]) (t := 4) ?hr ?_; (case hd => rfl); (case hg => rfl); (case hr => first | (go_simp; done) | (go_simp; rfl)); intro gm hgm wm hbox hb; have GM := Aside0.mk (show wb.heap.size ≤ gm by rw [hgm]; exact HB.out.size); have GNE := Aside0.mk (show gm ≠ g by obtain ⟨c9, e9⟩ := Kd.R_typed HS.out.seen g rfl; have := blk_lt e9; omega); have HM := Aside0.mk (show MoIs wm wb.heap.size gm false from ⟨hbox, GM.out⟩); have HS3 := Aside0.mk (HS.out.below hb); have HB3 := Aside0.mk (below_step HB.out hb); have hm0 : wm.cell? ⟨gm, 0, none⟩ = some (.bool false) := (blk_cell hbox 0).trans rfl; have hf0 := blk_frozen hbox 0; clear hgm hbox hb) | ((with_reducible refine gate_store (t := 4) (p := 10) rfl ?_); refine store_event (t := 4) (p := 10) (v := .const (.bool true)) (w1 := wm.setCell ⟨gm, 0, none⟩ (.bool true)) ?hg ?ho ?hn ?hr ?_; (case ho => rfl); (case hg => rfl); (case hn => rfl); (case hr => first | (go_simp; done) | (go_simp; rfl)); intro w9 hw; have HS4 := Aside0.mk (HS3.out.put GNE.out (HS3.out.ne_m HM.out) (.bool true)); have HM4 := Aside0.mk (HM.out.put true); have HB4 := Aside0.mk (below_set HB3.out GM.out (g := gm) (j := 0) (v := .bool true)); rw [← hw] at HS4 HM4 HB4; clear hw hm0 hf0 HS3 HM HB3))
      go_loopg [10] k (fun kq v10 wr => ∃ (gm : Nat) (m : Bool) (s : List Bool), v10 = .pointer (some ⟨gm, 0, none⟩) ∧ Aside0 ((if m = true then fromR l0_0 l2 kq s else some s) = some r) ∧ Aside0 (kq ≤ k) ∧ Aside0 (SeIs wr wb.heap.size g gv l0_0.length s) ∧ Aside0 (MoIs wr wb.heap.size gm m) ∧ Aside0 (gm ≠ g) ∧ Aside0 (Below wb.heap.size wb wr))
      case atStart => exact ⟨gm, true, s, rfl, ⟨by rw [if_pos rfl]; exact HFR.out⟩, ⟨Nat.le_refl _⟩, HS4, HM4, GNE, HB4⟩
      case round =>
        clear HS4 HM4 GNE HB4 HS HB HFR GM
        obtain ⟨gm, m, s, rfl, HX, HKQ, HS, HM, GNE, HB⟩ := hrel
        have hm0 : wr.cell? ⟨gm, 0, none⟩ = some (.bool m) := (blk_cell HM.out.hm 0).trans rfl
        have hf0 := blk_frozen HM.out.hm 0
        have hv0 : wr.cell? ⟨gv, 0, none⟩ = some (.slice (some ⟨g, 0, none⟩) l0_0.length l0_0.length) := (blk_cell HS.out.hv 0).trans rfl
        rcases m with _ | _
        · have hx := HX.out
          rw [if_neg (by decide)] at hx
          obtain rfl := Option.some.inj hx
          clear hx HX
          go_wp2
          go_ret
          exact ⟨_, rfl, Kd.R_lower HS.out.seen HBw.out.size, HBw.out.trans (HB.out.mono HBw.out.size)⟩
        · have hx := HX.out
          rw [if_pos rfl] at hx
          cases gk with
          | zero => cases hx
          | succ k1 =>
            rw [fromR] at hx
            obtain ⟨q, hh, hx⟩ := Option.bind_eq_some_iff.1 hx
            obtain ⟨z, hp, hx⟩ := Option.bind_eq_some_iff.1 hx
            have HH := Aside0.mk hh
            have HP := Aside0.mk hp
            have HZ := Aside0.mk hx
            clear hh hp hx HX hv0
            have hqg : (wr.setCell ⟨gm, 0, none⟩ (.bool false)).cell? ⟨gb, 0, none⟩ = some (.slice A0_0 l0_0.length c0_0) := ((below_set HB.out HM.out.hb (g := gm) (j := 0) (v := .bool false)).cell (blk_lt BK.out)).trans ((blk_cell BK.out 0).trans rfl)
            go_wp2_with (((with_reducible refine gate_store (t := 4) (p := 10) rfl ?_); refine store_event (t := 4) (p := 10) (v := .const (.bool false)) (w1 := wr.setCell ⟨gm, 0, none⟩ (.bool false)) ?hg ?ho ?hn ?hr ?_; (case ho => rfl); (case hg => rfl); (case hn => rfl); (case hr => first | (go_simp; done) | (go_simp; rfl)); intro w9 hw; have HS5 := Aside0.mk (HS.out.put GNE.out (HS.out.ne_m HM.out) (.bool false)); have HM5 := Aside0.mk (HM.out.put false); have HB5 := Aside0.mk (below_set HB.out HM.out.hb (g := gm) (j := 0) (v := .bool false)); rw [← hw] at HS5 HM5 HB5 hqg; clear hw hm0 hf0 HS HM HB))
            go_loopw [37] (fun v37 wr => ∃ (i : Int) (s : List Bool) (m : Bool), v37 = .int .i64 i ∧ Aside0 (0 ≤ i ∧ i ≤ l0_0.length) ∧ Aside0 (hasS (l0_0.drop i.toNat) i s m = some q) ∧ Aside0 (SeIs wr wb.heap.size g gv l0_0.length s) ∧ Aside0 (MoIs wr wb.heap.size gm m) ∧ Aside0 (Below wb.heap.size wb wr)) (fun v37 _ => l0_0.length - (intOf v37).toNat)
            case atStart => exact ⟨0, s, false, rfl, ⟨by omega⟩, ⟨by simpa using HH.out⟩, HS5, HM5, HB5⟩
            case round =>
              clear HS5 HM5 HB5 HH hqg
              obtain ⟨i, s, m, rfl, Hi, HX, HS, HM, HB⟩ := hrel
              have hi0 : 0 ≤ i := Hi.out.1
              by_cases hlt : i < (l0_0.length : Int)
              · have ht : decide (i < (l0_0.length : Int)) = true := decide_eq_true hlt
                have HW := Aside0.mk (show wrap64 (i + 1) = i + 1 by have := HLEN.out; unfold wrap64; omega)
                have hd : l0_0.drop i.toNat = rd_L1 l0_0 i :: l0_0.drop (i + 1).toNat := by
                  rw [List.drop_eq_getElem_cons (by omega), show (i + 1).toNat = i.toNat + 1 by omega]
                  congr 1
                  rw [rd_L1, List.getD_eq_getElem?_getD, List.getElem?_eq_getElem (by omega), Option.getD_some]
                have hx := HX.out
                rw [hd, hasS] at hx
                clear hd
                obtain ⟨ad, Ao, co, e, h1, hlo, hro⟩ := at_L1 HRb0.out i hi0 hlt
                cases e
                replace h1 := (HB.out.cell (World.block_lt_of_cell? wb _ h1)).trans h1
                generalize rd_L1 l0_0 i = o at *
                obtain ⟨y, hy, hx⟩ := Option.bind_eq_some_iff.1 hx
                have HY := Aside0.mk hy
                have HX2 := Aside0.mk hx
                have HO := Aside0.mk hro
                have HNo := Aside0.mk (Kd.F_max (Kd.C_F (Kd.heap_int .i64) hro))
                have Hlt := Aside0.mk hlt
                clear hx hy hro HX hlo
                go_wp2
                go_loopw [44] (fun v44 wr => ∃ (j : Int) (s : List Bool) (m : Bool), v44 = .int .i64 j ∧ Aside0 (0 ≤ j ∧ j ≤ o.length) ∧ Aside0 (ownS (o.drop j.toNat) i s m = some y) ∧ Aside0 (SeIs wr wb.heap.size g gv l0_0.length s) ∧ Aside0 (MoIs wr wb.heap.size gm m) ∧ Aside0 (Below wb.heap.size wb wr)) (fun v44 _ => o.length - (intOf v44).toNat)
                case atStart => exact ⟨0, s, m, rfl, ⟨by omega⟩, ⟨by simpa using HY.out⟩, HS, HM, HB⟩
                case round =>
                  clear HS HM HB HY h1
                  obtain ⟨j, s, m, rfl, Hj, HX, HS, HM, HB⟩ := hrel
                  have hj0 : 0 ≤ j := Hj.out.1
                  by_cases hlj : j < (o.length : Int)
                  · have hj : decide (j < (o.length : Int)) = true := decide_eq_true hlj
                    have HWj := Aside0.mk (show wrap64 (j + 1) = j + 1 by have := HNo.out; unfold wrap64; omega)
                    have hd : o.drop j.toNat = rd o j :: o.drop (j + 1).toNat := by
                      rw [List.drop_eq_getElem_cons (by omega), show (j + 1).toNat = j.toNat + 1 by omega]
                      congr 1
                      rw [rd, List.getD_eq_getElem?_getD, List.getElem?_eq_getElem (by omega), Option.getD_some]
                    have hx := HX.out
                    rw [hd, ownS] at hx
                    clear hd
                    obtain ⟨ad2, e, h2⟩ := Kd.at_int HO.out j hj0 hlj
                    cases e
                    replace h2 := (HB.out.cell (World.block_lt_of_cell? wb _ h2)).trans h2
                    generalize rd o j = x at *
                    rw [if_pos (show i < (s.length : Int) by rw [HS.out.len]; exact Hlt.out)] at hx
                    obtain ⟨hs1, hs2⟩ := Kd.R_celln false HS.out.seen i hi0 Hlt.out
                    have hv0 : wr.cell? ⟨gv, 0, none⟩ = some (.slice (some ⟨g, 0, none⟩) l0_0.length l0_0.length) := (blk_cell HS.out.hv 0).trans rfl
                    have HX3 := Aside0.mk hx
                    clear hx HX hs2
                    rcases hb : rdOf false s i with _ | _
                    · rw [hb] at hs1
                      have hx := HX3.out
                      rw [hb, if_neg (by decide)] at hx
                      have HX4 := Aside0.mk hx
                      clear hx hb HX3
                      go_wp2
                      go_roundw
                      case rel => exact ⟨j + 1, s, m, by first | rw [HWj.out] | rfl, ⟨by omega⟩, HX4, HS, HM, HB⟩
                      case measure => simp only [intOf]; (try rw [HWj.out]); omega
                    · rw [hb] at hs1
                      have hx := HX3.out
                      rw [hb, if_pos rfl] at hx
                      obtain ⟨u, hu, hx⟩ := Option.bind_eq_some_iff.1 hx
                      have HU := Aside0.mk hu
                      have HX4 := Aside0.mk hx
                      clear hx hb HX3 hu
                      go_wp2_with (go_at_call 184; refine (see_walk wb x g gv gm l0_0.length s m u _ HS.out HM.out GNE.out HB.out HU.out).mono ?_; rintro e w7 ⟨rfl, hs7, hm7, hb7⟩; have HS7 := Aside0.mk hs7; have HM7 := Aside0.mk hm7; have HB7 := Aside0.mk hb7; clear hs7 hm7 hb7 HS HM HB hs1 hv0 h2)
                      go_roundw
                      case rel => exact ⟨j + 1, u.1, u.2, by first | rw [HWj.out] | rfl, ⟨by omega⟩, HX4, HS7, HM7, HB7⟩
                      case measure => simp only [intOf]; (try rw [HWj.out]); omega
                  · have hj : decide (j < (o.length : Int)) = false := decide_eq_false hlj
                    have hx := HX.out
                    rw [List.drop_eq_nil_of_le (by omega), ownS] at hx
                    obtain rfl := Option.some.inj hx
                    clear hx HX
                    go_wp2
                    go_roundw
                    case rel => exact ⟨i + 1, s, m, by first | rw [HW.out] | rfl, ⟨by omega⟩, HX2, HS, HM, HB⟩
                    case measure => simp only [intOf]; (try rw [HW.out]); omega
              · have ht : decide (i < (l0_0.length : Int)) = false := decide_eq_false hlt
                have hx := HX.out
                rw [List.drop_eq_nil_of_le (by omega), hasS] at hx
                obtain rfl := Option.some.inj hx
                clear hx HX
                go_wp2
                go_loopw [59] (fun v59 wr => ∃ (i : Int) (s : List Bool) (m : Bool), v59 = .int .i64 i ∧ Aside0 (0 ≤ i ∧ i ≤ l2.length) ∧ Aside0 (prS (l2.drop i.toNat) s m = some z) ∧ Aside0 (SeIs wr wb.heap.size g gv l0_0.length s) ∧ Aside0 (MoIs wr wb.heap.size gm m) ∧ Aside0 (Below wb.heap.size wb wr)) (fun v59 _ => l2.length - (intOf v59).toNat)
                case atStart => exact ⟨0, s, m, rfl, ⟨by omega⟩, ⟨by simpa using HP.out⟩, HS, HM, HB⟩
                case round =>
                  clear HS HM HB HP
                  obtain ⟨i, s, m, rfl, Hi, HX, HS, HM, HB⟩ := hrel
                  have hi0 : 0 ≤ i := Hi.out.1
                  by_cases hlt : i < (l2.length : Int)
                  · have ht : decide (i < (l2.length : Int)) = true := decide_eq_true hlt
                    have HW := Aside0.mk (show wrap64 (i + 1) = i + 1 by have := HN2.out; unfold wrap64; omega)
                    have hd : l2.drop i.toNat = rd_T236 l2 i :: l2.drop (i + 1).toNat := by
                      rw [List.drop_eq_getElem_cons (by omega), show (i + 1).toNat = i.toNat + 1 by omega]
                      congr 1
                      rw [rd_T236, List.getD_eq_getElem?_getD, List.getElem?_eq_getElem (by omega), Option.getD_some]
                    have hx := HX.out
                    rw [hd, prS] at hx
                    clear hd
                    obtain ⟨ad, e, h1, h2⟩ := at_T236 HRb2.out i hi0 hlt
                    cases e
                    replace h1 := (HB.out.cell (World.block_lt_of_cell? wb _ h1)).trans h1
                    replace h2 := (HB.out.cell (World.block_lt_of_cell? wb _ h2)).trans h2
                    generalize rd_T236 l2 i = p at *
                    split at hx
                    case isFalse => cases hx
                    rename_i hr
                    obtain ⟨hk0, hk1⟩ := hr
                    rw [HS.out.len] at hk1
                    have HX3 := Aside0.mk hx
                    clear hx HX
                    rcases hb : rdOf false s p.f0 with _ | _
                    · have HBB := Aside0.mk hb
                      have hx := HX3.out
                      rw [hb, if_neg (by decide)] at hx
                      have HX4 := Aside0.mk hx
                      clear hx hb HX3
                      go_wp2_with (first | ((with_reducible refine gate_dst (N := 17) rfl ?_); (try (refine gate_guard (by rfl) ?_; dsimp only)); refine box_event ?hg (N := 17) ?hd (cs := #[.int .i64 0, .int .i64 0]) (t := 236) ?hr ?_; (case hd => rfl); (case hg => rfl); (case hr => first | (go_simp; done) | (go_simp; rfl)); intro gp hgp wp hbox hb; have GP := Aside0.mk (show wb.heap.size ≤ gp by rw [hgp]; exact HB.out.size); have GP2 := Aside0.mk (Nat.le_of_eq hgp.symm); have HB2 := Aside0.mk (below_step HB.out hb); have HK2 := Aside0.mk (Kept.of_below hb (fun _ => False)); have BP := Aside0.mk hbox; have hp0 : wp.cell? ⟨gp, 0, none⟩ = some (.int .i64 0) := (blk_cell BP.out 0).trans rfl; have hp1 : wp.cell? ⟨gp, 1, none⟩ = some (.int .i64 0) := (blk_cell BP.out 1).trans rfl; have hf0 := blk_frozen BP.out 0; have hf1 := blk_frozen BP.out 1; clear hgp hbox hb) | ((with_reducible refine gate_store (t := 236) (p := 17) rfl ?_); refine store_event (t := 236) (p := 17) (v := .tmp 62) (w1 := (wp.setCell ⟨gp, 0, none⟩ (.int .i64 p.f0)).setCell ⟨gp, 1, none⟩ (.int .i64 p.f1)) ?hg ?ho ?hn ?hr ?_; (case ho => rfl); (case hg => rfl); (case hn => rfl); (case hr => first | (go_simp; done) | (go_simp; rfl)); intro w3 hw; have HB3 := Aside0.mk (below_set (below_set HB2.out GP.out (g := gp) (j := 0) (v := .int .i64 p.f0)) GP.out (g := gp) (j := 1) (v := .int .i64 p.f1)); have BP3 := Aside0.mk (blk_put (blk_put BP.out 0 (.int .i64 p.f0) rfl) 1 (.int .i64 p.f1) rfl); have HK3 := Aside0.mk (Kept.setCell (Kept.setCell HK2.out (p := ⟨gp, 0, none⟩) (.inr GP2.out) (.int .i64 p.f0)) (p := ⟨gp, 1, none⟩) (.inr GP2.out) (.int .i64 p.f1)); rw [← hw] at HB3 BP3 HK3; have HS3 := Aside0.mk (HS.out.kept HK3.out); have HM3 := Aside0.mk (HM.out.kept HK3.out); have hq0 : w3.cell? ⟨gp, 0, none⟩ = some (.int .i64 p.f0) := (blk_cell BP3.out 0).trans rfl; have hq1 : w3.cell? ⟨gp, 1, none⟩ = some (.int .i64 p.f1) := (blk_cell BP3.out 1).trans rfl; have hv0 : w3.cell? ⟨gv, 0, none⟩ = some (.slice (some ⟨g, 0, none⟩) l0_0.length l0_0.length) := (blk_cell HS3.out.hv 0).trans rfl; have hs1 := (Kd.R_celln false HS3.out.seen p.f0 hk0 hk1).1; rw [HBB.out] at hs1; clear hw hp0 hp1 hf0 hf1 HB2 HK2 BP h1 h2))
                      go_roundw
                      case rel => exact ⟨i + 1, s, m, by first | rw [HW.out] | rfl, ⟨by omega⟩, HX4, HS3, HM3, HB3⟩
                      case measure => simp only [intOf]; (try rw [HW.out]); omega
                    · have HBB := Aside0.mk hb
                      have hx := HX3.out
                      rw [hb, if_pos rfl] at hx
                      obtain ⟨u, hu, hx⟩ := Option.bind_eq_some_iff.1 hx
                      have HU := Aside0.mk hu
                      have HX4 := Aside0.mk hx
                      clear hx hb HX3 hu
                      go_wp2_with (first | ((with_reducible refine gate_dst (N := 17) rfl ?_); (try (refine gate_guard (by rfl) ?_; dsimp only)); refine box_event ?hg (N := 17) ?hd (cs := #[.int .i64 0, .int .i64 0]) (t := 236) ?hr ?_; (case hd => rfl); (case hg => rfl); (case hr => first | (go_simp; done) | (go_simp; rfl)); intro gp hgp wp hbox hb; have GP := Aside0.mk (show wb.heap.size ≤ gp by rw [hgp]; exact HB.out.size); have GP2 := Aside0.mk (Nat.le_of_eq hgp.symm); have HB2 := Aside0.mk (below_step HB.out hb); have HK2 := Aside0.mk (Kept.of_below hb (fun _ => False)); have BP := Aside0.mk hbox; have hp0 : wp.cell? ⟨gp, 0, none⟩ = some (.int .i64 0) := (blk_cell BP.out 0).trans rfl; have hp1 : wp.cell? ⟨gp, 1, none⟩ = some (.int .i64 0) := (blk_cell BP.out 1).trans rfl; have hf0 := blk_frozen BP.out 0; have hf1 := blk_frozen BP.out 1; clear hgp hbox hb) | ((with_reducible refine gate_store (t := 236) (p := 17) rfl ?_); refine store_event (t := 236) (p := 17) (v := .tmp 62) (w1 := (wp.setCell ⟨gp, 0, none⟩ (.int .i64 p.f0)).setCell ⟨gp, 1, none⟩ (.int .i64 p.f1)) ?hg ?ho ?hn ?hr ?_; (case ho => rfl); (case hg => rfl); (case hn => rfl); (case hr => first | (go_simp; done) | (go_simp; rfl)); intro w3 hw; have HB3 := Aside0.mk (below_set (below_set HB2.out GP.out (g := gp) (j := 0) (v := .int .i64 p.f0)) GP.out (g := gp) (j := 1) (v := .int .i64 p.f1)); have BP3 := Aside0.mk (blk_put (blk_put BP.out 0 (.int .i64 p.f0) rfl) 1 (.int .i64 p.f1) rfl); have HK3 := Aside0.mk (Kept.setCell (Kept.setCell HK2.out (p := ⟨gp, 0, none⟩) (.inr GP2.out) (.int .i64 p.f0)) (p := ⟨gp, 1, none⟩) (.inr GP2.out) (.int .i64 p.f1)); rw [← hw] at HB3 BP3 HK3; have HS3 := Aside0.mk (HS.out.kept HK3.out); have HM3 := Aside0.mk (HM.out.kept HK3.out); have hq0 : w3.cell? ⟨gp, 0, none⟩ = some (.int .i64 p.f0) := (blk_cell BP3.out 0).trans rfl; have hq1 : w3.cell? ⟨gp, 1, none⟩ = some (.int .i64 p.f1) := (blk_cell BP3.out 1).trans rfl; have hv0 : w3.cell? ⟨gv, 0, none⟩ = some (.slice (some ⟨g, 0, none⟩) l0_0.length l0_0.length) := (blk_cell HS3.out.hv 0).trans rfl; have hs1 := (Kd.R_celln false HS3.out.seen p.f0 hk0 hk1).1; rw [HBB.out] at hs1; clear hw hp0 hp1 hf0 hf1 HB2 HK2 BP h1 h2) | (go_at_call 184; refine (see_walk wb p.f1 g gv gm l0_0.length s m u _ HS3.out HM3.out GNE.out HB3.out HU.out).mono ?_; rintro e w7 ⟨rfl, hs7, hm7, hb7⟩; have HS7 := Aside0.mk hs7; have HM7 := Aside0.mk hm7; have HB7 := Aside0.mk hb7; clear hs7 hm7 hb7 HS3 HM3 HB3 hs1 hv0 hq0 hq1 BP3 HK3))
                      go_roundw
                      case rel => exact ⟨i + 1, u.1, u.2, by first | rw [HW.out] | rfl, ⟨by omega⟩, HX4, HS7, HM7, HB7⟩
                      case measure => simp only [intOf]; (try rw [HW.out]); omega
                  · have ht : decide (i < (l2.length : Int)) = false := decide_eq_false hlt
                    have hx := HX.out
                    rw [List.drop_eq_nil_of_le (by omega), prS] at hx
                    obtain rfl := Option.some.inj hx
                    have hm0 : wr.cell? ⟨gm, 0, none⟩ = some (.bool m) := (blk_cell HM.out.hm 0).trans rfl
                    clear hx HX
                    go_wp2_with (first | ((with_reducible refine gate_dst (N := 10) rfl ?_); (try (refine gate_guard (by rfl) ?_; dsimp only)); refine box_event ?hg (N := 10) ?hd (cs := #[.bool false]) (t := 4) ?hr ?_; (case hd => rfl); (case hg => rfl); (case hr => first | (go_simp; done) | (go_simp; rfl)); intro gn hgn wm hbox hb; have GN := Aside0.mk (show wb.heap.size ≤ gn by rw [hgn]; exact HB.out.size); have GNE2 := Aside0.mk (show gn ≠ g by obtain ⟨c9, e9⟩ := Kd.R_typed HS.out.seen g rfl; have := blk_lt e9; omega); have HM5 := Aside0.mk (show MoIs wm wb.heap.size gn false from ⟨hbox, GN.out⟩); have HS5 := Aside0.mk (HS.out.below hb); have HB5 := Aside0.mk (below_step HB.out hb); have hn0 : wm.cell? ⟨gn, 0, none⟩ = some (.bool false) := (blk_cell hbox 0).trans rfl; have hf0 := blk_frozen hbox 0; clear hgn hbox hb hm0) | ((with_reducible refine gate_store (t := 4) (p := 10) rfl ?_); refine store_event (t := 4) (p := 10) (v := .tmp 73) (w1 := wm.setCell ⟨gn, 0, none⟩ (.bool m)) ?hg ?ho ?hn ?hr ?_; (case ho => rfl); (case hg => rfl); (case hn => rfl); (case hr => first | (go_simp; done) | (go_simp; rfl)); intro w9 hw; have HS6 := Aside0.mk (HS5.out.put GNE2.out (HS5.out.ne_m HM5.out) (.bool m)); have HM6 := Aside0.mk (HM5.out.put m); have HB6 := Aside0.mk (below_set HB5.out GN.out (g := gn) (j := 0) (v := .bool m)); rw [← hw] at HS6 HM6 HB6; clear hw hn0 hf0 HS5 HM5 HB5))
                    go_roundg k1
                    case measure => omega
                    case rel => exact ⟨gn, m, s, rfl, HZ, ⟨by have := HKQ.out; omega⟩, HS6, HM6, GNE2, HB6⟩

/-! ### backstitchref3_Rising: function 130 -/
def backstitchref3_Rising.l0 : Nat → List Int → List Bool → Int → Int → Option (List Int)
  | 0, _, _, _, _ => none
  | k + 1, x3, x6, x7, x8 => if x8 < x7 then (if 0 ≤ x8 then (if x8 < (x6.length : Int) then (if rdOf false x6 x8 = true then (if x3.length < 17592186044416 then (backstitchref3_Rising.l0 k (x3 ++ [x8]) x6 x7 (wrap64 (x8 + 1))) else (none)) else (backstitchref3_Rising.l0 k x3 x6 x7 (wrap64 (x8 + 1)))) else (none)) else (none)) else (some x3)
def backstitchref3_Rising.f (k : Nat) (l0 : List Bool) : Option (List Int) := backstitchref3_Rising.l0 k ([] : List Int) l0 (l0.length : Int) 0
set_option maxHeartbeats 8000000 in
set_option maxRecDepth 100000 in
theorem backstitchref3_Rising.calls (k : Nat) (A0 : Option Addr) (c0 : Nat) (l0 : List Bool) (r : List Int) (w : World) (hr0 : Kd.C Kd.bool w A0 l0.length l0) (hc0 : l0.length ≤ c0) (h : backstitchref3_Rising.f k l0 = some r) :
    Calls Try.prog 130 #[.slice A0 l0.length c0] w fun e w' => ∃ v0_ : Value, e = .returned (v0_) ∧ Kd.R (Kd.int .i64) 3 w' w.heap.size (fun _ => True) v0_ r ∧ Below w.heap.size w w' := by
  have HR0 := Aside0.mk hr0
  have HC0 := Aside0.mk hc0
  clear hr0 hc0
  have HB := Aside0.mk (Below.refl w.heap.size w)
  have H : (backstitchref3_Rising.l0 k ([] : List Int) l0 (l0.length : Int) 0) = some r := h
  clear h
  have H' := Aside0.mk H
  clear H
  go_enter Try.func130, Try.ntmps130
  go_wp2
  go_loopg [3, 8] k (fun kq v3 v8 w' => ∃ (x3_1 : List Int) (x8_1 : Int), v8 = .int .i64 x8_1 ∧ Aside0 (backstitchref3_Rising.l0 kq x3_1 l0 (l0.length : Int) x8_1 = some r) ∧ Aside0 (kq ≤ k) ∧ Aside0 (Kd.R (Kd.int .i64) 3 w' w.heap.size (fun _ => True) v3 x3_1) ∧ Aside0 (Below w.heap.size w w'))
  case atStart => exact ⟨(([] : List Int)), (0), (by first | rfl | (simp; done) | (simp [*]; done)), H', ⟨Nat.le_refl _⟩, ⟨by first | exact Kd.R_nil _ _ _ _ _ | exact Kd.N_nil _ _ _ _ _ | exact Kd.V_nil _ _ _ _ _ | exact Kd.Q_nil _ _ _ _ _ | exact Kd.S_nil _ _ _ _ _⟩, ⟨by repeat (first | (with_reducible first | exact HB.out | apply below_alloc | apply pw_below_drewN | apply below_drew1) | exact HB.out)⟩⟩
  case round =>
    clear H'
    try clear c1
    obtain ⟨x3_1, x8_1, rfl, HA, HK1, HO_3, HB⟩ := hrel
    cases gk with
    | zero => exact absurd HA.out (by simp [backstitchref3_Rising.l0])
    | succ k1 =>
      have H := HA.out
      clear HA
      simp only [backstitchref3_Rising.l0] at H
      by_cases c2 : x8_1 < (l0.length : Int)
      · rw [if_pos c2] at H
        have c2b0 : decide (x8_1 < (l0.length : Int)) = true := decide_eq_true c2
        clear c2
        by_cases c3 : 0 ≤ x8_1
        · rw [if_pos c3] at H
          have c3b0 : decide (0 ≤ x8_1) = true := decide_eq_true c3
          clear c3
          by_cases c4 : x8_1 < (l0.length : Int)
          · rw [if_pos c4] at H
            have c4b0 : decide (x8_1 < (l0.length : Int)) = true := decide_eq_true c4
            clear c4
            obtain ⟨bq5, hbq5⟩ : ∃ b_ : Bool, b_ = (rdOf false l0 x8_1) := ⟨_, rfl⟩
            replace H : (if bq5 = true then (if x3_1.length < 17592186044416 then (backstitchref3_Rising.l0 k1 (x3_1 ++ [x8_1]) l0 (l0.length : Int) (wrap64 (x8_1 + 1))) else (none)) else (backstitchref3_Rising.l0 k1 x3_1 l0 (l0.length : Int) (wrap64 (x8_1 + 1)))) = some r := by rw [← hbq5] at H; exact H
            have Nbq5 := Aside0.mk hbq5
            clear hbq5
            by_cases c6 : bq5 = true
            · subst c6
              have H1 : (if x3_1.length < 17592186044416 then (backstitchref3_Rising.l0 k1 (x3_1 ++ [x8_1]) l0 (l0.length : Int) (wrap64 (x8_1 + 1))) else (none)) = some r := by rw [if_pos rfl] at H; exact H
              clear H
              have H := H1
              clear H1
              by_cases c7 : x3_1.length < 17592186044416
              · rw [if_pos c7] at H
                have LMc7 := Aside0.mk c7
                clear c7
                obtain ⟨y180, hy180⟩ : ∃ y_ : List Int, y_ = (x3_1 ++ [x8_1]) := ⟨_, rfl⟩
                replace H : (backstitchref3_Rising.l0 k1 y180 l0 (l0.length : Int) (wrap64 (x8_1 + 1))) = some r := by first | (rw [hy180]; with_reducible exact H) | (have H2_ := (Option.bind_some _ _).symm.trans H; rw [hy180]; with_reducible exact H2_) | (have H2_ := (Option.bind_some _ _).symm.trans H; with_reducible exact H2_) | with_reducible exact H | (rw [hy180]; exact H) | exact H
                have Ny180 := Aside0.mk hy180
                clear hy180
                have H' := Aside0.mk H
                clear H
                have p179 : 0 ≤ (x8_1 : Int) := of_decide_eq_true (by first | (with_reducible assumption) | assumption)
                have q179 : x8_1 < (l0.length : Int) := of_decide_eq_true (by first | (with_reducible assumption) | assumption)
                obtain ⟨ad179, e179, hx179_0⟩ := Kd.at_bool HR0.out x8_1 p179 q179
                (try rw [← Nbq5.out] at hx179_0)
                cases e179
                try replace hx179_0 := (HB.out.cell (World.block_lt_of_cell? w _ hx179_0)).trans hx179_0
                replace p179 := eq_true p179
                replace q179 := eq_true q179
                go_wp2_with (first | ((with_reducible refine gate_builtin (b := .append) (xs := #[.tmp 14, .tmp 16]) rfl ?_); at_builtin; refine Kd.R_append (Kd.int .i64) (w0 := w) w.heap.size rfl (.tmp 14) (.tmp 16) 36 3 (.int .i64 0) 8 rfl Try.underlying36 info3 rfl (by decide) (by omega) u3 x3_1 x8_1 [.int .i64 x8_1] (fun _ => True) (fun _ => False) rfl rfl ?aP (fun _ hk => hk.elim) ?aF ?aO ?aB ?aS ?aL ?_; (case aP => exact rfl); (case aB => exact (by repeat (first | (with_reducible first | exact HB.out | apply below_alloc | apply pw_below_drewN | apply below_drew1) | exact HB.out))); (case aF => exact (fun _ _ => trivial)); (case aO => exact (by (with_reducible repeat (first | apply Kd.R_alloc | apply Kd.R_drewN | apply Kd.R_drew)); exact HO_3.out)); (case aS => exact (below_size (by repeat (first | (with_reducible first | exact HB.out | apply below_alloc | apply pw_below_drewN | apply below_drew1) | exact HB.out)))); (case aL => have := LMc7.out; omega); intro v181 w8 ho hb hg hat; rw [← Ny180.out] at ho; have n0_ := Aside0.mk (hb); have n1_ := Aside0.mk (ho); clear HB; clear HO_3; have HB := n0_; have HO182 := n1_; clear n0_ n1_; clear ho hb hg hat))
                go_roundg k1
                case measure => have := HK1.out; omega
                case rel => exact ⟨(y180), (wrap64 (x8_1 + 1)), (by first | rfl | (simp; done) | (simp [*]; done)), H', ⟨by have := HK1.out; omega⟩, ⟨by (with_reducible repeat (first | apply Kd.R_alloc | apply Kd.R_drewN | apply Kd.R_drew)); exact HO182.out⟩, ⟨by repeat (first | (with_reducible first | exact HB.out | apply below_alloc | apply pw_below_drewN | apply below_drew1) | exact HB.out)⟩⟩
              · rw [if_neg c7] at H
                exact absurd H (by simp)
            · replace c6 := Bool.eq_false_iff.mpr c6
              subst c6
              have H1 : (backstitchref3_Rising.l0 k1 x3_1 l0 (l0.length : Int) (wrap64 (x8_1 + 1))) = some r := by rw [if_neg (show ¬ (false = true) by decide)] at H; exact H
              clear H
              have H := H1
              clear H1
              have H' := Aside0.mk H
              clear H
              have p179 : 0 ≤ (x8_1 : Int) := of_decide_eq_true (by first | (with_reducible assumption) | assumption)
              have q179 : x8_1 < (l0.length : Int) := of_decide_eq_true (by first | (with_reducible assumption) | assumption)
              obtain ⟨ad179, e179, hx179_0⟩ := Kd.at_bool HR0.out x8_1 p179 q179
              (try rw [← Nbq5.out] at hx179_0)
              cases e179
              try replace hx179_0 := (HB.out.cell (World.block_lt_of_cell? w _ hx179_0)).trans hx179_0
              replace p179 := eq_true p179
              replace q179 := eq_true q179
              go_wp2
              go_roundg k1
              case measure => have := HK1.out; omega
              case rel => exact ⟨(x3_1), (wrap64 (x8_1 + 1)), (by first | rfl | (simp; done) | (simp [*]; done)), H', ⟨by have := HK1.out; omega⟩, ⟨by (with_reducible repeat (first | apply Kd.R_alloc | apply Kd.R_drewN | apply Kd.R_drew)); exact HO_3.out⟩, ⟨by repeat (first | (with_reducible first | exact HB.out | apply below_alloc | apply pw_below_drewN | apply below_drew1) | exact HB.out)⟩⟩
          · rw [if_neg c4] at H
            exact absurd H (by simp)
        · rw [if_neg c3] at H
          exact absurd H (by simp)
      · rw [if_neg c2] at H
        have c2b0 : decide (x8_1 < (l0.length : Int)) = false := decide_eq_false c2
        clear c2
        obtain rfl := Option.some.inj H
        go_wp2
        go_ret
        exact ⟨_, by first | rfl | (simp [errW_none, errW_some] <;> rfl) | (simp [*, errW_none, errW_some] <;> rfl), by (with_reducible repeat (first | apply Kd.R_alloc | apply Kd.R_drewN | apply Kd.R_drew)); exact HO_3.out, by repeat (first | (with_reducible first | exact HB.out | apply below_alloc | apply pw_below_drewN | apply below_drew1) | exact HB.out)⟩

end Go.Proofs.Ytlojkphocbbjdab.PEndsTell
