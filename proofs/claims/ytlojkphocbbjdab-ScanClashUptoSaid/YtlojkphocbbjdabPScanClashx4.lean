-- Printed for this claim by a program of this session (inj.py), beside the kit's print. Not trusted: Lean checks it.
import Derived.Test.YtlojkphocbbjdabPScanClashx0
import Derived.Test.YtlojkphocbbjdabPScanClashx1
import Derived.Test.YtlojkphocbbjdabPScanClashx2
import Derived.Test.YtlojkphocbbjdabPScanClashx3
namespace Go.Proofs.Ytlojkphocbbjdab.PScanClash
open Go.RowKit Go.Proofs.YtlojkphocbbjdabW.PrintWords Go.Proofs.YtlojkphocbbjdabW.PrintLast Go.Proofs.YtlojkphocbbjdabW.PrintMore
attribute [local go_sem] max2_int min2_int max_two min_two max_three min_three max_four min_four   -- for this text's walks alone
set_option linter.unusedVariables false
set_option linter.unusedSimpArgs false

attribute [local go_sem high] eqA54
/-! ### scan_Assign: function 20 -/
section
open Go.Maps Go.Proofs.YtlojkphocbbjdabW.Sep Go.Proofs.YtlojkphocbbjdabW.Mapw Go.Proofs.YtlojkphocbbjdabW.Reg
theorem C_blk1 {α : Type} {d : Kd α} {W : World} {g : Nat} {t : TypeId} {x : α} {cs : List Value} (hb : W.heap[g]? = some (.cells cs.toArray t (0, 0))) (hK : d.K W x cs) : d.C W (some ⟨g, 0, none⟩) [x].length [x] := by
  refine ⟨rfl, by simp, fun _ => ⟨⟨g, 0, none⟩, rfl, fun j p hj => ?_⟩⟩
  have h2 := (List.getElem?_eq_some_iff.1 hj).1
  have h0 : j = 0 := by simp at h2; exact h2
  subst h0
  obtain rfl : x = p := by simpa using hj
  refine ⟨cs, d.K_len hK, hK, fun q u hq => ?_⟩
  rw [Nat.zero_mul, Nat.zero_add]
  have e : (⟨g, 0, none⟩ : Addr).add q = ⟨g, q, none⟩ := by
    unfold Addr.add
    split <;> simp_all
  rw [e, blk_cell hb q]
  simpa using hq
def scan_Assign.T5 : Bool × List (List Nat × List Nat) := (true, [([], []), ([], []), ([1], [1]), ([], []), ([3], [3]), ([2, 4], [2, 4]), ([0, 5], [0, 5]), ([6], [6]), ([7, 5, 0, 1, 2, 3, 4, 5, 6, 7], [7])])
def scan_Assign.B5 : List Nat := [0, 0, 2, 0, 8, 30, 63, 127, 255]
theorem scan_Assign.tab5 : rtab .any (opsOf Try.f20 5) = scan_Assign.T5 := by kernel_rfl
theorem scan_Assign.bits5 : waitsOk scan_Assign.T5.2 scan_Assign.B5 = true := by kernel_rfl
def scan_Assign.T23 : Bool × List (List Nat × List Nat) := (true, [([], []), ([0], [0]), ([1], [1]), ([2], [2]), ([], []), ([], []), ([], []), ([5, 6], [5, 6]), ([7, 7], [7]), ([3, 4, 0, 1, 2, 3, 4, 5, 6, 7, 8], [3, 4]), ([9, 0, 1, 2, 3, 4, 5, 6, 7, 8], [9]), ([10, 8, 8, 0, 1, 2, 3, 4, 5, 6, 7, 8], [8, 10])])
def scan_Assign.B23 : List Nat := [0, 1, 3, 7, 0, 0, 0, 96, 224, 511, 1023, 2047]
theorem scan_Assign.tab23 : rtab .any (opsOf Try.f20 23) = scan_Assign.T23 := by kernel_rfl
theorem scan_Assign.bits23 : waitsOk scan_Assign.T23.2 scan_Assign.B23 = true := by kernel_rfl
def ordF : List S60 → Int → List Int → Option (List Int)
  | [], _, o => some o
  | x :: l, i, o => (scan_counts.f x.f0 x.f1).bind fun b => if b = true then (if o.length < 1000 then ordF l (i + 1) (o ++ [i]) else none) else ordF l (i + 1) o
def takesF (l : List S60) (o : List Int) (regs : Int) : List Int → List S54 → Option (List S54)
  | [], at_ => some at_
  | n :: ns, at_ => (takeS l at_ o n regs).bind (takesF l o regs ns)
def slotsF (l : List S60) (o : List Int) : List Int → List S54 → Int → Option (List S54 × Int)
  | [], at_, m => some (at_, m)
  | n :: ns, at_, m => if 0 ≤ n ∧ n < (at_.length : Int) then (if (rd_T54 at_ n).f0 < 0 then (busyS l at_ n (fun x => x.f1) o).bind fun s => (leastF s 1000 0).bind fun r => slotsF l o ns (setSlot at_ n r) (mx m (wrap64 ((rd_T54 (setSlot at_ n r) n).f1 + 1))) else slotsF l o ns at_ m) else none
def scan_Assign.f (l0 : List S60) (a1 : Int) : Option (List S54 × Int × Int) := if l0.length < 20 ∧ 0 ≤ a1 ∧ a1 ≤ 60 then (ordF l0 0 []).bind fun o => if srtB l0 o = true ∧ o.length < 20 then (takesF l0 o a1 o (List.replicate l0.length ⟨-1, -1⟩)).bind fun at_ => (slotsF l0 o o at_ 0).bind fun z => some (z.1, z.2, 0) else none else none
set_option maxHeartbeats 8000000 in
set_option maxRecDepth 100000 in
theorem scan_Assign.calls (A0 : Option Addr) (c0 : Nat) (l0 : List (S60)) (a1 : Int) (r1 : List S54) (r2 r3 : Int) (w : World) (hr0 : Kd.C k60 w A0 l0.length l0) (hc0 : l0.length ≤ c0) (h : scan_Assign.f l0 a1 = some (r1, r2, r3)) :
    Calls Try.prog 20 #[.slice A0 l0.length c0, .int .i64 a1] w fun e w' => ∃ v0_ : Value, e = .returned (.tuple #[v0_, .int .i64 r2, .int .i64 r3]) ∧ Kd.R k54 54 w' w.heap.size (fun _ => True) v0_ r1 ∧ Below w.heap.size w w' := by
  unfold scan_Assign.f at h
  split at h
  case isFalse => cases h
  rename_i hcs
  obtain ⟨hl20, ha0, ha1⟩ := hcs
  have HR0 := Aside0.mk hr0
  have HL20 := Aside0.mk hl20
  have HS0 := Aside0.mk (St.nil (Below.refl w.heap.size w))
  have hb1 : decide ((300 : Int) < (l0.length : Int)) = false := decide_eq_false (by omega)
  have hb2 : decide (a1 < 0) = false := decide_eq_false (by omega)
  have hb3 : decide (60 < a1) = false := decide_eq_false (by omega)
  have hb4 : decide (a1 > 60) = false := decide_eq_false (by omega)
  obtain ⟨oz, hq1, h⟩ := Option.bind_eq_some_iff.1 h
  have HX0 := Aside0.mk (show ordF (l0.drop (0 : Int).toNat) 0 [] = some oz from hq1)
  split at h
  case isFalse => cases h
  rename_i hsr
  have HSRT := Aside0.mk hsr.1
  have HON := Aside0.mk hsr.2
  obtain ⟨az, hq2, h⟩ := Option.bind_eq_some_iff.1 h
  have HX1 := Aside0.mk (show takesF l0 oz a1 (oz.drop (0 : Int).toNat) (List.replicate l0.length ⟨-1, -1⟩) = some az from hq2)
  obtain ⟨⟨z1, z2⟩, hq3, h⟩ := Option.bind_eq_some_iff.1 h
  have HX2 := Aside0.mk (show slotsF l0 oz (oz.drop (0 : Int).toNat) az 0 = some (z1, z2) from hq3)
  simp only [Option.some.injEq, Prod.mk.injEq] at h
  obtain ⟨rfl, rfl, rfl⟩ := h
  have HREP := Aside0.mk (show api_RPlace_83.f [(⟨-1, -1⟩ : S54)] (l0.length : Int) = some (List.replicate l0.length (⟨-1, -1⟩ : S54)) by
    unfold api_RPlace_83.f
    rw [if_pos ⟨rfl, by omega, by omega⟩, Int.toNat_natCast]
    rfl)
  clear hr0 hc0 hl20 ha0 ha1 hq1 hsr hq2 hq3
  go_enter Try.func20, Try.ntmps20
  go_wp2_with (first | ((with_reducible refine gate_dst (N := 2) rfl ?_); (try (refine gate_guard (by rfl) ?_; dsimp only)); refine box_event ?hg (N := 2) ?hd (cs := #[.slice A0 l0.length c0]) (t := 46) ?hr ?_; (case hd => rfl); (case hg => rfl); (case hr => first | (go_simp; done) | (go_simp; rfl)); intro gl hg_ w81_ hx_ hb_; have HS82_ := Aside0.mk (HS0.out.box hg_ hx_ hb_); have c83_ : w81_.cell? ⟨gl, 0, none⟩ = some (.slice A0 l0.length c0) := (HS82_.out.cell 0 rfl 0).trans rfl; clear hg_ hx_ hb_  HS0))
  clear c83_
  refine std_ [7] (fun w' => St w w' ((blkA gl #[.slice A0 l0.length c0] 46) :: [])) scan_Assign.tab5 scan_Assign.bits5 HS82_.out.drew (fun HT_ HW_ hHeld => ?_)
  clear HS82_
  generalize w81_.drew = w84_ at hHeld ⊢
  have HS85_ := Aside0.mk (show St w w84_ ((blkA gl #[.slice A0 l0.length c0] 46) :: []) from hHeld)
  refine pu_ (v := ?_) (a' := ?_) HT_.out 1 (some 27) ?_ ?_ ?_; rotate_left 2; (intro w'; go_simp; with_reducible rfl); (simp only [Act.put, List.setIfInBounds_toArray, List.set_cons_zero, List.set_cons_succ, i64_w, i32_w]; rfl)
  refine tk_ (v := ?_) (a' := ?_) HT_.out HW_.out hHeld 0 (some 26) ?_ ?_ ?_; rotate_left 2; (intro w' hS; have s0 : w'.cell? ⟨gl, 0, none⟩ = some _ := hS.cell 0 rfl 0; go_simp; with_reducible rfl); (simp only [Act.put, List.setIfInBounds_toArray, List.set_cons_zero, List.set_cons_succ, i64_w, i32_w]; rfl)
  refine tk_ (v := ?_) (a' := ?_) HT_.out HW_.out hHeld 3 (some 29) ?_ ?_ ?_; rotate_left 2; (intro w' hS; have s0 : w'.cell? ⟨gl, 0, none⟩ = some _ := hS.cell 0 rfl 0; go_simp; with_reducible rfl); (simp only [Act.put, List.setIfInBounds_toArray, List.set_cons_zero, List.set_cons_succ, i64_w, i32_w]; rfl)
  refine pu_ (v := ?_) (a' := ?_) HT_.out 4 (some 30) ?_ ?_ ?_; rotate_left 2; (intro w'; go_simp; with_reducible rfl); (simp only [Act.put, List.setIfInBounds_toArray, List.set_cons_zero, List.set_cons_succ, i64_w, i32_w]; rfl)
  refine on_ HT_.out 2 (some 28) (fun K hK => ?_)
  refine value_ (w1 := ?_) (v := ?_) (by rfl) rfl ?_ ?_; rotate_left 2; (go_simp; constructor; rfl; rfl)
  have HS88_ := Aside0.mk (HS85_.out.alloc (.cells #[.int .i64 (-1), .int .i64 (-1)] 54))
  clear HS85_
  try clear hHeld
  refine hK.out _ _ (HS88_.out) (fun hHeld => ?_)
  clear hK K
  refine norm_ (a' := ?_) ?_ ?_; rotate_left; (show Act.put _ (some 28) _ = _; simp only [Act.put, List.setIfInBounds_toArray, List.set_cons_zero, List.set_cons_succ, i64_w, i32_w]; rfl)
  refine on_ HT_.out 5 (some 31) (fun K hK => ?_)
  have HCA := Aside0.mk (show Calls Try.prog 83 #[.slice (some ⟨w84_.heap.size, 0, none⟩) 1 1, .int .i64 (l0.length : Int)] (w84_.alloc (.cells #[.int .i64 (-1), .int .i64 (-1)] 54)) (fun e w' => ∃ v0_ : Value, e = .returned v0_ ∧ Kd.R k54 54 w' (w84_.alloc (.cells #[.int .i64 (-1), .int .i64 (-1)] 54)).heap.size (fun _ => True) v0_ (List.replicate l0.length (⟨-1, -1⟩ : S54)) ∧ Below (w84_.alloc (.cells #[.int .i64 (-1), .int .i64 (-1)] 54)).heap.size (w84_.alloc (.cells #[.int .i64 (-1), .int .i64 (-1)] 54)) w') from api_RPlace_83.calls (some ⟨w84_.heap.size, 0, none⟩) 1 [(⟨-1, -1⟩ : S54)] (l0.length : Int) (List.replicate l0.length (⟨-1, -1⟩ : S54)) _ (C_blk1 (YtlojkphocbbjdabW.Bas.heap_alloc_self _ _) (k54_mk _ (⟨-1, -1⟩ : S54))) (Nat.le_refl _) HREP.out)
  refine goes_ Try.func83 (by kernel_rfl) rfl #[.slice (some ⟨w84_.heap.size, 0, none⟩) 1 1, .int .i64 (l0.length : Int)] (by rfl) rfl rfl (by simp only [List.map_toArray, List.map_cons, List.map_nil]; rfl) ?_
  with_reducible refine (HCA.out).mono ?_
  rintro e_ w91_ ⟨v4, rfl, ho_, hb_⟩
  refine ⟨_, rfl, ?_⟩
  obtain ⟨Aa, ca, rfl⟩ := Kd.R_slice ho_
  rw [List.length_replicate] at ho_ ⊢
  have HR93_ := Aside0.mk (HS88_.out.mrow hb_ ho_)
  have HS92_ := Aside0.mk (HS88_.out.call hb_)
  clear ho_ hb_ HS88_
  try clear hHeld
  refine hK.out _ _ (HS92_.out) (fun hHeld => ?_)
  clear hK K
  refine norm_ (a' := ?_) ?_ ?_; rotate_left; (show Act.put _ (some 31) _ = _; simp only [Act.put, List.setIfInBounds_toArray, List.set_cons_zero, List.set_cons_succ, i64_w, i32_w]; rfl)
  refine pu_ (v := ?_) (a' := ?_) HT_.out 6 (some 32) ?_ ?_ ?_; rotate_left 2; (intro w'; go_simp; with_reducible rfl); (simp only [Act.put, List.setIfInBounds_toArray, List.set_cons_zero, List.set_cons_succ, i64_w, i32_w]; rfl)
  refine la_ HT_.out 7 (some 33) (fun K hK => ?_)
  refine value_ (w1 := ?_) (v := ?_) (by rfl) rfl ?_ ?_; rotate_left 2; (go_simp; constructor; rfl; rfl)
  have HS96_ := Aside0.mk (HR93_.out.box (g := w91_.heap.size) (cs := #[.slice A0 l0.length c0, .slice Aa l0.length ca, .slice none 0 0]) (t := 128) rfl (YtlojkphocbbjdabW.Bas.heap_alloc_self _ _) (below_alloc (Below.refl _ _) _))
  clear HR93_
  refine hK.out _ _ ?_
  clear hK K
  refine norm_ (a' := ?_) ?_ ?_; rotate_left; (show Act.put _ (some 33) _ = _; simp only [Act.put, List.setIfInBounds_toArray, List.set_cons_zero, List.set_cons_succ, i64_w, i32_w]; rfl)
  refine pu_ (v := ?_) (a' := ?_) HT_.out 8 (some 7) ?_ ?_ ?_; rotate_left 2; (intro w'; go_simp; with_reducible rfl); (simp only [Act.put, List.setIfInBounds_toArray, List.set_cons_zero, List.set_cons_succ, i64_w, i32_w]; rfl)
  refine dn_ HT_.out ?_
  clear HT_ HW_
  have HSm := Aside0.mk ((((((HS96_.out.nrow (Kd.int .i64) 3)).front 3 rfl).front 1 rfl).front 3 rfl).front 3 rfl)
  clear HS96_
  generalize w91_.heap.size = g at *
  generalize hrep : List.replicate l0.length (⟨-1, -1⟩ : S54) = at_ at *
  have hal : at_.length = l0.length := by rw [← hrep, List.length_replicate]
  have HAL := Aside0.mk hal
  clear HREP hrep hal
  have cgl_ := HSm.out.cell 3 rfl 0
  go_wp2
  clear cgl_
  go_loopw [36] (fun v36 wr => ∃ (i : Int) (Ao : Option Addr) (co : Nat) (o : List Int), v36 = .int .i64 i ∧ Aside0 (0 ≤ i ∧ i ≤ l0.length) ∧ Aside0 (ordF (l0.drop i.toNat) i o = some oz) ∧ Aside0 (St w wr ((blkA g #[.slice A0 l0.length c0, .slice Aa l0.length ca, .slice Ao o.length co] 128) :: (rowA w.heap.size k54 54 (.slice Aa l0.length ca) at_) :: (rowA w.heap.size (Kd.int .i64) 3 (.slice Ao o.length co) o) :: (blkA gl #[.slice A0 l0.length c0] 46) :: []))) (fun v36 _ => l0.length - (intOf v36).toNat)
  case atStart => exact ⟨0, _, _, [], rfl, ⟨by omega⟩, HX0, HSm⟩
  case round =>
    clear HSm HX0
    obtain ⟨i, Ao, co, o, rfl, Hi, HX, HSr⟩ := hrel
    have hi0 : 0 ≤ i := Hi.out.1
    by_cases hlt : i < (l0.length : Int)
    · have ht : decide (i < (l0.length : Int)) = true := decide_eq_true hlt
      have HW := Aside0.mk (show wrap64 (i + 1) = i + 1 by have := HL20.out; unfold wrap64; omega)
      have hd : l0.drop i.toNat = rd_T60 l0 i :: l0.drop (i + 1).toNat := by
        rw [List.drop_eq_getElem_cons (by omega), show (i + 1).toNat = i.toNat + 1 by omega]
        congr 1
        rw [rd_T60, List.getD_eq_getElem?_getD, List.getElem?_eq_getElem (by omega), Option.getD_some]
      have hx := HX.out
      rw [hd, ordF] at hx
      clear hd HX
      obtain ⟨adl, e, hm0, hm1⟩ := at_T60 HR0.out i hi0 hlt
      cases e
      generalize rd_T60 l0 i = x at *
      replace hm0 := (HSr.out.below.cell (World.block_lt_of_cell? w _ hm0)).trans hm0
      replace hm1 := (HSr.out.below.cell (World.block_lt_of_cell? w _ hm1)).trans hm1
      obtain ⟨b, hcn, hx2⟩ := Option.bind_eq_some_iff.1 hx
      have HCN := Aside0.mk hcn
      clear hx hcn
      rcases b with _ | _
      · have HX4 := Aside0.mk (show ordF (l0.drop (i + 1).toNat) (i + 1) o = some oz from hx2)
        clear hx2
        go_wp2_with (first | ((with_reducible refine gate_dst (N := 9) rfl ?_); (try (refine gate_guard (by rfl) ?_; dsimp only)); refine box_event ?hg (N := 9) ?hd (cs := #[.int .i64 0, .int .i64 0]) (t := 60) ?hr ?_; (case hd => rfl); (case hg => rfl); (case hr => first | (go_simp; done) | (go_simp; rfl)); intro gx hg_ w120_ hx_ hb_; have HS121_ := Aside0.mk (HSr.out.box hg_ hx_ hb_); have c122_ : w120_.cell? ⟨gx, 0, none⟩ = some (.int .i64 0) := (HS121_.out.cell 0 rfl 0).trans rfl; have c123_ : w120_.cell? ⟨gx, 1, none⟩ = some (.int .i64 0) := (HS121_.out.cell 0 rfl 1).trans rfl; have f124_ : w120_.frozen? ⟨gx, 0, none⟩ = false := HS121_.out.frz 0 rfl 0; have f125_ : w120_.frozen? ⟨gx, 1, none⟩ = false := HS121_.out.frz 0 rfl 1; clear hg_ hx_ hb_  HSr) | ((with_reducible refine gate_store (t := 60) (p := 9) rfl ?_); refine store_event (t := 60) (p := 9) (v := .tmp 40) (w1 := ((w120_.setCell ⟨gx, 0, none⟩ (.int .i64 x.f0)).setCell ⟨gx, 1, none⟩ (.int .i64 x.f1))) ?hg ?ho ?hn ?hr ?_; (case ho => rfl); (case hg => rfl); (case hn => rfl); (case hr => first | (go_simp; done) | (go_simp; rfl)); intro w126_ hw_; have HS127_ : Aside0 (St w w126_ ((blkA gx #[.int .i64 x.f0, .int .i64 x.f1] 60) :: (blkA g #[.slice (some adl) l0.length c0, .slice Aa l0.length ca, .slice Ao o.length co] 128) :: (rowA w.heap.size k54 54 (.slice Aa l0.length ca) at_) :: (rowA w.heap.size (Kd.int .i64) 3 (.slice Ao o.length co) o) :: (blkA gl #[.slice (some adl) l0.length c0] 46) :: [])) := ⟨by rw [hw_]; exact ((HS121_.out.put 0 rfl 0 (.int .i64 x.f0) rfl).put 0 rfl 1 (.int .i64 x.f1) rfl)⟩; have c128_ : w126_.cell? ⟨gx, 0, none⟩ = some (.int .i64 x.f0) := (HS127_.out.cell 0 rfl 0).trans rfl; have c129_ : w126_.cell? ⟨gx, 1, none⟩ = some (.int .i64 x.f1) := (HS127_.out.cell 0 rfl 1).trans rfl; clear hw_ c122_ c123_ f124_ f125_ HS121_) | (go_at_call 84; refine (scan_counts.calls x.f0 x.f1 false _ HCN.out).mono ?_; rintro e_ w130_ ⟨rfl, hb_⟩; have HS131_ := Aside0.mk (HS127_.out.call hb_); clear hb_; clear c128_ c129_ HS127_))
        go_roundw
        case rel => exact ⟨i + 1, _, _, _, by first | rw [HW.out] | rfl, ⟨by omega⟩, HX4, ⟨(HS131_.out).drop 0 rfl⟩⟩
        case measure => simp only [intOf]; (try rw [HW.out]); omega
      · simp only [if_true] at hx2
        split at hx2
        case isFalse => cases hx2
        rename_i hlo
        have HLO := Aside0.mk hlo
        have HX4 := Aside0.mk hx2
        clear hx2 hlo
        go_wp2_with (first | ((with_reducible refine gate_dst (N := 9) rfl ?_); (try (refine gate_guard (by rfl) ?_; dsimp only)); refine box_event ?hg (N := 9) ?hd (cs := #[.int .i64 0, .int .i64 0]) (t := 60) ?hr ?_; (case hd => rfl); (case hg => rfl); (case hr => first | (go_simp; done) | (go_simp; rfl)); intro gx hg_ w97_ hx_ hb_; have HS98_ := Aside0.mk (HSr.out.box hg_ hx_ hb_); have c99_ : w97_.cell? ⟨gx, 0, none⟩ = some (.int .i64 0) := (HS98_.out.cell 0 rfl 0).trans rfl; have c100_ : w97_.cell? ⟨gx, 1, none⟩ = some (.int .i64 0) := (HS98_.out.cell 0 rfl 1).trans rfl; have f101_ : w97_.frozen? ⟨gx, 0, none⟩ = false := HS98_.out.frz 0 rfl 0; have f102_ : w97_.frozen? ⟨gx, 1, none⟩ = false := HS98_.out.frz 0 rfl 1; clear hg_ hx_ hb_  HSr) | ((with_reducible refine gate_store (t := 60) (p := 9) rfl ?_); refine store_event (t := 60) (p := 9) (v := .tmp 40) (w1 := ((w97_.setCell ⟨gx, 0, none⟩ (.int .i64 x.f0)).setCell ⟨gx, 1, none⟩ (.int .i64 x.f1))) ?hg ?ho ?hn ?hr ?_; (case ho => rfl); (case hg => rfl); (case hn => rfl); (case hr => first | (go_simp; done) | (go_simp; rfl)); intro w103_ hw_; have HS104_ : Aside0 (St w w103_ ((blkA gx #[.int .i64 x.f0, .int .i64 x.f1] 60) :: (blkA g #[.slice (some adl) l0.length c0, .slice Aa l0.length ca, .slice Ao o.length co] 128) :: (rowA w.heap.size k54 54 (.slice Aa l0.length ca) at_) :: (rowA w.heap.size (Kd.int .i64) 3 (.slice Ao o.length co) o) :: (blkA gl #[.slice (some adl) l0.length c0] 46) :: [])) := ⟨by rw [hw_]; exact ((HS98_.out.put 0 rfl 0 (.int .i64 x.f0) rfl).put 0 rfl 1 (.int .i64 x.f1) rfl)⟩; have c105_ : w103_.cell? ⟨gx, 0, none⟩ = some (.int .i64 x.f0) := (HS104_.out.cell 0 rfl 0).trans rfl; have c106_ : w103_.cell? ⟨gx, 1, none⟩ = some (.int .i64 x.f1) := (HS104_.out.cell 0 rfl 1).trans rfl; clear hw_ c99_ c100_ f101_ f102_ HS98_) | (go_at_call 84; refine (scan_counts.calls x.f0 x.f1 true _ HCN.out).mono ?_; rintro e_ w107_ ⟨rfl, hb_⟩; have HS108_ := Aside0.mk (HS104_.out.call hb_); have c109_ : w107_.cell? ⟨g, 2, none⟩ = some (.slice Ao o.length co) := (HS108_.out.cell 1 rfl 2).trans rfl; clear hb_; clear c105_ c106_ HS104_) | ((with_reducible refine gate_builtin (b := .append) (xs := #[.tmp 47, .tmp 49]) rfl ?_); (try (refine gate_guard (by rfl) ?_; dsimp only)); at_builtin; obtain ⟨ok_, hf_, hr_, hs_⟩ := (HS108_.out).app 3 rfl; refine Kd.R_append (Kd.int .i64) (w0 := w) w.heap.size rfl (.tmp 47) (.tmp 49) 36 3 (.int .i64 0) 8 rfl Try.underlying36 info3 rfl (by decide) (by omega) (.slice Ao o.length co) o (i) [.int .i64 i] ok_ (fun _ => False) rfl rfl rfl (fun _ hk => hk.elim) hf_ hr_ (HS108_.out).below (HS108_.out).size ?aL ?_; (case aL => have := HLO.out; omega); intro Ap112_ w110_ ho_ hb_ hg_ hat_; have HS111_ := Aside0.mk (hs_ _ _ _ ho_ hb_ hg_); have hN_ := Kd.R_slice ho_; obtain ⟨A113_, c115_, rfl⟩ := hN_; have c116_ : w110_.cell? ⟨g, 2, none⟩ = some (.slice Ao o.length co) := (HS111_.out.cell 1 rfl 2).trans rfl; clear ho_ hb_ hg_ hat_ hf_ hr_ hs_ c109_ HS108_; have f117_ : w110_.frozen? ⟨g, 2, none⟩ = false := HS111_.out.frz 1 rfl 2) | ((with_reducible refine gate_store (t := 36) (p := 52) rfl ?_); refine store_event (t := 36) (p := 52) (v := .tmp 50) (w1 := (w110_.setCell ⟨g, 2, none⟩ (.slice A113_ (o ++ [i]).length c115_))) ?hg ?ho ?hn ?hr ?_; (case ho => rfl); (case hg => rfl); (case hn => rfl); (case hr => first | (go_simp; done) | (go_simp; rfl)); intro w118_ hw_; have HS119_ : Aside0 (St w w118_ ((blkA gx #[.int .i64 x.f0, .int .i64 x.f1] 60) :: (blkA g #[.slice (some adl) l0.length c0, .slice Aa l0.length ca, .slice A113_ (o ++ [i]).length c115_] 128) :: (rowA w.heap.size k54 54 (.slice Aa l0.length ca) at_) :: (rowA w.heap.size (Kd.int .i64) 3 (.slice A113_ (o ++ [i]).length c115_) (o ++ [i])) :: (blkA gl #[.slice (some adl) l0.length c0] 46) :: [])) := ⟨by rw [hw_]; exact (HS111_.out.put 1 rfl 2 (.slice A113_ (o ++ [i]).length c115_) rfl)⟩; clear hw_ c116_ f117_ HS111_))
        go_roundw
        case rel => exact ⟨i + 1, _, _, _, by first | rw [HW.out] | rfl, ⟨by omega⟩, HX4, ⟨(HS119_.out).drop 0 rfl⟩⟩
        case measure => simp only [intOf]; (try rw [HW.out]); omega
    · have ht : decide (i < (l0.length : Int)) = false := decide_eq_false hlt
      have hx := HX.out
      rw [List.drop_eq_nil_of_le (by omega)] at hx
      obtain rfl := Option.some.inj hx
      replace HSr : Aside0 (St w wr ((blkA g #[.slice A0 l0.length c0, .slice Aa at_.length ca, .slice Ao o.length co] 128) :: (rowA w.heap.size k54 54 (.slice Aa at_.length ca) at_) :: (rowA w.heap.size (Kd.int .i64) 3 (.slice Ao o.length co) o) :: (blkA gl #[.slice A0 l0.length c0] 46) :: [])) := ⟨by rw [HAL.out]; exact HSr.out⟩
      have cg2 : wr.cell? ⟨g, 2, none⟩ = some (.slice Ao o.length co) := (HSr.out.cell 0 rfl 2).trans rfl
      clear hx HX Hi hi0 hlt HAL
      go_wp2_with (first | (go_at_call 85; refine (sort_walk gl A0 c0 l0 Ao co o _ ((HSr.out.cell 3 rfl 0).trans rfl) (Kd.C_below HR0.out HSr.out.below) (Kd.R_reads' (HSr.out.row 2 rfl)).2.2 HON.out HSRT.out).mono ?_; rintro e_ w2 ⟨rfl, hb_⟩; have HS2 := Aside0.mk (HSr.out.call hb_); have cg3 : w2.cell? ⟨g, 2, none⟩ = some (.slice Ao o.length co) := (HS2.out.cell 0 rfl 2).trans rfl; clear hb_ HSr cg2))
      clear ht
      rename World => wo
      go_loopw [65] (fun v65 wr => ∃ (i : Int) (at_ : List S54), v65 = .int .i64 i ∧ Aside0 (0 ≤ i ∧ i ≤ o.length) ∧ Aside0 (takesF l0 o a1 (o.drop i.toNat) at_ = some az) ∧ Aside0 (St w wr ((blkA g #[.slice A0 l0.length c0, .slice Aa at_.length ca, .slice Ao o.length co] 128) :: (rowA w.heap.size k54 54 (.slice Aa at_.length ca) at_) :: (rowA w.heap.size (Kd.int .i64) 3 (.slice Ao o.length co) o) :: (blkA gl #[.slice A0 l0.length c0] 46) :: []))) (fun v65 _ => o.length - (intOf v65).toNat)
      case atStart => exact ⟨0, _, rfl, ⟨by omega⟩, HX1, HS2⟩
      case round =>
        clear HS2 HX1
        obtain ⟨i, at_, rfl, Hi, HX, HSr⟩ := hrel
        have hi0 : 0 ≤ i := Hi.out.1
        by_cases hlt : i < (o.length : Int)
        · have ht : decide (i < (o.length : Int)) = true := decide_eq_true hlt
          have HW := Aside0.mk (show wrap64 (i + 1) = i + 1 by have := HON.out; unfold wrap64; omega)
          have hd : o.drop i.toNat = rd o i :: o.drop (i + 1).toNat := by
            rw [List.drop_eq_getElem_cons (by omega), show (i + 1).toNat = i.toNat + 1 by omega]
            congr 1
            rw [rd, List.getD_eq_getElem?_getD, List.getElem?_eq_getElem (by omega), Option.getD_some]
          have hx := HX.out
          rw [hd, takesF] at hx
          clear hd HX
          obtain ⟨ado, e, hk⟩ := Kd.at_int (Kd.R_reads' (HSr.out.row 2 rfl)).2.2 i hi0 hlt
          cases e
          generalize rd o i = x at *
          obtain ⟨at2, htk, hx2⟩ := Option.bind_eq_some_iff.1 hx
          have HTK := Aside0.mk htk
          have HX4 := Aside0.mk hx2
          clear hx htk hx2
          go_wp2_with (first | (go_at_call 88; refine (take_walk w _ _ g A0 c0 l0 Aa ca at_ (some ado) co o x a1 at2 HR0.out HSr.out HTK.out).mono ?_; rintro e_ w2 ⟨rfl, hS'⟩; have HS2 := Aside0.mk hS'; clear hS' HSr))
          go_roundw
          case rel => exact ⟨i + 1, at2, by first | rw [HW.out] | rfl, ⟨by omega⟩, HX4, HS2⟩
          case measure => simp only [intOf]; (try rw [HW.out]); omega
        · have ht : decide (i < (o.length : Int)) = false := decide_eq_false hlt
          have hx := HX.out
          rw [List.drop_eq_nil_of_le (by omega)] at hx
          obtain rfl := Option.some.inj hx
          have cg2 : wr.cell? ⟨g, 2, none⟩ = some (.slice Ao o.length co) := (HSr.out.cell 0 rfl 2).trans rfl
          clear hx HX Hi hi0 hlt
          go_wp2
          clear ht cg2
          rename World => wo2
          go_loopw [79, 12] (fun v79 v12 wr => ∃ (i m : Int) (at_ : List S54), v79 = .int .i64 i ∧ v12 = .int .i64 m ∧ Aside0 (0 ≤ i ∧ i ≤ o.length) ∧ Aside0 (slotsF l0 o (o.drop i.toNat) at_ m = some (z1, z2)) ∧ Aside0 (St w wr ((blkA g #[.slice A0 l0.length c0, .slice Aa at_.length ca, .slice Ao o.length co] 128) :: (rowA w.heap.size k54 54 (.slice Aa at_.length ca) at_) :: (rowA w.heap.size (Kd.int .i64) 3 (.slice Ao o.length co) o) :: (blkA gl #[.slice A0 l0.length c0] 46) :: []))) (fun v79 _ _ => o.length - (intOf v79).toNat)
          case atStart => exact ⟨0, 0, _, rfl, rfl, ⟨by omega⟩, HX2, HSr⟩
          case round =>
            clear HSr HX2
            obtain ⟨i, m, at_, rfl, rfl, Hi, HX, HSr⟩ := hrel
            have hi0 : 0 ≤ i := Hi.out.1
            have cg1 : wr.cell? ⟨g, 1, none⟩ = some (.slice Aa at_.length ca) := (HSr.out.cell 0 rfl 1).trans rfl
            by_cases hlt : i < (o.length : Int)
            · have ht : decide (i < (o.length : Int)) = true := decide_eq_true hlt
              have HW := Aside0.mk (show wrap64 (i + 1) = i + 1 by have := HON.out; unfold wrap64; omega)
              have hd : o.drop i.toNat = rd o i :: o.drop (i + 1).toNat := by
                rw [List.drop_eq_getElem_cons (by omega), show (i + 1).toNat = i.toNat + 1 by omega]
                congr 1
                rw [rd, List.getD_eq_getElem?_getD, List.getElem?_eq_getElem (by omega), Option.getD_some]
              have hx := HX.out
              rw [hd, slotsF] at hx
              clear hd HX
              obtain ⟨ado, e, hk⟩ := Kd.at_int (Kd.R_reads' (HSr.out.row 2 rfl)).2.2 i hi0 hlt
              cases e
              generalize rd o i = x at *
              split at hx
              case isFalse => cases hx
              rename_i hxb
              have hx0 := hxb.1
              have hx1 := hxb.2
              have X0 := Aside0.mk hx0
              have X1 := Aside0.mk hx1
              obtain ⟨g2, cp2, hv2, _, _, _⟩ := Kd.R_form (HSr.out.row 1 rfl) (by omega)
              obtain ⟨rfl, rfl⟩ : Aa = some ⟨g2, 0, none⟩ ∧ ca = cp2 := by { injection hv2 with a_ b_ c_; exact ⟨a_, c_⟩ }
              obtain ⟨hc0, hc1, _⟩ := at_elem (HSr.out.row 1 rfl) x hx0 hx1
              clear hv2 hxb
              by_cases c1 : (rd_T54 at_ x).f0 < 0
              · rw [if_pos c1] at hx
                have hd1 : decide ((rd_T54 at_ x).f0 < 0) = true := decide_eq_true c1
                obtain ⟨s, hb, hx2⟩ := Option.bind_eq_some_iff.1 hx
                have HB := Aside0.mk hb
                obtain ⟨r, hle, hx3⟩ := Option.bind_eq_some_iff.1 hx2
                have HLE := Aside0.mk hle
                have HX4 := Aside0.mk hx3
                clear hx hb hx2 hle hx3 c1
                go_wp2
                refine std_ [11] (fun w' => St w w' ((blkA g #[.slice A0 l0.length c0, .slice (some ⟨g2, 0, none⟩) at_.length ca, .slice (some ado) o.length co] 128) :: (rowA w.heap.size k54 54 (.slice (some ⟨g2, 0, none⟩) at_.length ca) at_) :: (rowA w.heap.size (Kd.int .i64) 3 (.slice (some ado) o.length co) o) :: (blkA gl #[.slice A0 l0.length c0] 46) :: [])) scan_Assign.tab23 scan_Assign.bits23 HSr.out.drew (fun HT_ HW_ hHeld => ?_)
                clear HSr
                generalize wr.drew = w132_ at hHeld ⊢
                have HS133_ := Aside0.mk (show St w w132_ ((blkA g #[.slice A0 l0.length c0, .slice (some ⟨g2, 0, none⟩) at_.length ca, .slice (some ado) o.length co] 128) :: (rowA w.heap.size k54 54 (.slice (some ⟨g2, 0, none⟩) at_.length ca) at_) :: (rowA w.heap.size (Kd.int .i64) 3 (.slice (some ado) o.length co) o) :: (blkA gl #[.slice A0 l0.length c0] 46) :: []) from hHeld)
                refine pu_ (v := ?_) (a' := ?_) HT_.out 0 (some 92) ?_ ?_ ?_; rotate_left 2; (intro w'; go_simp; with_reducible rfl); (simp only [Act.put, List.setIfInBounds_toArray, List.set_cons_zero, List.set_cons_succ, i64_w, i32_w]; rfl)
                refine pu_ (v := ?_) (a' := ?_) HT_.out 1 (some 93) ?_ ?_ ?_; rotate_left 2; (intro w'; go_simp; with_reducible rfl); (simp only [Act.put, List.setIfInBounds_toArray, List.set_cons_zero, List.set_cons_succ, i64_w, i32_w]; rfl)
                refine pu_ (v := ?_) (a' := ?_) HT_.out 2 (some 94) ?_ ?_ ?_; rotate_left 2; (intro w'; go_simp; with_reducible rfl); (simp only [Act.put, List.setIfInBounds_toArray, List.set_cons_zero, List.set_cons_succ, i64_w, i32_w]; rfl)
                refine pu_ (v := ?_) (a' := ?_) HT_.out 4 (some 96) ?_ ?_ ?_; rotate_left 2; (intro w'; go_simp; with_reducible rfl); (simp only [Act.put, List.setIfInBounds_toArray, List.set_cons_zero, List.set_cons_succ, i64_w, i32_w]; rfl)
                refine pu_ (v := ?_) (a' := ?_) HT_.out 5 (some 97) ?_ ?_ ?_; rotate_left 2; (intro w'; go_simp; with_reducible rfl); (simp only [Act.put, List.setIfInBounds_toArray, List.set_cons_zero, List.set_cons_succ, i64_w, i32_w]; rfl)
                refine pu_ (v := ?_) (a' := ?_) HT_.out 6 (some 98) ?_ ?_ ?_; rotate_left 2; (intro w'; go_simp; with_reducible rfl); (simp only [Act.put, List.setIfInBounds_toArray, List.set_cons_zero, List.set_cons_succ, i64_w, i32_w]; rfl)
                refine tk_ (v := ?_) (a' := ?_) HT_.out HW_.out hHeld 3 (some 95) ?_ ?_ ?_; rotate_left 2; (intro w' hS; have s0 : w'.cell? ⟨g, 1, none⟩ = some _ := hS.cell 0 rfl 1; go_simp; with_reducible rfl); (simp only [Act.put, List.setIfInBounds_toArray, List.set_cons_zero, List.set_cons_succ, i64_w, i32_w]; rfl)
                refine on_ HT_.out 7 (some 99) (fun K hK => ?_)
                refine goes_ Try.func90 (by kernel_rfl) rfl #[.pointer (some ⟨g, 0, none⟩), .int .i64 x, .func (.func 91) #[] #[]] (by rfl) rfl rfl (by simp only [List.map_toArray, List.map_cons, List.map_nil]; rfl) ?_
                with_reducible refine (busy_walk w _ _ g A0 c0 l0 (some ⟨g2, 0, none⟩) ca at_ (some ado) co o x 91 (fun x => x.f1) s HR0.out (fun _ _ => rfl) (fun x W => scan_slot.calls x.f0 x.f1 x.f1 W rfl) HS133_.out HB.out).mono ?_
                rintro e_ w136_ ⟨gm, rfl, nn, hS'⟩
                refine ⟨_, rfl, ?_⟩
                have HT138_ := Aside0.mk hS'
                have HS137_ : Aside0 (St w w136_ ((blkA g #[.slice A0 l0.length c0, .slice (some ⟨g2, 0, none⟩) at_.length ca, .slice (some ado) o.length co] 128) :: (rowA w.heap.size k54 54 (.slice (some ⟨g2, 0, none⟩) at_.length ca) at_) :: (rowA w.heap.size (Kd.int .i64) 3 (.slice (some ado) o.length co) o) :: (blkA gl #[.slice A0 l0.length c0] 46) :: [])) := ⟨hS'.tail⟩
                clear hS' HS133_
                try clear hHeld
                refine hK.out _ _ (HS137_.out) (fun hHeld => ?_)
                clear hK K
                refine norm_ (a' := ?_) ?_ ?_; rotate_left; (show Act.put _ (some 99) _ = _; simp only [Act.put, List.setIfInBounds_toArray, List.set_cons_zero, List.set_cons_succ, i64_w, i32_w]; rfl)
                refine on_ HT_.out 8 (some 100) (fun K hK => ?_)
                obtain ⟨D, hown_, hh_⟩ := HT138_.out.setR 0 rfl
                refine goes_ Try.func89 (by kernel_rfl) rfl #[.map (some gm)] (by rfl) rfl rfl (by simp only [List.map_toArray, List.map_cons, List.map_nil]; rfl) ?_
                with_reducible refine (least_walk 1000 gm nn s D r _ hown_ hh_ HLE.out).mono ?_
                rintro e_ w141_ ⟨rfl, hb_⟩
                refine ⟨_, rfl, ?_⟩
                have HS142_ := Aside0.mk (HS137_.out.call hb_)
                clear hb_ hown_ hh_ HT138_ HS137_
                try clear hHeld
                refine hK.out _ _ (HS142_.out) (fun hHeld => ?_)
                clear hK K
                refine norm_ (a' := ?_) ?_ ?_; rotate_left; (show Act.put _ (some 100) _ = _; simp only [Act.put, List.setIfInBounds_toArray, List.set_cons_zero, List.set_cons_succ, i64_w, i32_w]; rfl)
                refine pu_ (v := ?_) (a' := ?_) HT_.out 9 (some 101) ?_ ?_ ?_; rotate_left 2; (intro w'; go_simp; with_reducible rfl); (simp only [Act.put, List.setIfInBounds_toArray, List.set_cons_zero, List.set_cons_succ, i64_w, i32_w]; rfl)
                refine pu_ (v := ?_) (a' := ?_) HT_.out 10 (some 102) ?_ ?_ ?_; rotate_left 2; (intro w'; go_simp; with_reducible rfl); (simp only [Act.put, List.setIfInBounds_toArray, List.set_cons_zero, List.set_cons_succ, i64_w, i32_w]; rfl)
                refine la_ HT_.out 11 none (fun K hK => ?_)
                obtain ⟨hk0_, hk1_, hf_⟩ := at_elem (HS142_.out.row 1 rfl) x X0.out X1.out
                have hf0_ : w141_.frozen? ⟨g2, x.toNat * 2 + 1, none⟩ = false := hf_ 1
                refine skip_ (w1 := ?_) (by rfl) rfl ?_ ?_; rotate_left; (go_simp; rfl)
                have HS145_ : Aside0 (St w (w141_.setCell ⟨g2, x.toNat * 2 + 1, none⟩ (.int .i64 r)) ((blkA g #[.slice A0 l0.length c0, .slice (some ⟨g2, 0, none⟩) at_.length ca, .slice (some ado) o.length co] 128) :: (rowA w.heap.size k54 54 (.slice (some ⟨g2, 0, none⟩) at_.length ca) (setSlot at_ x r)) :: (rowA w.heap.size (Kd.int .i64) 3 (.slice (some ado) o.length co) o) :: (blkA gl #[.slice A0 l0.length c0] 46) :: [])) := ⟨put_slot HS142_.out x X0.out X1.out r⟩
                clear HS142_ hk0_ hk1_ hf_ hf0_
                refine hK.out _ _ ?_
                clear hK K
                refine dn_ HT_.out ?_
                clear HT_ HW_
                obtain ⟨_, he1_, _⟩ := at_elem (HS145_.out.row 1 rfl) x X0.out X1.out
                have ce_ := (HS145_.out.cell 0 rfl 1).trans rfl
                go_wp2
                go_roundw
                case rel => exact ⟨i + 1, _, setSlot at_ x r, by first | rw [HW.out] | rfl, rfl, ⟨by omega⟩, HX4, ⟨by rw [setSlot_len]; exact HS145_.out⟩⟩
                case measure => simp only [intOf]; (try rw [HW.out]); omega
              · rw [if_neg c1] at hx
                have hd1 : decide ((rd_T54 at_ x).f0 < 0) = false := decide_eq_false c1
                have HX4 := Aside0.mk hx
                clear hx c1
                go_wp2
                go_roundw
                case rel => exact ⟨i + 1, m, at_, by first | rw [HW.out] | rfl, rfl, ⟨by omega⟩, HX4, HSr⟩
                case measure => simp only [intOf]; (try rw [HW.out]); omega
            · have ht : decide (i < (o.length : Int)) = false := decide_eq_false hlt
              have hx := HX.out
              rw [List.drop_eq_nil_of_le (by omega)] at hx
              have hx2 : some (at_, m) = some (z1, z2) := hx
              simp only [Option.some.injEq, Prod.mk.injEq] at hx2
              obtain ⟨rfl, rfl⟩ := hx2
              clear hx HX
              go_wp2
              go_ret3
              exact ⟨_, rfl, HSr.out.row 1 rfl, HSr.out.below⟩
end

/-! ### api_RPlace_22: function 22 -/
def api_RPlace_22.l0 : Nat → List (S54) → List (S54) → Int → Int → Option (Bool)
  | 0, _, _, _, _ => none
  | k + 1, x1, x12, x13, x14 => if x14 < x13 then (if 0 ≤ x14 then (if x14 < (x12.length : Int) then (if x14 < (x1.length : Int) then (if (!(((rd_T54 x12 x14).f0) == ((rd_T54 x1 x14).f0)) || (!(((rd_T54 x12 x14).f1) == ((rd_T54 x1 x14).f1)))) = true then (some false) else (api_RPlace_22.l0 k x1 x12 x13 (wrap64 (x14 + 1)))) else (none)) else (none)) else (none)) else (some true)
def api_RPlace_22.f (k : Nat) (l0 : List (S54)) (l1 : List (S54)) : Option (Bool) := if (l0.length : Int) = (l1.length : Int) then (api_RPlace_22.l0 k l1 l0 (l0.length : Int) 0) else (some false)
theorem api_RPlace_22.mono_l : ∀ k, (∀ y0 y1 y2 y3, LeO (api_RPlace_22.l0 k y0 y1 y2 y3) (api_RPlace_22.l0 (k + 1) y0 y1 y2 y3))
  | 0 => fun _ _ _ _ r h => by simp [api_RPlace_22.l0] at h
  | k + 1 => by
    have ih0 := api_RPlace_22.mono_l k
    · intro y0 y1 y2 y3
      unfold api_RPlace_22.l0
      repeat' first
      | (with_reducible exact ih0 _ _ _ _)
      | (with_reducible exact LeO.refl _)
      | (with_reducible exact LeO.none _)
      | (with_reducible refine LeO.ite ?_ ?_)
      | (with_reducible refine LeO.bind ?_ (fun _ => ?_))
      | exact ih0 _ _ _ _
      | exact LeO.none _
      | refine LeO.ite ?_ ?_
      | refine LeO.bind ?_ (fun _ => ?_)
theorem api_RPlace_22.mono : ∀ a0 a1 k, LeO (api_RPlace_22.f k a0 a1) (api_RPlace_22.f (k + 1) a0 a1) := by
  intro a0 a1 k
  have ih0 := api_RPlace_22.mono_l k
  unfold api_RPlace_22.f
  repeat' first
      | (with_reducible exact ih0 _ _ _ _)
      | (with_reducible exact LeO.refl _)
      | (with_reducible exact LeO.none _)
      | (with_reducible refine LeO.ite ?_ ?_)
      | (with_reducible refine LeO.bind ?_ (fun _ => ?_))
      | exact ih0 _ _ _ _
      | exact LeO.none _
      | refine LeO.ite ?_ ?_
      | refine LeO.bind ?_ (fun _ => ?_)
set_option maxHeartbeats 8000000 in
set_option maxRecDepth 100000 in
theorem api_RPlace_22.calls (k : Nat) (A0 : Option Addr) (c0 : Nat) (l0 : List (S54)) (A1 : Option Addr) (c1 : Nat) (l1 : List (S54)) (r : Bool) (w : World) (hr0 : Kd.C k54 w A0 l0.length l0) (hc0 : l0.length ≤ c0) (hr1 : Kd.C k54 w A1 l1.length l1) (hc1 : l1.length ≤ c1) (h : api_RPlace_22.f k l0 l1 = some r) :
    Calls Try.prog 22 #[.slice A0 l0.length c0, .slice A1 l1.length c1] w fun e w' => e = .returned (.bool r) ∧ Below w.heap.size w w' := by
  have hu54 := Try.underlying54
  have HR0 := Aside0.mk hr0
  have HC0 := Aside0.mk hc0
  clear hr0 hc0
  have HR1 := Aside0.mk hr1
  have HC1 := Aside0.mk hc1
  clear hr1 hc1
  have HB := Aside0.mk (Below.refl w.heap.size w)
  have H : (if (l0.length : Int) = (l1.length : Int) then (api_RPlace_22.l0 k l1 l0 (l0.length : Int) 0) else (some false)) = some r := h
  clear h
  by_cases c3 : (l0.length : Int) = (l1.length : Int)
  · rw [if_pos c3] at H
    have c3b0 : ((l0.length : Int) == (l1.length : Int)) = true := beq_iff_eq.mpr c3
    have c3b1 : ((l0.length : Int) != (l1.length : Int)) = false := bne_eq_false_iff_eq.mpr c3
    have c3b2 : (l0.length == l1.length) = true := by first | simpa using c3 | (simp at c3 ⊢; omega)
    clear c3
    have H' := Aside0.mk H
    clear H
    go_enter Try.func22, Try.ntmps22
    go_wp2
    repeat (go_quiet (fail); try go_wp2)
    go_loopg [14] k (fun kq v14 w' => ∃ (x14_1 : Int), v14 = .int .i64 x14_1 ∧ Aside0 (api_RPlace_22.l0 kq l1 l0 (l0.length : Int) x14_1 = some r) ∧ Aside0 (kq ≤ k) ∧ Aside0 (Below w.heap.size w w'))
    case atStart => exact ⟨(0), (by first | rfl | (simp; done) | (simp [*]; done)), H', ⟨Nat.le_refl _⟩, ⟨by repeat (first | (with_reducible first | exact HB.out | apply below_alloc | apply pw_below_drewN | apply below_drew1) | exact HB.out)⟩⟩
    case round =>
      clear H'
      try clear c1
      try clear c2
      try clear p2
      try clear c3
      try clear c3b0
      try clear c3b1
      try clear c3b2
      obtain ⟨x14_1, rfl, HA, HK1, HB⟩ := hrel
      cases gk with
      | zero => exact absurd HA.out (by simp [api_RPlace_22.l0])
      | succ k1 =>
        have H := HA.out
        clear HA
        simp only [api_RPlace_22.l0] at H
        by_cases c4 : x14_1 < (l0.length : Int)
        · rw [if_pos c4] at H
          have c4b0 : decide (x14_1 < (l0.length : Int)) = true := decide_eq_true c4
          clear c4
          by_cases c5 : 0 ≤ x14_1
          · rw [if_pos c5] at H
            have c5b0 : decide (0 ≤ x14_1) = true := decide_eq_true c5
            clear c5
            by_cases c6 : x14_1 < (l0.length : Int)
            · rw [if_pos c6] at H
              have c6b0 : decide (x14_1 < (l0.length : Int)) = true := decide_eq_true c6
              clear c6
              by_cases c7 : x14_1 < (l1.length : Int)
              · rw [if_pos c7] at H
                have c7b0 : decide (x14_1 < (l1.length : Int)) = true := decide_eq_true c7
                clear c7
                by_cases c8 : (!(((rd_T54 l0 x14_1).f0) == ((rd_T54 l1 x14_1).f0)) || (!(((rd_T54 l0 x14_1).f1) == ((rd_T54 l1 x14_1).f1)))) = true
                · rw [if_pos c8] at H
                  have c8b0 : (!(((rd_T54 l0 x14_1).f0) == ((rd_T54 l1 x14_1).f0)) || (!(((rd_T54 l0 x14_1).f1) == ((rd_T54 l1 x14_1).f1)))) = true := c8
                  clear c8
                  obtain rfl := Option.some.inj H
                  have p110 : 0 ≤ (x14_1 : Int) := of_decide_eq_true (by first | (with_reducible assumption) | assumption)
                  have q110 : x14_1 < (l0.length : Int) := of_decide_eq_true (by first | (with_reducible assumption) | assumption)
                  obtain ⟨ad110, e110, hx110_0, hx110_1⟩ := at_T54 HR0.out x14_1 p110 q110
                  cases e110
                  try replace hx110_0 := (HB.out.cell (World.block_lt_of_cell? w _ hx110_0)).trans hx110_0
                  try replace hx110_1 := (HB.out.cell (World.block_lt_of_cell? w _ hx110_1)).trans hx110_1
                  replace p110 := eq_true p110
                  replace q110 := eq_true q110
                  go_wp2_with (first | ((with_reducible refine gate_dst (N := 6) rfl ?_); refine box_event ?hg (N := 6) ?hd (cs := #[.int .i64 0, .int .i64 0]) (t := 54) ?hr ?_; (case hd => rfl); (case hg => rfl); (case hr => first | (go_simp; done) | (go_simp; rfl)); intro gb111 hg w9 hbox hb; have n0_ := Aside0.mk (below_step (by repeat (first | (with_reducible first | exact HB.out | apply below_alloc | apply pw_below_drewN | apply below_drew1) | exact HB.out)) hb); have n1_ := Aside0.mk (hbox); have n2_ := Aside0.mk ((by rw [hg]; exact (below_size (by repeat (first | (with_reducible first | exact HB.out | apply below_alloc | apply pw_below_drewN | apply below_drew1) | exact HB.out))) : w.heap.size ≤ gb111)); have n3_ := Aside0.mk ((by rw [hg]; exact (below_size (by repeat (first | (with_reducible first | exact HB.out | apply below_alloc | apply pw_below_drewN | apply below_drew1) | exact HB.out))) : w.heap.size ≤ gb111)); clear HB; have HB := n0_; have BK111 := n1_; have GW111 := n2_; have GE111 := n3_; clear n0_ n1_ n2_ n3_; clear hb hbox hg; have hcz10_0 : w9.cell? ⟨gb111, 0, none⟩ = some (.int .i64 0) := (blk_cell BK111.out 0).trans rfl; have hcz10_1 : w9.cell? ⟨gb111, 1, none⟩ = some (.int .i64 0) := (blk_cell BK111.out 1).trans rfl; have hfz10_0 := blk_frozen BK111.out 0; have hfz10_1 := blk_frozen BK111.out 1; have p112 : 0 ≤ (x14_1 : Int) := of_decide_eq_true (by first | (with_reducible assumption) | assumption); have q112 : x14_1 < (l1.length : Int) := of_decide_eq_true (by first | (with_reducible assumption) | assumption); obtain ⟨ad112, e112, hx112_0, hx112_1⟩ := at_T54 HR1.out x14_1 p112 q112; cases e112; have hn112_0 : ad112.block ≠ gb111 := Nat.ne_of_lt (Nat.lt_of_lt_of_le (by have := World.block_lt_of_cell? _ _ hx112_0; first | rwa [add_block] at this | exact this) GW111.out); have hn112_1 : ad112.block ≠ gb111 := Nat.ne_of_lt (Nat.lt_of_lt_of_le (by have := World.block_lt_of_cell? _ _ hx112_0; first | rwa [add_block] at this | exact this) GW111.out); try replace hx112_0 := (HB.out.cell (World.block_lt_of_cell? w _ hx112_0)).trans hx112_0; try replace hx112_1 := (HB.out.cell (World.block_lt_of_cell? w _ hx112_1)).trans hx112_1; replace hx112_0 := (cell_far (p := ⟨gb111, 0, none⟩) (by first | (rw [add_block]; exact hn112_0) | (show (Addr.add _ _).block ≠ _; rw [add_block]; exact hn112_0) | exact hn112_0) (.int .i64 ((rd_T54 l0 x14_1).f0))).trans hx112_0; replace hx112_1 := (cell_far (p := ⟨gb111, 0, none⟩) (by first | (rw [add_block]; exact hn112_0) | (show (Addr.add _ _).block ≠ _; rw [add_block]; exact hn112_0) | exact hn112_0) (.int .i64 ((rd_T54 l0 x14_1).f0))).trans hx112_1; replace hx112_0 := (cell_far (p := ⟨gb111, 1, none⟩) (by first | (rw [add_block]; exact hn112_1) | (show (Addr.add _ _).block ≠ _; rw [add_block]; exact hn112_1) | exact hn112_1) (.int .i64 ((rd_T54 l0 x14_1).f1))).trans hx112_0; replace hx112_1 := (cell_far (p := ⟨gb111, 1, none⟩) (by first | (rw [add_block]; exact hn112_1) | (show (Addr.add _ _).block ≠ _; rw [add_block]; exact hn112_1) | exact hn112_1) (.int .i64 ((rd_T54 l0 x14_1).f1))).trans hx112_1; (try have hy112_0 := fun (n_ : Nat) => (show ((((w9.drewN n_).setCell ⟨gb111, 0, none⟩ (.int .i64 ((rd_T54 l0 x14_1).f0))).setCell ⟨gb111, 1, none⟩ (.int .i64 ((rd_T54 l0 x14_1).f1)))).cell? _ = some _ from hx112_0)); (try have hy112_1 := fun (n_ : Nat) => (show ((((w9.drewN n_).setCell ⟨gb111, 0, none⟩ (.int .i64 ((rd_T54 l0 x14_1).f0))).setCell ⟨gb111, 1, none⟩ (.int .i64 ((rd_T54 l0 x14_1).f1)))).cell? _ = some _ from hx112_1)); clear hn112_0; clear hn112_1; replace p112 := eq_true p112; replace q112 := eq_true q112))
                  repeat (go_quiet (first | ((with_reducible refine gate_dst (N := 6) rfl ?_); refine box_event ?hg (N := 6) ?hd (cs := #[.int .i64 0, .int .i64 0]) (t := 54) ?hr ?_; (case hd => rfl); (case hg => rfl); (case hr => first | (go_simp; done) | (go_simp; rfl)); intro gb111 hg w9 hbox hb; have n0_ := Aside0.mk (below_step (by repeat (first | (with_reducible first | exact HB.out | apply below_alloc | apply pw_below_drewN | apply below_drew1) | exact HB.out)) hb); have n1_ := Aside0.mk (hbox); have n2_ := Aside0.mk ((by rw [hg]; exact (below_size (by repeat (first | (with_reducible first | exact HB.out | apply below_alloc | apply pw_below_drewN | apply below_drew1) | exact HB.out))) : w.heap.size ≤ gb111)); have n3_ := Aside0.mk ((by rw [hg]; exact (below_size (by repeat (first | (with_reducible first | exact HB.out | apply below_alloc | apply pw_below_drewN | apply below_drew1) | exact HB.out))) : w.heap.size ≤ gb111)); clear HB; have HB := n0_; have BK111 := n1_; have GW111 := n2_; have GE111 := n3_; clear n0_ n1_ n2_ n3_; clear hb hbox hg; have hcz10_0 : w9.cell? ⟨gb111, 0, none⟩ = some (.int .i64 0) := (blk_cell BK111.out 0).trans rfl; have hcz10_1 : w9.cell? ⟨gb111, 1, none⟩ = some (.int .i64 0) := (blk_cell BK111.out 1).trans rfl; have hfz10_0 := blk_frozen BK111.out 0; have hfz10_1 := blk_frozen BK111.out 1; have p112 : 0 ≤ (x14_1 : Int) := of_decide_eq_true (by first | (with_reducible assumption) | assumption); have q112 : x14_1 < (l1.length : Int) := of_decide_eq_true (by first | (with_reducible assumption) | assumption); obtain ⟨ad112, e112, hx112_0, hx112_1⟩ := at_T54 HR1.out x14_1 p112 q112; cases e112; have hn112_0 : ad112.block ≠ gb111 := Nat.ne_of_lt (Nat.lt_of_lt_of_le (by have := World.block_lt_of_cell? _ _ hx112_0; first | rwa [add_block] at this | exact this) GW111.out); have hn112_1 : ad112.block ≠ gb111 := Nat.ne_of_lt (Nat.lt_of_lt_of_le (by have := World.block_lt_of_cell? _ _ hx112_0; first | rwa [add_block] at this | exact this) GW111.out); try replace hx112_0 := (HB.out.cell (World.block_lt_of_cell? w _ hx112_0)).trans hx112_0; try replace hx112_1 := (HB.out.cell (World.block_lt_of_cell? w _ hx112_1)).trans hx112_1; replace hx112_0 := (cell_far (p := ⟨gb111, 0, none⟩) (by first | (rw [add_block]; exact hn112_0) | (show (Addr.add _ _).block ≠ _; rw [add_block]; exact hn112_0) | exact hn112_0) (.int .i64 ((rd_T54 l0 x14_1).f0))).trans hx112_0; replace hx112_1 := (cell_far (p := ⟨gb111, 0, none⟩) (by first | (rw [add_block]; exact hn112_0) | (show (Addr.add _ _).block ≠ _; rw [add_block]; exact hn112_0) | exact hn112_0) (.int .i64 ((rd_T54 l0 x14_1).f0))).trans hx112_1; replace hx112_0 := (cell_far (p := ⟨gb111, 1, none⟩) (by first | (rw [add_block]; exact hn112_1) | (show (Addr.add _ _).block ≠ _; rw [add_block]; exact hn112_1) | exact hn112_1) (.int .i64 ((rd_T54 l0 x14_1).f1))).trans hx112_0; replace hx112_1 := (cell_far (p := ⟨gb111, 1, none⟩) (by first | (rw [add_block]; exact hn112_1) | (show (Addr.add _ _).block ≠ _; rw [add_block]; exact hn112_1) | exact hn112_1) (.int .i64 ((rd_T54 l0 x14_1).f1))).trans hx112_1; (try have hy112_0 := fun (n_ : Nat) => (show ((((w9.drewN n_).setCell ⟨gb111, 0, none⟩ (.int .i64 ((rd_T54 l0 x14_1).f0))).setCell ⟨gb111, 1, none⟩ (.int .i64 ((rd_T54 l0 x14_1).f1)))).cell? _ = some _ from hx112_0)); (try have hy112_1 := fun (n_ : Nat) => (show ((((w9.drewN n_).setCell ⟨gb111, 0, none⟩ (.int .i64 ((rd_T54 l0 x14_1).f0))).setCell ⟨gb111, 1, none⟩ (.int .i64 ((rd_T54 l0 x14_1).f1)))).cell? _ = some _ from hx112_1)); clear hn112_0; clear hn112_1; replace p112 := eq_true p112; replace q112 := eq_true q112)); try go_wp2_with (first | ((with_reducible refine gate_dst (N := 6) rfl ?_); refine box_event ?hg (N := 6) ?hd (cs := #[.int .i64 0, .int .i64 0]) (t := 54) ?hr ?_; (case hd => rfl); (case hg => rfl); (case hr => first | (go_simp; done) | (go_simp; rfl)); intro gb111 hg w9 hbox hb; have n0_ := Aside0.mk (below_step (by repeat (first | (with_reducible first | exact HB.out | apply below_alloc | apply pw_below_drewN | apply below_drew1) | exact HB.out)) hb); have n1_ := Aside0.mk (hbox); have n2_ := Aside0.mk ((by rw [hg]; exact (below_size (by repeat (first | (with_reducible first | exact HB.out | apply below_alloc | apply pw_below_drewN | apply below_drew1) | exact HB.out))) : w.heap.size ≤ gb111)); have n3_ := Aside0.mk ((by rw [hg]; exact (below_size (by repeat (first | (with_reducible first | exact HB.out | apply below_alloc | apply pw_below_drewN | apply below_drew1) | exact HB.out))) : w.heap.size ≤ gb111)); clear HB; have HB := n0_; have BK111 := n1_; have GW111 := n2_; have GE111 := n3_; clear n0_ n1_ n2_ n3_; clear hb hbox hg; have hcz10_0 : w9.cell? ⟨gb111, 0, none⟩ = some (.int .i64 0) := (blk_cell BK111.out 0).trans rfl; have hcz10_1 : w9.cell? ⟨gb111, 1, none⟩ = some (.int .i64 0) := (blk_cell BK111.out 1).trans rfl; have hfz10_0 := blk_frozen BK111.out 0; have hfz10_1 := blk_frozen BK111.out 1; have p112 : 0 ≤ (x14_1 : Int) := of_decide_eq_true (by first | (with_reducible assumption) | assumption); have q112 : x14_1 < (l1.length : Int) := of_decide_eq_true (by first | (with_reducible assumption) | assumption); obtain ⟨ad112, e112, hx112_0, hx112_1⟩ := at_T54 HR1.out x14_1 p112 q112; cases e112; have hn112_0 : ad112.block ≠ gb111 := Nat.ne_of_lt (Nat.lt_of_lt_of_le (by have := World.block_lt_of_cell? _ _ hx112_0; first | rwa [add_block] at this | exact this) GW111.out); have hn112_1 : ad112.block ≠ gb111 := Nat.ne_of_lt (Nat.lt_of_lt_of_le (by have := World.block_lt_of_cell? _ _ hx112_0; first | rwa [add_block] at this | exact this) GW111.out); try replace hx112_0 := (HB.out.cell (World.block_lt_of_cell? w _ hx112_0)).trans hx112_0; try replace hx112_1 := (HB.out.cell (World.block_lt_of_cell? w _ hx112_1)).trans hx112_1; replace hx112_0 := (cell_far (p := ⟨gb111, 0, none⟩) (by first | (rw [add_block]; exact hn112_0) | (show (Addr.add _ _).block ≠ _; rw [add_block]; exact hn112_0) | exact hn112_0) (.int .i64 ((rd_T54 l0 x14_1).f0))).trans hx112_0; replace hx112_1 := (cell_far (p := ⟨gb111, 0, none⟩) (by first | (rw [add_block]; exact hn112_0) | (show (Addr.add _ _).block ≠ _; rw [add_block]; exact hn112_0) | exact hn112_0) (.int .i64 ((rd_T54 l0 x14_1).f0))).trans hx112_1; replace hx112_0 := (cell_far (p := ⟨gb111, 1, none⟩) (by first | (rw [add_block]; exact hn112_1) | (show (Addr.add _ _).block ≠ _; rw [add_block]; exact hn112_1) | exact hn112_1) (.int .i64 ((rd_T54 l0 x14_1).f1))).trans hx112_0; replace hx112_1 := (cell_far (p := ⟨gb111, 1, none⟩) (by first | (rw [add_block]; exact hn112_1) | (show (Addr.add _ _).block ≠ _; rw [add_block]; exact hn112_1) | exact hn112_1) (.int .i64 ((rd_T54 l0 x14_1).f1))).trans hx112_1; (try have hy112_0 := fun (n_ : Nat) => (show ((((w9.drewN n_).setCell ⟨gb111, 0, none⟩ (.int .i64 ((rd_T54 l0 x14_1).f0))).setCell ⟨gb111, 1, none⟩ (.int .i64 ((rd_T54 l0 x14_1).f1)))).cell? _ = some _ from hx112_0)); (try have hy112_1 := fun (n_ : Nat) => (show ((((w9.drewN n_).setCell ⟨gb111, 0, none⟩ (.int .i64 ((rd_T54 l0 x14_1).f0))).setCell ⟨gb111, 1, none⟩ (.int .i64 ((rd_T54 l0 x14_1).f1)))).cell? _ = some _ from hx112_1)); clear hn112_0; clear hn112_1; replace p112 := eq_true p112; replace q112 := eq_true q112)))
                  go_ret
                  exact ⟨by first | rfl | (simp [errW_none, errW_some] <;> rfl) | (simp [*, errW_none, errW_some] <;> rfl), by repeat (first | (with_reducible first | exact HB.out | apply below_alloc | apply pw_below_drewN | apply below_drew1 | refine below_set ?_ GE111.out) | exact HB.out)⟩
                · rw [if_neg c8] at H
                  have c8b0 : (!(((rd_T54 l0 x14_1).f0) == ((rd_T54 l1 x14_1).f0)) || (!(((rd_T54 l0 x14_1).f1) == ((rd_T54 l1 x14_1).f1)))) = false := by simpa using c8
                  clear c8
                  have H' := Aside0.mk H
                  clear H
                  have p110 : 0 ≤ (x14_1 : Int) := of_decide_eq_true (by first | (with_reducible assumption) | assumption)
                  have q110 : x14_1 < (l0.length : Int) := of_decide_eq_true (by first | (with_reducible assumption) | assumption)
                  obtain ⟨ad110, e110, hx110_0, hx110_1⟩ := at_T54 HR0.out x14_1 p110 q110
                  cases e110
                  try replace hx110_0 := (HB.out.cell (World.block_lt_of_cell? w _ hx110_0)).trans hx110_0
                  try replace hx110_1 := (HB.out.cell (World.block_lt_of_cell? w _ hx110_1)).trans hx110_1
                  replace p110 := eq_true p110
                  replace q110 := eq_true q110
                  go_wp2_with (first | ((with_reducible refine gate_dst (N := 6) rfl ?_); refine box_event ?hg (N := 6) ?hd (cs := #[.int .i64 0, .int .i64 0]) (t := 54) ?hr ?_; (case hd => rfl); (case hg => rfl); (case hr => first | (go_simp; done) | (go_simp; rfl)); intro gb111 hg w11 hbox hb; have n0_ := Aside0.mk (below_step (by repeat (first | (with_reducible first | exact HB.out | apply below_alloc | apply pw_below_drewN | apply below_drew1) | exact HB.out)) hb); have n1_ := Aside0.mk (hbox); have n2_ := Aside0.mk ((by rw [hg]; exact (below_size (by repeat (first | (with_reducible first | exact HB.out | apply below_alloc | apply pw_below_drewN | apply below_drew1) | exact HB.out))) : w.heap.size ≤ gb111)); have n3_ := Aside0.mk ((by rw [hg]; exact (below_size (by repeat (first | (with_reducible first | exact HB.out | apply below_alloc | apply pw_below_drewN | apply below_drew1) | exact HB.out))) : w.heap.size ≤ gb111)); clear HB; have HB := n0_; have BK111 := n1_; have GW111 := n2_; have GE111 := n3_; clear n0_ n1_ n2_ n3_; clear hb hbox hg; have hcz12_0 : w11.cell? ⟨gb111, 0, none⟩ = some (.int .i64 0) := (blk_cell BK111.out 0).trans rfl; have hcz12_1 : w11.cell? ⟨gb111, 1, none⟩ = some (.int .i64 0) := (blk_cell BK111.out 1).trans rfl; have hfz12_0 := blk_frozen BK111.out 0; have hfz12_1 := blk_frozen BK111.out 1; have p112 : 0 ≤ (x14_1 : Int) := of_decide_eq_true (by first | (with_reducible assumption) | assumption); have q112 : x14_1 < (l1.length : Int) := of_decide_eq_true (by first | (with_reducible assumption) | assumption); obtain ⟨ad112, e112, hx112_0, hx112_1⟩ := at_T54 HR1.out x14_1 p112 q112; cases e112; have hn112_0 : ad112.block ≠ gb111 := Nat.ne_of_lt (Nat.lt_of_lt_of_le (by have := World.block_lt_of_cell? _ _ hx112_0; first | rwa [add_block] at this | exact this) GW111.out); have hn112_1 : ad112.block ≠ gb111 := Nat.ne_of_lt (Nat.lt_of_lt_of_le (by have := World.block_lt_of_cell? _ _ hx112_0; first | rwa [add_block] at this | exact this) GW111.out); try replace hx112_0 := (HB.out.cell (World.block_lt_of_cell? w _ hx112_0)).trans hx112_0; try replace hx112_1 := (HB.out.cell (World.block_lt_of_cell? w _ hx112_1)).trans hx112_1; replace hx112_0 := (cell_far (p := ⟨gb111, 0, none⟩) (by first | (rw [add_block]; exact hn112_0) | (show (Addr.add _ _).block ≠ _; rw [add_block]; exact hn112_0) | exact hn112_0) (.int .i64 ((rd_T54 l0 x14_1).f0))).trans hx112_0; replace hx112_1 := (cell_far (p := ⟨gb111, 0, none⟩) (by first | (rw [add_block]; exact hn112_0) | (show (Addr.add _ _).block ≠ _; rw [add_block]; exact hn112_0) | exact hn112_0) (.int .i64 ((rd_T54 l0 x14_1).f0))).trans hx112_1; replace hx112_0 := (cell_far (p := ⟨gb111, 1, none⟩) (by first | (rw [add_block]; exact hn112_1) | (show (Addr.add _ _).block ≠ _; rw [add_block]; exact hn112_1) | exact hn112_1) (.int .i64 ((rd_T54 l0 x14_1).f1))).trans hx112_0; replace hx112_1 := (cell_far (p := ⟨gb111, 1, none⟩) (by first | (rw [add_block]; exact hn112_1) | (show (Addr.add _ _).block ≠ _; rw [add_block]; exact hn112_1) | exact hn112_1) (.int .i64 ((rd_T54 l0 x14_1).f1))).trans hx112_1; (try have hy112_0 := fun (n_ : Nat) => (show ((((w11.drewN n_).setCell ⟨gb111, 0, none⟩ (.int .i64 ((rd_T54 l0 x14_1).f0))).setCell ⟨gb111, 1, none⟩ (.int .i64 ((rd_T54 l0 x14_1).f1)))).cell? _ = some _ from hx112_0)); (try have hy112_1 := fun (n_ : Nat) => (show ((((w11.drewN n_).setCell ⟨gb111, 0, none⟩ (.int .i64 ((rd_T54 l0 x14_1).f0))).setCell ⟨gb111, 1, none⟩ (.int .i64 ((rd_T54 l0 x14_1).f1)))).cell? _ = some _ from hx112_1)); clear hn112_0; clear hn112_1; replace p112 := eq_true p112; replace q112 := eq_true q112))
                  repeat (go_quiet (first | ((with_reducible refine gate_dst (N := 6) rfl ?_); refine box_event ?hg (N := 6) ?hd (cs := #[.int .i64 0, .int .i64 0]) (t := 54) ?hr ?_; (case hd => rfl); (case hg => rfl); (case hr => first | (go_simp; done) | (go_simp; rfl)); intro gb111 hg w11 hbox hb; have n0_ := Aside0.mk (below_step (by repeat (first | (with_reducible first | exact HB.out | apply below_alloc | apply pw_below_drewN | apply below_drew1) | exact HB.out)) hb); have n1_ := Aside0.mk (hbox); have n2_ := Aside0.mk ((by rw [hg]; exact (below_size (by repeat (first | (with_reducible first | exact HB.out | apply below_alloc | apply pw_below_drewN | apply below_drew1) | exact HB.out))) : w.heap.size ≤ gb111)); have n3_ := Aside0.mk ((by rw [hg]; exact (below_size (by repeat (first | (with_reducible first | exact HB.out | apply below_alloc | apply pw_below_drewN | apply below_drew1) | exact HB.out))) : w.heap.size ≤ gb111)); clear HB; have HB := n0_; have BK111 := n1_; have GW111 := n2_; have GE111 := n3_; clear n0_ n1_ n2_ n3_; clear hb hbox hg; have hcz12_0 : w11.cell? ⟨gb111, 0, none⟩ = some (.int .i64 0) := (blk_cell BK111.out 0).trans rfl; have hcz12_1 : w11.cell? ⟨gb111, 1, none⟩ = some (.int .i64 0) := (blk_cell BK111.out 1).trans rfl; have hfz12_0 := blk_frozen BK111.out 0; have hfz12_1 := blk_frozen BK111.out 1; have p112 : 0 ≤ (x14_1 : Int) := of_decide_eq_true (by first | (with_reducible assumption) | assumption); have q112 : x14_1 < (l1.length : Int) := of_decide_eq_true (by first | (with_reducible assumption) | assumption); obtain ⟨ad112, e112, hx112_0, hx112_1⟩ := at_T54 HR1.out x14_1 p112 q112; cases e112; have hn112_0 : ad112.block ≠ gb111 := Nat.ne_of_lt (Nat.lt_of_lt_of_le (by have := World.block_lt_of_cell? _ _ hx112_0; first | rwa [add_block] at this | exact this) GW111.out); have hn112_1 : ad112.block ≠ gb111 := Nat.ne_of_lt (Nat.lt_of_lt_of_le (by have := World.block_lt_of_cell? _ _ hx112_0; first | rwa [add_block] at this | exact this) GW111.out); try replace hx112_0 := (HB.out.cell (World.block_lt_of_cell? w _ hx112_0)).trans hx112_0; try replace hx112_1 := (HB.out.cell (World.block_lt_of_cell? w _ hx112_1)).trans hx112_1; replace hx112_0 := (cell_far (p := ⟨gb111, 0, none⟩) (by first | (rw [add_block]; exact hn112_0) | (show (Addr.add _ _).block ≠ _; rw [add_block]; exact hn112_0) | exact hn112_0) (.int .i64 ((rd_T54 l0 x14_1).f0))).trans hx112_0; replace hx112_1 := (cell_far (p := ⟨gb111, 0, none⟩) (by first | (rw [add_block]; exact hn112_0) | (show (Addr.add _ _).block ≠ _; rw [add_block]; exact hn112_0) | exact hn112_0) (.int .i64 ((rd_T54 l0 x14_1).f0))).trans hx112_1; replace hx112_0 := (cell_far (p := ⟨gb111, 1, none⟩) (by first | (rw [add_block]; exact hn112_1) | (show (Addr.add _ _).block ≠ _; rw [add_block]; exact hn112_1) | exact hn112_1) (.int .i64 ((rd_T54 l0 x14_1).f1))).trans hx112_0; replace hx112_1 := (cell_far (p := ⟨gb111, 1, none⟩) (by first | (rw [add_block]; exact hn112_1) | (show (Addr.add _ _).block ≠ _; rw [add_block]; exact hn112_1) | exact hn112_1) (.int .i64 ((rd_T54 l0 x14_1).f1))).trans hx112_1; (try have hy112_0 := fun (n_ : Nat) => (show ((((w11.drewN n_).setCell ⟨gb111, 0, none⟩ (.int .i64 ((rd_T54 l0 x14_1).f0))).setCell ⟨gb111, 1, none⟩ (.int .i64 ((rd_T54 l0 x14_1).f1)))).cell? _ = some _ from hx112_0)); (try have hy112_1 := fun (n_ : Nat) => (show ((((w11.drewN n_).setCell ⟨gb111, 0, none⟩ (.int .i64 ((rd_T54 l0 x14_1).f0))).setCell ⟨gb111, 1, none⟩ (.int .i64 ((rd_T54 l0 x14_1).f1)))).cell? _ = some _ from hx112_1)); clear hn112_0; clear hn112_1; replace p112 := eq_true p112; replace q112 := eq_true q112)); try go_wp2_with (first | ((with_reducible refine gate_dst (N := 6) rfl ?_); refine box_event ?hg (N := 6) ?hd (cs := #[.int .i64 0, .int .i64 0]) (t := 54) ?hr ?_; (case hd => rfl); (case hg => rfl); (case hr => first | (go_simp; done) | (go_simp; rfl)); intro gb111 hg w11 hbox hb; have n0_ := Aside0.mk (below_step (by repeat (first | (with_reducible first | exact HB.out | apply below_alloc | apply pw_below_drewN | apply below_drew1) | exact HB.out)) hb); have n1_ := Aside0.mk (hbox); have n2_ := Aside0.mk ((by rw [hg]; exact (below_size (by repeat (first | (with_reducible first | exact HB.out | apply below_alloc | apply pw_below_drewN | apply below_drew1) | exact HB.out))) : w.heap.size ≤ gb111)); have n3_ := Aside0.mk ((by rw [hg]; exact (below_size (by repeat (first | (with_reducible first | exact HB.out | apply below_alloc | apply pw_below_drewN | apply below_drew1) | exact HB.out))) : w.heap.size ≤ gb111)); clear HB; have HB := n0_; have BK111 := n1_; have GW111 := n2_; have GE111 := n3_; clear n0_ n1_ n2_ n3_; clear hb hbox hg; have hcz12_0 : w11.cell? ⟨gb111, 0, none⟩ = some (.int .i64 0) := (blk_cell BK111.out 0).trans rfl; have hcz12_1 : w11.cell? ⟨gb111, 1, none⟩ = some (.int .i64 0) := (blk_cell BK111.out 1).trans rfl; have hfz12_0 := blk_frozen BK111.out 0; have hfz12_1 := blk_frozen BK111.out 1; have p112 : 0 ≤ (x14_1 : Int) := of_decide_eq_true (by first | (with_reducible assumption) | assumption); have q112 : x14_1 < (l1.length : Int) := of_decide_eq_true (by first | (with_reducible assumption) | assumption); obtain ⟨ad112, e112, hx112_0, hx112_1⟩ := at_T54 HR1.out x14_1 p112 q112; cases e112; have hn112_0 : ad112.block ≠ gb111 := Nat.ne_of_lt (Nat.lt_of_lt_of_le (by have := World.block_lt_of_cell? _ _ hx112_0; first | rwa [add_block] at this | exact this) GW111.out); have hn112_1 : ad112.block ≠ gb111 := Nat.ne_of_lt (Nat.lt_of_lt_of_le (by have := World.block_lt_of_cell? _ _ hx112_0; first | rwa [add_block] at this | exact this) GW111.out); try replace hx112_0 := (HB.out.cell (World.block_lt_of_cell? w _ hx112_0)).trans hx112_0; try replace hx112_1 := (HB.out.cell (World.block_lt_of_cell? w _ hx112_1)).trans hx112_1; replace hx112_0 := (cell_far (p := ⟨gb111, 0, none⟩) (by first | (rw [add_block]; exact hn112_0) | (show (Addr.add _ _).block ≠ _; rw [add_block]; exact hn112_0) | exact hn112_0) (.int .i64 ((rd_T54 l0 x14_1).f0))).trans hx112_0; replace hx112_1 := (cell_far (p := ⟨gb111, 0, none⟩) (by first | (rw [add_block]; exact hn112_0) | (show (Addr.add _ _).block ≠ _; rw [add_block]; exact hn112_0) | exact hn112_0) (.int .i64 ((rd_T54 l0 x14_1).f0))).trans hx112_1; replace hx112_0 := (cell_far (p := ⟨gb111, 1, none⟩) (by first | (rw [add_block]; exact hn112_1) | (show (Addr.add _ _).block ≠ _; rw [add_block]; exact hn112_1) | exact hn112_1) (.int .i64 ((rd_T54 l0 x14_1).f1))).trans hx112_0; replace hx112_1 := (cell_far (p := ⟨gb111, 1, none⟩) (by first | (rw [add_block]; exact hn112_1) | (show (Addr.add _ _).block ≠ _; rw [add_block]; exact hn112_1) | exact hn112_1) (.int .i64 ((rd_T54 l0 x14_1).f1))).trans hx112_1; (try have hy112_0 := fun (n_ : Nat) => (show ((((w11.drewN n_).setCell ⟨gb111, 0, none⟩ (.int .i64 ((rd_T54 l0 x14_1).f0))).setCell ⟨gb111, 1, none⟩ (.int .i64 ((rd_T54 l0 x14_1).f1)))).cell? _ = some _ from hx112_0)); (try have hy112_1 := fun (n_ : Nat) => (show ((((w11.drewN n_).setCell ⟨gb111, 0, none⟩ (.int .i64 ((rd_T54 l0 x14_1).f0))).setCell ⟨gb111, 1, none⟩ (.int .i64 ((rd_T54 l0 x14_1).f1)))).cell? _ = some _ from hx112_1)); clear hn112_0; clear hn112_1; replace p112 := eq_true p112; replace q112 := eq_true q112)))
                  go_roundg k1
                  case measure => have := HK1.out; omega
                  case rel => exact ⟨(wrap64 (x14_1 + 1)), (by first | rfl | (simp; done) | (simp [*]; done)), H', ⟨by have := HK1.out; omega⟩, ⟨by repeat (first | (with_reducible first | exact HB.out | apply below_alloc | apply pw_below_drewN | apply below_drew1 | refine below_set ?_ GE111.out) | exact HB.out)⟩⟩
              · rw [if_neg c7] at H
                exact absurd H (by simp)
            · rw [if_neg c6] at H
              exact absurd H (by simp)
          · rw [if_neg c5] at H
            exact absurd H (by simp)
        · rw [if_neg c4] at H
          have c4b0 : decide (x14_1 < (l0.length : Int)) = false := decide_eq_false c4
          clear c4
          obtain rfl := Option.some.inj H
          go_wp2
          repeat (go_quiet (fail); try go_wp2)
          go_ret
          exact ⟨by first | rfl | (simp [errW_none, errW_some] <;> rfl) | (simp [*, errW_none, errW_some] <;> rfl), by repeat (first | (with_reducible first | exact HB.out | apply below_alloc | apply pw_below_drewN | apply below_drew1) | exact HB.out)⟩
  · rw [if_neg c3] at H
    have c3b0 : ((l0.length : Int) == (l1.length : Int)) = false := beq_eq_false_iff_ne.mpr c3
    have c3b1 : ((l0.length : Int) != (l1.length : Int)) = true := bne_iff_ne.mpr c3
    have c3b2 : (l0.length == l1.length) = false := by first | simpa using c3 | (simp at c3 ⊢; omega)
    obtain rfl := Option.some.inj H
    go_enter Try.func22, Try.ntmps22
    go_wp2
    repeat (go_quiet (fail); try go_wp2)
    go_ret
    exact ⟨by first | rfl | (simp [errW_none, errW_some] <;> rfl) | (simp [*, errW_none, errW_some] <;> rfl), by repeat (first | (with_reducible first | exact HB.out | apply below_alloc | apply pw_below_drewN | apply below_drew1) | exact HB.out)⟩

/-! ### backstitchlaw3_scanned: function 19 -/
def backstitchlaw3_scanned.f (k : Nat)  : Option (Bool) := (scan_Assign.f (([(⟨0, 9⟩ : S60), (⟨1, 5⟩ : S60), (⟨2, 4⟩ : S60)] : List (S60))) 2).bind fun bt116 => (if bt116.2.2 = 0 then (if bt116.2.1 = 1 then ((api_RPlace_22.f k bt116.1 (([(⟨(-1), 0⟩ : S54), (⟨1, (-1)⟩ : S54), (⟨0, (-1)⟩ : S54)] : List (S54)))).bind fun t124 => (some t124)) else (some false)) else (some false))
theorem backstitchlaw3_scanned.mono : ∀ k, LeO (backstitchlaw3_scanned.f k ) (backstitchlaw3_scanned.f (k + 1) ) := by
  intro  k
  unfold backstitchlaw3_scanned.f
  repeat' first
      | (with_reducible exact api_RPlace_22.mono _ _ _)
      | (with_reducible exact LeO.refl _)
      | (with_reducible exact LeO.none _)
      | (with_reducible refine LeO.ite ?_ ?_)
      | (with_reducible refine LeO.bind ?_ (fun _ => ?_))
      | exact api_RPlace_22.mono _ _ _
      | exact LeO.none _
      | refine LeO.ite ?_ ?_
      | refine LeO.bind ?_ (fun _ => ?_)
set_option maxHeartbeats 8000000 in
set_option maxRecDepth 100000 in
theorem backstitchlaw3_scanned.calls (k : Nat)  (r : Bool) (w : World) (h : backstitchlaw3_scanned.f k  = some r) :
    Calls Try.prog 19 #[] w fun e w' => e = .returned (.bool r) ∧ Below w.heap.size w w' := by
  have hu60 := Try.underlying60
  have hu54 := Try.underlying54
  have HB := Aside0.mk (Below.refl w.heap.size w)
  have H : ((scan_Assign.f (([(⟨0, 9⟩ : S60), (⟨1, 5⟩ : S60), (⟨2, 4⟩ : S60)] : List (S60))) 2).bind fun bt116 => (if bt116.2.2 = 0 then (if bt116.2.1 = 1 then ((api_RPlace_22.f k bt116.1 (([(⟨(-1), 0⟩ : S54), (⟨1, (-1)⟩ : S54), (⟨0, (-1)⟩ : S54)] : List (S54)))).bind fun t124 => (some t124)) else (some false)) else (some false))) = some r := h
  clear h
  obtain ⟨y113, hy113⟩ : ∃ y_ : List (S60), y_ = (([(⟨0, 9⟩ : S60), (⟨1, 5⟩ : S60), (⟨2, 4⟩ : S60)] : List (S60))) := ⟨_, rfl⟩
  replace H : ((scan_Assign.f y113 2).bind fun bt116 => (if bt116.2.2 = 0 then (if bt116.2.1 = 1 then ((api_RPlace_22.f k bt116.1 (([(⟨(-1), 0⟩ : S54), (⟨1, (-1)⟩ : S54), (⟨0, (-1)⟩ : S54)] : List (S54)))).bind fun t124 => (some t124)) else (some false)) else (some false))) = some r := by first | (rw [hy113]; with_reducible exact H) | (have H2_ := (Option.bind_some _ _).symm.trans H; rw [hy113]; with_reducible exact H2_) | (have H2_ := (Option.bind_some _ _).symm.trans H; with_reducible exact H2_) | with_reducible exact H | (rw [hy113]; exact H) | exact H
  have Ny113 := Aside0.mk hy113
  clear hy113
  replace H := Option.bind_eq_some_iff.mp H
  obtain ⟨⟨t116, t117, t118⟩, A10, H⟩ := H
  replace H : (if t118 = 0 then (if t117 = 1 then ((api_RPlace_22.f k t116 (([(⟨(-1), 0⟩ : S54), (⟨1, (-1)⟩ : S54), (⟨0, (-1)⟩ : S54)] : List (S54)))).bind fun t124 => (some t124)) else (some false)) else (some false)) = some r := H
  have A1 := Aside0.mk A10
  clear A10
  by_cases c2 : t118 = 0
  · rw [if_pos c2] at H
    have c2b0 : (t118 == 0) = true := beq_iff_eq.mpr c2
    have c2b1 : (t118 != 0) = false := bne_eq_false_iff_eq.mpr c2
    clear c2
    by_cases c3 : t117 = 1
    · rw [if_pos c3] at H
      have c3b0 : (t117 == 1) = true := beq_iff_eq.mpr c3
      have c3b1 : (t117 != 1) = false := bne_eq_false_iff_eq.mpr c3
      clear c3
      obtain ⟨y121, hy121⟩ : ∃ y_ : List (S54), y_ = (([(⟨(-1), 0⟩ : S54), (⟨1, (-1)⟩ : S54), (⟨0, (-1)⟩ : S54)] : List (S54))) := ⟨_, rfl⟩
      replace H : ((api_RPlace_22.f k t116 y121).bind fun t124 => (some t124)) = some r := by first | (rw [hy121]; with_reducible exact H) | (have H2_ := (Option.bind_some _ _).symm.trans H; rw [hy121]; with_reducible exact H2_) | (have H2_ := (Option.bind_some _ _).symm.trans H; with_reducible exact H2_) | with_reducible exact H | (rw [hy121]; exact H) | exact H
      have Ny121 := Aside0.mk hy121
      clear hy121
      replace H := Option.bind_eq_some_iff.mp H
      obtain ⟨t124, A40, H⟩ := H
      replace H : (some t124) = some r := H
      have A4 := Aside0.mk A40
      clear A40
      obtain rfl := Option.some.inj H
      go_enter Try.func19, Try.ntmps19
      go_wp2_with (first | ((with_reducible refine gate_dst (N := 8) rfl ?_); (try (refine gate_guard (by rfl) ?_; dsimp only)); refine Kd.R_lit k60 _ 60 ?hg (N := 8) ?hd (xs := ([(⟨0, 9⟩ : S60), (⟨1, 5⟩ : S60), (⟨2, 4⟩ : S60)] : List (S60))) (inner := [.int .i64 0, .int .i64 9, .int .i64 1, .int .i64 5, .int .i64 2, .int .i64 4]) (ok := fun _ => True) (okp := fun _ => True) ?hr ?hp (fun _ hk => hk) trivial (Below.refl _ _) (Nat.le_refl _) (by simp) ?_; (case hd => rfl); (case hg => rfl); (case hr => first | (go_simp; done) | (go_simp; rfl)); (case hp => exact (Reps.c2 (show Kd.M k60 _ _ _ (⟨0, 9⟩ : S60) [.int .i64 0, .int .i64 9] from (k60_mkM _ _ _ (⟨0, 9⟩ : S60) )) (Reps.c2 (show Kd.M k60 _ _ _ (⟨1, 5⟩ : S60) [.int .i64 1, .int .i64 5] from (k60_mkM _ _ _ (⟨1, 5⟩ : S60) )) (Reps.c2 (show Kd.M k60 _ _ _ (⟨2, 4⟩ : S60) [.int .i64 2, .int .i64 4] from (k60_mkM _ _ _ (⟨2, 4⟩ : S60) )) (Reps.none _ _))))); intro v114 w5 ho6 hb hg_ hnew_; clear hg_ hnew_; (first | rw [← Ny113.out] at ho6 | (simp only [Int.reduceToNat] at ho6; rw [← Ny113.out] at ho6)); have n0_ := Aside0.mk (Kd.R_lower ho6 (below_size (by repeat (first | (with_reducible first | exact HB.out | apply below_alloc | apply pw_below_drewN | apply below_drew1) | exact HB.out)))); have n1_ := Aside0.mk (below_step (by repeat (first | (with_reducible first | exact HB.out | apply below_alloc | apply pw_below_drewN | apply below_drew1) | exact HB.out)) hb); clear HB; have HO115 := n0_; have HB := n1_; clear n0_ n1_; clear hb ho6; obtain ⟨Ao7, co7, eo7⟩ := Kd.R_slice HO115.out; subst eo7) | ((with_reducible refine gate_callee (f := 20) rfl ?_); refine goesL_ (some 9) rfl rfl Try.func20 (by kernel_rfl) rfl #[.slice Ao7 y113.length co7, .int .i64 2] rfl (by (try simp only [List.map_toArray, List.map_cons, List.map_nil]); first | done | rfl | (simp only [List.length_drop, List.length_take]; rfl)) ?_; (with_reducible refine (scan_Assign.calls _ _ y113 2 t116 t117 t118 _ ?side1 ?side2 A1.out).mono ?_); (case side1 => repeat (first | exact (Kd.R_reads' HO115.out).2.2 | (with_reducible refine Kd.C_alloc ?_ _) | (with_reducible refine Kd.C_drewN ?_ _) | (with_reducible refine Kd.C_drew ?_))); (case side2 => exact (Kd.R_reads' HO115.out).2.1); rintro e w8 ⟨v119, rfl, ho0, hb⟩; refine ⟨_, rfl, ?_⟩; have n0_ := Aside0.mk (Kd.R_below (by (with_reducible repeat (first | apply Kd.R_alloc | apply Kd.R_drewN | apply Kd.R_drew)); exact HO115.out) hb); have n1_ := Aside0.mk (Kd.R_lower ho0 (below_size (by repeat (first | (with_reducible first | exact HB.out | apply below_alloc | apply pw_below_drewN | apply below_drew1) | exact HB.out)))); have n2_ := Aside0.mk (below_step (by repeat (first | (with_reducible first | exact HB.out | apply below_alloc | apply pw_below_drewN | apply below_drew1) | exact HB.out)) hb); clear HO115; clear HB; have HO115 := n0_; have HO120 := n1_; have HB := n2_; clear n0_ n1_ n2_; (try clear hb); (try clear hb2); (try clear hk); (try clear hi); (try clear ho0)) | ((with_reducible refine gate_dst (N := 24) rfl ?_); (try (refine gate_guard (by rfl) ?_; dsimp only)); refine Kd.R_lit k54 _ 54 ?hg (N := 24) ?hd (xs := ([(⟨(-1), 0⟩ : S54), (⟨1, (-1)⟩ : S54), (⟨0, (-1)⟩ : S54)] : List (S54))) (inner := [.int .i64 (-1), .int .i64 0, .int .i64 1, .int .i64 (-1), .int .i64 0, .int .i64 (-1)]) (ok := fun _ => True) (okp := fun _ => True) ?hr ?hp (fun _ hk => hk) trivial (Below.refl _ _) (Nat.le_refl _) (by simp) ?_; (case hd => rfl); (case hg => rfl); (case hr => first | (go_simp; done) | (go_simp; rfl)); (case hp => exact (Reps.c2 (show Kd.M k54 _ _ _ (⟨(-1), 0⟩ : S54) [.int .i64 (-1), .int .i64 0] from (k54_mkM _ _ _ (⟨(-1), 0⟩ : S54) )) (Reps.c2 (show Kd.M k54 _ _ _ (⟨1, (-1)⟩ : S54) [.int .i64 1, .int .i64 (-1)] from (k54_mkM _ _ _ (⟨1, (-1)⟩ : S54) )) (Reps.c2 (show Kd.M k54 _ _ _ (⟨0, (-1)⟩ : S54) [.int .i64 0, .int .i64 (-1)] from (k54_mkM _ _ _ (⟨0, (-1)⟩ : S54) )) (Reps.none _ _))))); intro v122 w9 ho10 hb hg_ hnew_; clear hg_ hnew_; (first | rw [← Ny121.out] at ho10 | (simp only [Int.reduceToNat] at ho10; rw [← Ny121.out] at ho10)); have n0_ := Aside0.mk (Kd.R_below (by (with_reducible repeat (first | apply Kd.R_alloc | apply Kd.R_drewN | apply Kd.R_drew)); exact HO115.out) hb); have n1_ := Aside0.mk (Kd.R_elder' (by (with_reducible repeat (first | apply Kd.R_alloc | apply Kd.R_drewN | apply Kd.R_drew)); exact HO120.out) (Kd.R_base ho10) hb); have n2_ := Aside0.mk (Kd.R_lower (Kd.R_new' ho10 (Kd.R_lt (by (with_reducible repeat (first | apply Kd.R_alloc | apply Kd.R_drewN | apply Kd.R_drew)); exact HO120.out))) (below_size (by repeat (first | (with_reducible first | exact HB.out | apply below_alloc | apply pw_below_drewN | apply below_drew1) | exact HB.out)))); have n3_ := Aside0.mk (below_step (by repeat (first | (with_reducible first | exact HB.out | apply below_alloc | apply pw_below_drewN | apply below_drew1) | exact HB.out)) hb); clear HO115; clear HO120; clear HB; have HO115 := n0_; have HO120 := n1_; have HO123 := n2_; have HB := n3_; clear n0_ n1_ n2_ n3_; clear hb ho10; obtain ⟨Ao11, co11, eo11⟩ := Kd.R_slice HO120.out; subst eo11; obtain ⟨Ao12, co12, eo12⟩ := Kd.R_slice HO123.out; subst eo12) | (go_at_call 22; (with_reducible refine (api_RPlace_22.calls k _ _ t116 _ _ y121 t124 _ ?side1 ?side2 ?side3 ?side4 A4.out).mono ?_); (case side1 => repeat (first | exact (Kd.R_reads' HO120.out).2.2 | (with_reducible refine Kd.C_alloc ?_ _) | (with_reducible refine Kd.C_drewN ?_ _) | (with_reducible refine Kd.C_drew ?_))); (case side2 => exact (Kd.R_reads' HO120.out).2.1); (case side3 => repeat (first | exact (Kd.R_reads' HO123.out).2.2 | (with_reducible refine Kd.C_alloc ?_ _) | (with_reducible refine Kd.C_drewN ?_ _) | (with_reducible refine Kd.C_drew ?_))); (case side4 => exact (Kd.R_reads' HO123.out).2.1); rintro e w13 ⟨rfl, hb⟩; have n0_ := Aside0.mk (Kd.R_below (by (with_reducible repeat (first | apply Kd.R_alloc | apply Kd.R_drewN | apply Kd.R_drew)); exact HO115.out) hb); have n1_ := Aside0.mk (Kd.R_below (by (with_reducible repeat (first | apply Kd.R_alloc | apply Kd.R_drewN | apply Kd.R_drew)); exact HO120.out) hb); have n2_ := Aside0.mk (Kd.R_below (by (with_reducible repeat (first | apply Kd.R_alloc | apply Kd.R_drewN | apply Kd.R_drew)); exact HO123.out) hb); have n3_ := Aside0.mk (below_step (by repeat (first | (with_reducible first | exact HB.out | apply below_alloc | apply pw_below_drewN | apply below_drew1) | exact HB.out)) hb); clear HO115; clear HO120; clear HO123; clear HB; have HO115 := n0_; have HO120 := n1_; have HO123 := n2_; have HB := n3_; clear n0_ n1_ n2_ n3_; (try clear hb); (try clear hb2); (try clear hk); (try clear hi)))
      go_ret
      exact ⟨by first | rfl | (simp [errW_none, errW_some] <;> rfl) | (simp [*, errW_none, errW_some] <;> rfl), by repeat (first | (with_reducible first | exact HB.out | apply below_alloc | apply pw_below_drewN | apply below_drew1) | exact HB.out)⟩
    · rw [if_neg c3] at H
      have c3b0 : (t117 == 1) = false := beq_eq_false_iff_ne.mpr c3
      have c3b1 : (t117 != 1) = true := bne_iff_ne.mpr c3
      obtain rfl := Option.some.inj H
      go_enter Try.func19, Try.ntmps19
      go_wp2_with (first | ((with_reducible refine gate_dst (N := 8) rfl ?_); (try (refine gate_guard (by rfl) ?_; dsimp only)); refine Kd.R_lit k60 _ 60 ?hg (N := 8) ?hd (xs := ([(⟨0, 9⟩ : S60), (⟨1, 5⟩ : S60), (⟨2, 4⟩ : S60)] : List (S60))) (inner := [.int .i64 0, .int .i64 9, .int .i64 1, .int .i64 5, .int .i64 2, .int .i64 4]) (ok := fun _ => True) (okp := fun _ => True) ?hr ?hp (fun _ hk => hk) trivial (Below.refl _ _) (Nat.le_refl _) (by simp) ?_; (case hd => rfl); (case hg => rfl); (case hr => first | (go_simp; done) | (go_simp; rfl)); (case hp => exact (Reps.c2 (show Kd.M k60 _ _ _ (⟨0, 9⟩ : S60) [.int .i64 0, .int .i64 9] from (k60_mkM _ _ _ (⟨0, 9⟩ : S60) )) (Reps.c2 (show Kd.M k60 _ _ _ (⟨1, 5⟩ : S60) [.int .i64 1, .int .i64 5] from (k60_mkM _ _ _ (⟨1, 5⟩ : S60) )) (Reps.c2 (show Kd.M k60 _ _ _ (⟨2, 4⟩ : S60) [.int .i64 2, .int .i64 4] from (k60_mkM _ _ _ (⟨2, 4⟩ : S60) )) (Reps.none _ _))))); intro v114 w14 ho15 hb hg_ hnew_; clear hg_ hnew_; (first | rw [← Ny113.out] at ho15 | (simp only [Int.reduceToNat] at ho15; rw [← Ny113.out] at ho15)); have n0_ := Aside0.mk (Kd.R_lower ho15 (below_size (by repeat (first | (with_reducible first | exact HB.out | apply below_alloc | apply pw_below_drewN | apply below_drew1) | exact HB.out)))); have n1_ := Aside0.mk (below_step (by repeat (first | (with_reducible first | exact HB.out | apply below_alloc | apply pw_below_drewN | apply below_drew1) | exact HB.out)) hb); clear HB; have HO115 := n0_; have HB := n1_; clear n0_ n1_; clear hb ho15; obtain ⟨Ao16, co16, eo16⟩ := Kd.R_slice HO115.out; subst eo16) | ((with_reducible refine gate_callee (f := 20) rfl ?_); refine goesL_ (some 9) rfl rfl Try.func20 (by kernel_rfl) rfl #[.slice Ao16 y113.length co16, .int .i64 2] rfl (by (try simp only [List.map_toArray, List.map_cons, List.map_nil]); first | done | rfl | (simp only [List.length_drop, List.length_take]; rfl)) ?_; (with_reducible refine (scan_Assign.calls _ _ y113 2 t116 t117 t118 _ ?side1 ?side2 A1.out).mono ?_); (case side1 => repeat (first | exact (Kd.R_reads' HO115.out).2.2 | (with_reducible refine Kd.C_alloc ?_ _) | (with_reducible refine Kd.C_drewN ?_ _) | (with_reducible refine Kd.C_drew ?_))); (case side2 => exact (Kd.R_reads' HO115.out).2.1); rintro e w17 ⟨v119, rfl, ho0, hb⟩; refine ⟨_, rfl, ?_⟩; have n0_ := Aside0.mk (Kd.R_below (by (with_reducible repeat (first | apply Kd.R_alloc | apply Kd.R_drewN | apply Kd.R_drew)); exact HO115.out) hb); have n1_ := Aside0.mk (Kd.R_lower ho0 (below_size (by repeat (first | (with_reducible first | exact HB.out | apply below_alloc | apply pw_below_drewN | apply below_drew1) | exact HB.out)))); have n2_ := Aside0.mk (below_step (by repeat (first | (with_reducible first | exact HB.out | apply below_alloc | apply pw_below_drewN | apply below_drew1) | exact HB.out)) hb); clear HO115; clear HB; have HO115 := n0_; have HO120 := n1_; have HB := n2_; clear n0_ n1_ n2_; (try clear hb); (try clear hb2); (try clear hk); (try clear hi); (try clear ho0)))
      go_ret
      exact ⟨by first | rfl | (simp [errW_none, errW_some] <;> rfl) | (simp [*, errW_none, errW_some] <;> rfl), by repeat (first | (with_reducible first | exact HB.out | apply below_alloc | apply pw_below_drewN | apply below_drew1) | exact HB.out)⟩
  · rw [if_neg c2] at H
    have c2b0 : (t118 == 0) = false := beq_eq_false_iff_ne.mpr c2
    have c2b1 : (t118 != 0) = true := bne_iff_ne.mpr c2
    obtain rfl := Option.some.inj H
    go_enter Try.func19, Try.ntmps19
    go_wp2_with (first | ((with_reducible refine gate_dst (N := 8) rfl ?_); (try (refine gate_guard (by rfl) ?_; dsimp only)); refine Kd.R_lit k60 _ 60 ?hg (N := 8) ?hd (xs := ([(⟨0, 9⟩ : S60), (⟨1, 5⟩ : S60), (⟨2, 4⟩ : S60)] : List (S60))) (inner := [.int .i64 0, .int .i64 9, .int .i64 1, .int .i64 5, .int .i64 2, .int .i64 4]) (ok := fun _ => True) (okp := fun _ => True) ?hr ?hp (fun _ hk => hk) trivial (Below.refl _ _) (Nat.le_refl _) (by simp) ?_; (case hd => rfl); (case hg => rfl); (case hr => first | (go_simp; done) | (go_simp; rfl)); (case hp => exact (Reps.c2 (show Kd.M k60 _ _ _ (⟨0, 9⟩ : S60) [.int .i64 0, .int .i64 9] from (k60_mkM _ _ _ (⟨0, 9⟩ : S60) )) (Reps.c2 (show Kd.M k60 _ _ _ (⟨1, 5⟩ : S60) [.int .i64 1, .int .i64 5] from (k60_mkM _ _ _ (⟨1, 5⟩ : S60) )) (Reps.c2 (show Kd.M k60 _ _ _ (⟨2, 4⟩ : S60) [.int .i64 2, .int .i64 4] from (k60_mkM _ _ _ (⟨2, 4⟩ : S60) )) (Reps.none _ _))))); intro v114 w18 ho19 hb hg_ hnew_; clear hg_ hnew_; (first | rw [← Ny113.out] at ho19 | (simp only [Int.reduceToNat] at ho19; rw [← Ny113.out] at ho19)); have n0_ := Aside0.mk (Kd.R_lower ho19 (below_size (by repeat (first | (with_reducible first | exact HB.out | apply below_alloc | apply pw_below_drewN | apply below_drew1) | exact HB.out)))); have n1_ := Aside0.mk (below_step (by repeat (first | (with_reducible first | exact HB.out | apply below_alloc | apply pw_below_drewN | apply below_drew1) | exact HB.out)) hb); clear HB; have HO115 := n0_; have HB := n1_; clear n0_ n1_; clear hb ho19; obtain ⟨Ao20, co20, eo20⟩ := Kd.R_slice HO115.out; subst eo20) | ((with_reducible refine gate_callee (f := 20) rfl ?_); refine goesL_ (some 9) rfl rfl Try.func20 (by kernel_rfl) rfl #[.slice Ao20 y113.length co20, .int .i64 2] rfl (by (try simp only [List.map_toArray, List.map_cons, List.map_nil]); first | done | rfl | (simp only [List.length_drop, List.length_take]; rfl)) ?_; (with_reducible refine (scan_Assign.calls _ _ y113 2 t116 t117 t118 _ ?side1 ?side2 A1.out).mono ?_); (case side1 => repeat (first | exact (Kd.R_reads' HO115.out).2.2 | (with_reducible refine Kd.C_alloc ?_ _) | (with_reducible refine Kd.C_drewN ?_ _) | (with_reducible refine Kd.C_drew ?_))); (case side2 => exact (Kd.R_reads' HO115.out).2.1); rintro e w21 ⟨v119, rfl, ho0, hb⟩; refine ⟨_, rfl, ?_⟩; have n0_ := Aside0.mk (Kd.R_below (by (with_reducible repeat (first | apply Kd.R_alloc | apply Kd.R_drewN | apply Kd.R_drew)); exact HO115.out) hb); have n1_ := Aside0.mk (Kd.R_lower ho0 (below_size (by repeat (first | (with_reducible first | exact HB.out | apply below_alloc | apply pw_below_drewN | apply below_drew1) | exact HB.out)))); have n2_ := Aside0.mk (below_step (by repeat (first | (with_reducible first | exact HB.out | apply below_alloc | apply pw_below_drewN | apply below_drew1) | exact HB.out)) hb); clear HO115; clear HB; have HO115 := n0_; have HO120 := n1_; have HB := n2_; clear n0_ n1_ n2_; (try clear hb); (try clear hb2); (try clear hk); (try clear hi); (try clear ho0)))
    go_ret
    exact ⟨by first | rfl | (simp [errW_none, errW_some] <;> rfl) | (simp [*, errW_none, errW_some] <;> rfl), by repeat (first | (with_reducible first | exact HB.out | apply below_alloc | apply pw_below_drewN | apply below_drew1) | exact HB.out)⟩

/-! ### scan_same: function 95 -/
def scan_same.f (a0_0 : Int) (a0_1 : Int) (a1_0 : Int) (a1_1 : Int) : Option (Bool) := if a0_0 ≥ 0 then (some (a0_0 == a1_0)) else (if a1_0 ≥ 0 then (some (a0_0 == a1_0)) else (if a0_0 = (-1) then (if a1_0 = (-1) then (if a0_1 ≥ 0 then (some (a0_1 == a1_1)) else (some false)) else (some false)) else (some false)))
set_option maxHeartbeats 8000000 in
set_option maxRecDepth 100000 in
theorem scan_same.calls (a0_0 : Int) (a0_1 : Int) (a1_0 : Int) (a1_1 : Int) (r : Bool) (w : World) (h : scan_same.f a0_0 a0_1 a1_0 a1_1 = some r) :
    Calls Try.prog 95 #[.agg #[.int .i64 a0_0, .int .i64 a0_1], .agg #[.int .i64 a1_0, .int .i64 a1_1]] w fun e w' => e = .returned (.bool r) ∧ Below w.heap.size w w' := by
  have hu54 := Try.underlying54
  have HB := Aside0.mk (Below.refl w.heap.size w)
  have H : (if a0_0 ≥ 0 then (some (a0_0 == a1_0)) else (if a1_0 ≥ 0 then (some (a0_0 == a1_0)) else (if a0_0 = (-1) then (if a1_0 = (-1) then (if a0_1 ≥ 0 then (some (a0_1 == a1_1)) else (some false)) else (some false)) else (some false)))) = some r := h
  clear h
  by_cases c3 : a0_0 ≥ 0
  · rw [if_pos c3] at H
    have c3b0 : decide (0 ≤ a0_0) = true := decide_eq_true c3
    clear c3
    obtain rfl := Option.some.inj H
    go_enter Try.func95, Try.ntmps95
    go_wp2_with (first | ((with_reducible refine gate_dst (N := 2) rfl ?_); refine box_event ?hg (N := 2) ?hd (cs := #[.int .i64 a0_0, .int .i64 a0_1]) (t := 54) ?hr ?_; (case hd => rfl); (case hg => rfl); (case hr => first | (go_simp; done) | (go_simp; rfl)); intro gb125 hg w4 hbox hb; have n0_ := Aside0.mk (below_step (by repeat (first | (with_reducible first | exact HB.out | apply below_alloc | apply pw_below_drewN | apply below_drew1) | exact HB.out)) hb); have n1_ := Aside0.mk (hbox); have n2_ := Aside0.mk ((by rw [hg]; exact (below_size (by repeat (first | (with_reducible first | exact HB.out | apply below_alloc | apply pw_below_drewN | apply below_drew1) | exact HB.out))) : w.heap.size ≤ gb125)); have n3_ := Aside0.mk ((by rw [hg]; exact (below_size (by repeat (first | (with_reducible first | exact HB.out | apply below_alloc | apply pw_below_drewN | apply below_drew1) | exact HB.out))) : w.heap.size ≤ gb125)); clear HB; have HB := n0_; have BK125 := n1_; have GW125 := n2_; have GE125 := n3_; clear n0_ n1_ n2_ n3_; clear hb hbox hg) | ((with_reducible refine gate_dst (N := 3) rfl ?_); refine box_event ?hg (N := 3) ?hd (cs := #[.int .i64 a1_0, .int .i64 a1_1]) (t := 54) ?hr ?_; (case hd => rfl); (case hg => rfl); (case hr => first | (go_simp; done) | (go_simp; rfl)); intro gb126 hg w5 hbox hb; have n0_ := Aside0.mk (blk_below (g := gb125) (o := .cells #[.int .i64 a0_0, .int .i64 a0_1] 54 (0, 0)) (by (with_reducible repeat (first | refine blk_drewN ?_ _ | refine blk_drew ?_ | refine blk_alloc ?_ _)); exact BK125.out) hb); have n1_ := Aside0.mk (below_step (by repeat (first | (with_reducible first | exact HB.out | apply below_alloc | apply pw_below_drewN | apply below_drew1 | refine below_set ?_ GE125.out) | exact HB.out)) hb); have n2_ := Aside0.mk (hbox); have n3_ := Aside0.mk ((by rw [hg]; exact (below_size (by repeat (first | (with_reducible first | exact HB.out | apply below_alloc | apply pw_below_drewN | apply below_drew1 | refine below_set ?_ GE125.out) | exact HB.out))) : w.heap.size ≤ gb126)); have n4_ := Aside0.mk ((by rw [hg]; exact (below_size (by repeat (first | (with_reducible first | exact HB.out | apply below_alloc | apply pw_below_drewN | apply below_drew1 | refine below_set ?_ GE125.out) | exact HB.out))) : w.heap.size ≤ gb126)); have n5_ := Aside0.mk ((by rw [hg]; exact Nat.ne_of_lt (blk_lt (g := gb125) (o := .cells #[.int .i64 a0_0, .int .i64 a0_1] 54 (0, 0)) (by (with_reducible repeat (first | refine blk_drewN ?_ _ | refine blk_drew ?_ | refine blk_alloc ?_ _)); exact BK125.out)) : gb125 ≠ gb126)); have n6_ := Aside0.mk ((by rw [hg]; exact Nat.ne_of_gt (blk_lt (g := gb125) (o := .cells #[.int .i64 a0_0, .int .i64 a0_1] 54 (0, 0)) (by (with_reducible repeat (first | refine blk_drewN ?_ _ | refine blk_drew ?_ | refine blk_alloc ?_ _)); exact BK125.out)) : gb126 ≠ gb125)); clear BK125; clear HB; have BK125 := n0_; have HB := n1_; have BK126 := n2_; have GW126 := n3_; have GE126 := n4_; have NB125_126 := n5_; have NB126_125 := n6_; clear n0_ n1_ n2_ n3_ n4_ n5_ n6_; clear hb hbox hg; have hnb6 := NB125_126.out; have hnc6 := NB126_125.out; have hcz7_0 : w5.cell? ⟨gb125, 0, none⟩ = some (.int .i64 a0_0) := (blk_cell BK125.out 0).trans rfl; have hcz7_1 : w5.cell? ⟨gb125, 1, none⟩ = some (.int .i64 a0_1) := (blk_cell BK125.out 1).trans rfl; have hfz7_0 := blk_frozen BK125.out 0; have hfz7_1 := blk_frozen BK125.out 1; have hcz8_0 : w5.cell? ⟨gb126, 0, none⟩ = some (.int .i64 a1_0) := (blk_cell BK126.out 0).trans rfl; have hcz8_1 : w5.cell? ⟨gb126, 1, none⟩ = some (.int .i64 a1_1) := (blk_cell BK126.out 1).trans rfl; have hfz8_0 := blk_frozen BK126.out 0; have hfz8_1 := blk_frozen BK126.out 1))
    go_ret
    exact ⟨by first | rfl | (simp [errW_none, errW_some] <;> rfl) | (simp [*, errW_none, errW_some] <;> rfl), by repeat (first | (with_reducible first | exact HB.out | apply below_alloc | apply pw_below_drewN | apply below_drew1 | refine below_set ?_ GE125.out | refine below_set ?_ GE126.out) | exact HB.out)⟩
  · rw [if_neg c3] at H
    have c3b0 : decide (0 ≤ a0_0) = false := decide_eq_false c3
    clear c3
    by_cases c9 : a1_0 ≥ 0
    · rw [if_pos c9] at H
      have c9b0 : decide (0 ≤ a1_0) = true := decide_eq_true c9
      clear c9
      obtain rfl := Option.some.inj H
      go_enter Try.func95, Try.ntmps95
      go_wp2_with (first | ((with_reducible refine gate_dst (N := 2) rfl ?_); refine box_event ?hg (N := 2) ?hd (cs := #[.int .i64 a0_0, .int .i64 a0_1]) (t := 54) ?hr ?_; (case hd => rfl); (case hg => rfl); (case hr => first | (go_simp; done) | (go_simp; rfl)); intro gb125 hg w10 hbox hb; have n0_ := Aside0.mk (below_step (by repeat (first | (with_reducible first | exact HB.out | apply below_alloc | apply pw_below_drewN | apply below_drew1) | exact HB.out)) hb); have n1_ := Aside0.mk (hbox); have n2_ := Aside0.mk ((by rw [hg]; exact (below_size (by repeat (first | (with_reducible first | exact HB.out | apply below_alloc | apply pw_below_drewN | apply below_drew1) | exact HB.out))) : w.heap.size ≤ gb125)); have n3_ := Aside0.mk ((by rw [hg]; exact (below_size (by repeat (first | (with_reducible first | exact HB.out | apply below_alloc | apply pw_below_drewN | apply below_drew1) | exact HB.out))) : w.heap.size ≤ gb125)); clear HB; have HB := n0_; have BK125 := n1_; have GW125 := n2_; have GE125 := n3_; clear n0_ n1_ n2_ n3_; clear hb hbox hg) | ((with_reducible refine gate_dst (N := 3) rfl ?_); refine box_event ?hg (N := 3) ?hd (cs := #[.int .i64 a1_0, .int .i64 a1_1]) (t := 54) ?hr ?_; (case hd => rfl); (case hg => rfl); (case hr => first | (go_simp; done) | (go_simp; rfl)); intro gb126 hg w11 hbox hb; have n0_ := Aside0.mk (blk_below (g := gb125) (o := .cells #[.int .i64 a0_0, .int .i64 a0_1] 54 (0, 0)) (by (with_reducible repeat (first | refine blk_drewN ?_ _ | refine blk_drew ?_ | refine blk_alloc ?_ _)); exact BK125.out) hb); have n1_ := Aside0.mk (below_step (by repeat (first | (with_reducible first | exact HB.out | apply below_alloc | apply pw_below_drewN | apply below_drew1 | refine below_set ?_ GE125.out) | exact HB.out)) hb); have n2_ := Aside0.mk (hbox); have n3_ := Aside0.mk ((by rw [hg]; exact (below_size (by repeat (first | (with_reducible first | exact HB.out | apply below_alloc | apply pw_below_drewN | apply below_drew1 | refine below_set ?_ GE125.out) | exact HB.out))) : w.heap.size ≤ gb126)); have n4_ := Aside0.mk ((by rw [hg]; exact (below_size (by repeat (first | (with_reducible first | exact HB.out | apply below_alloc | apply pw_below_drewN | apply below_drew1 | refine below_set ?_ GE125.out) | exact HB.out))) : w.heap.size ≤ gb126)); have n5_ := Aside0.mk ((by rw [hg]; exact Nat.ne_of_lt (blk_lt (g := gb125) (o := .cells #[.int .i64 a0_0, .int .i64 a0_1] 54 (0, 0)) (by (with_reducible repeat (first | refine blk_drewN ?_ _ | refine blk_drew ?_ | refine blk_alloc ?_ _)); exact BK125.out)) : gb125 ≠ gb126)); have n6_ := Aside0.mk ((by rw [hg]; exact Nat.ne_of_gt (blk_lt (g := gb125) (o := .cells #[.int .i64 a0_0, .int .i64 a0_1] 54 (0, 0)) (by (with_reducible repeat (first | refine blk_drewN ?_ _ | refine blk_drew ?_ | refine blk_alloc ?_ _)); exact BK125.out)) : gb126 ≠ gb125)); clear BK125; clear HB; have BK125 := n0_; have HB := n1_; have BK126 := n2_; have GW126 := n3_; have GE126 := n4_; have NB125_126 := n5_; have NB126_125 := n6_; clear n0_ n1_ n2_ n3_ n4_ n5_ n6_; clear hb hbox hg; have hnb12 := NB125_126.out; have hnc12 := NB126_125.out; have hcz13_0 : w11.cell? ⟨gb125, 0, none⟩ = some (.int .i64 a0_0) := (blk_cell BK125.out 0).trans rfl; have hcz13_1 : w11.cell? ⟨gb125, 1, none⟩ = some (.int .i64 a0_1) := (blk_cell BK125.out 1).trans rfl; have hfz13_0 := blk_frozen BK125.out 0; have hfz13_1 := blk_frozen BK125.out 1; have hcz14_0 : w11.cell? ⟨gb126, 0, none⟩ = some (.int .i64 a1_0) := (blk_cell BK126.out 0).trans rfl; have hcz14_1 : w11.cell? ⟨gb126, 1, none⟩ = some (.int .i64 a1_1) := (blk_cell BK126.out 1).trans rfl; have hfz14_0 := blk_frozen BK126.out 0; have hfz14_1 := blk_frozen BK126.out 1))
      go_ret
      exact ⟨by first | rfl | (simp [errW_none, errW_some] <;> rfl) | (simp [*, errW_none, errW_some] <;> rfl), by repeat (first | (with_reducible first | exact HB.out | apply below_alloc | apply pw_below_drewN | apply below_drew1 | refine below_set ?_ GE125.out | refine below_set ?_ GE126.out) | exact HB.out)⟩
    · rw [if_neg c9] at H
      have c9b0 : decide (0 ≤ a1_0) = false := decide_eq_false c9
      clear c9
      by_cases c15 : a0_0 = (-1)
      · rw [if_pos c15] at H
        have c15b0 : (a0_0 == (-1)) = true := beq_iff_eq.mpr c15
        have c15b1 : (a0_0 != (-1)) = false := bne_eq_false_iff_eq.mpr c15
        clear c15
        by_cases c16 : a1_0 = (-1)
        · rw [if_pos c16] at H
          have c16b0 : (a1_0 == (-1)) = true := beq_iff_eq.mpr c16
          have c16b1 : (a1_0 != (-1)) = false := bne_eq_false_iff_eq.mpr c16
          clear c16
          by_cases c17 : a0_1 ≥ 0
          · rw [if_pos c17] at H
            have c17b0 : decide (0 ≤ a0_1) = true := decide_eq_true c17
            clear c17
            obtain rfl := Option.some.inj H
            go_enter Try.func95, Try.ntmps95
            go_wp2_with (first | ((with_reducible refine gate_dst (N := 2) rfl ?_); refine box_event ?hg (N := 2) ?hd (cs := #[.int .i64 a0_0, .int .i64 a0_1]) (t := 54) ?hr ?_; (case hd => rfl); (case hg => rfl); (case hr => first | (go_simp; done) | (go_simp; rfl)); intro gb125 hg w18 hbox hb; have n0_ := Aside0.mk (below_step (by repeat (first | (with_reducible first | exact HB.out | apply below_alloc | apply pw_below_drewN | apply below_drew1) | exact HB.out)) hb); have n1_ := Aside0.mk (hbox); have n2_ := Aside0.mk ((by rw [hg]; exact (below_size (by repeat (first | (with_reducible first | exact HB.out | apply below_alloc | apply pw_below_drewN | apply below_drew1) | exact HB.out))) : w.heap.size ≤ gb125)); have n3_ := Aside0.mk ((by rw [hg]; exact (below_size (by repeat (first | (with_reducible first | exact HB.out | apply below_alloc | apply pw_below_drewN | apply below_drew1) | exact HB.out))) : w.heap.size ≤ gb125)); clear HB; have HB := n0_; have BK125 := n1_; have GW125 := n2_; have GE125 := n3_; clear n0_ n1_ n2_ n3_; clear hb hbox hg) | ((with_reducible refine gate_dst (N := 3) rfl ?_); refine box_event ?hg (N := 3) ?hd (cs := #[.int .i64 a1_0, .int .i64 a1_1]) (t := 54) ?hr ?_; (case hd => rfl); (case hg => rfl); (case hr => first | (go_simp; done) | (go_simp; rfl)); intro gb126 hg w19 hbox hb; have n0_ := Aside0.mk (blk_below (g := gb125) (o := .cells #[.int .i64 a0_0, .int .i64 a0_1] 54 (0, 0)) (by (with_reducible repeat (first | refine blk_drewN ?_ _ | refine blk_drew ?_ | refine blk_alloc ?_ _)); exact BK125.out) hb); have n1_ := Aside0.mk (below_step (by repeat (first | (with_reducible first | exact HB.out | apply below_alloc | apply pw_below_drewN | apply below_drew1 | refine below_set ?_ GE125.out) | exact HB.out)) hb); have n2_ := Aside0.mk (hbox); have n3_ := Aside0.mk ((by rw [hg]; exact (below_size (by repeat (first | (with_reducible first | exact HB.out | apply below_alloc | apply pw_below_drewN | apply below_drew1 | refine below_set ?_ GE125.out) | exact HB.out))) : w.heap.size ≤ gb126)); have n4_ := Aside0.mk ((by rw [hg]; exact (below_size (by repeat (first | (with_reducible first | exact HB.out | apply below_alloc | apply pw_below_drewN | apply below_drew1 | refine below_set ?_ GE125.out) | exact HB.out))) : w.heap.size ≤ gb126)); have n5_ := Aside0.mk ((by rw [hg]; exact Nat.ne_of_lt (blk_lt (g := gb125) (o := .cells #[.int .i64 a0_0, .int .i64 a0_1] 54 (0, 0)) (by (with_reducible repeat (first | refine blk_drewN ?_ _ | refine blk_drew ?_ | refine blk_alloc ?_ _)); exact BK125.out)) : gb125 ≠ gb126)); have n6_ := Aside0.mk ((by rw [hg]; exact Nat.ne_of_gt (blk_lt (g := gb125) (o := .cells #[.int .i64 a0_0, .int .i64 a0_1] 54 (0, 0)) (by (with_reducible repeat (first | refine blk_drewN ?_ _ | refine blk_drew ?_ | refine blk_alloc ?_ _)); exact BK125.out)) : gb126 ≠ gb125)); clear BK125; clear HB; have BK125 := n0_; have HB := n1_; have BK126 := n2_; have GW126 := n3_; have GE126 := n4_; have NB125_126 := n5_; have NB126_125 := n6_; clear n0_ n1_ n2_ n3_ n4_ n5_ n6_; clear hb hbox hg; have hnb20 := NB125_126.out; have hnc20 := NB126_125.out; have hcz21_0 : w19.cell? ⟨gb125, 0, none⟩ = some (.int .i64 a0_0) := (blk_cell BK125.out 0).trans rfl; have hcz21_1 : w19.cell? ⟨gb125, 1, none⟩ = some (.int .i64 a0_1) := (blk_cell BK125.out 1).trans rfl; have hfz21_0 := blk_frozen BK125.out 0; have hfz21_1 := blk_frozen BK125.out 1; have hcz22_0 : w19.cell? ⟨gb126, 0, none⟩ = some (.int .i64 a1_0) := (blk_cell BK126.out 0).trans rfl; have hcz22_1 : w19.cell? ⟨gb126, 1, none⟩ = some (.int .i64 a1_1) := (blk_cell BK126.out 1).trans rfl; have hfz22_0 := blk_frozen BK126.out 0; have hfz22_1 := blk_frozen BK126.out 1))
            go_ret
            exact ⟨by first | rfl | (simp [errW_none, errW_some] <;> rfl) | (simp [*, errW_none, errW_some] <;> rfl), by repeat (first | (with_reducible first | exact HB.out | apply below_alloc | apply pw_below_drewN | apply below_drew1 | refine below_set ?_ GE125.out | refine below_set ?_ GE126.out) | exact HB.out)⟩
          · rw [if_neg c17] at H
            have c17b0 : decide (0 ≤ a0_1) = false := decide_eq_false c17
            clear c17
            obtain rfl := Option.some.inj H
            go_enter Try.func95, Try.ntmps95
            go_wp2_with (first | ((with_reducible refine gate_dst (N := 2) rfl ?_); refine box_event ?hg (N := 2) ?hd (cs := #[.int .i64 a0_0, .int .i64 a0_1]) (t := 54) ?hr ?_; (case hd => rfl); (case hg => rfl); (case hr => first | (go_simp; done) | (go_simp; rfl)); intro gb125 hg w23 hbox hb; have n0_ := Aside0.mk (below_step (by repeat (first | (with_reducible first | exact HB.out | apply below_alloc | apply pw_below_drewN | apply below_drew1) | exact HB.out)) hb); have n1_ := Aside0.mk (hbox); have n2_ := Aside0.mk ((by rw [hg]; exact (below_size (by repeat (first | (with_reducible first | exact HB.out | apply below_alloc | apply pw_below_drewN | apply below_drew1) | exact HB.out))) : w.heap.size ≤ gb125)); have n3_ := Aside0.mk ((by rw [hg]; exact (below_size (by repeat (first | (with_reducible first | exact HB.out | apply below_alloc | apply pw_below_drewN | apply below_drew1) | exact HB.out))) : w.heap.size ≤ gb125)); clear HB; have HB := n0_; have BK125 := n1_; have GW125 := n2_; have GE125 := n3_; clear n0_ n1_ n2_ n3_; clear hb hbox hg) | ((with_reducible refine gate_dst (N := 3) rfl ?_); refine box_event ?hg (N := 3) ?hd (cs := #[.int .i64 a1_0, .int .i64 a1_1]) (t := 54) ?hr ?_; (case hd => rfl); (case hg => rfl); (case hr => first | (go_simp; done) | (go_simp; rfl)); intro gb126 hg w24 hbox hb; have n0_ := Aside0.mk (blk_below (g := gb125) (o := .cells #[.int .i64 a0_0, .int .i64 a0_1] 54 (0, 0)) (by (with_reducible repeat (first | refine blk_drewN ?_ _ | refine blk_drew ?_ | refine blk_alloc ?_ _)); exact BK125.out) hb); have n1_ := Aside0.mk (below_step (by repeat (first | (with_reducible first | exact HB.out | apply below_alloc | apply pw_below_drewN | apply below_drew1 | refine below_set ?_ GE125.out) | exact HB.out)) hb); have n2_ := Aside0.mk (hbox); have n3_ := Aside0.mk ((by rw [hg]; exact (below_size (by repeat (first | (with_reducible first | exact HB.out | apply below_alloc | apply pw_below_drewN | apply below_drew1 | refine below_set ?_ GE125.out) | exact HB.out))) : w.heap.size ≤ gb126)); have n4_ := Aside0.mk ((by rw [hg]; exact (below_size (by repeat (first | (with_reducible first | exact HB.out | apply below_alloc | apply pw_below_drewN | apply below_drew1 | refine below_set ?_ GE125.out) | exact HB.out))) : w.heap.size ≤ gb126)); have n5_ := Aside0.mk ((by rw [hg]; exact Nat.ne_of_lt (blk_lt (g := gb125) (o := .cells #[.int .i64 a0_0, .int .i64 a0_1] 54 (0, 0)) (by (with_reducible repeat (first | refine blk_drewN ?_ _ | refine blk_drew ?_ | refine blk_alloc ?_ _)); exact BK125.out)) : gb125 ≠ gb126)); have n6_ := Aside0.mk ((by rw [hg]; exact Nat.ne_of_gt (blk_lt (g := gb125) (o := .cells #[.int .i64 a0_0, .int .i64 a0_1] 54 (0, 0)) (by (with_reducible repeat (first | refine blk_drewN ?_ _ | refine blk_drew ?_ | refine blk_alloc ?_ _)); exact BK125.out)) : gb126 ≠ gb125)); clear BK125; clear HB; have BK125 := n0_; have HB := n1_; have BK126 := n2_; have GW126 := n3_; have GE126 := n4_; have NB125_126 := n5_; have NB126_125 := n6_; clear n0_ n1_ n2_ n3_ n4_ n5_ n6_; clear hb hbox hg; have hnb25 := NB125_126.out; have hnc25 := NB126_125.out; have hcz26_0 : w24.cell? ⟨gb125, 0, none⟩ = some (.int .i64 a0_0) := (blk_cell BK125.out 0).trans rfl; have hcz26_1 : w24.cell? ⟨gb125, 1, none⟩ = some (.int .i64 a0_1) := (blk_cell BK125.out 1).trans rfl; have hfz26_0 := blk_frozen BK125.out 0; have hfz26_1 := blk_frozen BK125.out 1; have hcz27_0 : w24.cell? ⟨gb126, 0, none⟩ = some (.int .i64 a1_0) := (blk_cell BK126.out 0).trans rfl; have hcz27_1 : w24.cell? ⟨gb126, 1, none⟩ = some (.int .i64 a1_1) := (blk_cell BK126.out 1).trans rfl; have hfz27_0 := blk_frozen BK126.out 0; have hfz27_1 := blk_frozen BK126.out 1))
            go_ret
            exact ⟨by first | rfl | (simp [errW_none, errW_some] <;> rfl) | (simp [*, errW_none, errW_some] <;> rfl), by repeat (first | (with_reducible first | exact HB.out | apply below_alloc | apply pw_below_drewN | apply below_drew1 | refine below_set ?_ GE125.out | refine below_set ?_ GE126.out) | exact HB.out)⟩
        · rw [if_neg c16] at H
          have c16b0 : (a1_0 == (-1)) = false := beq_eq_false_iff_ne.mpr c16
          have c16b1 : (a1_0 != (-1)) = true := bne_iff_ne.mpr c16
          obtain rfl := Option.some.inj H
          go_enter Try.func95, Try.ntmps95
          go_wp2_with (first | ((with_reducible refine gate_dst (N := 2) rfl ?_); refine box_event ?hg (N := 2) ?hd (cs := #[.int .i64 a0_0, .int .i64 a0_1]) (t := 54) ?hr ?_; (case hd => rfl); (case hg => rfl); (case hr => first | (go_simp; done) | (go_simp; rfl)); intro gb125 hg w28 hbox hb; have n0_ := Aside0.mk (below_step (by repeat (first | (with_reducible first | exact HB.out | apply below_alloc | apply pw_below_drewN | apply below_drew1) | exact HB.out)) hb); have n1_ := Aside0.mk (hbox); have n2_ := Aside0.mk ((by rw [hg]; exact (below_size (by repeat (first | (with_reducible first | exact HB.out | apply below_alloc | apply pw_below_drewN | apply below_drew1) | exact HB.out))) : w.heap.size ≤ gb125)); have n3_ := Aside0.mk ((by rw [hg]; exact (below_size (by repeat (first | (with_reducible first | exact HB.out | apply below_alloc | apply pw_below_drewN | apply below_drew1) | exact HB.out))) : w.heap.size ≤ gb125)); clear HB; have HB := n0_; have BK125 := n1_; have GW125 := n2_; have GE125 := n3_; clear n0_ n1_ n2_ n3_; clear hb hbox hg) | ((with_reducible refine gate_dst (N := 3) rfl ?_); refine box_event ?hg (N := 3) ?hd (cs := #[.int .i64 a1_0, .int .i64 a1_1]) (t := 54) ?hr ?_; (case hd => rfl); (case hg => rfl); (case hr => first | (go_simp; done) | (go_simp; rfl)); intro gb126 hg w29 hbox hb; have n0_ := Aside0.mk (blk_below (g := gb125) (o := .cells #[.int .i64 a0_0, .int .i64 a0_1] 54 (0, 0)) (by (with_reducible repeat (first | refine blk_drewN ?_ _ | refine blk_drew ?_ | refine blk_alloc ?_ _)); exact BK125.out) hb); have n1_ := Aside0.mk (below_step (by repeat (first | (with_reducible first | exact HB.out | apply below_alloc | apply pw_below_drewN | apply below_drew1 | refine below_set ?_ GE125.out) | exact HB.out)) hb); have n2_ := Aside0.mk (hbox); have n3_ := Aside0.mk ((by rw [hg]; exact (below_size (by repeat (first | (with_reducible first | exact HB.out | apply below_alloc | apply pw_below_drewN | apply below_drew1 | refine below_set ?_ GE125.out) | exact HB.out))) : w.heap.size ≤ gb126)); have n4_ := Aside0.mk ((by rw [hg]; exact (below_size (by repeat (first | (with_reducible first | exact HB.out | apply below_alloc | apply pw_below_drewN | apply below_drew1 | refine below_set ?_ GE125.out) | exact HB.out))) : w.heap.size ≤ gb126)); have n5_ := Aside0.mk ((by rw [hg]; exact Nat.ne_of_lt (blk_lt (g := gb125) (o := .cells #[.int .i64 a0_0, .int .i64 a0_1] 54 (0, 0)) (by (with_reducible repeat (first | refine blk_drewN ?_ _ | refine blk_drew ?_ | refine blk_alloc ?_ _)); exact BK125.out)) : gb125 ≠ gb126)); have n6_ := Aside0.mk ((by rw [hg]; exact Nat.ne_of_gt (blk_lt (g := gb125) (o := .cells #[.int .i64 a0_0, .int .i64 a0_1] 54 (0, 0)) (by (with_reducible repeat (first | refine blk_drewN ?_ _ | refine blk_drew ?_ | refine blk_alloc ?_ _)); exact BK125.out)) : gb126 ≠ gb125)); clear BK125; clear HB; have BK125 := n0_; have HB := n1_; have BK126 := n2_; have GW126 := n3_; have GE126 := n4_; have NB125_126 := n5_; have NB126_125 := n6_; clear n0_ n1_ n2_ n3_ n4_ n5_ n6_; clear hb hbox hg; have hnb30 := NB125_126.out; have hnc30 := NB126_125.out; have hcz31_0 : w29.cell? ⟨gb125, 0, none⟩ = some (.int .i64 a0_0) := (blk_cell BK125.out 0).trans rfl; have hcz31_1 : w29.cell? ⟨gb125, 1, none⟩ = some (.int .i64 a0_1) := (blk_cell BK125.out 1).trans rfl; have hfz31_0 := blk_frozen BK125.out 0; have hfz31_1 := blk_frozen BK125.out 1; have hcz32_0 : w29.cell? ⟨gb126, 0, none⟩ = some (.int .i64 a1_0) := (blk_cell BK126.out 0).trans rfl; have hcz32_1 : w29.cell? ⟨gb126, 1, none⟩ = some (.int .i64 a1_1) := (blk_cell BK126.out 1).trans rfl; have hfz32_0 := blk_frozen BK126.out 0; have hfz32_1 := blk_frozen BK126.out 1))
          go_ret
          exact ⟨by first | rfl | (simp [errW_none, errW_some] <;> rfl) | (simp [*, errW_none, errW_some] <;> rfl), by repeat (first | (with_reducible first | exact HB.out | apply below_alloc | apply pw_below_drewN | apply below_drew1 | refine below_set ?_ GE125.out | refine below_set ?_ GE126.out) | exact HB.out)⟩
      · rw [if_neg c15] at H
        have c15b0 : (a0_0 == (-1)) = false := beq_eq_false_iff_ne.mpr c15
        have c15b1 : (a0_0 != (-1)) = true := bne_iff_ne.mpr c15
        obtain rfl := Option.some.inj H
        go_enter Try.func95, Try.ntmps95
        go_wp2_with (first | ((with_reducible refine gate_dst (N := 2) rfl ?_); refine box_event ?hg (N := 2) ?hd (cs := #[.int .i64 a0_0, .int .i64 a0_1]) (t := 54) ?hr ?_; (case hd => rfl); (case hg => rfl); (case hr => first | (go_simp; done) | (go_simp; rfl)); intro gb125 hg w33 hbox hb; have n0_ := Aside0.mk (below_step (by repeat (first | (with_reducible first | exact HB.out | apply below_alloc | apply pw_below_drewN | apply below_drew1) | exact HB.out)) hb); have n1_ := Aside0.mk (hbox); have n2_ := Aside0.mk ((by rw [hg]; exact (below_size (by repeat (first | (with_reducible first | exact HB.out | apply below_alloc | apply pw_below_drewN | apply below_drew1) | exact HB.out))) : w.heap.size ≤ gb125)); have n3_ := Aside0.mk ((by rw [hg]; exact (below_size (by repeat (first | (with_reducible first | exact HB.out | apply below_alloc | apply pw_below_drewN | apply below_drew1) | exact HB.out))) : w.heap.size ≤ gb125)); clear HB; have HB := n0_; have BK125 := n1_; have GW125 := n2_; have GE125 := n3_; clear n0_ n1_ n2_ n3_; clear hb hbox hg) | ((with_reducible refine gate_dst (N := 3) rfl ?_); refine box_event ?hg (N := 3) ?hd (cs := #[.int .i64 a1_0, .int .i64 a1_1]) (t := 54) ?hr ?_; (case hd => rfl); (case hg => rfl); (case hr => first | (go_simp; done) | (go_simp; rfl)); intro gb126 hg w34 hbox hb; have n0_ := Aside0.mk (blk_below (g := gb125) (o := .cells #[.int .i64 a0_0, .int .i64 a0_1] 54 (0, 0)) (by (with_reducible repeat (first | refine blk_drewN ?_ _ | refine blk_drew ?_ | refine blk_alloc ?_ _)); exact BK125.out) hb); have n1_ := Aside0.mk (below_step (by repeat (first | (with_reducible first | exact HB.out | apply below_alloc | apply pw_below_drewN | apply below_drew1 | refine below_set ?_ GE125.out) | exact HB.out)) hb); have n2_ := Aside0.mk (hbox); have n3_ := Aside0.mk ((by rw [hg]; exact (below_size (by repeat (first | (with_reducible first | exact HB.out | apply below_alloc | apply pw_below_drewN | apply below_drew1 | refine below_set ?_ GE125.out) | exact HB.out))) : w.heap.size ≤ gb126)); have n4_ := Aside0.mk ((by rw [hg]; exact (below_size (by repeat (first | (with_reducible first | exact HB.out | apply below_alloc | apply pw_below_drewN | apply below_drew1 | refine below_set ?_ GE125.out) | exact HB.out))) : w.heap.size ≤ gb126)); have n5_ := Aside0.mk ((by rw [hg]; exact Nat.ne_of_lt (blk_lt (g := gb125) (o := .cells #[.int .i64 a0_0, .int .i64 a0_1] 54 (0, 0)) (by (with_reducible repeat (first | refine blk_drewN ?_ _ | refine blk_drew ?_ | refine blk_alloc ?_ _)); exact BK125.out)) : gb125 ≠ gb126)); have n6_ := Aside0.mk ((by rw [hg]; exact Nat.ne_of_gt (blk_lt (g := gb125) (o := .cells #[.int .i64 a0_0, .int .i64 a0_1] 54 (0, 0)) (by (with_reducible repeat (first | refine blk_drewN ?_ _ | refine blk_drew ?_ | refine blk_alloc ?_ _)); exact BK125.out)) : gb126 ≠ gb125)); clear BK125; clear HB; have BK125 := n0_; have HB := n1_; have BK126 := n2_; have GW126 := n3_; have GE126 := n4_; have NB125_126 := n5_; have NB126_125 := n6_; clear n0_ n1_ n2_ n3_ n4_ n5_ n6_; clear hb hbox hg; have hnb35 := NB125_126.out; have hnc35 := NB126_125.out; have hcz36_0 : w34.cell? ⟨gb125, 0, none⟩ = some (.int .i64 a0_0) := (blk_cell BK125.out 0).trans rfl; have hcz36_1 : w34.cell? ⟨gb125, 1, none⟩ = some (.int .i64 a0_1) := (blk_cell BK125.out 1).trans rfl; have hfz36_0 := blk_frozen BK125.out 0; have hfz36_1 := blk_frozen BK125.out 1; have hcz37_0 : w34.cell? ⟨gb126, 0, none⟩ = some (.int .i64 a1_0) := (blk_cell BK126.out 0).trans rfl; have hcz37_1 : w34.cell? ⟨gb126, 1, none⟩ = some (.int .i64 a1_1) := (blk_cell BK126.out 1).trans rfl; have hfz37_0 := blk_frozen BK126.out 0; have hfz37_1 := blk_frozen BK126.out 1))
        go_ret
        exact ⟨by first | rfl | (simp [errW_none, errW_some] <;> rfl) | (simp [*, errW_none, errW_some] <;> rfl), by repeat (first | (with_reducible first | exact HB.out | apply below_alloc | apply pw_below_drewN | apply below_drew1 | refine below_set ?_ GE125.out | refine below_set ?_ GE126.out) | exact HB.out)⟩

end Go.Proofs.Ytlojkphocbbjdab.PScanClash
