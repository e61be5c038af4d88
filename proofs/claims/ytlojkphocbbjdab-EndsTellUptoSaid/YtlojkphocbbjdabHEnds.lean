/- More words over the separating state: a row set aside while others read (DeleteFunc's closures), a row that becomes an element of another, maps whose values are rows of one's own. -/
import Derived.Test.YtlojkphocbbjdabHMap
import Derived.Test.YtlojkphocbbjdabWNEv
namespace Go.Proofs.YtlojkphocbbjdabW.Sep
open Go.RowKit Go.Maps Go.Proofs.YtlojkphocbbjdabW.PrintWords Go.Proofs.YtlojkphocbbjdabW.PrintLast Go.Proofs.YtlojkphocbbjdabW.PrintMore Go.Proofs.YtlojkphocbbjdabW.Mapw
set_option linter.unusedVariables false
set_option linter.unusedSimpArgs false
section
variable {α : Type} {w0 w W : World} {L : List Asn} {d : Kd α} {e B : Nat} {v v1 : Value} {xs ys : List α}
/-- The rest of the state, in a world that is this one but for the head row's block. -/
theorem St.away (h : St w0 w (rowA B d e v xs :: L)) (hB : Below w0.heap.size w0 W) (hk : Kept w W (fun k => some k = v.ownBlock)) : St w0 W L := by
  obtain ⟨hb, G, hG, hA, hL⟩ := h
  refine ⟨hB, hL.loc (fun k hk2 => ⟨hk2.1.1, Nat.lt_of_lt_of_le hk2.1.2 hk.1⟩) (fun k hk2 hl => hk.2 k hl (fun e => hk2.2 (hA.1 k e.symm)))⟩
/-- A row that has turned in place, told by Kept. -/
theorem St.turned (h : St w0 w (rowA w0.heap.size d e v xs :: L)) : ∃ G : Nat → Prop, d.R e w w0.heap.size G v xs ∧
    ∀ (w' : World) (v1 : Value) (ys : List α), d.R e w' w0.heap.size G v1 ys → Below w0.heap.size w0 w' → Kept w w' (fun k => some k = v.ownBlock) → St w0 w' (rowA w0.heap.size d e v1 ys :: L) := by
  obtain ⟨G, hG, hA, hs⟩ := h.at (i := 0) rfl
  exact ⟨G, hA, fun w' v1 ys hr hb hk => hs w' _ G hb hk.1 hr (fun k hn _ hl => hk.2 k hl (fun e => hn (hA.1 k e.symm))) (fun k hk => .inl hk)⟩
end
/-! maps from numbers to rows of bools of the call's own -/
abbrev DV := DataW Value
def heldElem (v : Value) : Option (DV × List MemPlace) := some (.held v, [])
/-- What the map holds. -/
def ReadsV (D : DV) (f : Int → Option Value) : Prop := IsMap D ∧ ∀ a, Go.Maps.has D (.int .i64 a) = (f a).isSome ∧ ∀ v, f a = some v → ∀ z, D.atKey (.int .i64 a) z = .held v
theorem readsV_nil : ReadsV (.map []) (fun _ => none) := ⟨isMap_empty, fun a => ⟨rfl, fun x h => by cases h⟩⟩
theorem readsV_put {D : DV} {f : Int → Option Value} (h : ReadsV D f) (a : Int) (v : Value) (ha : WideAt.IsKeyLit (.int .i64 a)) : ReadsV (D.put (.int .i64 a) (.held v)) (fun b => if b = a then some v else f b) := by
  obtain ⟨h1, h2⟩ := h
  refine ⟨h1.put _ _, fun b => ?_⟩
  by_cases e : b = a
  · subst e
    refine ⟨by rw [has_put_same h1 ha]; simp, fun y hy z => ?_⟩
    obtain rfl : v = y := by simpa using hy
    exact atKey_put_same h1 ha _ _
  · have hne : (Lit.int .i64 b) ≠ Lit.int .i64 a := by
      intro he
      injection he with _ h3
      exact e h3
    refine ⟨by rw [has_put_other hne]; simp [e, (h2 b).1], fun y hy z => ?_⟩
    rw [atKey_put_other hne]
    exact (h2 b).2 y (by simpa [e] using hy) z
/-- A map (block b) of the call's own to rows of its own: f tells the rows. -/
def mrA (B : Nat) (P : Program) (k e : TypeId) (b n : Nat) (f : Int → Option (List Bool)) : Asn where
  A := fun w G => G b ∧ ∃ (D : DV) (g : Int → Option Value), (∃ n' , n' ≤ n ∧ w.ownsMap P k heldElem b n' D) ∧ ReadsV D g ∧ ∀ a, (g a).isSome = (f a).isSome ∧ ∀ v xs, g a = some v → f a = some xs → Kd.R Kd.bool e w B (fun j => G j ∧ j ≠ b) v xs
  loc := by
    rintro w w' G ⟨hb, D, g, ⟨n', hn, ho⟩, hr, hs⟩ hw
    refine ⟨hb, D, g, ⟨n', hn, ?_⟩, hr, fun a => ⟨(hs a).1, fun v xs hv hx => Kd.R_step ((hs a).2 v xs hv hx) (fun j hj => hw j hj.1)⟩⟩
    obtain ⟨es, c, h1, h2, h3, h4⟩ := ho
    exact ⟨es, c, (hw b hb (blk_lt h1)).trans h1, h2, h3, h4⟩
/-- The same, only read. -/
def MR (w : World) (P : Program) (k : TypeId) (b : Nat) (f : Int → Option (List Bool)) : Prop :=
  ∃ (D : DV) (g : Int → Option Value) (n : Nat), w.ownsMap P k heldElem b n D ∧ ReadsV D g ∧ ∀ a, (g a).isSome = (f a).isSome ∧ ∀ v xs, g a = some v → f a = some xs → ∃ A c, v = .slice A xs.length c ∧ xs.length ≤ c ∧ Kd.C Kd.bool w A xs.length xs
theorem ownV_lt {w : World} {P : Program} {k : TypeId} {b n : Nat} {D : DV} (h : w.ownsMap P k heldElem b n D) : b < w.heap.size := by
  obtain ⟨es, c, hb, _⟩ := h
  exact blk_lt hb
theorem MR.below {w w' : World} {P : Program} {k : TypeId} {b : Nat} {f : Int → Option (List Bool)} (h : MR w P k b f) (hb : Below w.heap.size w w') : MR w' P k b f := by
  obtain ⟨D, g, n, ho, hr, hs⟩ := h
  refine ⟨D, g, n, ?_, hr, fun a => ⟨(hs a).1, fun v xs hv hx => ?_⟩⟩
  · have hlt := ownV_lt ho
    obtain ⟨es, c, h1, h2, h3, h4⟩ := ho
    exact ⟨es, c, (hb.block b hlt).trans h1, h2, h3, h4⟩
  · obtain ⟨A, c, h1, h2, h3⟩ := (hs a).2 v xs hv hx
    exact ⟨A, c, h1, h2, Kd.C_below h3 hb⟩
/-- Looked up: a row, and what is in it. -/
theorem MR.look {w : World} {P : Program} {k t e : TypeId} {b : Nat} {f : Int → Option (List Bool)} (h : MR w P k b f) (K : Keyed P k) (ht : P.underlying t = some (.map k e)) (hz : (zeroValue e).run P w = .ok (.slice none 0 0) w)
    (a : Int) (xs : List Bool) (hx : f a = some xs) (hk : keyOf P k (.int .i64 a) = some (.int .i64 a)) : ∃ A c, (Instr.lookup t (.map (some b)) (.int .i64 a) false).run P w = .ok (.slice A xs.length c) w ∧ xs.length ≤ c ∧ Kd.C Kd.bool w A xs.length xs := by
  obtain ⟨D, g, n, ho, hr, hs⟩ := h
  obtain ⟨v, ps, hrun, hv⟩ := ho.lookup K ht hz (zd := .held (.slice none 0 0)) (zp := []) rfl hk
  have h1 := (hs a).1
  rw [hx] at h1
  obtain ⟨u, hu⟩ := Option.isSome_iff_exists.1 h1
  obtain ⟨A, c, rfl, hl, hC⟩ := (hs a).2 u xs hu hx
  rw [(hr.2 a).2 _ hu] at hv
  injection hv with hv
  injection hv with hv _
  injection hv with hv
  subst hv
  exact ⟨A, c, hrun, hl, hC⟩
section
variable {w0 w w' : World} {L : List Asn} {P : Program} {k e : TypeId} {b n : Nat} {f : Int → Option (List Bool)}
theorem St.mrN (h : St w0 w L) (P : Program) (k e : TypeId) : St w0 (w.alloc (.map #[] 0)) (mrA w0.heap.size P k e w.heap.size 0 (fun _ => none) :: L) :=
  h.more (below_alloc (Below.refl _ _) _) (fun j => j = w.heap.size) ⟨rfl, _, fun _ => none, ⟨0, Nat.le_refl _, World.ownsMap_made _ _ _ _⟩, readsV_nil, fun a => ⟨rfl, fun v xs hv => by cases hv⟩⟩ (fun j hj => by
    have := ownV_lt (World.ownsMap_made (H := Value) w P k heldElem)
    omega)
theorem St.mrR (h : St w0 w L) (i : Nat) (hi : L[i]? = some (mrA w0.heap.size P k e b n f)) : MR w P k b f := by
  obtain ⟨G, hG, hb, D, g, ⟨n', hn, ho⟩, hr, hs⟩ := h.get hi
  refine ⟨D, g, n', ho, hr, fun a => ⟨(hs a).1, fun v xs hv hx => ?_⟩⟩
  have h1 := (hs a).2 v xs hv hx
  obtain ⟨A, c, h2, h3, h4⟩ := Kd.R_reads h1
  exact ⟨A, c, h2, h3, h4⟩
/-- What is wanted of the map (second) for a store of the row (head); and the state behind it. -/
theorem St.mrU {v : Value} {xs : List Bool} (h : St w0 w (rowA w0.heap.size Kd.bool e v xs :: mrA w0.heap.size P k e b n f :: L)) (a : Int) (ha : WideAt.IsKeyLit (.int .i64 a)) :
    ∃ (D : DV) (n' : Nat), n' ≤ n ∧ w.ownsMap P k heldElem b n' D ∧ ∀ w', w'.ownsMap P k heldElem b (n' + 1) (D.put (.int .i64 a) (.held v)) → w.grownBy w' (some b) → St w0 w' (mrA w0.heap.size P k e b (n + 1) (fun c => if c = a then some xs else f c) :: L) := by
  obtain ⟨hB, G, hG, hA, G2, hG2, ⟨hb, D, g, ⟨n', hn, ho⟩, hr, hs⟩, hL⟩ := h
  have hsz := hB.size
  refine ⟨D, n', hn, ho, fun w' ho' hg => ?_⟩
  have hsz' := hg.size
  have hbF := hG2 b hb
  have hkeep : ∀ j, j ≠ b → j < w.heap.size → w'.heap[j]? = w.heap[j]? := fun j hj hl => hg.block j hl (fun he => hj (Option.some.inj he))
  refine ⟨hB.grown hg hsz (fun j hj => by injection hj with hj; rw [← hj]; exact hbF.1.1), fun j => G j ∨ G2 j, fun j hj => ?_, ⟨.inr hb, D.put (.int .i64 a) (.held v), (fun c => if c = a then some v else g c), ⟨n' + 1, by omega, ho'⟩, readsV_put hr a v ha, fun c => ?_⟩, ?_⟩
  · rcases hj with hj | hj
    · exact ⟨(hG j hj).1, Nat.lt_of_lt_of_le (hG j hj).2 hsz'⟩
    · exact ⟨(hG2 j hj).1.1, Nat.lt_of_lt_of_le (hG2 j hj).1.2 hsz'⟩
  · by_cases hc : c = a
    · refine ⟨by simp [hc], fun u ys hu hy => ?_⟩
      simp only [hc, if_true, Option.some.injEq] at hu hy
      subst hu hy
      exact Kd.R_mono (Kd.R_step hA (fun j hj hl => hkeep j (fun e => hbF.2 (by rw [← e]; exact hj)) hl)) (fun j hj => ⟨.inl hj, fun e => hbF.2 (by rw [← e]; exact hj)⟩)
    · refine ⟨by simp [hc, (hs c).1], fun u ys hu hy => ?_⟩
      simp only [hc, if_false] at hu hy
      exact Kd.R_mono (Kd.R_step ((hs c).2 u ys hu hy) (fun j hj hl => hkeep j hj.2 hl)) (fun j hj => ⟨.inr hj.1, hj.2⟩)
  · exact hL.loc (fun j hj => ⟨⟨hj.1.1.1, Nat.lt_of_lt_of_le hj.1.1.2 hsz'⟩, fun hf => hf.elim hj.1.2 hj.2⟩) (fun j hj hl => hkeep j (fun e => hj.2 (by rw [e]; exact hb)) hl)
end
/-! a row whose elements are rows, and rows beside it that may lie in it: all of it only read -/
def nA {α β : Type} (B : Nat) (d : Kd α) (e : Nat) (v : Value) (xs : List α) (dn : Kd β) (E : List (Option Addr × List β)) : Asn where
  A := fun w G => Kd.N d e w B G v xs ∧ ∀ p ∈ E, Kd.F dn w G p.1 p.2.length p.2
  loc := fun h hw => ⟨Kd.N_step h.1 hw, fun p hp => Kd.F_step (h.2 p hp) hw⟩
section
variable {α β : Type} {w0 w w' : World} {L : List Asn} {d : Kd α} {dn : Kd β} {e en B : Nat} {v : Value} {xs : List α} {E E' : List (Option Addr × List β)} {ns : List β} {A : Option Addr} {c : Nat}
theorem St.nN (h : St w0 w L) (d : Kd α) (e : Nat) (dn : Kd β) : St w0 w (nA w0.heap.size d e (.slice none 0 0) [] dn [] :: L) :=
  h.more (Below.refl _ _) (fun _ => False) ⟨Kd.N_nil _ _ _ _ _, fun p hp => by simp at hp⟩ (fun k hk => hk.elim)
theorem St.nread (h : St w0 w L) (i : Nat) (hi : L[i]? = some (nA B d e v xs dn E)) (p : Option Addr × List β) (hp : p ∈ E) : dn.C w p.1 p.2.length p.2 := let ⟨_, _, hA⟩ := h.get hi; Kd.F_now (hA.2 p hp)
theorem St.nless (h : St w0 w (nA B d e v xs dn E :: L)) (hE : ∀ p ∈ E', p ∈ E) : St w0 w (nA B d e v xs dn E' :: L) := h.head (fun _ hA => ⟨hA.1, fun p hp => hA.2 p (hE p hp)⟩)
theorem St.nrowN (h : St w0 w L) (i : Nat) (hi : L[i]? = some (nA w0.heap.size d e v xs dn E)) : Kd.N d e w w0.heap.size (fun k => w0.heap.size ≤ k) v xs := let ⟨_, hG, hA⟩ := h.get hi; Kd.N_mono hA.1 (fun k hk => (hG k hk).1)
/-- A row goes into what is only read. -/
theorem St.nabs (h : St w0 w (rowA w0.heap.size dn en (.slice A ns.length c) ns :: nA w0.heap.size d e v xs dn E :: L)) : St w0 w (nA w0.heap.size d e v xs dn ((A, ns) :: E) :: L) := by
  obtain ⟨hb, G, hG, hA, G2, hG2, hB, hL⟩ := h
  refine ⟨hb, fun k => G k ∨ G2 k, fun k hk => hk.elim (hG k) (fun h => (hG2 k h).1), ⟨Kd.N_mono hB.1 (fun k hk => .inr hk), fun p hp => ?_⟩, hL.loc (fun k hk => ⟨hk.1.1, fun h => h.elim hk.1.2 hk.2⟩) (fun _ _ _ => rfl)⟩
  rcases List.mem_cons.1 hp with rfl | hp
  · exact Kd.F_mono (Kd.R_F hA) (fun k hk => .inl hk)
  · exact Kd.F_mono (hB.2 p hp) (fun k hk => .inr hk)
/-- A row becomes the last element. -/
theorem St.napp {en : Nat} {xs : List (List β)} (h : St w0 w (rowA w0.heap.size dn en (.slice A ns.length c) ns :: nA w0.heap.size (Kd.slice en dn) e v xs dn E :: L)) (hl : ns.length ≤ c) : ∃ ok okp : Nat → Prop, (∀ k, w.heap.size ≤ k → ok k) ∧ Kd.N (Kd.slice en dn) e w w0.heap.size ok v xs ∧ Kd.FK (Kd.slice en dn) w okp ns [.slice A ns.length c] ∧ (∀ k, okp k → ok k ∧ some k ≠ v.ownBlock) ∧
    ∀ (w' : World) (v1 : Value) (zs : List (List β)), Kd.N (Kd.slice en dn) e w' w0.heap.size ok v1 zs → Below w0.heap.size w0 w' → w.grownBy w' v.ownBlock → St w0 w' (nA w0.heap.size (Kd.slice en dn) e v1 zs dn [(A, ns)] :: L) := by
  obtain ⟨hb, G, hG, hA, G2, hG2, hB, hL⟩ := h
  have hsz := hb.size
  refine ⟨fun k => G2 k ∨ G k ∨ w.heap.size ≤ k, G, fun k hk => .inr (.inr hk), Kd.N_mono hB.1 (fun k hk => .inl hk), Kd.FK_slice_mk hl (Kd.R_F hA), fun k hk => ⟨.inr (.inl hk), fun he => (hG2 k (hB.1.1 k he.symm)).2 hk⟩, ?_⟩
  intro w' v1 zs hr hb' hg
  have hsz' := hg.size
  have hold : ∀ k, ¬ G2 k → k < w.heap.size → w'.heap[k]? = w.heap[k]? := fun k hn hl => hg.block k hl (fun he => hn (hB.1.1 k he.symm))
  have hlow : ∀ k, (G2 k ∨ G k ∨ w.heap.size ≤ k) → w0.heap.size ≤ k := fun k hk => by
    rcases hk with h1 | h1 | h1
    · exact (hG2 k h1).1.1
    · exact (hG k h1).1
    · omega
  refine ⟨hb', fun k => (G2 k ∨ G k ∨ w.heap.size ≤ k) ∧ k < w'.heap.size, fun k hk => ⟨hlow k hk.1, hk.2⟩, ⟨Kd.N_bound hr, fun p hp => ?_⟩, hL.loc (fun k hk => ⟨⟨hk.1.1.1, Nat.lt_of_lt_of_le hk.1.1.2 hsz'⟩, fun h => ?_⟩) (fun k hk hl => hold k hk.2 hl)⟩
  · obtain rfl : p = (A, ns) := by simpa using hp
    exact Kd.F_mono (Kd.F_step (Kd.R_F hA) (fun k hk hl => hold k (fun h2 => (hG2 k h2).2 hk) hl)) (fun k hk => ⟨.inr (.inl hk), Nat.lt_of_lt_of_le (hG k hk).2 hsz'⟩)
  · rcases h.1 with h1 | h1 | h1
    · exact hk.2 h1
    · exact hk.1.2 h1
    · have := hk.1.1.2; omega
end
theorem at_row {α : Type} {d : Kd α} {e n : Nat} {w : World} {A : Option Addr} {xs : List (List α)} (h : (Kd.slice e d).C w A n xs) (i : Int) (h0 : 0 ≤ i) (h1 : i < n) :
    ∃ ad Ai ci, A = some ad ∧ w.cell? (ad.add i.toNat) = some (.slice Ai (xs.getD i.toNat []).length ci) ∧ (xs.getD i.toNat []).length ≤ ci ∧ d.C w Ai (xs.getD i.toNat []).length (xs.getD i.toNat []) := by
  obtain ⟨hl, _, hp⟩ := h
  obtain ⟨ad, rfl, hc⟩ := hp (by omega)
  have hx : xs[i.toNat]? = some (xs.getD i.toNat []) := by rw [List.getD_eq_getElem?_getD, List.getElem?_eq_getElem (by omega), Option.getD_some]
  obtain ⟨cs, hcl, ⟨Ai, ci, rfl, hle, hC⟩, hcell⟩ := hc i.toNat _ hx
  exact ⟨ad, Ai, ci, rfl, by have := hcell 0 _ rfl; rwa [Nat.add_zero, show (Kd.slice e d).sz = 1 from rfl, Nat.mul_one] at this, hle, hC⟩
theorem look_ev {P : Program} (w : World) {ops : Array Oper} {rest : List Oper} {o : Oper} {a : Act} {Q : Exit → Act → World → Prop} {v : Value}
    (hg : o.guard = none) (m x : Operand) (t : TypeId) (hop : o.op = Op.lookup t m x false) {vm vx : Value} (hm : a.eval m = vm) (hx : a.eval x = vx) (hrun : (Instr.lookup t vm vx false).run P w = .ok v w) (hK : wpList P ops Q rest (a.put o.dst v) w) : wpList P ops Q (o :: rest) a w := by
  refine wpList_plain hg fun K' hK' => ?_
  unfold Oper.wp
  simp [execOp, hop, hm, hx, hrun, Result.andThen]
  exact hK' _ _ hK
end Go.Proofs.YtlojkphocbbjdabW.Sep
