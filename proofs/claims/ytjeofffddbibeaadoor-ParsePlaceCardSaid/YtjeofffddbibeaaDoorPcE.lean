/-
  Part 5 of what the row stands on, put together by a program: RdE, RdF, RdB, Plc, RdC, RdD, PParseTellsx2, Sam, Awk, Awa.
-/
import Derived.Test.YtjeofffddbibeaaDoorPcD
section
namespace Go.Proofs.YtjeofffddbibeaaDoor.Pa
open Go Go.RowKit Go.Proofs.YtjeofffddbibeaaDoor.PParseTells Go.Proofs.YtjeofffddbibeaaDoor.Ex Go.Proofs.YtjeofffddbibeaaDoorW.PrintWords Go.Proofs.YtjeofffddbibeaaDoorW.PrintLast Go.Proofs.YtjeofffddbibeaaDoorW.PrintMore
set_option linter.unusedVariables false
set_option linter.unusedSimpArgs false
theorem results_c1 {P : Program} {fn : Func} {p : Tmp} {ty : TypeId} (h : fn.results = #[.cell p ty]) (tmps : Array Value) (w : World) (g : Nat) (t : TypeId) (cs : Array Value) (fr : Nat × Nat) (d : TypeDesc)
    (hp : tmps.getD p undef = .pointer (some ⟨g, 0, none⟩)) (hg : w.heap[g]? = some (.cells cs t fr))
    (hu : P.underlying ty = some d) (hd : (match d with | .struct _ | .array _ _ => true | _ => false) = true) (hi : (P.info? ty).map (·.size) = some cs.size) :
    (results fn tmps).run P w = .ok (.agg cs) w := by
  have hp' : tmps[p]?.getD undef = .pointer (some ⟨g, 0, none⟩) := by simpa using hp
  simp [results, h, hp', asAddr, run_loadVar_row w g t ty cs fr d hg hu hd hi]
/-- Within the loop over the operands: the parser, the box of the expression, the box that is answered, the rows so far. -/
structure RxSt (w0 w W : World) (g b6 b : Nat) (op : Int) (L0 L : List Tok) (p e : Int) (ns : List Int) (ys : List X) (v2 v3 : Value) : Prop where
  isp : RdR w0 W g L0 L p e
  kept : Kept w W (At g)
  box : W.heap[b]? = some (.cells #[.int .u8 op, .string nil8, v2, v3] TX (0, 0))
  zero : W.heap[b6]? = some (.cells zCells TX (0, 0))
  nums : kI.R 2 W (b + 1) (fun _ => True) v2 ns
  args : kX.R TX W (b + 1) (fun _ => True) v3 ys
  lg : g < w.heap.size
  l6 : w.heap.size ≤ b6
  lb : b6 < b
section
variable {w0 w W W2 : World} {g b6 b : Nat} {op : Int} {L0 L L2 : List Tok} {p p2 e e2 : Int} {ns : List Int} {ys : List X} {v2 v3 : Value}
theorem RxSt.at (h : RxSt w0 w W g b6 b op L0 L p e ns ys v2 v3) (hI : RdR w0 W2 g L0 L2 p2 e2) (hk : Kept W W2 (At g)) : RxSt w0 w W2 g b6 b op L0 L2 p2 e2 ns ys v2 v3 := by
  have h1 := h.lg
  have h2 := h.l6
  have h3 := h.lb
  exact ⟨hI, h.kept.then_ hk (fun k hs => .inl hs), blk_kept h.box hk (fun hs => by have : b = g := hs; omega), blk_kept h.zero hk (fun hs => by have : b6 = g := hs; omega),
    R_at h.nums hk (by omega), R_at h.args hk (by omega), h1, h2, h3⟩
theorem RxSt.lt (h : RxSt w0 w W g b6 b op L0 L p e ns ys v2 v3) : b < W.heap.size := blk_lt h.box
theorem RxSt.grown_isp (h : RxSt w0 w W g b6 b op L0 L p e ns ys v2 v3) {row : Option Nat} (hg : W.grownBy W2 row) (hr : ∀ k, row = some k → b + 1 ≤ k) : RdR w0 W2 g L0 L p e := by
  have h1 := h.lg
  have h2 := h.l6
  have h3 := h.lb
  have h4 := h.isp.ge
  have h5 := h.lt
  exact h.isp.mv (S := fun k => b + 1 ≤ k) (Kept.of_grown hg (Kept.refl W _) (fun k hk => .inl (hr k hk))) (h.isp.low.grown hg (by omega) (fun k hk => by have := hr k hk; omega)) (by show ¬ (b + 1 ≤ g); omega)
theorem RxSt.num (h : RxSt w0 w W g b6 b op L0 L p e ns [] v2 (.slice none 0 0)) {n : Int} {u : Value} (hR : kI.R 2 W2 (b + 1) (fun _ => True) u (ns ++ [n])) (hg : W.grownBy W2 v2.ownBlock) :
    RxSt w0 w (W2.setCell ⟨b, 2, none⟩ u) g b6 b op L0 L p e (ns ++ [n]) [] u (.slice none 0 0) := by
  have h1 := h.lg
  have h2 := h.l6
  have h3 := h.lb
  have h5 := h.lt
  have hr := Kd.R_base h.nums
  have hbox : W2.heap[b]? = _ := (hg.block b h5 (fun he => by have := hr b he.symm; omega)).trans h.box
  have hz : W2.heap[b6]? = _ := (hg.block b6 (by omega) (fun he => by have := hr b6 he.symm; omega)).trans h.zero
  have hK : Kept w W2 (At g) := Kept.of_grown hg h.kept (fun k hk => .inr (by have := hr k hk; omega))
  have hI := h.grown_isp hg hr
  exact ⟨hI.mv (S := fun k => k = b) (Kept.setCell (Kept.refl _ (fun k => k = b)) (p := ⟨b, 2, none⟩) (.inl rfl) u) (below_set hI.low (by have := h.isp.ge; show _ ≤ b; omega)) (by show ¬ (g = b); omega), kept_new hK 2 u (by omega),
    blk_put hbox 2 u rfl, blk_far hz (by show b ≠ b6; omega) u, R_put hR (by omega) 2 u, Kd.R_nil _ _ _ _ _, h1, h2, h3⟩
theorem RxSt.arg (h : RxSt w0 w W g b6 b op L0 L p e ns ys v2 v3) {y : X} {u : Value} (hR : kX.R TX W2 (b + 1) (fun _ => True) u (ys ++ [y])) (hg : W.grownBy W2 v3.ownBlock) :
    RxSt w0 w (W2.setCell ⟨b, 3, none⟩ u) g b6 b op L0 L p e ns (ys ++ [y]) v2 u := by
  have h1 := h.lg
  have h2 := h.l6
  have h3 := h.lb
  have h5 := h.lt
  have hr := Kd.R_base h.args
  have hbox : W2.heap[b]? = _ := (hg.block b h5 (fun he => by have := hr b he.symm; omega)).trans h.box
  have hz : W2.heap[b6]? = _ := (hg.block b6 (by omega) (fun he => by have := hr b6 he.symm; omega)).trans h.zero
  have hK : Kept w W2 (At g) := Kept.of_grown hg h.kept (fun k hk => .inr (by have := hr k hk; omega))
  have hI := h.grown_isp hg hr
  exact ⟨hI.mv (S := fun k => k = b) (Kept.setCell (Kept.refl _ (fun k => k = b)) (p := ⟨b, 3, none⟩) (.inl rfl) u) (below_set hI.low (by have := h.isp.ge; show _ ≤ b; omega)) (by show ¬ (g = b); omega), kept_new hK 3 u (by omega),
    blk_put hbox 3 u rfl, blk_far hz (by show b ≠ b6; omega) u, R_put (Kd.R_over h.nums h.args (fun q hq => by simp [Kd.E, kI, Kd.int, Kd.scalar] at hq; subst hq; decide) hg) (by omega) 3 u, R_put hR (by omega) 3 u, h1, h2, h3⟩
/-- What is answered at the end. -/
theorem RxSt.box_grown (h : RxSt w0 w W g b6 b op L0 L p e ns ys v2 v3) {row : Option Nat} (hg : W.grownBy W2 row) (hr : ∀ k, row = some k → b + 1 ≤ k) : W2.heap[b]? = some (.cells #[.int .u8 op, .string nil8, v2, v3] TX (0, 0)) :=
  (hg.block b h.lt (fun he => by have := hr b he.symm; omega)).trans h.box
theorem RxSt.close (h : RxSt w0 w W g b6 b op L0 L p e ns ys v2 v3) (hk : Kept W W2 (At b6)) (hB : Below w0.heap.size w0 W2) : RdR w0 W2 g L0 L p e ∧ Kept w W2 (At g) := by
  have h1 := h.lg
  have h2 := h.l6
  exact ⟨h.isp.mv hk hB (by show ¬ (g = b6); omega), h.kept.then_ hk (fun k hs => .inr (by have : k = b6 := hs; omega))⟩
theorem RxSt.done (h : RxSt w0 w W g b6 b op L0 L p e ns ys v2 v3) (hk : Kept W W2 (At b6)) : Gives w W2 ⟨op, nil8, ns, ys⟩ v2 v3 := by
  have h2 := h.l6
  have h3 := h.lb
  exact k25_mkM _ _ _ ⟨op, nil8, ns, ys⟩ (Kd.R_lower (R_at h.nums hk (by omega)) (by omega)) (Kd.R_lower (R_at h.args hk (by omega)) (by omega))
end
/-- Behind k operands, a comma (or the end) ahead. -/
def contF (F : Int → List Tok → Res) (nn mm k : Nat) (x : X) (p : Int) (L : List Tok) : Res :=
  if k = 0 then stepsF F nn mm mm x p L
  else if (markF (if k = mm then RPA else COM) L).2 ≠ 0 then ⟨zX, (markF (if k = mm then RPA else COM) L).1, p, (markF (if k = mm then RPA else COM) L).2⟩
  else stepsF F nn mm (mm - k) x p (markF (if k = mm then RPA else COM) L).1
def Dead (R : Res) (L : List Tok) (e : Int) : Prop := e ≠ 0 ∧ R.l = L ∧ R.e = e
def Inv1 (F : Int → List Tok → Res) (nn mm k : Nat) (R : Res) (x : X) (L : List Tok) (p e : Int) : Prop := (e = 0 ∧ (0 ≤ p ∧ p ≤ 2000) ∧ contF F nn mm k x p L = R) ∨ Dead R L e
def Inv2 (F : Int → List Tok → Res) (nn mm k : Nat) (R : Res) (x : X) (L : List Tok) (p e : Int) : Prop := (e = 0 ∧ (0 ≤ p ∧ p ≤ 2000) ∧ stepsF F nn mm (mm - k) x p L = R) ∨ Dead R L e
section
variable {F : Int → List Tok → Res} {nn mm k : Nat} {R : Res} {x : X} {L : List Tok} {p e : Int}
theorem Inv1.ok (h : Inv1 F nn mm k R x L p e) : e = 0 → 0 ≤ p ∧ p ≤ 2000 := fun he => h.elim (fun h => h.2.1) (fun h => absurd he h.1)
theorem Inv2.ok (h : Inv2 F nn mm k R x L p e) : e = 0 → 0 ≤ p ∧ p ≤ 2000 := fun he => h.elim (fun h => h.2.1) (fun h => absurd he h.1)
end
end Go.Proofs.YtjeofffddbibeaaDoor.Pa
end

section
namespace Go.Proofs.YtjeofffddbibeaaDoor.Pa
open Go Go.RowKit Go.Proofs.YtjeofffddbibeaaDoor.PParseTells Go.Proofs.YtjeofffddbibeaaDoor.Ex Go.Proofs.YtjeofffddbibeaaDoorW.PrintWords Go.Proofs.YtjeofffddbibeaaDoorW.PrintLast Go.Proofs.YtjeofffddbibeaaDoorW.PrintMore
set_option linter.unusedVariables false
set_option linter.unusedSimpArgs false
structure RySt (w0 w W : World) (g : Nat) (L0 L : List Tok) (p e : Int) : Prop where
  isp : RdR w0 W g L0 L p e
  kept : Kept w W (At g)
  zero : W.heap[w.heap.size]? = some (.cells zCells TX (0, 0))
  lg : g < w.heap.size
section
variable {w0 w W W2 : World} {g : Nat} {L0 L L2 : List Tok} {p p2 e e2 : Int}
theorem RySt.at (h : RySt w0 w W g L0 L p e) (hI : RdR w0 W2 g L0 L2 p2 e2) (hk : Kept W W2 (At g)) : RySt w0 w W2 g L0 L2 p2 e2 := by
  have h1 := h.lg
  exact ⟨hI, h.kept.then_ hk (fun k hs => .inl hs), blk_kept h.zero hk (fun hs => by have : w.heap.size = g := hs; omega), h1⟩
theorem RySt.later (h : RySt w0 w W g L0 L p e) (hb : Below W.heap.size W W2) : RySt w0 w W2 g L0 L p e := h.at (h.isp.keep hb) (Kept.of_below hb _)
theorem RySt.close (h : RySt w0 w W g L0 L p e) (hk : Kept W W2 (At w.heap.size)) (hB : Below w0.heap.size w0 W2) : RdR w0 W2 g L0 L p e ∧ Kept w W2 (At g) := by
  have h1 := h.lg
  exact ⟨h.isp.mv hk hB (by show ¬ (g = w.heap.size); omega), h.kept.then_ hk (fun k hs => .inr (by have : k = w.heap.size := hs; omega))⟩
theorem RySt.sz (h : RySt w0 w W g L0 L p e) : w.heap.size < W.heap.size := blk_lt h.zero
theorem RxSt.later {b6 b : Nat} {op : Int} {ns : List Int} {ys : List X} {v2 v3 : Value} (h : RxSt w0 w W g b6 b op L0 L p e ns ys v2 v3) (hb : Below W.heap.size W W2) : RxSt w0 w W2 g b6 b op L0 L p e ns ys v2 v3 := h.at (h.isp.keep hb) (Kept.of_below hb _)
theorem RdR.facts (h : RdR w0 W g L0 L p e) : ∃ (k : Nat) (A0 : Option Addr) (c0 : Nat), k ≤ L0.length ∧ L0.drop k = L ∧ W.cell? ⟨g, 0, none⟩ = some (.slice A0 L0.length c0) ∧ W.cell? ⟨g, 1, none⟩ = some (.int .i64 k) ∧ W.cell? ⟨g, 2, none⟩ = some (.int .i64 p) ∧ W.cell? ⟨g, 3, none⟩ = some (.int .i64 e) ∧ W.frozen? ⟨g, 2, none⟩ = false ∧ L0.length ≤ 9223372036854775800 ∧
    ∀ t r, L = t :: r → ∃ ad, A0 = some ad ∧ W.cell? (ad.add (k * 3)) = some (.int .u8 t.f0) ∧ k < L0.length := by
  obtain ⟨k, h1, h2, ⟨A0, c0, h3, h4, h5⟩, h6, h7⟩ := h
  refine ⟨k, A0, c0, h1, h2, (blk_cell h3 0).trans rfl, (blk_cell h3 1).trans rfl, (blk_cell h3 2).trans rfl, (blk_cell h3 3).trans rfl, blk_frozen h3 2, h7, ?_⟩
  rintro t r rfl
  obtain ⟨q1, q2, q3⟩ := rd_at L0 k h2
  obtain ⟨ad, rfl, c1, c2, c3⟩ := at_T61 (Kd.C_below h5 h6) (k : Int) (by omega) (by omega)
  rw [q1] at c1
  exact ⟨ad, rfl, c1, q2⟩
theorem RdR.more (h : RdR w0 W g L0 L p e) (q : Int) : RdR w0 (W.setCell ⟨g, 2, none⟩ (.int .i64 q)) g L0 L q e := by
  obtain ⟨k, h1, h2, ⟨A0, c0, h3, h4, h5⟩, h6, h7⟩ := h
  exact ⟨k, h1, h2, ⟨A0, c0, blk_put h3 2 _ rfl, h4, h5⟩, below_set h6 h4, h7⟩
end
/-- At the loop's head. -/
structure RxRel (w0 w wb wr : World) (g : Nat) (op : Int) (L0 : List Tok) (nn aa : Nat) (F : Int → List Tok → Res) (R : Res) (k : Nat) (L : List Tok) (p e : Int) (ns : List Int) (ys : List X) (v2 v3 : Value) : Prop where
  k1 : k ≤ nn + aa
  len : ns.length + ys.length = k
  nil : k ≤ nn → ys = [] ∧ v3 = .slice none 0 0
  inv : Inv1 F nn (nn + aa) k R ⟨op, nil8, ns, ys⟩ L p e
  st : RxSt w0 w wr g w.heap.size wb.heap.size op L0 L p e ns ys v2 v3
end Go.Proofs.YtjeofffddbibeaaDoor.Pa
end

section
namespace Go.Proofs.YtjeofffddbibeaaDoor.Pa
open Go Go.RowKit Go.Proofs.YtjeofffddbibeaaDoor.PParseTells Go.Proofs.YtjeofffddbibeaaDoor.Ex Go.Proofs.YtjeofffddbibeaaDoorW.PrintWords Go.Proofs.YtjeofffddbibeaaDoorW.PrintLast Go.Proofs.YtjeofffddbibeaaDoorW.PrintMore
set_option linter.unusedVariables false
set_option linter.unusedSimpArgs false
section
variable {w0 w W W2 : World} {g : Nat} {L0 L : List Tok} {p e : Int}
end
theorem place_ok {a : Int} {L : List Tok} {e : Int} (h : (placeF a L e).2 = 0) : e = 0 ∧ (placeF a L e).1 = -1 := by
  unfold placeF at h ⊢
  by_cases he : e = 0
  · rw [if_pos he] at h ⊢
    by_cases hL : L = []
    · rw [if_pos hL] at h ⊢
      exact ⟨he, rfl⟩
    · rw [if_neg hL] at h
      cases h
  · rw [if_neg he] at h
    exact absurd h he
end Go.Proofs.YtjeofffddbibeaaDoor.Pa
end

section
namespace Go.Proofs.YtjeofffddbibeaaDoor.Pa
open Go Go.RowKit Go.Proofs.YtjeofffddbibeaaDoor.PParseTells Go.Proofs.YtjeofffddbibeaaDoor.Ex
set_option linter.unusedVariables false
set_option linter.unusedSimpArgs false
theorem suf_len {a b : List Tok} (h : a <:+ b) : a.length ≤ b.length := h.length_le
/-- What is left is what was behind: the part ahead of it. -/
theorem suf_cut {C R l : List Tok} (h : l <:+ C ++ R) (hl : R.length ≤ l.length) : ∃ C1 C2, C = C1 ++ C2 ∧ l = C2 ++ R := by
  obtain ⟨D, hD⟩ := h
  have hlen : D.length ≤ C.length := by
    have := congrArg List.length hD
    rw [List.length_append, List.length_append] at this
    omega
  rcases List.append_eq_append_iff.1 hD with ⟨a, h1, h2⟩ | ⟨a, h1, h2⟩
  · exact ⟨D, a, h1, h2⟩
  · rw [h1, List.length_append] at hlen
    have ha : a = [] := List.eq_nil_of_length_eq_zero (by omega)
    subst ha
    rw [List.append_nil] at h1
    exact ⟨C, [], by rw [List.append_nil], by rw [List.nil_append] at h2 ⊢; exact h2.symm⟩
theorem isF_app (s : ByteArray) {C : List Tok} (hC : C ≠ []) (M R : List Tok) : isF s (C ++ M) = isF s (C ++ R) := by
  cases C with
  | nil => exact absurd rfl hC
  | cons t C => rfl
theorem mark_suf (s : ByteArray) (L : List Tok) : (markF s L).1 <:+ L := by
  rcases mark_cases s L with ⟨t, r, rfl, h, _⟩ | ⟨h, _⟩
  · rw [h]; exact List.suffix_cons t r
  · rw [h]; exact List.suffix_refl L
theorem take_suf (ks : List Int) (L : List Tok) : (takeF ks L).2.1 <:+ L := by
  rcases take_cases ks L with ⟨t, r, rfl, h, _⟩ | h
  · rw [h]; exact List.suffix_cons t r
  · rw [h]; exact List.suffix_refl L
theorem mark_on (s : ByteArray) (t : Tok) (r : List Tok) (h : isF s (t :: r) = true) : markF s (t :: r) = (r, 0) := if_pos h
/-- The same ahead, whatever is behind: at least that is taken; and what was right is the same. -/
structure Stab (f : Int → List Tok → Res) : Prop where
  suf : ∀ p L, 0 ≤ p → p ≤ 2000 → (f p L).l <:+ L
  more : ∀ p C R, 0 ≤ p → p ≤ 2000 → (f p (C ++ R)).l = R → ∀ M, (f p (C ++ M)).l.length ≤ M.length
  same : ∀ p C R, 0 ≤ p → p ≤ 2000 → (f p (C ++ R)).l = R → (f p (C ++ R)).e = 0 → ∀ M, isF LPA M = isF LPA R → f p (C ++ M) = ⟨(f p (C ++ R)).x, M, (f p (C ++ R)).p, 0⟩
theorem nil_of_suf {C R l : List Tok} (h1 : l = C ++ R) (h2 : l = R) : C = [] := by
  rw [h1] at h2
  have := congrArg List.length h2
  rw [List.length_append] at this
  exact List.eq_nil_of_length_eq_zero (by omega)
theorem take_stab (ks : List Int) (C R : List Tok) (h : (takeF ks (C ++ R)).2.1 = R) : (∀ M, (takeF ks (C ++ M)).2.1.length ≤ M.length) ∧ ((takeF ks (C ++ R)).2.2 = 0 → ∀ M, takeF ks (C ++ M) = ((takeF ks (C ++ R)).1, M, 0)) := by
  rcases take_cases ks (C ++ R) with ⟨t, r, hL, ht, hm⟩ | ht
  · rw [ht] at h ⊢
    dsimp only at h ⊢
    subst h
    have hC : C = [t] := by
      have h1 : C ++ r = [t] ++ r := hL
      exact List.append_cancel_right h1
    subst hC
    have hz : ∀ M, takeF ks ([t] ++ M) = (t, M, 0) := fun M => by
      have h0 : takeF ks (t :: r) = (t, r, 0) := by rw [← hL]; exact ht
      by_cases hc : t.f0 ≠ 0 ∧ t.f0 ∈ ks
      · exact if_pos hc
      · have h3 : takeF ks (t :: r) = (z61, t :: r, 110) := if_neg hc
        rw [h3] at h0
        have := congrArg (fun q => q.2.2) h0
        simp at this
    exact ⟨fun M => by rw [hz]; exact Nat.le_refl _, fun _ M => hz M⟩
  · rw [ht] at h ⊢
    dsimp only at h ⊢
    have hC := nil_of_suf rfl h
    subst hC
    exact ⟨fun M => suf_len (take_suf ks M), fun h0 => by cases h0⟩
theorem mark_stab (s : ByteArray) (C R : List Tok) (h : (markF s (C ++ R)).1 = R) : (∀ M, (markF s (C ++ M)).1.length ≤ M.length) ∧ ((markF s (C ++ R)).2 = 0 → ∀ M, markF s (C ++ M) = (M, 0)) := by
  rcases mark_cases s (C ++ R) with ⟨t, r, hL, hm, hi⟩ | ⟨hm, hi⟩
  · rw [hm] at h ⊢
    dsimp only at h ⊢
    subst h
    have hC : C = [t] := List.append_cancel_right (show C ++ r = [t] ++ r from hL)
    subst hC
    have hz : ∀ M, markF s ([t] ++ M) = (M, 0) := fun M => mark_on s t M (by rw [hL] at hi; exact hi)
    exact ⟨fun M => by rw [hz]; exact Nat.le_refl _, fun _ M => hz M⟩
  · rw [hm] at h ⊢
    dsimp only at h ⊢
    have hC := nil_of_suf rfl h
    subst hC
    exact ⟨fun M => suf_len (mark_suf s M), fun h0 => by cases h0⟩
theorem item_stab {rec : Int → List Tok → Res} (hr : Stab rec) (num : Bool) (x : X) : Stab (itemF rec num x) := by
  cases num with
  | true =>
    have hu : ∀ p L, itemF rec true x p L = ⟨⟨x.f0, x.f1, x.f2 ++ [(numF L).1.f2], x.f3⟩, (numF L).2.1, p, (numF L).2.2⟩ := fun p L => by unfold itemF; rw [if_pos rfl]
    refine ⟨fun p L _ _ => by rw [hu]; exact take_suf _ L, fun p C R _ _ h M => ?_, fun p C R _ _ h he M _ => ?_⟩
    · rw [hu] at h ⊢
      exact (take_stab [2, 3] C R h).1 M
    · rw [hu] at h he
      have := (take_stab [2, 3] C R h).2 he M
      rw [hu, hu, show numF (C ++ M) = _ from this]
  | false =>
    have hu : ∀ p L, itemF rec false x p L = ⟨⟨x.f0, x.f1, x.f2, x.f3 ++ [(rec p L).x]⟩, (rec p L).l, (rec p L).p, (rec p L).e⟩ := fun p L => by unfold itemF; rw [if_neg (by simp)]
    refine ⟨fun p L h0 h1 => by rw [hu]; exact hr.suf p L h0 h1, fun p C R h0 h1 h M => ?_, fun p C R h0 h1 h he M hM => ?_⟩
    · rw [hu] at h ⊢
      exact hr.more p C R h0 h1 h M
    · rw [hu] at h he
      rw [hu, hu, hr.same p C R h0 h1 h he M hM]
theorem steps_stab {rec : Int → List Tok → Res} (hr : Stab rec) (hG : ∀ p L, 0 ≤ p → p ≤ 2000 → Good p L (rec p L)) (nums many : Nat) : ∀ (m : Nat) (x : X), Stab (stepsF rec nums many m x) := by
  intro m
  induction m with
  | zero =>
    intro x
    refine ⟨fun p L _ _ => List.suffix_refl L, fun p C R _ _ h M => ?_, fun p C R _ _ h _ M _ => ?_⟩
    · have hC : C = [] := nil_of_suf (R := R) (l := C ++ R) rfl h
      subst hC
      exact Nat.le_refl _
    · have hC : C = [] := nil_of_suf (R := R) (l := C ++ R) rfl h
      subst hC
      rfl
  | succ m ih =>
    intro x
    have hI := item_stab hr (decide (many - (m + 1) < nums)) x
    have hGI := fun p L h0 h1 => item_good hG (decide (many - (m + 1) < nums)) x p L h0 h1
    have hu : ∀ p L, stepsF rec nums many (m + 1) x p L = if (itemF rec (decide (many - (m + 1) < nums)) x p L).e ≠ 0 then ⟨zX, (itemF rec (decide (many - (m + 1) < nums)) x p L).l, (itemF rec (decide (many - (m + 1) < nums)) x p L).p, (itemF rec (decide (many - (m + 1) < nums)) x p L).e⟩
      else if (markF (if m = 0 then RPA else COM) (itemF rec (decide (many - (m + 1) < nums)) x p L).l).2 ≠ 0 then ⟨zX, (markF (if m = 0 then RPA else COM) (itemF rec (decide (many - (m + 1) < nums)) x p L).l).1, (itemF rec (decide (many - (m + 1) < nums)) x p L).p, (markF (if m = 0 then RPA else COM) (itemF rec (decide (many - (m + 1) < nums)) x p L).l).2⟩
      else stepsF rec nums many m (itemF rec (decide (many - (m + 1) < nums)) x p L).x (itemF rec (decide (many - (m + 1) < nums)) x p L).p (markF (if m = 0 then RPA else COM) (itemF rec (decide (many - (m + 1) < nums)) x p L).l).1 := fun p L => by rw [stepsF]
    generalize itemF rec (decide (many - (m + 1) < nums)) x = g at *
    generalize (if m = 0 then RPA else COM) = mk at *
    have hsuf : ∀ p L, 0 ≤ p → p ≤ 2000 → (stepsF rec nums many (m + 1) x p L).l <:+ (g p L).l := by
      intro p L h0 h1
      rw [hu]
      split
      · exact List.suffix_refl _
      · rename_i he
        split
        · exact mark_suf _ _
        · exact ((ih _).suf _ _ (by have := (hGI p L h0 h1).p0; omega) ((hGI p L h0 h1).ok (by omega))).trans (mark_suf _ _)
    have hshort : ∀ p L, 0 ≤ p → p ≤ 2000 → (stepsF rec nums many (m + 1) x p L).l.length ≤ (g p L).l.length := fun p L h0 h1 => suf_len (hsuf p L h0 h1)
    have main : ∀ p C R, 0 ≤ p → p ≤ 2000 → (stepsF rec nums many (m + 1) x p (C ++ R)).l = R → (∀ M, (stepsF rec nums many (m + 1) x p (C ++ M)).l.length ≤ M.length) ∧ ((stepsF rec nums many (m + 1) x p (C ++ R)).e = 0 → ∀ M, isF LPA M = isF LPA R → stepsF rec nums many (m + 1) x p (C ++ M) = ⟨(stepsF rec nums many (m + 1) x p (C ++ R)).x, M, (stepsF rec nums many (m + 1) x p (C ++ R)).p, 0⟩) := by
      intro p C R h0 h1 h
      have hs1 := hsuf p (C ++ R) h0 h1
      rw [h] at hs1
      obtain ⟨C1, C2, rfl, hl⟩ := suf_cut (hI.suf p (C ++ R) h0 h1) (suf_len hs1)
      have hap : ∀ M, C1 ++ C2 ++ M = C1 ++ (C2 ++ M) := fun M => List.append_assoc _ _ _
      rw [hap] at h hl ⊢
      have hmore := hI.more p C1 (C2 ++ R) h0 h1 hl
      have hsame := hI.same p C1 (C2 ++ R) h0 h1 hl
      have hgood := hGI p (C1 ++ (C2 ++ R)) h0 h1
      have hval := hu p (C1 ++ (C2 ++ R))
      by_cases he : (g p (C1 ++ (C2 ++ R))).e ≠ 0
      · rw [if_pos he] at hval
        rw [hval] at h ⊢
        dsimp only at h ⊢
        have hC2 : C2 = [] := nil_of_suf hl h
        subst hC2
        refine ⟨fun M => ?_, fun h9 => absurd h9 he⟩
        have := hmore M
        have h2 := hshort p (C1 ++ M) h0 h1
        rw [hap]
        exact Nat.le_trans h2 this
      · have he0 : (g p (C1 ++ (C2 ++ R))).e = 0 := by omega
        rw [if_neg he] at hval
        by_cases hm : (markF mk (g p (C1 ++ (C2 ++ R))).l).2 ≠ 0
        · rw [if_pos hm] at hval
          rw [hval] at h ⊢
          dsimp only at h ⊢
          have hml : (markF mk (C2 ++ R)).1 = C2 ++ R := by
            rw [← hl]
            rcases mark_cases mk (g p (C1 ++ (C2 ++ R))).l with ⟨t, r, _, hx, _⟩ | ⟨hx, _⟩
            · rw [hx] at hm; simp at hm
            · rw [hx]
          have hC2 : C2 = [] := nil_of_suf (l := (markF mk (g p (C1 ++ (C2 ++ R))).l).1) (by rw [hl]; exact hml) h
          subst hC2
          refine ⟨fun M => ?_, fun h9 => absurd h9 hm⟩
          rw [hap]
          exact Nat.le_trans (hshort p (C1 ++ M) h0 h1) (hmore M)
        · have hm0 : (markF mk (C2 ++ R)).2 = 0 := by rw [← hl]; omega
          rw [if_neg hm] at hval
          rw [hval] at h ⊢
          have hp0 := hgood.p0
          have hp1 := hgood.ok he0
          rw [hl] at h ⊢
          rcases mark_cases mk (C2 ++ R) with ⟨t, r, hL2, hx, hi⟩ | ⟨hx, _⟩
          · rw [hx] at h ⊢
            dsimp only at h ⊢
            have hs2 := (ih (g p (C1 ++ (C2 ++ R))).x).suf (g p (C1 ++ (C2 ++ R))).p r (by omega) hp1
            rw [h] at hs2
            have hne : C2 ≠ [] := by
              rintro rfl
              have h5 := suf_len hs2
              have h6 := congrArg List.length hL2
              simp at h6
              omega
            obtain ⟨t', C3, rfl⟩ := List.exists_cons_of_ne_nil hne
            have hL2' : t' :: (C3 ++ R) = t :: r := hL2
            injection hL2' with ht hr'
            subst ht
            subst hr'
            have hone : ∀ M, g p (C1 ++ (t' :: C3 ++ M)) = ⟨(g p (C1 ++ (t' :: C3 ++ R))).x, t' :: C3 ++ M, (g p (C1 ++ (t' :: C3 ++ R))).p, 0⟩ := fun M => hsame he0 (t' :: C3 ++ M) (isF_app LPA hne M R)
            have hstep : ∀ M, stepsF rec nums many (m + 1) x p (C1 ++ (t' :: C3 ++ M)) = stepsF rec nums many m (g p (C1 ++ (t' :: C3 ++ R))).x (g p (C1 ++ (t' :: C3 ++ R))).p (C3 ++ M) := by
              intro M
              rw [hu, hone M]
              dsimp only
              rw [if_neg (by simp), show t' :: C3 ++ M = t' :: (C3 ++ M) from rfl, mark_on mk t' (C3 ++ M) hi, if_neg (by simp)]
            have ih1 := (ih (g p (C1 ++ (t' :: C3 ++ R))).x).more (g p (C1 ++ (t' :: C3 ++ R))).p C3 R (by omega) hp1 h
            have ih2 := (ih (g p (C1 ++ (t' :: C3 ++ R))).x).same (g p (C1 ++ (t' :: C3 ++ R))).p C3 R (by omega) hp1 h
            refine ⟨fun M => ?_, fun h9 M hM => ?_⟩
            · rw [hap, hstep M]
              exact ih1 M
            · rw [hap, hstep M]
              exact ih2 h9 M hM
          · rw [hx] at hm0
            simp at hm0
    exact ⟨fun p L h0 h1 => (hsuf p L h0 h1).trans (hI.suf p L h0 h1), fun p C R h0 h1 h => (main p C R h0 h1 h).1, fun p C R h0 h1 h => (main p C R h0 h1 h).2⟩
theorem exprG_stab (deep : Bool) {rec : Int → List Tok → Res} (hr : deep = false → Stab rec) (hG : ∀ p L, 0 ≤ p → p ≤ 2000 → Good p L (rec p L)) : Stab (exprG deep rec) := by
  have hg := fun p L h0 h1 => exprG_good deep hG p L h0 h1
  -- one word ahead
  have hone : ∀ (t : Tok) (r : List Tok) p, exprG deep rec p (t :: r) = if t.f0 = 1 ∧ (deep = true ∨ 2000 ≤ p) then ⟨zX, t :: r, p, 111⟩ else if t.f0 ≠ 1 then ⟨zX, t :: r, p + 1, 110⟩ else
      if (opF t.f1).2 = true ∧ isF LPA r = true then stepsF rec (numsOf (opF t.f1).1).toNat (manyOf (opF t.f1).1) (manyOf (opF t.f1).1) ⟨(opF t.f1).1, nil8, [], []⟩ (p + 1) r.tail else ⟨⟨0, t.f1, [], []⟩, r, p + 1, 0⟩ := by
    intro t r p
    unfold exprG
    have hk : kindF (t :: r) = t.f0 := rfl
    rw [hk]
    by_cases h1 : t.f0 = 1 ∧ (deep = true ∨ 2000 ≤ p)
    · rw [if_pos h1, if_pos h1]
    · rw [if_neg h1, if_neg h1]
      by_cases h2 : t.f0 = 1
      · have ht : takeF [1] (t :: r) = (t, r, 0) := if_pos ⟨by omega, by simp [h2]⟩
        rw [ht, if_neg (show ¬ ((t, r, (0 : Int)).2.2 ≠ 0) by simp), if_neg (show ¬ (t.f0 ≠ 1) by omega)]
      · have ht : takeF [1] (t :: r) = (z61, t :: r, 110) := if_neg (by simp [h2])
        rw [ht, if_pos (by simp), if_pos h2]
  have hsuf := fun p L h0 h1 => (hg p L h0 h1).l
  have main : ∀ p C R, 0 ≤ p → p ≤ 2000 → (exprG deep rec p (C ++ R)).l = R → (∀ M, (exprG deep rec p (C ++ M)).l.length ≤ M.length) ∧ ((exprG deep rec p (C ++ R)).e = 0 → ∀ M, isF LPA M = isF LPA R → exprG deep rec p (C ++ M) = ⟨(exprG deep rec p (C ++ R)).x, M, (exprG deep rec p (C ++ R)).p, 0⟩) := by
    intro p C R h0 h1 h
    cases C with
    | nil =>
      refine ⟨fun M => suf_len (hsuf p M h0 h1), fun he M hM => ?_⟩
      rw [List.nil_append] at h he
      -- something is taken where there is no error
      exfalso
      cases R with
      | nil =>
        unfold exprG at he
        rw [if_neg (by simp [kindF]), show takeF [1] ([] : List Tok) = (z61, [], 110) from rfl, if_pos (by simp)] at he
        cases he
      | cons t r =>
        rw [hone] at h he
        split at h
        · rename_i hc; rw [if_pos hc] at he; cases he
        · rename_i hc
          rw [if_neg hc] at he
          split at h
          · rename_i hc2; rw [if_pos hc2] at he; cases he
          · rename_i hc2
            have hd : deep = false := by cases deep with | false => rfl | true => exact absurd ⟨by omega, .inl rfl⟩ hc
            have hp : p < 2000 := by
              rcases Int.lt_or_le p 2000 with h9 | h9
              · exact h9
              · exact absurd ⟨by omega, .inr h9⟩ hc
            split at h
            · have h5 := suf_len ((steps_stab (hr hd) hG (numsOf (opF t.f1).1).toNat (manyOf (opF t.f1).1) (manyOf (opF t.f1).1) ⟨(opF t.f1).1, nil8, [], []⟩).suf (p + 1) r.tail (by omega) (by omega))
              rw [h] at h5
              rw [List.length_tail, List.length_cons] at h5
              omega
            · have := congrArg List.length h
              simp at this
    | cons t C =>
      have hap : ∀ M, t :: C ++ M = t :: (C ++ M) := fun M => rfl
      rw [hap, hone] at h
      have hval := hone t (C ++ R) p
      rw [hap, hval]
      by_cases hc : t.f0 = 1 ∧ (deep = true ∨ 2000 ≤ p)
      · rw [if_pos hc] at h
        have := nil_of_suf (C := t :: C) (l := t :: (C ++ R)) rfl h
        cases this
      · rw [if_neg hc] at h ⊢
        by_cases hc2 : t.f0 ≠ 1
        · rw [if_pos hc2] at h
          have := nil_of_suf (C := t :: C) (l := t :: (C ++ R)) rfl h
          cases this
        · rw [if_neg hc2] at h ⊢
          have hd : deep = false := by cases deep with | false => rfl | true => exact absurd ⟨by omega, .inl rfl⟩ hc
          have hp : p < 2000 := by
            rcases Int.lt_or_le p 2000 with h9 | h9
            · exact h9
            · exact absurd ⟨by omega, .inr h9⟩ hc
          have hS := steps_stab (hr hd) hG (numsOf (opF t.f1).1).toNat (manyOf (opF t.f1).1) (manyOf (opF t.f1).1) ⟨(opF t.f1).1, nil8, [], []⟩
          by_cases ho : (opF t.f1).2 = true ∧ isF LPA (C ++ R) = true
          · rw [if_pos ho] at h ⊢
            have hs2 := hS.suf (p + 1) (C ++ R).tail (by omega) (by omega)
            rw [h] at hs2
            cases C with
            | nil =>
              exfalso
              cases R with
              | nil => simp [isF] at ho
              | cons a b =>
                have := suf_len hs2
                simp at this
                omega
            | cons lp C =>
              have hon : ∀ M, exprG deep rec p (t :: (lp :: C ++ M)) = stepsF rec (numsOf (opF t.f1).1).toNat (manyOf (opF t.f1).1) (manyOf (opF t.f1).1) ⟨(opF t.f1).1, nil8, [], []⟩ (p + 1) (C ++ M) := by
                intro M
                rw [hone, if_neg hc, if_neg hc2, if_pos ⟨ho.1, by rw [show isF LPA (lp :: C ++ M) = isF LPA (lp :: C ++ R) from rfl]; exact ho.2⟩]
                rfl
              have h' : (stepsF rec (numsOf (opF t.f1).1).toNat (manyOf (opF t.f1).1) (manyOf (opF t.f1).1) ⟨(opF t.f1).1, nil8, [], []⟩ (p + 1) (C ++ R)).l = R := h
              refine ⟨fun M => ?_, fun he M hM => ?_⟩
              · rw [show t :: lp :: C ++ M = t :: (lp :: C ++ M) from rfl, hon]
                exact hS.more (p + 1) C R (by omega) (by omega) h' M
              · rw [show t :: lp :: C ++ M = t :: (lp :: C ++ M) from rfl, hon]
                exact hS.same (p + 1) C R (by omega) (by omega) h' he M hM
          · rw [if_neg ho] at h ⊢
            have hC : C = [] := nil_of_suf (l := C ++ R) rfl h
            subst hC
            have hv : ∀ M, exprG deep rec p (t :: ([] ++ M)) = if (opF t.f1).2 = true ∧ isF LPA M = true then stepsF rec (numsOf (opF t.f1).1).toNat (manyOf (opF t.f1).1) (manyOf (opF t.f1).1) ⟨(opF t.f1).1, nil8, [], []⟩ (p + 1) M.tail else ⟨⟨0, t.f1, [], []⟩, M, p + 1, 0⟩ := fun M => by rw [List.nil_append, hone, if_neg hc, if_neg hc2]
            refine ⟨fun M => ?_, fun he M hM => ?_⟩
            · rw [show [t] ++ M = t :: ([] ++ M) from rfl, hv]
              split
              · exact Nat.le_trans (suf_len (hS.suf (p + 1) M.tail (by omega) (by omega))) (by rw [List.length_tail]; omega)
              · exact Nat.le_refl _
            · rw [show [t] ++ M = t :: ([] ++ M) from rfl, hv, if_neg (fun h9 => ho ⟨h9.1, by rw [List.nil_append, ← hM]; exact h9.2⟩)]
  exact ⟨hsuf, fun p C R h0 h1 h => (main p C R h0 h1 h).1, fun p C R h0 h1 h => (main p C R h0 h1 h).2⟩
theorem expr_stab : ∀ d : Nat, Stab (exprF d)
  | 0 => exprG_stab true (fun h => by cases h) (fun p L h0 h1 => ⟨.inr (.inr rfl), List.suffix_refl L, Int.le_refl p, by show p ≤ 2001; omega, fun h => by cases h⟩)
  | d + 1 => exprG_stab false (fun _ => expr_stab d) (expr_good d)
theorem end_suf (s : ByteArray) (L : List Tok) : (endF s L).2.2.1 <:+ L := by
  unfold endF
  split
  · exact mark_suf s L
  · split
    · exact (mark_suf s _).trans (take_suf _ L)
    · exact take_suf _ L
/-- The words ahead, where an answer's words are what lies behind. -/
theorem end_stab (s : ByteArray) (C R : List Tok) (h : (endF s (C ++ R)).2.2.1 = R) : (∀ M, (endF s (C ++ M)).2.2.1.length ≤ M.length) ∧ ((endF s (C ++ R)).2.2.2 = 0 → ∀ M, endF s (C ++ M) = ((endF s (C ++ R)).1, (endF s (C ++ R)).2.1, M, 0)) := by
  cases hi : isF s (C ++ R) with
  | true =>
    have hv : endF s (C ++ R) = (0, false, (markF s (C ++ R)).1, (markF s (C ++ R)).2) := if_pos hi
    rw [hv] at h ⊢
    dsimp only at h ⊢
    obtain ⟨m1, m2⟩ := mark_stab s C R h
    have hm : (markF s (C ++ R)).2 = 0 := by
      rcases mark_cases s (C ++ R) with ⟨t, r, _, hx, _⟩ | ⟨_, hx⟩
      · rw [hx]
      · rw [hi] at hx; cases hx
    have hC : C ≠ [] := by
      rintro rfl
      rcases mark_cases s ([] ++ R) with ⟨t, r, hL, hx, _⟩ | ⟨_, hx⟩
      · rw [hx] at h
        have h9 : R = t :: r := hL
        rw [h9] at h
        have := congrArg List.length h
        simp at this
      · rw [hi] at hx; cases hx
    have hon : ∀ M, endF s (C ++ M) = (0, false, M, 0) := fun M => by
      have := m2 hm M
      unfold endF
      rw [if_pos (by rw [isF_app s hC M R]; exact hi), this]
    exact ⟨fun M => by rw [hon]; exact Nat.le_refl _, fun _ M => hon M⟩
  | false =>
    by_cases hC : C = []
    · subst hC
      refine ⟨fun M => suf_len (end_suf s M), fun he => ?_⟩
      exfalso
      have hs := end_suf s R
      have h9 : (endF s R).2.2.1 = R := h
      have he9 : (endF s R).2.2.2 = 0 := he
      have hi9 : isF s R = false := hi
      unfold endF at h9 he9
      rw [hi9, if_neg (by simp)] at h9 he9
      by_cases hz : (numF R).2.2 = 0
      · rw [if_pos hz] at h9
        rcases take_cases [2, 3] R with ⟨t, r, rfl, hx, _⟩ | hx
        · have h5 := suf_len (mark_suf s (numF (t :: r)).2.1)
          rw [show numF (t :: r) = (t, r, 0) from hx] at h9 h5
          dsimp only at h9 h5
          rw [h9] at h5
          simp at h5
          omega
        · rw [show numF R = _ from hx] at hz; simp at hz
      · rw [if_neg hz] at he9; exact hz he9
    · have hv : ∀ M, endF s (C ++ M) = if (numF (C ++ M)).2.2 = 0 then ((numF (C ++ M)).1.f2, decide ((markF s (numF (C ++ M)).2.1).2 = 0), (markF s (numF (C ++ M)).2.1).1, (markF s (numF (C ++ M)).2.1).2) else ((numF (C ++ M)).1.f2, false, (numF (C ++ M)).2.1, (numF (C ++ M)).2.2) := fun M => by
        unfold endF
        rw [if_neg (by rw [isF_app s hC M R, hi]; simp)]
      have hshort : ∀ L, (if (numF L).2.2 = 0 then ((numF L).1.f2, decide ((markF s (numF L).2.1).2 = 0), (markF s (numF L).2.1).1, (markF s (numF L).2.1).2) else ((numF L).1.f2, false, (numF L).2.1, (numF L).2.2) : Int × Bool × List Tok × Int).2.2.1.length ≤ (numF L).2.1.length := fun L => by
        split
        · exact suf_len (mark_suf s _)
        · exact Nat.le_refl _
      have hsu : (endF s (C ++ R)).2.2.1.length ≤ (numF (C ++ R)).2.1.length := by rw [hv]; exact hshort _
      rw [h] at hsu
      obtain ⟨C1, C2, hCC, hl⟩ := suf_cut (take_suf [2, 3] (C ++ R)) hsu
      have hap : ∀ M, C ++ M = C1 ++ (C2 ++ M) := fun M => by rw [hCC, List.append_assoc]
      rw [hap] at hl
      obtain ⟨t1, t2⟩ := take_stab [2, 3] C1 (C2 ++ R) hl
      have hvR := hv R
      by_cases hz : (numF (C ++ R)).2.2 = 0
      · rw [if_pos hz] at hvR
        have hone : ∀ M, numF (C ++ M) = ((takeF [2, 3] (C1 ++ (C2 ++ R))).1, C2 ++ M, 0) := fun M => by
          rw [hap M]
          exact t2 (by rw [← hap R]; exact hz) (C2 ++ M)
        rw [hvR, hone R] at h
        dsimp only at h
        obtain ⟨m1, m2⟩ := mark_stab s C2 R h
        refine ⟨fun M => ?_, fun he M => ?_⟩
        · rw [hv M, hone M, if_pos rfl]
          exact m1 M
        · rw [hvR, hone R] at he ⊢
          dsimp only at he ⊢
          rw [hv M, hone M, if_pos rfl]
          dsimp only
          rw [m2 he M, he]
      · rw [if_neg hz] at hvR
        rw [hvR] at h
        dsimp only at h
        have hC2 : C2 = [] := nil_of_suf (l := (numF (C ++ R)).2.1) (by rw [hap]; exact hl) h
        subst hC2
        refine ⟨fun M => ?_, fun he => absurd (by rw [hvR] at he; exact he) hz⟩
        rw [hv M]
        refine Nat.le_trans (hshort _) ?_
        rw [hap M]
        exact t1 M
theorem scope_suf (L : List Tok) : (scopeF L).l <:+ L := by
  unfold scopeF
  split
  · exact mark_suf _ L
  · split
    · exact (end_suf _ _).trans (mark_suf _ L)
    · exact (end_suf _ _).trans ((end_suf _ _).trans (mark_suf _ L))
theorem scope_stab (C R : List Tok) (h : (scopeF (C ++ R)).l = R) : (∀ M, (scopeF (C ++ M)).l.length ≤ M.length) ∧ ((scopeF (C ++ R)).e = 0 → ∀ M, scopeF (C ++ M) = ⟨(scopeF (C ++ R)).lo, (scopeF (C ++ R)).hi, (scopeF (C ++ R)).hl, (scopeF (C ++ R)).hh, M, 0⟩) := by
  have hu : ∀ L, scopeF L = if (markF LBR L).2 ≠ 0 then ⟨0, 0, false, false, (markF LBR L).1, (markF LBR L).2⟩
    else if (endF CLN (markF LBR L).1).2.2.2 ≠ 0 then ⟨(endF CLN (markF LBR L).1).1, 0, (endF CLN (markF LBR L).1).2.1, false, (endF CLN (markF LBR L).1).2.2.1, (endF CLN (markF LBR L).1).2.2.2⟩
    else ⟨(endF CLN (markF LBR L).1).1, (endF RBR (endF CLN (markF LBR L).1).2.2.1).1, (endF CLN (markF LBR L).1).2.1, (endF RBR (endF CLN (markF LBR L).1).2.2.1).2.1, (endF RBR (endF CLN (markF LBR L).1).2.2.1).2.2.1, (endF RBR (endF CLN (markF LBR L).1).2.2.1).2.2.2⟩ := fun L => rfl
  have hs1 : ∀ L, (scopeF L).l <:+ (markF LBR L).1 := fun L => by
    rw [hu]
    split
    · exact List.suffix_refl _
    · split
      · exact end_suf _ _
      · exact (end_suf _ _).trans (end_suf _ _)
  have h1 := hs1 (C ++ R)
  rw [h] at h1
  obtain ⟨C1, D, rfl, hl⟩ := suf_cut (mark_suf LBR (C ++ R)) (suf_len h1)
  have hap : ∀ M, C1 ++ D ++ M = C1 ++ (D ++ M) := fun M => List.append_assoc _ _ _
  rw [hap] at h hl ⊢
  obtain ⟨m1, m2⟩ := mark_stab LBR C1 (D ++ R) hl
  have hv := hu (C1 ++ (D ++ R))
  by_cases hm : (markF LBR (C1 ++ (D ++ R))).2 ≠ 0
  · rw [if_pos hm] at hv
    rw [hv] at h ⊢
    dsimp only at h ⊢
    have hD : D = [] := nil_of_suf hl h
    subst hD
    exact ⟨fun M => by rw [hap]; exact Nat.le_trans (suf_len (hs1 _)) (m1 M), fun he => absurd he hm⟩
  · rw [if_neg hm] at hv
    have hon : ∀ M, markF LBR (C1 ++ (D ++ M)) = (D ++ M, 0) := fun M => m2 (by omega) (D ++ M)
    rw [hon R] at hv
    dsimp only at hv
    have hs2 : (scopeF (C1 ++ (D ++ R))).l <:+ (endF CLN (D ++ R)).2.2.1 := by
      rw [hv]
      split
      · exact List.suffix_refl _
      · exact end_suf _ _
    rw [h] at hs2
    obtain ⟨D1, D2, rfl, hl2⟩ := suf_cut (end_suf CLN (D ++ R)) (suf_len hs2)
    have hap2 : ∀ M, D1 ++ D2 ++ M = D1 ++ (D2 ++ M) := fun M => List.append_assoc _ _ _
    rw [hap2] at hl2
    obtain ⟨e1, e2⟩ := end_stab CLN D1 (D2 ++ R) hl2
    have hv2 : ∀ M, scopeF (C1 ++ (D1 ++ D2 ++ M)) = if (endF CLN (D1 ++ (D2 ++ M))).2.2.2 ≠ 0 then ⟨(endF CLN (D1 ++ (D2 ++ M))).1, 0, (endF CLN (D1 ++ (D2 ++ M))).2.1, false, (endF CLN (D1 ++ (D2 ++ M))).2.2.1, (endF CLN (D1 ++ (D2 ++ M))).2.2.2⟩
      else ⟨(endF CLN (D1 ++ (D2 ++ M))).1, (endF RBR (endF CLN (D1 ++ (D2 ++ M))).2.2.1).1, (endF CLN (D1 ++ (D2 ++ M))).2.1, (endF RBR (endF CLN (D1 ++ (D2 ++ M))).2.2.1).2.1, (endF RBR (endF CLN (D1 ++ (D2 ++ M))).2.2.1).2.2.1, (endF RBR (endF CLN (D1 ++ (D2 ++ M))).2.2.1).2.2.2⟩ := fun M => by
        rw [hu, hon M]
        dsimp only
        rw [if_neg (by simp), hap2]
    have hsh : ∀ M, (scopeF (C1 ++ (D1 ++ D2 ++ M))).l.length ≤ (endF CLN (D1 ++ (D2 ++ M))).2.2.1.length := fun M => by
      rw [hv2]
      split
      · exact Nat.le_refl _
      · exact suf_len (end_suf _ _)
    by_cases hq : (endF CLN (D1 ++ (D2 ++ R))).2.2.2 ≠ 0
    · have hvR := hv2 R
      rw [if_pos hq] at hvR
      rw [hvR] at h ⊢
      dsimp only at h ⊢
      have hD2 : D2 = [] := nil_of_suf hl2 h
      subst hD2
      exact ⟨fun M => by rw [hap]; exact Nat.le_trans (hsh M) (e1 M), fun he => absurd he hq⟩
    · have hvR := hv2 R
      rw [if_neg hq] at hvR
      have hon2 : ∀ M, endF CLN (D1 ++ (D2 ++ M)) = ((endF CLN (D1 ++ (D2 ++ R))).1, (endF CLN (D1 ++ (D2 ++ R))).2.1, D2 ++ M, 0) := fun M => e2 (by omega) (D2 ++ M)
      have hq0 : (endF CLN (D1 ++ (D2 ++ R))).2.2.2 = 0 := by omega
      rw [hvR, hl2] at h
      dsimp only at h
      obtain ⟨f1, f2⟩ := end_stab RBR D2 R h
      have hv3 : ∀ M, scopeF (C1 ++ (D1 ++ D2 ++ M)) = ⟨(endF CLN (D1 ++ (D2 ++ R))).1, (endF RBR (D2 ++ M)).1, (endF CLN (D1 ++ (D2 ++ R))).2.1, (endF RBR (D2 ++ M)).2.1, (endF RBR (D2 ++ M)).2.2.1, (endF RBR (D2 ++ M)).2.2.2⟩ := fun M => by
        rw [hv2, hon2 M]
        dsimp only
        rw [if_neg (by simp)]
      refine ⟨fun M => ?_, fun he M => ?_⟩
      · rw [hap, hv3]
        exact f1 M
      · rw [hap, hv3, hv3]
        rw [hv3] at he
        dsimp only at he ⊢
        rw [f2 he M]
theorem part_suf (l : Int) (c : Cmd) (L : List Tok) (p : Int) (p0 : 0 ≤ p) (p1 : p ≤ 2000) : (partF l c L p).2.1 <:+ L := by
  unfold partF
  split
  · exact take_suf _ L
  · split
    · exact take_suf _ L
    · split
      · exact scope_suf L
      · split
        · exact (expr_stab 40).suf p L p0 p1
        · exact mark_suf _ L
theorem part_stab (l : Int) (c : Cmd) (p : Int) (p0 : 0 ≤ p) (p1 : p ≤ 2000) (C R : List Tok) (h : (partF l c (C ++ R) p).2.1 = R) : (∀ M, (partF l c (C ++ M) p).2.1.length ≤ M.length) ∧ (l ≠ 101 → (partF l c (C ++ R) p).2.2.2 = 0 → ∀ M, partF l c (C ++ M) p = ((partF l c (C ++ R) p).1, M, p, 0)) := by
  unfold partF at h ⊢
  by_cases h1 : l = 110
  · simp only [if_pos h1] at h ⊢
    obtain ⟨a, b⟩ := take_stab [1] C R h
    exact ⟨a, fun _ he M => by rw [b he M]⟩
  · simp only [if_neg h1] at h ⊢
    by_cases h2 : l = 105
    · simp only [if_pos h2] at h ⊢
      obtain ⟨a, b⟩ := take_stab [2, 3] C R h
      exact ⟨a, fun _ he M => by rw [show numF (C ++ M) = _ from b he M]⟩
    · simp only [if_neg h2] at h ⊢
      by_cases h3 : l = 114
      · simp only [if_pos h3] at h ⊢
        obtain ⟨a, b⟩ := scope_stab C R h
        exact ⟨a, fun _ he M => by rw [b he M]⟩
      · simp only [if_neg h3] at h ⊢
        by_cases h4 : l = 101
        · simp only [if_pos h4] at h ⊢
          exact ⟨fun M => (expr_stab 40).more p C R p0 p1 h M, fun h9 => absurd h4 h9⟩
        · simp only [if_neg h4] at h ⊢
          obtain ⟨a, b⟩ := mark_stab ⟨#[61]⟩ C R h
          exact ⟨a, fun _ he M => by rw [b he M]⟩
theorem fold_suf : ∀ (ls : List Int) (c : Cmd) (L : List Tok) (p : Int), 0 ≤ p → p ≤ 2000 → (foldF ls c L p).2.1 <:+ L
  | [], c, L, p, _, _ => List.suffix_refl L
  | l :: ls, c, L, p, p0, p1 => by
    rw [foldF]
    split
    · exact part_suf l c L p p0 p1
    · rename_i he
      have hb := (part_facts l c L p p0 p1).2.2 (by omega)
      exact (fold_suf ls _ _ _ hb.1 hb.2).trans (part_suf l c L p p0 p1)
theorem fold_stab : ∀ (ls : List Int), okL ls = true → ∀ (c : Cmd) (p : Int), 0 ≤ p → p ≤ 2000 → ∀ (C R : List Tok), (foldF ls c (C ++ R) p).2.1 = R → ∀ M, (foldF ls c (C ++ M) p).2.1.length ≤ M.length
  | [], _, c, p, _, _, C, R, h, M => by
    have hC : C = [] := nil_of_suf (l := C ++ R) rfl h
    subst hC
    exact Nat.le_refl _
  | l :: ls, hok, c, p, p0, p1, C, R, h, M => by
    have hsh : ∀ L, (foldF (l :: ls) c L p).2.1 <:+ (partF l c L p).2.1 := fun L => by
      rw [foldF]
      split
      · exact List.suffix_refl _
      · rename_i he
        have hb := (part_facts l c L p p0 p1).2.2 (by omega)
        exact fold_suf ls _ _ _ hb.1 hb.2
    have h1 := hsh (C ++ R)
    rw [h] at h1
    obtain ⟨C1, D, rfl, hl⟩ := suf_cut (part_suf l c (C ++ R) p p0 p1) (suf_len h1)
    have hap : ∀ M, C1 ++ D ++ M = C1 ++ (D ++ M) := fun M => List.append_assoc _ _ _
    rw [hap] at h hl ⊢
    obtain ⟨m1, m2⟩ := part_stab l c p p0 p1 C1 (D ++ R) hl
    have nilcase : D = [] → (foldF (l :: ls) c (C1 ++ (D ++ M)) p).2.1.length ≤ M.length := by
      rintro rfl
      exact Nat.le_trans (suf_len (hsh _)) (m1 M)
    have hv := h
    rw [foldF] at hv
    by_cases he : (partF l c (C1 ++ (D ++ R)) p).2.2.2 ≠ 0
    · rw [if_pos he] at hv
      exact nilcase (nil_of_suf hl hv)
    · rw [if_neg he] at hv
      rcases okL_cons hok with ⟨h101, rfl⟩ | ⟨_, hne, hok'⟩
      · rw [foldF] at hv
        exact nilcase (nil_of_suf hl hv)
      · have hon := m2 hne (by omega)
        have hp9 : (partF l c (C1 ++ (D ++ R)) p).2.2.1 = p := by
          have h8 := hon (D ++ R)
          rw [h8]
        rw [hl, hp9] at hv
        have ih := fold_stab ls hok' (partF l c (C1 ++ (D ++ R)) p).1 p p0 p1 D R hv M
        rw [foldF, hon (D ++ M), if_neg (by simp)]
        exact ih
/-- Where the error is: a number of words, all ahead of it. -/
theorem place_num {a : Int} {L : List Tok} {e : Int} (h : (placeF a L e).2 ≠ 0) : (placeF a L e).1 = a - L.length := by
  unfold placeF at h ⊢
  by_cases he : e = 0
  · rw [if_pos he] at h ⊢
    by_cases hL : L = []
    · rw [if_pos hL] at h; exact absurd rfl h
    · rw [if_neg hL]
  · rw [if_neg he]
theorem top_of {a : Int} {r : Res} : ((topF a r).2.2 = (placeF a r.l r.e).2) ∧ (topF a r).2.1 = (placeF a r.l r.e).1 := by
  unfold topF
  split
  · exact ⟨rfl, rfl⟩
  · rename_i h
    exact ⟨(by omega : (placeF a r.l r.e).2 = 0).symm, rfl⟩
theorem placeE (L : List Tok) : ((parseE L).2.2 = 0 → (parseE L).2.1 = -1) ∧ ((parseE L).2.2 ≠ 0 → ∃ k : Nat, (parseE L).2.1 = k ∧ k ≤ L.length ∧ ∀ M, (parseE (L.take k ++ M)).2.2 ≠ 0 → (k : Int) ≤ (parseE (L.take k ++ M)).2.1) := by
  obtain ⟨t1, t2⟩ := top_of (a := L.length) (r := exprF 40 0 L)
  have hE : parseE L = topF L.length (exprF 40 0 L) := rfl
  rw [hE, t1, t2]
  refine ⟨fun h => (place_ok h).2, fun h => ?_⟩
  obtain ⟨C, hC⟩ := (expr_stab 40).suf 0 L (by omega) (by omega)
  have hlen : L.length = C.length + (exprF 40 0 L).l.length := by
    have := congrArg List.length hC
    rw [List.length_append] at this
    omega
  refine ⟨C.length, by rw [place_num h]; omega, by omega, fun M hM => ?_⟩
  have htk : L.take C.length = C := by rw [← hC]; simp
  rw [htk] at hM ⊢
  have hE2 : parseE (C ++ M) = topF (C ++ M).length (exprF 40 0 (C ++ M)) := rfl
  obtain ⟨u1, u2⟩ := top_of (a := (C ++ M).length) (r := exprF 40 0 (C ++ M))
  rw [hE2, u1] at hM
  rw [hE2, u2, place_num hM]
  have := (expr_stab 40).more 0 C (exprF 40 0 L).l (by omega) (by omega) (by rw [hC]) M
  rw [List.length_append]
  omega
theorem endC_of {a : Int} {R : Cmd × List Tok × Int} : ((endC a R).2.2 = (placeF a R.2.1 R.2.2).2) ∧ (endC a R).2.1 = (placeF a R.2.1 R.2.2).1 := by
  unfold endC
  split
  · exact ⟨rfl, rfl⟩
  · rename_i h
    exact ⟨(by omega : (placeF a R.2.1 R.2.2).2 = 0).symm, rfl⟩
theorem placeC (L : List Tok) : ((parseC L).2.2 = 0 → (parseC L).2.1 = -1) ∧ ((parseC L).2.2 ≠ 0 → ∃ k : Nat, (parseC L).2.1 = k ∧ k ≤ L.length ∧ (0 < k → ∀ M, (parseC (L.take k ++ M)).2.2 ≠ 0 → (k : Int) ≤ (parseC (L.take k ++ M)).2.1)) := by
  cases L with
  | nil => exact ⟨fun h => (by cases h), fun _ => ⟨0, rfl, Nat.le_refl _, fun h => absurd h (by omega)⟩⟩
  | cons t r =>
    have hone : ∀ r, parseC (t :: r) = if t.f0 ≠ 1 then (zC, 0, 110) else if (shapeF t.f1).2 = false then (zC, 0, 110) else endC ((r.length : Int) + 1) (foldF (lets (shapeF t.f1).1) (wC t.f1) r 0) := fun r => rfl
    by_cases h1 : t.f0 ≠ 1
    · rw [hone, if_pos h1]
      exact ⟨fun h => (by cases h), fun _ => ⟨0, rfl, Nat.zero_le _, fun h => absurd h (by omega)⟩⟩
    · by_cases h2 : (shapeF t.f1).2 = false
      · rw [hone, if_neg h1, if_pos h2]
        exact ⟨fun h => (by cases h), fun _ => ⟨0, rfl, Nat.zero_le _, fun h => absurd h (by omega)⟩⟩
      · have hon : ∀ r, parseC (t :: r) = endC ((r.length : Int) + 1) (foldF (lets (shapeF t.f1).1) (wC t.f1) r 0) := fun r => by rw [hone, if_neg h1, if_neg h2]
        obtain ⟨t1, t2⟩ := endC_of (a := (r.length : Int) + 1) (R := foldF (lets (shapeF t.f1).1) (wC t.f1) r 0)
        rw [hon, t1, t2]
        refine ⟨fun h => (place_ok h).2, fun h => ?_⟩
        obtain ⟨C, hC⟩ := fold_suf (lets (shapeF t.f1).1) (wC t.f1) r 0 (by omega) (by omega)
        have hlen : r.length = C.length + (foldF (lets (shapeF t.f1).1) (wC t.f1) r 0).2.1.length := by
          have := congrArg List.length hC
          rw [List.length_append] at this
          omega
        refine ⟨C.length + 1, by rw [place_num h]; omega, by rw [List.length_cons]; omega, fun _ M hM => ?_⟩
        have htk : (t :: r).take (C.length + 1) = t :: C := by rw [List.take_succ_cons, ← hC]; simp
        rw [htk] at hM ⊢
        rw [show t :: C ++ M = t :: (C ++ M) from rfl, hon] at hM ⊢
        obtain ⟨u1, u2⟩ := endC_of (a := ((C ++ M).length : Int) + 1) (R := foldF (lets (shapeF t.f1).1) (wC t.f1) (C ++ M) 0)
        rw [u1] at hM
        rw [u2, place_num hM]
        have := fold_stab (lets (shapeF t.f1).1) (shape_ok t.f1).1 (wC t.f1) 0 (by omega) (by omega) C (foldF (lets (shapeF t.f1).1) (wC t.f1) r 0).2.1 (by rw [hC]) M
        rw [List.length_append]
        omega
end Go.Proofs.YtjeofffddbibeaaDoor.Pa
end

section
namespace Go.Proofs.YtjeofffddbibeaaDoor.Pa
open Go Go.RowKit Go.Proofs.YtjeofffddbibeaaDoor.PParseTells Go.Proofs.YtjeofffddbibeaaDoor.Ex Go.Proofs.YtjeofffddbibeaaDoorW.PrintWords Go.Proofs.YtjeofffddbibeaaDoorW.PrintLast Go.Proofs.YtjeofffddbibeaaDoorW.PrintMore
set_option linter.unusedVariables false
set_option linter.unusedSimpArgs false
/-- Within a command: the parser, and the command's box; its rows lie from B on. -/
structure RaSt (w0 W : World) (g b B : Nat) (L0 L : List Tok) (p e : Int) (c : Cmd) (vN vM v2 v3 : Value) : Prop where
  isp : RdR w0 W g L0 L p e
  box : W.heap[b]? = some (.cells (cCells c vN vM v2 v3) TC (0, 0))
  names : kT.R TS W B (fun _ => True) vN c.names
  nums : kI.R 2 W B (fun _ => True) vM c.nums
  expr : kX.M W B (fun _ => True) c.x [.int .u8 c.x.f0, .string c.x.f1, v2, v3]
  gb : g < b
  bB : b < B
section
variable {w0 w W W2 : World} {g b B : Nat} {L0 L L2 : List Tok} {p p2 e e2 : Int} {c : Cmd} {vN vM v2 v3 : Value}
theorem RaSt.at (h : RaSt w0 W g b B L0 L p e c vN vM v2 v3) (hI : RdR w0 W2 g L0 L2 p2 e2) (hk : Kept W W2 (At g)) : RaSt w0 W2 g b B L0 L2 p2 e2 c vN vM v2 v3 := by
  have h1 := h.gb
  have h2 := h.bB
  exact ⟨hI, blk_kept h.box hk (fun hs => by have : b = g := hs; omega), R_at h.names hk (by omega), R_at h.nums hk (by omega), M_at h.expr hk (by omega), h1, h2⟩
theorem RaSt.later (h : RaSt w0 W g b B L0 L p e c vN vM v2 v3) (hb : Below W.heap.size W W2) : RaSt w0 W2 g b B L0 L p e c vN vM v2 v3 := h.at (h.isp.keep hb) (Kept.of_below hb _)
theorem RaSt.lt (h : RaSt w0 W g b B L0 L p e c vN vM v2 v3) : b < W.heap.size := blk_lt h.box
theorem RaSt.grown_isp (h : RaSt w0 W g b B L0 L p e c vN vM v2 v3) (hB : B ≤ W.heap.size) {row : Option Nat} (hg : W.grownBy W2 row) (hr : ∀ k, row = some k → B ≤ k) : RdR w0 W2 g L0 L p e := by
  have h1 := h.gb
  have h2 := h.bB
  have h4 := h.isp.ge
  exact h.isp.mv (S := fun k => B ≤ k) (Kept.of_grown hg (Kept.refl W _) (fun k hk => .inl (hr k hk))) (h.isp.low.grown hg (by omega) (fun k hk => by have := hr k hk; omega)) (by show ¬ (B ≤ g); omega)
theorem RaSt.grown_box (h : RaSt w0 W g b B L0 L p e c vN vM v2 v3) {row : Option Nat} (hg : W.grownBy W2 row) (hr : ∀ k, row = some k → B ≤ k) : W2.heap[b]? = some (.cells (cCells c vN vM v2 v3) TC (0, 0)) :=
  (hg.block b h.lt (fun he => by have := hr b he.symm; have := h.bB; omega)).trans h.box
theorem RaSt.setNames (h : RaSt w0 W g b B L0 L p e c vN vM sN sN) (hx : c.x = zX) (hB : B ≤ W.heap.size) {t : ByteArray} {u : Value} (hR : kT.R TS W2 B (fun _ => True) u (c.names ++ [t])) (hg : W.grownBy W2 vN.ownBlock) :
    RaSt w0 (W2.setCell ⟨b, 1, none⟩ u) g b B L0 L p e { c with names := c.names ++ [t] } u vM sN sN := by
  have h1 := h.gb
  have h2 := h.bB
  have h4 := h.isp.ge
  have hr := Kd.R_base h.names
  have hI := h.grown_isp hB hg hr
  exact ⟨hI.mv (S := At b) (by (repeat (first | (with_reducible exact Kept.refl _ _) | (with_reducible apply Kept.alloc) | (with_reducible apply Kept.drewN) | (with_reducible apply Kept.drew) | (with_reducible refine kept_at ?_ _ _) | (with_reducible refine kept_new ?_ _ _ (Nat.le_refl _)) | (with_reducible refine kept_new ?_ _ _ (by first | assumption | omega))))) (below_set hI.low (by show _ ≤ b; omega)) (by show ¬ (g = b); omega), blk_put (h.grown_box hg hr) 1 u rfl,
    R_put hR h2 1 u, R_put (Kd.R_over h.nums h.names (fun q hq => by simp [Kd.E, kI, Kd.int, Kd.scalar] at hq; subst hq; decide) hg) h2 1 u, by
      show kX.M _ B _ c.x [.int .u8 c.x.f0, .string c.x.f1, sN, sN]
      rw [hx]
      exact k25_mkM _ _ _ zX (Kd.R_nil _ _ _ _ _) (Kd.R_nil _ _ _ _ _), h1, h2⟩
theorem RaSt.setNums (h : RaSt w0 W g b B L0 L p e c vN vM sN sN) (hx : c.x = zX) (hB : B ≤ W.heap.size) {n : Int} {u : Value} (hR : kI.R 2 W2 B (fun _ => True) u (c.nums ++ [n])) (hg : W.grownBy W2 vM.ownBlock) :
    RaSt w0 (W2.setCell ⟨b, 2, none⟩ u) g b B L0 L p e { c with nums := c.nums ++ [n] } vN u sN sN := by
  have h1 := h.gb
  have h2 := h.bB
  have h4 := h.isp.ge
  have hr := Kd.R_base h.nums
  have hI := h.grown_isp hB hg hr
  exact ⟨hI.mv (S := At b) (by (repeat (first | (with_reducible exact Kept.refl _ _) | (with_reducible apply Kept.alloc) | (with_reducible apply Kept.drewN) | (with_reducible apply Kept.drew) | (with_reducible refine kept_at ?_ _ _) | (with_reducible refine kept_new ?_ _ _ (Nat.le_refl _)) | (with_reducible refine kept_new ?_ _ _ (by first | assumption | omega))))) (below_set hI.low (by show _ ≤ b; omega)) (by show ¬ (g = b); omega), blk_put (h.grown_box hg hr) 2 u rfl,
    R_put (Kd.R_over h.names h.nums (fun q hq => by simp [Kd.E, kT, Kd.string, Kd.scalar] at hq; subst hq; decide) hg) h2 2 u, R_put hR h2 2 u, by
      show kX.M _ B _ c.x [.int .u8 c.x.f0, .string c.x.f1, sN, sN]
      rw [hx]
      exact k25_mkM _ _ _ zX (Kd.R_nil _ _ _ _ _) (Kd.R_nil _ _ _ _ _), h1, h2⟩
theorem RaSt.setRange (h : RaSt w0 W g b B L0 L p e c vN vM sN sN) (hx : c.x = zX) (r : Rng) :
    RaSt w0 ((((W.setCell ⟨b, 3, none⟩ (.int .i64 r.lo)).setCell ⟨b, 4, none⟩ (.int .i64 r.hi)).setCell ⟨b, 5, none⟩ (.bool r.hl)).setCell ⟨b, 6, none⟩ (.bool r.hh)) g b B L0 L p e { c with lo := r.lo, hi := r.hi, hl := r.hl, hh := r.hh } vN vM sN sN := by
  have h1 := h.gb
  have h2 := h.bB
  have h4 := h.isp.ge
  have hw0 : w0.heap.size ≤ b := by omega
  exact ⟨h.isp.mv (S := At b) (by (repeat (first | (with_reducible exact Kept.refl _ _) | (with_reducible apply Kept.alloc) | (with_reducible apply Kept.drewN) | (with_reducible apply Kept.drew) | (with_reducible refine kept_at ?_ _ _) | (with_reducible refine kept_new ?_ _ _ (Nat.le_refl _)) | (with_reducible refine kept_new ?_ _ _ (by first | assumption | omega))))) (by (repeat (first | (with_reducible exact h.isp.low) | (with_reducible apply below_alloc) | (with_reducible apply pw_below_drewN) | (with_reducible apply below_drew1) | (with_reducible refine below_set ?_ (by first | assumption | omega))))) (by show ¬ (g = b); omega), blk_put (blk_put (blk_put (blk_put h.box 3 _ rfl) 4 _ rfl) 5 _ rfl) 6 _ rfl,
    R_put (R_put (R_put (R_put h.names h2 3 _) h2 4 _) h2 5 _) h2 6 _, R_put (R_put (R_put (R_put h.nums h2 3 _) h2 4 _) h2 5 _) h2 6 _, by
      show kX.M _ B _ c.x [.int .u8 c.x.f0, .string c.x.f1, sN, sN]
      rw [hx]
      exact k25_mkM _ _ _ zX (Kd.R_nil _ _ _ _ _) (Kd.R_nil _ _ _ _ _), h1, h2⟩
theorem RaSt.setExpr (h : RaSt w0 W g b B L0 L p e c vN vM v2 v3) {x : X} {u2 u3 : Value} (hx : kX.M W B (fun _ => True) x [.int .u8 x.f0, .string x.f1, u2, u3]) :
    RaSt w0 ((((W.setCell ⟨b, 7, none⟩ (.int .u8 x.f0)).setCell ⟨b, 8, none⟩ (.string x.f1)).setCell ⟨b, 9, none⟩ u2).setCell ⟨b, 10, none⟩ u3) g b B L0 L p e { c with x := x } vN vM u2 u3 := by
  have h1 := h.gb
  have h2 := h.bB
  have h4 := h.isp.ge
  have hw0 : w0.heap.size ≤ b := by omega
  exact ⟨h.isp.mv (S := At b) (by (repeat (first | (with_reducible exact Kept.refl _ _) | (with_reducible apply Kept.alloc) | (with_reducible apply Kept.drewN) | (with_reducible apply Kept.drew) | (with_reducible refine kept_at ?_ _ _) | (with_reducible refine kept_new ?_ _ _ (Nat.le_refl _)) | (with_reducible refine kept_new ?_ _ _ (by first | assumption | omega))))) (by (repeat (first | (with_reducible exact h.isp.low) | (with_reducible apply below_alloc) | (with_reducible apply pw_below_drewN) | (with_reducible apply below_drew1) | (with_reducible refine below_set ?_ (by first | assumption | omega))))) (by show ¬ (g = b); omega), blk_put (blk_put (blk_put (blk_put h.box 7 _ rfl) 8 _ rfl) 9 _ rfl) 10 _ rfl,
    R_put (R_put (R_put (R_put h.names h2 7 _) h2 8 _) h2 9 _) h2 10 _, R_put (R_put (R_put (R_put h.nums h2 7 _) h2 8 _) h2 9 _) h2 10 _, M_at hx (by (repeat (first | (with_reducible exact Kept.refl _ _) | (with_reducible apply Kept.alloc) | (with_reducible apply Kept.drewN) | (with_reducible apply Kept.drew) | (with_reducible refine kept_at ?_ _ _) | (with_reducible refine kept_new ?_ _ _ (Nat.le_refl _)) | (with_reducible refine kept_new ?_ _ _ (by first | assumption | omega))))) h2, h1, h2⟩
theorem RaSt.givesC (h : RaSt w0 W g b B L0 L p e c vN vM v2 v3) {j : Nat} (hj : j < B) (hk : Kept W W2 (At j)) (hw : w.heap.size ≤ B) : GivesC w W2 c vN vM v2 v3 :=
  ⟨Kd.R_lower (R_at h.names hk hj) hw, Kd.R_lower (R_at h.nums hk hj) hw, kX.M_lower hw (M_at h.expr hk hj)⟩
theorem RaSt.slices (h : RaSt w0 W g b B L0 L p e c vN vM v2 v3) : ∃ A0 n0 c0 A1 n1 c1 A2 n2 c2 A3 n3 c3, vN = .slice A0 n0 c0 ∧ vM = .slice A1 n1 c1 ∧ v2 = .slice A2 n2 c2 ∧ v3 = .slice A3 n3 c3 := by
  obtain ⟨A0, c0, e0⟩ := Kd.R_slice h.names
  obtain ⟨A1, c1, e1⟩ := Kd.R_slice h.nums
  obtain ⟨u2, u3, he, h2, h3⟩ := k25_openM h.expr
  simp only [List.cons.injEq, true_and, and_true] at he
  obtain ⟨rfl, rfl⟩ := he
  obtain ⟨A2, c2, e2⟩ := Kd.R_slice h2
  obtain ⟨A3, c3, e3⟩ := Kd.R_slice h3
  exact ⟨A0, _, c0, A1, _, c1, A2, _, c2, A3, _, c3, e0, e1, e2, e3⟩
end
def InvC (ls : List Int) (R : Cmd × List Tok × Int) (c : Cmd) (L : List Tok) (p e : Int) : Prop :=
  (e = 0 ∧ (0 ≤ p ∧ p ≤ 2000) ∧ foldF ls c L p = R) ∨ (e ≠ 0 ∧ R.2.1 = L ∧ R.2.2 = e)
theorem InvC.ok {ls : List Int} {R : Cmd × List Tok × Int} {c : Cmd} {L : List Tok} {p e : Int} (h : InvC ls R c L p e) : e = 0 → 0 ≤ p ∧ p ≤ 2000 := fun he => h.elim (fun h => h.2.1) (fun h => absurd he h.1)
theorem InvC.step {l : Int} {ls : List Int} {R : Cmd × List Tok × Int} {c c9 : Cmd} {L L9 : List Tok} {p e p9 e9 : Int} (h : InvC (l :: ls) R c L p e)
    (h1 : e = 0 → L9 = (partF l c L p).2.1 ∧ e9 = (partF l c L p).2.2.2 ∧ (e9 = 0 → c9 = (partF l c L p).1 ∧ p9 = (partF l c L p).2.2.1)) (h2 : e ≠ 0 → L9 = L ∧ e9 = e) : InvC ls R c9 L9 p9 e9 := by
  rcases h with ⟨h0, hp, hf⟩ | h
  · obtain ⟨q1, q2, q3⟩ := h1 h0
    rw [foldF] at hf
    by_cases hz : (partF l c L p).2.2.2 = 0
    · rw [if_neg (by rw [hz]; simp)] at hf
      have hz9 : e9 = 0 := by rw [q2]; exact hz
      obtain ⟨q4, q5⟩ := q3 hz9
      have hb := (part_facts l c L p hp.1 hp.2).2.2 hz
      rw [← q4, ← q1, ← q5] at hf
      rw [← q5] at hb
      exact .inl ⟨hz9, hb, hf⟩
    · rw [if_pos hz] at hf
      refine .inr ⟨by rw [q2]; exact hz, ?_, ?_⟩
      · rw [← hf, q1]
      · rw [← hf, q2]
  · obtain ⟨q1, q2⟩ := h2 h.1
    exact .inr ⟨by rw [q2]; exact h.1, by rw [q1]; exact h.2.1, by rw [q2]; exact h.2.2⟩
theorem InvC.fin {R : Cmd × List Tok × Int} {c : Cmd} {L : List Tok} {p e : Int} (h : InvC [] R c L p e) (a : Int) : placeF a L e = placeF a R.2.1 R.2.2 ∧ ((placeF a L e).2 = 0 → R.1 = c ∧ (placeF a L e).1 = -1) := by
  rcases h with ⟨rfl, hp, hf⟩ | h
  · rw [foldF] at hf
    rw [← hf]
    exact ⟨rfl, fun h => ⟨rfl, (place_ok h).2⟩⟩
  · rw [h.2.1, h.2.2]
    exact ⟨rfl, fun h9 => absurd (place_ok h9).1 h.1⟩
/-- At the head of the loop over the letters. -/
structure CmRelR (w W : World) (g : Nat) (L0 : List Tok) (s : ByteArray) (R : Cmd × List Tok × Int) (k : Nat) (c : Cmd) (L : List Tok) (p e : Int) (vN vM v2 v3 : Value) : Prop where
  k1 : k ≤ s.size
  nn : c.names.length ≤ k
  nm : c.nums.length ≤ k
  ok : okL ((lets s).drop k) = true
  xz : (lets s).drop k = [] ∨ c.x = zX ∧ v2 = sN ∧ v3 = sN
  inv : InvC ((lets s).drop k) R c L p e
  st : RaSt w W g (g + 1) (g + 1 + 1) L0 L p e c vN vM v2 v3
  zero : W.heap[w.heap.size]? = some (.cells (cCells zC sN sN sN sN) TC (0, 0))
  sz : g + 1 + 1 ≤ W.heap.size
  lg : w.heap.size < g
end Go.Proofs.YtjeofffddbibeaaDoor.Pa
end

section
namespace Go.Proofs.YtjeofffddbibeaaDoor.Pa
open Go Go.RowKit Go.Proofs.YtjeofffddbibeaaDoor.PParseTells Go.Proofs.YtjeofffddbibeaaDoor.Ex Go.Proofs.YtjeofffddbibeaaDoorW.PrintWords Go.Proofs.YtjeofffddbibeaaDoorW.PrintLast Go.Proofs.YtjeofffddbibeaaDoorW.PrintMore
set_option linter.unusedVariables false
set_option linter.unusedSimpArgs false
end Go.Proofs.YtjeofffddbibeaaDoor.Pa
end

section
namespace Go.Proofs.YtjeofffddbibeaaDoor.PParseTells
open Go.RowKit Go.Proofs.YtjeofffddbibeaaDoorW.PrintWords Go.Proofs.YtjeofffddbibeaaDoorW.PrintLast Go.Proofs.YtjeofffddbibeaaDoorW.PrintMore
attribute [local go_sem] max2_int min2_int max_two min_two max_three min_three max_four min_four   -- for this text's walks alone
set_option linter.unusedVariables false
set_option linter.unusedSimpArgs false
mutual
def epactref09_Same.j0 : Nat → Bool → Int → ByteArray → List Int → List (S25) → Int → ByteArray → List Int → List (S25) → Option (Bool)
  | 0, _, _, _, _, _, _, _, _, _ => none
  | k + 1, x36, x102000, x102001, x102002, x102003, x103000, x103001, x103002, x103003 => if x36 = true then (some false) else (epactref09_Same.l0 k 0 x102000 x102001 x102002 x102003 x103000 x103001 x103002 x103003)
def epactref09_Same.l0 : Nat → Int → Int → ByteArray → List Int → List (S25) → Int → ByteArray → List Int → List (S25) → Option (Bool)
  | 0, _, _, _, _, _, _, _, _, _ => none
  | k + 1, x5, x102000, x102001, x102002, x102003, x103000, x103001, x103002, x103003 => if x5 < (x102002.length : Int) then (if 0 ≤ x5 then (if x5 < (x103002.length : Int) then (if (rd x102002 x5) = (rd x103002 x5) then (epactref09_Same.l0 k (wrap64 (x5 + 1)) x102000 x102001 x102002 x102003 x103000 x103001 x103002 x103003) else (some false)) else (none)) else (none)) else (epactref09_Same.l1 k 0 x102000 x102001 x102002 x102003 x103000 x103001 x103002 x103003)
def epactref09_Same.l1 : Nat → Int → Int → ByteArray → List Int → List (S25) → Int → ByteArray → List Int → List (S25) → Option (Bool)
  | 0, _, _, _, _, _, _, _, _, _ => none
  | k + 1, x6, x102000, x102001, x102002, x102003, x103000, x103001, x103002, x103003 => if x6 < (x102003.length : Int) then (if 0 ≤ x6 then (if x6 < (x103003.length : Int) then ((epactref09_Same.f k ((rd_T25 x102003 x6).f0) ((rd_T25 x102003 x6).f1) ((rd_T25 x102003 x6).f2) ((rd_T25 x102003 x6).f3) ((rd_T25 x103003 x6).f0) ((rd_T25 x103003 x6).f1) ((rd_T25 x103003 x6).f2) ((rd_T25 x103003 x6).f3)).bind fun t107 => (if t107 = true then (epactref09_Same.l1 k (wrap64 (x6 + 1)) x102000 x102001 x102002 x102003 x103000 x103001 x103002 x103003) else (some false))) else (none)) else (none)) else (some true)
def epactref09_Same.f : Nat → Int → ByteArray → List Int → List (S25) → Int → ByteArray → List Int → List (S25) → Option (Bool)
  | 0, _, _, _, _, _, _, _, _ => none
  | k + 1, a0_0, a0_1, l0_2, l0_3, a1_0, a1_1, l1_2, l1_3 => if a0_0 = a1_0 then (if a0_1.toList = a1_1.toList then (if (l0_2.length : Int) = (l1_2.length : Int) then (epactref09_Same.j0 k ((l0_3.length : Int) != (l1_3.length : Int)) a0_0 a0_1 l0_2 l0_3 a1_0 a1_1 l1_2 l1_3) else (epactref09_Same.j0 k true a0_0 a0_1 l0_2 l0_3 a1_0 a1_1 l1_2 l1_3)) else (epactref09_Same.j0 k true a0_0 a0_1 l0_2 l0_3 a1_0 a1_1 l1_2 l1_3)) else (epactref09_Same.j0 k true a0_0 a0_1 l0_2 l0_3 a1_0 a1_1 l1_2 l1_3)
end
def epactref09_Same.T6 : Bool × List (List Nat × List Nat) := (true, [([], []), ([0], [0]), ([], []), ([1, 2], [1, 2]), ([3], [3]), ([], []), ([5], [5]), ([], []), ([6, 7], [6, 7]), ([8], [8]), ([4, 9], [4, 9])])
def epactref09_Same.B6 : List Nat := [0, 1, 0, 7, 15, 0, 32, 0, 224, 480, 1023]
theorem epactref09_Same.tab6 : rtab .any (opsOf Tryd.f28 6) = epactref09_Same.T6 := by kernel_rfl
theorem epactref09_Same.bits6 : waitsOk epactref09_Same.T6.2 epactref09_Same.B6 = true := by kernel_rfl
def epactref09_Same.T11 : Bool × List (List Nat × List Nat) := (true, [([], []), ([0], [0]), ([], []), ([1, 2], [1, 2]), ([3], [3]), ([], []), ([5], [5]), ([], []), ([6, 7], [6, 7]), ([8], [8]), ([4, 9], [4, 9]), ([10], [10])])
def epactref09_Same.B11 : List Nat := [0, 1, 0, 7, 15, 0, 32, 0, 224, 480, 1023, 2047]
theorem epactref09_Same.tab11 : rtab .any (opsOf Tryd.f28 11) = epactref09_Same.T11 := by kernel_rfl
theorem epactref09_Same.bits11 : waitsOk epactref09_Same.T11.2 epactref09_Same.B11 = true := by kernel_rfl
set_option maxHeartbeats 8000000 in
set_option maxRecDepth 100000 in
theorem epactref09_Same.calls (k : Nat) : ∀ (a0_0 : Int) (a0_1 : ByteArray) (A0_2 : Option Addr) (c0_2 : Nat) (l0_2 : List Int) (A0_3 : Option Addr) (c0_3 : Nat) (l0_3 : List (S25)) (a1_0 : Int) (a1_1 : ByteArray) (A1_2 : Option Addr) (c1_2 : Nat) (l1_2 : List Int) (A1_3 : Option Addr) (c1_3 : Nat) (l1_3 : List (S25)) (r : Bool) (w : World) (hr0_2 : Kd.C (Kd.int .i64) w A0_2 l0_2.length l0_2) (hc0_2 : l0_2.length ≤ c0_2) (hr0_3 : Kd.C k25 w A0_3 l0_3.length l0_3) (hc0_3 : l0_3.length ≤ c0_3) (hr1_2 : Kd.C (Kd.int .i64) w A1_2 l1_2.length l1_2) (hc1_2 : l1_2.length ≤ c1_2) (hr1_3 : Kd.C k25 w A1_3 l1_3.length l1_3) (hc1_3 : l1_3.length ≤ c1_3) (h : epactref09_Same.f k a0_0 a0_1 l0_2 l0_3 a1_0 a1_1 l1_2 l1_3 = some r),
    Calls Tryd.prog 28 #[.agg #[.int .u8 a0_0, .string a0_1, .slice A0_2 l0_2.length c0_2, .slice A0_3 l0_3.length c0_3], .agg #[.int .u8 a1_0, .string a1_1, .slice A1_2 l1_2.length c1_2, .slice A1_3 l1_3.length c1_3]] w fun e w' => e = .returned (.bool r) ∧ Below w.heap.size w w' := by
  induction k using Nat.strongRecOn with
  | _ k ih =>
  intro a0_0 a0_1 A0_2 c0_2 l0_2 A0_3 c0_3 l0_3 a1_0 a1_1 A1_2 c1_2 l1_2 A1_3 c1_3 l1_3 r w hr0_2 hc0_2 hr0_3 hc0_3 hr1_2 hc1_2 hr1_3 hc1_3 h
  cases k with
  | zero => exact absurd h (by simp [epactref09_Same.f])
  | succ k =>
  simp only [epactref09_Same.f] at h
  have hu25 := Tryd.underlying25
  have HR0_2 := Aside0.mk hr0_2
  have HC0_2 := Aside0.mk hc0_2
  clear hr0_2 hc0_2
  have HR0_3 := Aside0.mk hr0_3
  have HC0_3 := Aside0.mk hc0_3
  clear hr0_3 hc0_3
  have HR1_2 := Aside0.mk hr1_2
  have HC1_2 := Aside0.mk hc1_2
  clear hr1_2 hc1_2
  have HR1_3 := Aside0.mk hr1_3
  have HC1_3 := Aside0.mk hc1_3
  clear hr1_3 hc1_3
  have HB := Aside0.mk (Below.refl w.heap.size w)
  have H : (if a0_0 = a1_0 then (if a0_1.toList = a1_1.toList then (if (l0_2.length : Int) = (l1_2.length : Int) then (epactref09_Same.j0 k ((l0_3.length : Int) != (l1_3.length : Int)) a0_0 a0_1 l0_2 l0_3 a1_0 a1_1 l1_2 l1_3) else (epactref09_Same.j0 k true a0_0 a0_1 l0_2 l0_3 a1_0 a1_1 l1_2 l1_3)) else (epactref09_Same.j0 k true a0_0 a0_1 l0_2 l0_3 a1_0 a1_1 l1_2 l1_3)) else (epactref09_Same.j0 k true a0_0 a0_1 l0_2 l0_3 a1_0 a1_1 l1_2 l1_3)) = some r := h
  clear h
  have HC3 := Aside0.mk H
  clear H
  go_enter Tryd.func28, Tryd.ntmps28
  go_upto_region 1 with (first | ((with_reducible refine gate_dst (N := 2) rfl ?_); (try (refine gate_guard (by rfl) ?_; dsimp only)); refine box_event ?hg (N := 2) ?hd (cs := #[.int .u8 a0_0, .string a0_1, .slice A0_2 l0_2.length c0_2, .slice A0_3 l0_3.length c0_3]) (t := 25) ?hr ?_; (case hd => rfl); (case hg => rfl); (case hr => first | (go_simp; done) | (go_simp; rfl)); intro gb101 hg w4 hbox hb; have n0_ := Aside0.mk (below_step (by repeat (first | (with_reducible first | exact HB.out | apply below_alloc | apply pw_below_drewN | apply below_drew1) | exact HB.out)) hb); have n1_ := Aside0.mk (hbox); have n2_ := Aside0.mk ((by rw [hg]; exact (below_size (by repeat (first | (with_reducible first | exact HB.out | apply below_alloc | apply pw_below_drewN | apply below_drew1) | exact HB.out))) : w.heap.size ≤ gb101)); have n3_ := Aside0.mk ((by rw [hg]; exact (below_size (by repeat (first | (with_reducible first | exact HB.out | apply below_alloc | apply pw_below_drewN | apply below_drew1) | exact HB.out))) : w.heap.size ≤ gb101)); clear HB; have HB := n0_; have BK101 := n1_; have GW101 := n2_; have GE101 := n3_; clear n0_ n1_ n2_ n3_; clear hb hbox hg) | ((with_reducible refine gate_dst (N := 3) rfl ?_); (try (refine gate_guard (by rfl) ?_; dsimp only)); refine box_event ?hg (N := 3) ?hd (cs := #[.int .u8 a1_0, .string a1_1, .slice A1_2 l1_2.length c1_2, .slice A1_3 l1_3.length c1_3]) (t := 25) ?hr ?_; (case hd => rfl); (case hg => rfl); (case hr => first | (go_simp; done) | (go_simp; rfl)); intro gb102 hg w5 hbox hb; have n0_ := Aside0.mk (blk_below (g := gb101) (o := .cells #[.int .u8 a0_0, .string a0_1, .slice A0_2 l0_2.length c0_2, .slice A0_3 l0_3.length c0_3] 25 (0, 0)) (by (with_reducible repeat (first | refine blk_drewN ?_ _ | refine blk_drew ?_ | refine blk_alloc ?_ _)); exact BK101.out) hb); have n1_ := Aside0.mk (below_step (by repeat (first | (with_reducible first | exact HB.out | apply below_alloc | apply pw_below_drewN | apply below_drew1 | refine below_set ?_ GE101.out) | exact HB.out)) hb); have n2_ := Aside0.mk (hbox); have n3_ := Aside0.mk ((by rw [hg]; exact (below_size (by repeat (first | (with_reducible first | exact HB.out | apply below_alloc | apply pw_below_drewN | apply below_drew1 | refine below_set ?_ GE101.out) | exact HB.out))) : w.heap.size ≤ gb102)); have n4_ := Aside0.mk ((by rw [hg]; exact (below_size (by repeat (first | (with_reducible first | exact HB.out | apply below_alloc | apply pw_below_drewN | apply below_drew1 | refine below_set ?_ GE101.out) | exact HB.out))) : w.heap.size ≤ gb102)); have n5_ := Aside0.mk ((by rw [hg]; exact Nat.ne_of_lt (blk_lt (g := gb101) (o := .cells #[.int .u8 a0_0, .string a0_1, .slice A0_2 l0_2.length c0_2, .slice A0_3 l0_3.length c0_3] 25 (0, 0)) (by (with_reducible repeat (first | refine blk_drewN ?_ _ | refine blk_drew ?_ | refine blk_alloc ?_ _)); exact BK101.out)) : gb101 ≠ gb102)); have n6_ := Aside0.mk ((by rw [hg]; exact Nat.ne_of_gt (blk_lt (g := gb101) (o := .cells #[.int .u8 a0_0, .string a0_1, .slice A0_2 l0_2.length c0_2, .slice A0_3 l0_3.length c0_3] 25 (0, 0)) (by (with_reducible repeat (first | refine blk_drewN ?_ _ | refine blk_drew ?_ | refine blk_alloc ?_ _)); exact BK101.out)) : gb102 ≠ gb101)); clear BK101; clear HB; have BK101 := n0_; have HB := n1_; have BK102 := n2_; have GW102 := n3_; have GE102 := n4_; have NB101_102 := n5_; have NB102_101 := n6_; clear n0_ n1_ n2_ n3_ n4_ n5_ n6_; clear hb hbox hg))
  (try simp only [Act.put, List.setIfInBounds_toArray, List.set_cons_zero, List.set_cons_succ])
  go_cut [36] (fun v36 wc => ∃ (kq : Nat) (x36_2 : Bool), v36 = .bool x36_2 ∧ Aside0 (epactref09_Same.j0 kq x36_2 a0_0 a0_1 l0_2 l0_3 a1_0 a1_1 l1_2 l1_3 = some r) ∧ Aside0 (kq ≤ k) ∧ Aside0 (wc.heap[gb101]? = some (.cells #[.int .u8 a0_0, .string a0_1, (.slice A0_2 l0_2.length c0_2), (.slice A0_3 l0_3.length c0_3)] 25 (0, 0))) ∧ Aside0 (wc.heap[gb102]? = some (.cells #[.int .u8 a1_0, .string a1_1, (.slice A1_2 l1_2.length c1_2), (.slice A1_3 l1_3.length c1_3)] 25 (0, 0))) ∧ Aside0 (Below w.heap.size w wc))
  case first =>
    have H := HC3.out
    clear HC3
    by_cases c6 : a0_0 = a1_0
    · rw [if_pos c6] at H
      have c6b0 : (a0_0 == a1_0) = true := beq_iff_eq.mpr c6
      have c6b1 : (a0_0 != a1_0) = false := bne_eq_false_iff_eq.mpr c6
      clear c6
      (first | rw [c6b0] | (simp only [i64_w, i32_w]; rw [c6b0]) | skip)
      by_cases c7 : a0_1.toList = a1_1.toList
      · rw [if_pos c7] at H
        have c7b0 : (a0_1.toList == a1_1.toList) = true := beq_iff_eq.mpr c7
        have c7b1 : (a0_1.toList != a1_1.toList) = false := bne_eq_false_iff_eq.mpr c7
        clear c7
        by_cases c8 : (l0_2.length : Int) = (l1_2.length : Int)
        · rw [if_pos c8] at H
          have c8b0 : ((l0_2.length : Int) == (l1_2.length : Int)) = true := beq_iff_eq.mpr c8
          have c8b1 : ((l0_2.length : Int) != (l1_2.length : Int)) = false := bne_eq_false_iff_eq.mpr c8
          have c8b2 : (l0_2.length == l1_2.length) = true := by first | simpa using c8 | (simp at c8 ⊢; omega)
          clear c8
          have H' := Aside0.mk H
          clear H
          have hnb9 := NB101_102.out
          have hnc9 := NB102_101.out
          have hcz10_0 : w5.cell? ⟨gb101, 0, none⟩ = some (.int .u8 a0_0) := (blk_cell BK101.out 0).trans rfl
          have hcz10_1 : w5.cell? ⟨gb101, 1, none⟩ = some (.string a0_1) := (blk_cell BK101.out 1).trans rfl
          have hcz10_2 : w5.cell? ⟨gb101, 2, none⟩ = some (.slice A0_2 l0_2.length c0_2) := (blk_cell BK101.out 2).trans rfl
          have hcz10_3 : w5.cell? ⟨gb101, 3, none⟩ = some (.slice A0_3 l0_3.length c0_3) := (blk_cell BK101.out 3).trans rfl
          have hfz10_0 := blk_frozen BK101.out 0
          have hfz10_1 := blk_frozen BK101.out 1
          have hfz10_2 := blk_frozen BK101.out 2
          have hfz10_3 := blk_frozen BK101.out 3
          have hcz11_0 : w5.cell? ⟨gb102, 0, none⟩ = some (.int .u8 a1_0) := (blk_cell BK102.out 0).trans rfl
          have hcz11_1 : w5.cell? ⟨gb102, 1, none⟩ = some (.string a1_1) := (blk_cell BK102.out 1).trans rfl
          have hcz11_2 : w5.cell? ⟨gb102, 2, none⟩ = some (.slice A1_2 l1_2.length c1_2) := (blk_cell BK102.out 2).trans rfl
          have hcz11_3 : w5.cell? ⟨gb102, 3, none⟩ = some (.slice A1_3 l1_3.length c1_3) := (blk_cell BK102.out 3).trans rfl
          have hfz11_0 := blk_frozen BK102.out 0
          have hfz11_1 := blk_frozen BK102.out 1
          have hfz11_2 := blk_frozen BK102.out 2
          have hfz11_3 := blk_frozen BK102.out 3
          go_wp2
          go_meet
          case rel => exact ⟨_, (((l0_3.length : Int) != (l1_3.length : Int))), (by first | rfl | (simp; done) | (simp [*]; done)), H', ⟨by first | omega | exact Nat.le_refl _⟩, ⟨by (with_reducible repeat (first | refine blk_drewN ?_ _ | refine blk_drew ?_ | refine blk_alloc ?_ _)); exact BK101.out⟩, ⟨by (with_reducible repeat (first | refine blk_drewN ?_ _ | refine blk_drew ?_ | refine blk_alloc ?_ _)); exact BK102.out⟩, ⟨by repeat (first | (with_reducible first | exact HB.out | apply below_alloc | apply pw_below_drewN | apply below_drew1 | refine below_set ?_ GE101.out | refine below_set ?_ GE102.out) | exact HB.out)⟩⟩
        · rw [if_neg c8] at H
          have c8b0 : ((l0_2.length : Int) == (l1_2.length : Int)) = false := beq_eq_false_iff_ne.mpr c8
          have c8b1 : ((l0_2.length : Int) != (l1_2.length : Int)) = true := bne_iff_ne.mpr c8
          have c8b2 : (l0_2.length == l1_2.length) = false := by first | simpa using c8 | (simp at c8 ⊢; omega)
          have H' := Aside0.mk H
          clear H
          have hnb12 := NB101_102.out
          have hnc12 := NB102_101.out
          have hcz13_0 : w5.cell? ⟨gb101, 0, none⟩ = some (.int .u8 a0_0) := (blk_cell BK101.out 0).trans rfl
          have hcz13_1 : w5.cell? ⟨gb101, 1, none⟩ = some (.string a0_1) := (blk_cell BK101.out 1).trans rfl
          have hcz13_2 : w5.cell? ⟨gb101, 2, none⟩ = some (.slice A0_2 l0_2.length c0_2) := (blk_cell BK101.out 2).trans rfl
          have hcz13_3 : w5.cell? ⟨gb101, 3, none⟩ = some (.slice A0_3 l0_3.length c0_3) := (blk_cell BK101.out 3).trans rfl
          have hfz13_0 := blk_frozen BK101.out 0
          have hfz13_1 := blk_frozen BK101.out 1
          have hfz13_2 := blk_frozen BK101.out 2
          have hfz13_3 := blk_frozen BK101.out 3
          have hcz14_0 : w5.cell? ⟨gb102, 0, none⟩ = some (.int .u8 a1_0) := (blk_cell BK102.out 0).trans rfl
          have hcz14_1 : w5.cell? ⟨gb102, 1, none⟩ = some (.string a1_1) := (blk_cell BK102.out 1).trans rfl
          have hcz14_2 : w5.cell? ⟨gb102, 2, none⟩ = some (.slice A1_2 l1_2.length c1_2) := (blk_cell BK102.out 2).trans rfl
          have hcz14_3 : w5.cell? ⟨gb102, 3, none⟩ = some (.slice A1_3 l1_3.length c1_3) := (blk_cell BK102.out 3).trans rfl
          have hfz14_0 := blk_frozen BK102.out 0
          have hfz14_1 := blk_frozen BK102.out 1
          have hfz14_2 := blk_frozen BK102.out 2
          have hfz14_3 := blk_frozen BK102.out 3
          go_wp2
          go_meet
          case rel => exact ⟨_, (true), (by first | rfl | (simp; done) | (simp [*]; done)), H', ⟨by first | omega | exact Nat.le_refl _⟩, ⟨by (with_reducible repeat (first | refine blk_drewN ?_ _ | refine blk_drew ?_ | refine blk_alloc ?_ _)); exact BK101.out⟩, ⟨by (with_reducible repeat (first | refine blk_drewN ?_ _ | refine blk_drew ?_ | refine blk_alloc ?_ _)); exact BK102.out⟩, ⟨by repeat (first | (with_reducible first | exact HB.out | apply below_alloc | apply pw_below_drewN | apply below_drew1 | refine below_set ?_ GE101.out | refine below_set ?_ GE102.out) | exact HB.out)⟩⟩
      · rw [if_neg c7] at H
        have c7b0 : (a0_1.toList == a1_1.toList) = false := beq_eq_false_iff_ne.mpr c7
        have c7b1 : (a0_1.toList != a1_1.toList) = true := bne_iff_ne.mpr c7
        have H' := Aside0.mk H
        clear H
        have hnb15 := NB101_102.out
        have hnc15 := NB102_101.out
        have hcz16_0 : w5.cell? ⟨gb101, 0, none⟩ = some (.int .u8 a0_0) := (blk_cell BK101.out 0).trans rfl
        have hcz16_1 : w5.cell? ⟨gb101, 1, none⟩ = some (.string a0_1) := (blk_cell BK101.out 1).trans rfl
        have hcz16_2 : w5.cell? ⟨gb101, 2, none⟩ = some (.slice A0_2 l0_2.length c0_2) := (blk_cell BK101.out 2).trans rfl
        have hcz16_3 : w5.cell? ⟨gb101, 3, none⟩ = some (.slice A0_3 l0_3.length c0_3) := (blk_cell BK101.out 3).trans rfl
        have hfz16_0 := blk_frozen BK101.out 0
        have hfz16_1 := blk_frozen BK101.out 1
        have hfz16_2 := blk_frozen BK101.out 2
        have hfz16_3 := blk_frozen BK101.out 3
        have hcz17_0 : w5.cell? ⟨gb102, 0, none⟩ = some (.int .u8 a1_0) := (blk_cell BK102.out 0).trans rfl
        have hcz17_1 : w5.cell? ⟨gb102, 1, none⟩ = some (.string a1_1) := (blk_cell BK102.out 1).trans rfl
        have hcz17_2 : w5.cell? ⟨gb102, 2, none⟩ = some (.slice A1_2 l1_2.length c1_2) := (blk_cell BK102.out 2).trans rfl
        have hcz17_3 : w5.cell? ⟨gb102, 3, none⟩ = some (.slice A1_3 l1_3.length c1_3) := (blk_cell BK102.out 3).trans rfl
        have hfz17_0 := blk_frozen BK102.out 0
        have hfz17_1 := blk_frozen BK102.out 1
        have hfz17_2 := blk_frozen BK102.out 2
        have hfz17_3 := blk_frozen BK102.out 3
        go_wp2
        go_meet
        case rel => exact ⟨_, (true), (by first | rfl | (simp; done) | (simp [*]; done)), H', ⟨by first | omega | exact Nat.le_refl _⟩, ⟨by (with_reducible repeat (first | refine blk_drewN ?_ _ | refine blk_drew ?_ | refine blk_alloc ?_ _)); exact BK101.out⟩, ⟨by (with_reducible repeat (first | refine blk_drewN ?_ _ | refine blk_drew ?_ | refine blk_alloc ?_ _)); exact BK102.out⟩, ⟨by repeat (first | (with_reducible first | exact HB.out | apply below_alloc | apply pw_below_drewN | apply below_drew1 | refine below_set ?_ GE101.out | refine below_set ?_ GE102.out) | exact HB.out)⟩⟩
    · rw [if_neg c6] at H
      have c6b0 : (a0_0 == a1_0) = false := beq_eq_false_iff_ne.mpr c6
      have c6b1 : (a0_0 != a1_0) = true := bne_iff_ne.mpr c6
      (first | rw [c6b0] | (simp only [i64_w, i32_w]; rw [c6b0]) | skip)
      have H' := Aside0.mk H
      clear H
      have hnb18 := NB101_102.out
      have hnc18 := NB102_101.out
      have hcz19_0 : w5.cell? ⟨gb101, 0, none⟩ = some (.int .u8 a0_0) := (blk_cell BK101.out 0).trans rfl
      have hcz19_1 : w5.cell? ⟨gb101, 1, none⟩ = some (.string a0_1) := (blk_cell BK101.out 1).trans rfl
      have hcz19_2 : w5.cell? ⟨gb101, 2, none⟩ = some (.slice A0_2 l0_2.length c0_2) := (blk_cell BK101.out 2).trans rfl
      have hcz19_3 : w5.cell? ⟨gb101, 3, none⟩ = some (.slice A0_3 l0_3.length c0_3) := (blk_cell BK101.out 3).trans rfl
      have hfz19_0 := blk_frozen BK101.out 0
      have hfz19_1 := blk_frozen BK101.out 1
      have hfz19_2 := blk_frozen BK101.out 2
      have hfz19_3 := blk_frozen BK101.out 3
      have hcz20_0 : w5.cell? ⟨gb102, 0, none⟩ = some (.int .u8 a1_0) := (blk_cell BK102.out 0).trans rfl
      have hcz20_1 : w5.cell? ⟨gb102, 1, none⟩ = some (.string a1_1) := (blk_cell BK102.out 1).trans rfl
      have hcz20_2 : w5.cell? ⟨gb102, 2, none⟩ = some (.slice A1_2 l1_2.length c1_2) := (blk_cell BK102.out 2).trans rfl
      have hcz20_3 : w5.cell? ⟨gb102, 3, none⟩ = some (.slice A1_3 l1_3.length c1_3) := (blk_cell BK102.out 3).trans rfl
      have hfz20_0 := blk_frozen BK102.out 0
      have hfz20_1 := blk_frozen BK102.out 1
      have hfz20_2 := blk_frozen BK102.out 2
      have hfz20_3 := blk_frozen BK102.out 3
      go_wp2
      go_meet
      case rel => exact ⟨_, (true), (by first | rfl | (simp; done) | (simp [*]; done)), H', ⟨by first | omega | exact Nat.le_refl _⟩, ⟨by (with_reducible repeat (first | refine blk_drewN ?_ _ | refine blk_drew ?_ | refine blk_alloc ?_ _)); exact BK101.out⟩, ⟨by (with_reducible repeat (first | refine blk_drewN ?_ _ | refine blk_drew ?_ | refine blk_alloc ?_ _)); exact BK102.out⟩, ⟨by repeat (first | (with_reducible first | exact HB.out | apply below_alloc | apply pw_below_drewN | apply below_drew1 | refine below_set ?_ GE101.out | refine below_set ?_ GE102.out) | exact HB.out)⟩⟩
  case rest =>
    clear HC3
    try clear c1
    try clear c2
    try clear p2
    try clear c6
    try clear c6b0
    try clear c6b1
    try clear c7
    try clear c7b0
    try clear c7b1
    try clear c8
    try clear c8b0
    try clear c8b1
    try clear c8b2
    try clear c9
    try clear c12
    try clear c15
    try clear c18
    try clear hcz10_0
    try clear hcz10_1
    try clear hcz10_2
    try clear hcz10_3
    try clear hcz11_0
    try clear hcz11_1
    try clear hcz11_2
    try clear hcz11_3
    try clear hcz13_0
    try clear hcz13_1
    try clear hcz13_2
    try clear hcz13_3
    try clear hcz14_0
    try clear hcz14_1
    try clear hcz14_2
    try clear hcz14_3
    try clear hcz16_0
    try clear hcz16_1
    try clear hcz16_2
    try clear hcz16_3
    try clear hcz17_0
    try clear hcz17_1
    try clear hcz17_2
    try clear hcz17_3
    try clear hcz19_0
    try clear hcz19_1
    try clear hcz19_2
    try clear hcz19_3
    try clear hcz20_0
    try clear hcz20_1
    try clear hcz20_2
    try clear hcz20_3
    try clear hfz10_0
    try clear hfz10_1
    try clear hfz10_2
    try clear hfz10_3
    try clear hfz11_0
    try clear hfz11_1
    try clear hfz11_2
    try clear hfz11_3
    try clear hfz13_0
    try clear hfz13_1
    try clear hfz13_2
    try clear hfz13_3
    try clear hfz14_0
    try clear hfz14_1
    try clear hfz14_2
    try clear hfz14_3
    try clear hfz16_0
    try clear hfz16_1
    try clear hfz16_2
    try clear hfz16_3
    try clear hfz17_0
    try clear hfz17_1
    try clear hfz17_2
    try clear hfz17_3
    try clear hfz19_0
    try clear hfz19_1
    try clear hfz19_2
    try clear hfz19_3
    try clear hfz20_0
    try clear hfz20_1
    try clear hfz20_2
    try clear hfz20_3
    obtain ⟨kq, x36_2, rfl, HA, HJ2, BK101, BK102, HB⟩ := hcut
    cases kq with
    | zero => exact absurd HA.out (by simp [epactref09_Same.j0])
    | succ kj2 =>
      have H := HA.out
      clear HA
      simp only [epactref09_Same.j0] at H
      by_cases c21 : x36_2 = true
      · subst c21
        have H1 : (some false) = some r := by rw [if_pos rfl] at H; exact H
        clear H
        have H := H1
        clear H1
        obtain rfl := Option.some.inj H
        go_wp2
        go_ret
        exact ⟨by first | rfl | (simp [errW_none, errW_some] <;> rfl) | (simp [*, errW_none, errW_some] <;> rfl), by repeat (first | (with_reducible first | exact HB.out | apply below_alloc | apply pw_below_drewN | apply below_drew1 | refine below_set ?_ GE101.out | refine below_set ?_ GE102.out) | exact HB.out)⟩
      · replace c21 := Bool.eq_false_iff.mpr c21
        subst c21
        have H1 : (epactref09_Same.l0 kj2 0 a0_0 a0_1 l0_2 l0_3 a1_0 a1_1 l1_2 l1_3) = some r := by rw [if_neg (show ¬ (false = true) by decide)] at H; exact H
        clear H
        have H := H1
        clear H1
        have H' := Aside0.mk H
        clear H
        go_wp2
        go_loopg [5] kj2 (fun kq v5 w' => ∃ (x5_2 : Int), v5 = .int .i64 x5_2 ∧ Aside0 (epactref09_Same.l0 kq x5_2 a0_0 a0_1 l0_2 l0_3 a1_0 a1_1 l1_2 l1_3 = some r) ∧ Aside0 (kq ≤ kj2) ∧ Aside0 (w'.heap[gb101]? = some (.cells #[.int .u8 a0_0, .string a0_1, (.slice A0_2 l0_2.length c0_2), (.slice A0_3 l0_3.length c0_3)] 25 (0, 0))) ∧ Aside0 (w'.heap[gb102]? = some (.cells #[.int .u8 a1_0, .string a1_1, (.slice A1_2 l1_2.length c1_2), (.slice A1_3 l1_3.length c1_3)] 25 (0, 0))) ∧ Aside0 (Below w.heap.size w w'))
        case atStart => exact ⟨(0), (by first | rfl | (simp; done) | (simp [*]; done)), H', ⟨Nat.le_refl _⟩, ⟨by (with_reducible repeat (first | refine blk_drewN ?_ _ | refine blk_drew ?_ | refine blk_alloc ?_ _)); exact BK101.out⟩, ⟨by (with_reducible repeat (first | refine blk_drewN ?_ _ | refine blk_drew ?_ | refine blk_alloc ?_ _)); exact BK102.out⟩, ⟨by repeat (first | (with_reducible first | exact HB.out | apply below_alloc | apply pw_below_drewN | apply below_drew1 | refine below_set ?_ GE101.out | refine below_set ?_ GE102.out) | exact HB.out)⟩⟩
        case round =>
          clear H'
          try clear c1
          try clear c2
          try clear p2
          try clear c6
          try clear c6b0
          try clear c6b1
          try clear c7
          try clear c7b0
          try clear c7b1
          try clear c8
          try clear c8b0
          try clear c8b1
          try clear c8b2
          try clear c9
          try clear c12
          try clear c15
          try clear c18
          try clear c21
          try clear hcz10_0
          try clear hcz10_1
          try clear hcz10_2
          try clear hcz10_3
          try clear hcz11_0
          try clear hcz11_1
          try clear hcz11_2
          try clear hcz11_3
          try clear hcz13_0
          try clear hcz13_1
          try clear hcz13_2
          try clear hcz13_3
          try clear hcz14_0
          try clear hcz14_1
          try clear hcz14_2
          try clear hcz14_3
          try clear hcz16_0
          try clear hcz16_1
          try clear hcz16_2
          try clear hcz16_3
          try clear hcz17_0
          try clear hcz17_1
          try clear hcz17_2
          try clear hcz17_3
          try clear hcz19_0
          try clear hcz19_1
          try clear hcz19_2
          try clear hcz19_3
          try clear hcz20_0
          try clear hcz20_1
          try clear hcz20_2
          try clear hcz20_3
          try clear hfz10_0
          try clear hfz10_1
          try clear hfz10_2
          try clear hfz10_3
          try clear hfz11_0
          try clear hfz11_1
          try clear hfz11_2
          try clear hfz11_3
          try clear hfz13_0
          try clear hfz13_1
          try clear hfz13_2
          try clear hfz13_3
          try clear hfz14_0
          try clear hfz14_1
          try clear hfz14_2
          try clear hfz14_3
          try clear hfz16_0
          try clear hfz16_1
          try clear hfz16_2
          try clear hfz16_3
          try clear hfz17_0
          try clear hfz17_1
          try clear hfz17_2
          try clear hfz17_3
          try clear hfz19_0
          try clear hfz19_1
          try clear hfz19_2
          try clear hfz19_3
          try clear hfz20_0
          try clear hfz20_1
          try clear hfz20_2
          try clear hfz20_3
          try clear p2
          obtain ⟨x5_2, rfl, HA, HK2, BK101, BK102, HB⟩ := hrel
          cases gk with
          | zero => exact absurd HA.out (by simp [epactref09_Same.l0])
          | succ k2 =>
            have H := HA.out
            clear HA
            simp only [epactref09_Same.l0] at H
            by_cases c22 : x5_2 < (l0_2.length : Int)
            · rw [if_pos c22] at H
              have c22b0 : decide (x5_2 < (l0_2.length : Int)) = true := decide_eq_true c22
              clear c22
              by_cases c23 : 0 ≤ x5_2
              · rw [if_pos c23] at H
                have c23b0 : decide (0 ≤ x5_2) = true := decide_eq_true c23
                clear c23
                by_cases c24 : x5_2 < (l1_2.length : Int)
                · rw [if_pos c24] at H
                  have c24b0 : decide (x5_2 < (l1_2.length : Int)) = true := decide_eq_true c24
                  clear c24
                  by_cases c25 : (rd l0_2 x5_2) = (rd l1_2 x5_2)
                  · rw [if_pos c25] at H
                    have c25b0 : ((rd l0_2 x5_2) == (rd l1_2 x5_2)) = true := beq_iff_eq.mpr c25
                    have c25b1 : ((rd l0_2 x5_2) != (rd l1_2 x5_2)) = false := bne_eq_false_iff_eq.mpr c25
                    clear c25
                    have H' := Aside0.mk H
                    clear H
                    have hnb26 := NB101_102.out
                    have hnc26 := NB102_101.out
                    have hcz27_0 : wr.cell? ⟨gb101, 0, none⟩ = some (.int .u8 a0_0) := (blk_cell BK101.out 0).trans rfl
                    have hcz27_1 : wr.cell? ⟨gb101, 1, none⟩ = some (.string a0_1) := (blk_cell BK101.out 1).trans rfl
                    have hcz27_2 : wr.cell? ⟨gb101, 2, none⟩ = some (.slice A0_2 l0_2.length c0_2) := (blk_cell BK101.out 2).trans rfl
                    have hcz27_3 : wr.cell? ⟨gb101, 3, none⟩ = some (.slice A0_3 l0_3.length c0_3) := (blk_cell BK101.out 3).trans rfl
                    have hfz27_0 := blk_frozen BK101.out 0
                    have hfz27_1 := blk_frozen BK101.out 1
                    have hfz27_2 := blk_frozen BK101.out 2
                    have hfz27_3 := blk_frozen BK101.out 3
                    try go_wp2
                    have n0_ := Aside0.mk (blk_drew BK101.out)
                    have n1_ := Aside0.mk (blk_drew BK102.out)
                    have n2_ := Aside0.mk (below_drew1 HB.out)
                    clear BK101
                    clear BK102
                    clear HB
                    have BK101 := n0_
                    have BK102 := n1_
                    have HB := n2_
                    clear n0_ n1_ n2_
                    have p103 : 0 ≤ (x5_2 : Int) := of_decide_eq_true (by first | (with_reducible assumption) | assumption)
                    have q103 : x5_2 < (l0_2.length : Int) := of_decide_eq_true (by first | (with_reducible assumption) | assumption)
                    obtain ⟨ad103, e103, hx103_0⟩ := Kd.at_int HR0_2.out x5_2 p103 q103
                    have hw103_0 := hx103_0
                    cases e103
                    replace hx103_0 := (HB.out.cell (World.block_lt_of_cell? w _ hx103_0)).trans hx103_0
                    replace p103 := eq_true p103
                    replace q103 := eq_true q103
                    have p104 : 0 ≤ (x5_2 : Int) := of_decide_eq_true (by first | (with_reducible assumption) | assumption)
                    have q104 : x5_2 < (l1_2.length : Int) := of_decide_eq_true (by first | (with_reducible assumption) | assumption)
                    obtain ⟨ad104, e104, hx104_0⟩ := Kd.at_int HR1_2.out x5_2 p104 q104
                    have hw104_0 := hx104_0
                    cases e104
                    replace hx104_0 := (HB.out.cell (World.block_lt_of_cell? w _ hx104_0)).trans hx104_0
                    replace p104 := eq_true p104
                    replace q104 := eq_true q104
                    refine start_ (n := 11) (S := fun w' => w'.cell? ⟨gb101, 0, none⟩ = some (.int .u8 a0_0) ∧ w'.cell? ⟨gb101, 1, none⟩ = some (.string a0_1) ∧ w'.cell? ⟨gb101, 2, none⟩ = some (.slice (some ad103) l0_2.length c0_2) ∧ w'.cell? ⟨gb101, 3, none⟩ = some (.slice A0_3 l0_3.length c0_3) ∧ w'.cell? ⟨gb102, 0, none⟩ = some (.int .u8 a1_0) ∧ w'.cell? ⟨gb102, 1, none⟩ = some (.string a1_1) ∧ w'.cell? ⟨gb102, 2, none⟩ = some (.slice (some ad104) l1_2.length c1_2) ∧ w'.cell? ⟨gb102, 3, none⟩ = some (.slice A1_3 l1_3.length c1_3) ∧ w'.cell? (ad103.add (x5_2).toNat) = some (.int .i64 (rd l0_2 x5_2)) ∧ w'.cell? (ad104.add (x5_2).toNat) = some (.int .i64 (rd l1_2 x5_2))) (ds := []) #[false, false, false, false, false, false, false, false, false, false, false] (by kernel_rfl) rfl rfl ⟨(blk_cell BK101.out 0).trans rfl, (blk_cell BK101.out 1).trans rfl, (blk_cell BK101.out 2).trans rfl, (blk_cell BK101.out 3).trans rfl, (blk_cell BK102.out 0).trans rfl, (blk_cell BK102.out 1).trans rfl, (blk_cell BK102.out 2).trans rfl, (blk_cell BK102.out 3).trans rfl, ((HB.out.cell (World.block_lt_of_cell? w _ hw103_0)).trans hw103_0), ((HB.out.cell (World.block_lt_of_cell? w _ hw104_0)).trans hw104_0)⟩ (fun hHeld => ?_); refine with_tabW epactref09_Same.tab6 epactref09_Same.bits6 (fun HT_ HW_ => ?_)
                    generalize wr.drew = w28 at BK101 BK102 HB hx103_0 hx104_0 hHeld ⊢
                    refine pure_ (i := 0) (N := some 44) (v := ?_) (a' := ?_) #[true, false, false, false, false, false, false, false, false, false, false] rfl rfl (any_of HT_.out (by kernel_rfl)) (fun _ _ _ h => h) (Or.inl ⟨by rfl, ?_⟩) ?_ ?_
                    rotate_left
                    · intro w'
                      go_simp
                      with_reducible rfl
                    rotate_left
                    · simp only [Act.put, List.setIfInBounds_toArray, List.set_cons_zero, List.set_cons_succ, i64_w, i32_w]
                      rfl
                    refine pure_ (i := 2) (N := some 46) (v := ?_) (a' := ?_) #[true, false, true, false, false, false, false, false, false, false, false] rfl rfl (any_of HT_.out (by kernel_rfl)) (fun _ _ _ h => h) (Or.inl ⟨by rfl, ?_⟩) ?_ ?_
                    rotate_left
                    · intro w'
                      go_simp
                      with_reducible rfl
                    rotate_left
                    · simp only [Act.put, List.setIfInBounds_toArray, List.set_cons_zero, List.set_cons_succ, i64_w, i32_w]
                      rfl
                    refine pure_ (i := 5) (N := some 49) (v := ?_) (a' := ?_) #[true, false, true, false, false, true, false, false, false, false, false] rfl rfl (any_of HT_.out (by kernel_rfl)) (fun _ _ _ h => h) (Or.inl ⟨by rfl, ?_⟩) ?_ ?_
                    rotate_left
                    · intro w'
                      go_simp
                      with_reducible rfl
                    rotate_left
                    · simp only [Act.put, List.setIfInBounds_toArray, List.set_cons_zero, List.set_cons_succ, i64_w, i32_w]
                      rfl
                    refine pure_ (i := 7) (N := some 51) (v := ?_) (a' := ?_) #[true, false, true, false, false, true, false, true, false, false, false] rfl rfl (any_of HT_.out (by kernel_rfl)) (fun _ _ _ h => h) (Or.inl ⟨by rfl, ?_⟩) ?_ ?_
                    rotate_left
                    · intro w'
                      go_simp
                      with_reducible rfl
                    rotate_left
                    · simp only [Act.put, List.setIfInBounds_toArray, List.set_cons_zero, List.set_cons_succ, i64_w, i32_w]
                      rfl
                    refine take_ (i := 1) (N := some 45) (v := ?_) (a' := ?_) #[true, true, true, false, false, true, false, true, false, false, false] rfl rfl (take_ofW HT_.out HW_.out (by kernel_rfl)) (fun _ _ _ h => h) (Or.inl ⟨by rfl, ?_⟩) hHeld ?_ ?_
                    rotate_left
                    · rintro w' ⟨s0, s1, s2, s3, s4, s5, s6, s7, s8, s9⟩
                      go_simp
                      with_reducible rfl
                    rotate_left
                    · simp only [Act.put, List.setIfInBounds_toArray, List.set_cons_zero, List.set_cons_succ, i64_w, i32_w]
                      rfl
                    refine pure_ (i := 3) (N := some 47) (v := ?_) (a' := ?_) #[true, true, true, true, false, true, false, true, false, false, false] rfl rfl (any_of HT_.out (by kernel_rfl)) (fun _ _ _ h => h) (Or.inl ⟨by rfl, ?_⟩) ?_ ?_
                    rotate_left
                    · intro w'
                      go_simp
                      with_reducible rfl
                    rotate_left
                    · simp only [Act.put, List.setIfInBounds_toArray, List.set_cons_zero, List.set_cons_succ, i64_w, i32_w]
                      rfl
                    refine take_ (i := 4) (N := some 48) (v := ?_) (a' := ?_) #[true, true, true, true, true, true, false, true, false, false, false] rfl rfl (take_ofW HT_.out HW_.out (by kernel_rfl)) (fun _ _ _ h => h) (Or.inl ⟨by rfl, ?_⟩) hHeld ?_ ?_
                    rotate_left
                    · rintro w' ⟨s0, s1, s2, s3, s4, s5, s6, s7, s8, s9⟩
                      go_simp
                      with_reducible rfl
                    rotate_left
                    · simp only [Act.put, List.setIfInBounds_toArray, List.set_cons_zero, List.set_cons_succ, i64_w, i32_w]
                      rfl
                    refine take_ (i := 6) (N := some 50) (v := ?_) (a' := ?_) #[true, true, true, true, true, true, true, true, false, false, false] rfl rfl (take_ofW HT_.out HW_.out (by kernel_rfl)) (fun _ _ _ h => h) (Or.inl ⟨by rfl, ?_⟩) hHeld ?_ ?_
                    rotate_left
                    · rintro w' ⟨s0, s1, s2, s3, s4, s5, s6, s7, s8, s9⟩
                      go_simp
                      with_reducible rfl
                    rotate_left
                    · simp only [Act.put, List.setIfInBounds_toArray, List.set_cons_zero, List.set_cons_succ, i64_w, i32_w]
                      rfl
                    refine pure_ (i := 8) (N := some 52) (v := ?_) (a' := ?_) #[true, true, true, true, true, true, true, true, true, false, false] rfl rfl (any_of HT_.out (by kernel_rfl)) (fun _ _ _ h => h) (Or.inl ⟨by rfl, ?_⟩) ?_ ?_
                    rotate_left
                    · intro w'
                      go_simp
                      with_reducible rfl
                    rotate_left
                    · simp only [Act.put, List.setIfInBounds_toArray, List.set_cons_zero, List.set_cons_succ, i64_w, i32_w]
                      rfl
                    refine take_ (i := 9) (N := some 53) (v := ?_) (a' := ?_) #[true, true, true, true, true, true, true, true, true, true, false] rfl rfl (take_ofW HT_.out HW_.out (by kernel_rfl)) (fun _ _ _ h => h) (Or.inl ⟨by rfl, ?_⟩) hHeld ?_ ?_
                    rotate_left
                    · rintro w' ⟨s0, s1, s2, s3, s4, s5, s6, s7, s8, s9⟩
                      go_simp
                      with_reducible rfl
                    rotate_left
                    · simp only [Act.put, List.setIfInBounds_toArray, List.set_cons_zero, List.set_cons_succ, i64_w, i32_w]
                      rfl
                    refine pure_ (i := 10) (N := some 54) (v := ?_) (a' := ?_) #[true, true, true, true, true, true, true, true, true, true, true] rfl rfl (any_of HT_.out (by kernel_rfl)) (fun _ _ _ h => h) (Or.inl ⟨by rfl, ?_⟩) ?_ ?_
                    rotate_left
                    · intro w'
                      go_simp
                      with_reducible rfl
                    rotate_left
                    · simp only [Act.put, List.setIfInBounds_toArray, List.set_cons_zero, List.set_cons_succ, i64_w, i32_w]
                      rfl
                    refine done_ (done_of HT_.out (by kernel_rfl)) ?_
                    try go_wp2
                    go_roundg k2
                    case measure => have := HJ2.out; have := HK2.out; omega
                    case rel => exact ⟨(wrap64 (x5_2 + 1)), (by first | rfl | (simp; done) | (simp [*]; done)), H', ⟨by have := HJ2.out; have := HK2.out; omega⟩, ⟨by (with_reducible repeat (first | refine blk_drewN ?_ _ | refine blk_drew ?_ | refine blk_alloc ?_ _)); exact BK101.out⟩, ⟨by (with_reducible repeat (first | refine blk_drewN ?_ _ | refine blk_drew ?_ | refine blk_alloc ?_ _)); exact BK102.out⟩, ⟨by repeat (first | (with_reducible first | exact HB.out | apply below_alloc | apply pw_below_drewN | apply below_drew1 | refine below_set ?_ GE101.out | refine below_set ?_ GE102.out) | exact HB.out)⟩⟩
                  · rw [if_neg c25] at H
                    have c25b0 : ((rd l0_2 x5_2) == (rd l1_2 x5_2)) = false := beq_eq_false_iff_ne.mpr c25
                    have c25b1 : ((rd l0_2 x5_2) != (rd l1_2 x5_2)) = true := bne_iff_ne.mpr c25
                    obtain rfl := Option.some.inj H
                    have hnb29 := NB101_102.out
                    have hnc29 := NB102_101.out
                    have hcz30_0 : wr.cell? ⟨gb101, 0, none⟩ = some (.int .u8 a0_0) := (blk_cell BK101.out 0).trans rfl
                    have hcz30_1 : wr.cell? ⟨gb101, 1, none⟩ = some (.string a0_1) := (blk_cell BK101.out 1).trans rfl
                    have hcz30_2 : wr.cell? ⟨gb101, 2, none⟩ = some (.slice A0_2 l0_2.length c0_2) := (blk_cell BK101.out 2).trans rfl
                    have hcz30_3 : wr.cell? ⟨gb101, 3, none⟩ = some (.slice A0_3 l0_3.length c0_3) := (blk_cell BK101.out 3).trans rfl
                    have hfz30_0 := blk_frozen BK101.out 0
                    have hfz30_1 := blk_frozen BK101.out 1
                    have hfz30_2 := blk_frozen BK101.out 2
                    have hfz30_3 := blk_frozen BK101.out 3
                    try go_wp2
                    have n0_ := Aside0.mk (blk_drew BK101.out)
                    have n1_ := Aside0.mk (blk_drew BK102.out)
                    have n2_ := Aside0.mk (below_drew1 HB.out)
                    clear BK101
                    clear BK102
                    clear HB
                    have BK101 := n0_
                    have BK102 := n1_
                    have HB := n2_
                    clear n0_ n1_ n2_
                    have p103 : 0 ≤ (x5_2 : Int) := of_decide_eq_true (by first | (with_reducible assumption) | assumption)
                    have q103 : x5_2 < (l0_2.length : Int) := of_decide_eq_true (by first | (with_reducible assumption) | assumption)
                    obtain ⟨ad103, e103, hx103_0⟩ := Kd.at_int HR0_2.out x5_2 p103 q103
                    have hw103_0 := hx103_0
                    cases e103
                    replace hx103_0 := (HB.out.cell (World.block_lt_of_cell? w _ hx103_0)).trans hx103_0
                    replace p103 := eq_true p103
                    replace q103 := eq_true q103
                    have p104 : 0 ≤ (x5_2 : Int) := of_decide_eq_true (by first | (with_reducible assumption) | assumption)
                    have q104 : x5_2 < (l1_2.length : Int) := of_decide_eq_true (by first | (with_reducible assumption) | assumption)
                    obtain ⟨ad104, e104, hx104_0⟩ := Kd.at_int HR1_2.out x5_2 p104 q104
                    have hw104_0 := hx104_0
                    cases e104
                    replace hx104_0 := (HB.out.cell (World.block_lt_of_cell? w _ hx104_0)).trans hx104_0
                    replace p104 := eq_true p104
                    replace q104 := eq_true q104
                    refine start_ (n := 11) (S := fun w' => w'.cell? ⟨gb101, 0, none⟩ = some (.int .u8 a0_0) ∧ w'.cell? ⟨gb101, 1, none⟩ = some (.string a0_1) ∧ w'.cell? ⟨gb101, 2, none⟩ = some (.slice (some ad103) l0_2.length c0_2) ∧ w'.cell? ⟨gb101, 3, none⟩ = some (.slice A0_3 l0_3.length c0_3) ∧ w'.cell? ⟨gb102, 0, none⟩ = some (.int .u8 a1_0) ∧ w'.cell? ⟨gb102, 1, none⟩ = some (.string a1_1) ∧ w'.cell? ⟨gb102, 2, none⟩ = some (.slice (some ad104) l1_2.length c1_2) ∧ w'.cell? ⟨gb102, 3, none⟩ = some (.slice A1_3 l1_3.length c1_3) ∧ w'.cell? (ad103.add (x5_2).toNat) = some (.int .i64 (rd l0_2 x5_2)) ∧ w'.cell? (ad104.add (x5_2).toNat) = some (.int .i64 (rd l1_2 x5_2))) (ds := []) #[false, false, false, false, false, false, false, false, false, false, false] (by kernel_rfl) rfl rfl ⟨(blk_cell BK101.out 0).trans rfl, (blk_cell BK101.out 1).trans rfl, (blk_cell BK101.out 2).trans rfl, (blk_cell BK101.out 3).trans rfl, (blk_cell BK102.out 0).trans rfl, (blk_cell BK102.out 1).trans rfl, (blk_cell BK102.out 2).trans rfl, (blk_cell BK102.out 3).trans rfl, ((HB.out.cell (World.block_lt_of_cell? w _ hw103_0)).trans hw103_0), ((HB.out.cell (World.block_lt_of_cell? w _ hw104_0)).trans hw104_0)⟩ (fun hHeld => ?_); refine with_tabW epactref09_Same.tab6 epactref09_Same.bits6 (fun HT_ HW_ => ?_)
                    generalize wr.drew = w31 at BK101 BK102 HB hx103_0 hx104_0 hHeld ⊢
                    refine pure_ (i := 0) (N := some 44) (v := ?_) (a' := ?_) #[true, false, false, false, false, false, false, false, false, false, false] rfl rfl (any_of HT_.out (by kernel_rfl)) (fun _ _ _ h => h) (Or.inl ⟨by rfl, ?_⟩) ?_ ?_
                    rotate_left
                    · intro w'
                      go_simp
                      with_reducible rfl
                    rotate_left
                    · simp only [Act.put, List.setIfInBounds_toArray, List.set_cons_zero, List.set_cons_succ, i64_w, i32_w]
                      rfl
                    refine pure_ (i := 2) (N := some 46) (v := ?_) (a' := ?_) #[true, false, true, false, false, false, false, false, false, false, false] rfl rfl (any_of HT_.out (by kernel_rfl)) (fun _ _ _ h => h) (Or.inl ⟨by rfl, ?_⟩) ?_ ?_
                    rotate_left
                    · intro w'
                      go_simp
                      with_reducible rfl
                    rotate_left
                    · simp only [Act.put, List.setIfInBounds_toArray, List.set_cons_zero, List.set_cons_succ, i64_w, i32_w]
                      rfl
                    refine pure_ (i := 5) (N := some 49) (v := ?_) (a' := ?_) #[true, false, true, false, false, true, false, false, false, false, false] rfl rfl (any_of HT_.out (by kernel_rfl)) (fun _ _ _ h => h) (Or.inl ⟨by rfl, ?_⟩) ?_ ?_
                    rotate_left
                    · intro w'
                      go_simp
                      with_reducible rfl
                    rotate_left
                    · simp only [Act.put, List.setIfInBounds_toArray, List.set_cons_zero, List.set_cons_succ, i64_w, i32_w]
                      rfl
                    refine pure_ (i := 7) (N := some 51) (v := ?_) (a' := ?_) #[true, false, true, false, false, true, false, true, false, false, false] rfl rfl (any_of HT_.out (by kernel_rfl)) (fun _ _ _ h => h) (Or.inl ⟨by rfl, ?_⟩) ?_ ?_
                    rotate_left
                    · intro w'
                      go_simp
                      with_reducible rfl
                    rotate_left
                    · simp only [Act.put, List.setIfInBounds_toArray, List.set_cons_zero, List.set_cons_succ, i64_w, i32_w]
                      rfl
                    refine take_ (i := 1) (N := some 45) (v := ?_) (a' := ?_) #[true, true, true, false, false, true, false, true, false, false, false] rfl rfl (take_ofW HT_.out HW_.out (by kernel_rfl)) (fun _ _ _ h => h) (Or.inl ⟨by rfl, ?_⟩) hHeld ?_ ?_
                    rotate_left
                    · rintro w' ⟨s0, s1, s2, s3, s4, s5, s6, s7, s8, s9⟩
                      go_simp
                      with_reducible rfl
                    rotate_left
                    · simp only [Act.put, List.setIfInBounds_toArray, List.set_cons_zero, List.set_cons_succ, i64_w, i32_w]
                      rfl
                    refine pure_ (i := 3) (N := some 47) (v := ?_) (a' := ?_) #[true, true, true, true, false, true, false, true, false, false, false] rfl rfl (any_of HT_.out (by kernel_rfl)) (fun _ _ _ h => h) (Or.inl ⟨by rfl, ?_⟩) ?_ ?_
                    rotate_left
                    · intro w'
                      go_simp
                      with_reducible rfl
                    rotate_left
                    · simp only [Act.put, List.setIfInBounds_toArray, List.set_cons_zero, List.set_cons_succ, i64_w, i32_w]
                      rfl
                    refine take_ (i := 4) (N := some 48) (v := ?_) (a' := ?_) #[true, true, true, true, true, true, false, true, false, false, false] rfl rfl (take_ofW HT_.out HW_.out (by kernel_rfl)) (fun _ _ _ h => h) (Or.inl ⟨by rfl, ?_⟩) hHeld ?_ ?_
                    rotate_left
                    · rintro w' ⟨s0, s1, s2, s3, s4, s5, s6, s7, s8, s9⟩
                      go_simp
                      with_reducible rfl
                    rotate_left
                    · simp only [Act.put, List.setIfInBounds_toArray, List.set_cons_zero, List.set_cons_succ, i64_w, i32_w]
                      rfl
                    refine take_ (i := 6) (N := some 50) (v := ?_) (a' := ?_) #[true, true, true, true, true, true, true, true, false, false, false] rfl rfl (take_ofW HT_.out HW_.out (by kernel_rfl)) (fun _ _ _ h => h) (Or.inl ⟨by rfl, ?_⟩) hHeld ?_ ?_
                    rotate_left
                    · rintro w' ⟨s0, s1, s2, s3, s4, s5, s6, s7, s8, s9⟩
                      go_simp
                      with_reducible rfl
                    rotate_left
                    · simp only [Act.put, List.setIfInBounds_toArray, List.set_cons_zero, List.set_cons_succ, i64_w, i32_w]
                      rfl
                    refine pure_ (i := 8) (N := some 52) (v := ?_) (a' := ?_) #[true, true, true, true, true, true, true, true, true, false, false] rfl rfl (any_of HT_.out (by kernel_rfl)) (fun _ _ _ h => h) (Or.inl ⟨by rfl, ?_⟩) ?_ ?_
                    rotate_left
                    · intro w'
                      go_simp
                      with_reducible rfl
                    rotate_left
                    · simp only [Act.put, List.setIfInBounds_toArray, List.set_cons_zero, List.set_cons_succ, i64_w, i32_w]
                      rfl
                    refine take_ (i := 9) (N := some 53) (v := ?_) (a' := ?_) #[true, true, true, true, true, true, true, true, true, true, false] rfl rfl (take_ofW HT_.out HW_.out (by kernel_rfl)) (fun _ _ _ h => h) (Or.inl ⟨by rfl, ?_⟩) hHeld ?_ ?_
                    rotate_left
                    · rintro w' ⟨s0, s1, s2, s3, s4, s5, s6, s7, s8, s9⟩
                      go_simp
                      with_reducible rfl
                    rotate_left
                    · simp only [Act.put, List.setIfInBounds_toArray, List.set_cons_zero, List.set_cons_succ, i64_w, i32_w]
                      rfl
                    refine pure_ (i := 10) (N := some 54) (v := ?_) (a' := ?_) #[true, true, true, true, true, true, true, true, true, true, true] rfl rfl (any_of HT_.out (by kernel_rfl)) (fun _ _ _ h => h) (Or.inl ⟨by rfl, ?_⟩) ?_ ?_
                    rotate_left
                    · intro w'
                      go_simp
                      with_reducible rfl
                    rotate_left
                    · simp only [Act.put, List.setIfInBounds_toArray, List.set_cons_zero, List.set_cons_succ, i64_w, i32_w]
                      rfl
                    refine done_ (done_of HT_.out (by kernel_rfl)) ?_
                    try go_wp2
                    go_ret
                    exact ⟨by first | rfl | (simp [errW_none, errW_some] <;> rfl) | (simp [*, errW_none, errW_some] <;> rfl), by repeat (first | (with_reducible first | exact HB.out | apply below_alloc | apply pw_below_drewN | apply below_drew1 | refine below_set ?_ GE101.out | refine below_set ?_ GE102.out) | exact HB.out)⟩
                · rw [if_neg c24] at H
                  exact absurd H (by simp)
              · rw [if_neg c23] at H
                exact absurd H (by simp)
            · rw [if_neg c22] at H
              have c22b0 : decide (x5_2 < (l0_2.length : Int)) = false := decide_eq_false c22
              clear c22
              have H' := Aside0.mk H
              clear H
              have hnb32 := NB101_102.out
              have hnc32 := NB102_101.out
              have hcz33_0 : wr.cell? ⟨gb101, 0, none⟩ = some (.int .u8 a0_0) := (blk_cell BK101.out 0).trans rfl
              have hcz33_1 : wr.cell? ⟨gb101, 1, none⟩ = some (.string a0_1) := (blk_cell BK101.out 1).trans rfl
              have hcz33_2 : wr.cell? ⟨gb101, 2, none⟩ = some (.slice A0_2 l0_2.length c0_2) := (blk_cell BK101.out 2).trans rfl
              have hcz33_3 : wr.cell? ⟨gb101, 3, none⟩ = some (.slice A0_3 l0_3.length c0_3) := (blk_cell BK101.out 3).trans rfl
              have hfz33_0 := blk_frozen BK101.out 0
              have hfz33_1 := blk_frozen BK101.out 1
              have hfz33_2 := blk_frozen BK101.out 2
              have hfz33_3 := blk_frozen BK101.out 3
              go_wp2
              go_loopg [6] k2 (fun kq v6 w' => ∃ (x6_3 : Int), v6 = .int .i64 x6_3 ∧ Aside0 (epactref09_Same.l1 kq x6_3 a0_0 a0_1 l0_2 l0_3 a1_0 a1_1 l1_2 l1_3 = some r) ∧ Aside0 (kq ≤ k2) ∧ Aside0 (w'.heap[gb101]? = some (.cells #[.int .u8 a0_0, .string a0_1, (.slice A0_2 l0_2.length c0_2), (.slice A0_3 l0_3.length c0_3)] 25 (0, 0))) ∧ Aside0 (w'.heap[gb102]? = some (.cells #[.int .u8 a1_0, .string a1_1, (.slice A1_2 l1_2.length c1_2), (.slice A1_3 l1_3.length c1_3)] 25 (0, 0))) ∧ Aside0 (Below w.heap.size w w'))
              case atStart => exact ⟨(0), (by first | rfl | (simp; done) | (simp [*]; done)), H', ⟨Nat.le_refl _⟩, ⟨by (with_reducible repeat (first | refine blk_drewN ?_ _ | refine blk_drew ?_ | refine blk_alloc ?_ _)); exact BK101.out⟩, ⟨by (with_reducible repeat (first | refine blk_drewN ?_ _ | refine blk_drew ?_ | refine blk_alloc ?_ _)); exact BK102.out⟩, ⟨by repeat (first | (with_reducible first | exact HB.out | apply below_alloc | apply pw_below_drewN | apply below_drew1 | refine below_set ?_ GE101.out | refine below_set ?_ GE102.out) | exact HB.out)⟩⟩
              case round =>
                clear H'
                try clear c1
                try clear p1
                try clear q1
                try clear hx1
                try clear c2
                try clear p2
                try clear c3
                try clear c6
                try clear c6b0
                try clear c6b1
                try clear p6
                try clear c7
                try clear c7b0
                try clear c7b1
                try clear c8
                try clear c8b0
                try clear c8b1
                try clear c8b2
                try clear c9
                try clear p10
                try clear q10
                try clear hx10
                try clear c12
                try clear c15
                try clear c18
                try clear c21
                try clear c22
                try clear c22b0
                try clear c23
                try clear c23b0
                try clear c24
                try clear c24b0
                try clear c25
                try clear c25b0
                try clear c25b1
                try clear c26
                try clear c29
                try clear c32
                try clear hcz10_0
                try clear hcz10_1
                try clear hcz10_2
                try clear hcz10_3
                try clear hcz11_0
                try clear hcz11_1
                try clear hcz11_2
                try clear hcz11_3
                try clear hcz13_0
                try clear hcz13_1
                try clear hcz13_2
                try clear hcz13_3
                try clear hcz14_0
                try clear hcz14_1
                try clear hcz14_2
                try clear hcz14_3
                try clear hcz16_0
                try clear hcz16_1
                try clear hcz16_2
                try clear hcz16_3
                try clear hcz17_0
                try clear hcz17_1
                try clear hcz17_2
                try clear hcz17_3
                try clear hcz19_0
                try clear hcz19_1
                try clear hcz19_2
                try clear hcz19_3
                try clear hcz20_0
                try clear hcz20_1
                try clear hcz20_2
                try clear hcz20_3
                try clear hcz27_0
                try clear hcz27_1
                try clear hcz27_2
                try clear hcz27_3
                try clear hcz30_0
                try clear hcz30_1
                try clear hcz30_2
                try clear hcz30_3
                try clear hcz33_0
                try clear hcz33_1
                try clear hcz33_2
                try clear hcz33_3
                try clear hfz10_0
                try clear hfz10_1
                try clear hfz10_2
                try clear hfz10_3
                try clear hfz11_0
                try clear hfz11_1
                try clear hfz11_2
                try clear hfz11_3
                try clear hfz13_0
                try clear hfz13_1
                try clear hfz13_2
                try clear hfz13_3
                try clear hfz14_0
                try clear hfz14_1
                try clear hfz14_2
                try clear hfz14_3
                try clear hfz16_0
                try clear hfz16_1
                try clear hfz16_2
                try clear hfz16_3
                try clear hfz17_0
                try clear hfz17_1
                try clear hfz17_2
                try clear hfz17_3
                try clear hfz19_0
                try clear hfz19_1
                try clear hfz19_2
                try clear hfz19_3
                try clear hfz20_0
                try clear hfz20_1
                try clear hfz20_2
                try clear hfz20_3
                try clear hfz27_0
                try clear hfz27_1
                try clear hfz27_2
                try clear hfz27_3
                try clear hfz30_0
                try clear hfz30_1
                try clear hfz30_2
                try clear hfz30_3
                try clear hfz33_0
                try clear hfz33_1
                try clear hfz33_2
                try clear hfz33_3
                try clear hx103_0
                try clear hx104_0
                try clear p103
                try clear p104
                try clear p2
                try clear q103
                try clear q104
                obtain ⟨x6_3, rfl, HA, HK3, BK101, BK102, HB⟩ := hrel
                cases gk with
                | zero => exact absurd HA.out (by simp [epactref09_Same.l1])
                | succ k3 =>
                  have H := HA.out
                  clear HA
                  simp only [epactref09_Same.l1] at H
                  by_cases c34 : x6_3 < (l0_3.length : Int)
                  · rw [if_pos c34] at H
                    have c34b0 : decide (x6_3 < (l0_3.length : Int)) = true := decide_eq_true c34
                    clear c34
                    by_cases c35 : 0 ≤ x6_3
                    · rw [if_pos c35] at H
                      have c35b0 : decide (0 ≤ x6_3) = true := decide_eq_true c35
                      clear c35
                      by_cases c36 : x6_3 < (l1_3.length : Int)
                      · rw [if_pos c36] at H
                        have c36b0 : decide (x6_3 < (l1_3.length : Int)) = true := decide_eq_true c36
                        clear c36
                        replace H := Option.bind_eq_some_iff.mp H
                        obtain ⟨t107, A370, H⟩ := H
                        replace H : (if t107 = true then (epactref09_Same.l1 k3 (wrap64 (x6_3 + 1)) a0_0 a0_1 l0_2 l0_3 a1_0 a1_1 l1_2 l1_3) else (some false)) = some r := H
                        have A37 := Aside0.mk A370
                        clear A370
                        by_cases c38 : t107 = true
                        · subst c38
                          have H1 : (epactref09_Same.l1 k3 (wrap64 (x6_3 + 1)) a0_0 a0_1 l0_2 l0_3 a1_0 a1_1 l1_2 l1_3) = some r := by rw [if_pos rfl] at H; exact H
                          clear H
                          have H := H1
                          clear H1
                          have H' := Aside0.mk H
                          clear H
                          have hnb39 := NB101_102.out
                          have hnc39 := NB102_101.out
                          have hcz40_0 : wr.cell? ⟨gb101, 0, none⟩ = some (.int .u8 a0_0) := (blk_cell BK101.out 0).trans rfl
                          have hcz40_1 : wr.cell? ⟨gb101, 1, none⟩ = some (.string a0_1) := (blk_cell BK101.out 1).trans rfl
                          have hcz40_2 : wr.cell? ⟨gb101, 2, none⟩ = some (.slice A0_2 l0_2.length c0_2) := (blk_cell BK101.out 2).trans rfl
                          have hcz40_3 : wr.cell? ⟨gb101, 3, none⟩ = some (.slice A0_3 l0_3.length c0_3) := (blk_cell BK101.out 3).trans rfl
                          have hfz40_0 := blk_frozen BK101.out 0
                          have hfz40_1 := blk_frozen BK101.out 1
                          have hfz40_2 := blk_frozen BK101.out 2
                          have hfz40_3 := blk_frozen BK101.out 3
                          try go_wp2
                          have n0_ := Aside0.mk (blk_drew BK101.out)
                          have n1_ := Aside0.mk (blk_drew BK102.out)
                          have n2_ := Aside0.mk (below_drew1 HB.out)
                          clear BK101
                          clear BK102
                          clear HB
                          have BK101 := n0_
                          have BK102 := n1_
                          have HB := n2_
                          clear n0_ n1_ n2_
                          have p105 : 0 ≤ (x6_3 : Int) := of_decide_eq_true (by first | (with_reducible assumption) | assumption)
                          have q105 : x6_3 < (l0_3.length : Int) := of_decide_eq_true (by first | (with_reducible assumption) | assumption)
                          obtain ⟨ad105, A105_2, c105_2, A105_3, c105_3, e105, hx105_0, hx105_1, hx105_2, hx105_3, hl105_2, hi105_2, hl105_3, hi105_3⟩ := at_T25 HR0_3.out x6_3 p105 q105
                          have hw105_3 := hx105_3
                          have hw105_2 := hx105_2
                          have hw105_1 := hx105_1
                          have hw105_0 := hx105_0
                          cases e105
                          replace hx105_0 := (HB.out.cell (World.block_lt_of_cell? w _ hx105_0)).trans hx105_0
                          replace hx105_1 := (HB.out.cell (World.block_lt_of_cell? w _ hx105_1)).trans hx105_1
                          replace hx105_2 := (HB.out.cell (World.block_lt_of_cell? w _ hx105_2)).trans hx105_2
                          replace hx105_3 := (HB.out.cell (World.block_lt_of_cell? w _ hx105_3)).trans hx105_3
                          have HR105_2 := Aside0.mk hi105_2
                          have HC105_2 := Aside0.mk hl105_2
                          clear hi105_2 hl105_2
                          have HR105_3 := Aside0.mk hi105_3
                          have HC105_3 := Aside0.mk hl105_3
                          clear hi105_3 hl105_3
                          replace p105 := eq_true p105
                          replace q105 := eq_true q105
                          have p106 : 0 ≤ (x6_3 : Int) := of_decide_eq_true (by first | (with_reducible assumption) | assumption)
                          have q106 : x6_3 < (l1_3.length : Int) := of_decide_eq_true (by first | (with_reducible assumption) | assumption)
                          obtain ⟨ad106, A106_2, c106_2, A106_3, c106_3, e106, hx106_0, hx106_1, hx106_2, hx106_3, hl106_2, hi106_2, hl106_3, hi106_3⟩ := at_T25 HR1_3.out x6_3 p106 q106
                          have hw106_3 := hx106_3
                          have hw106_2 := hx106_2
                          have hw106_1 := hx106_1
                          have hw106_0 := hx106_0
                          cases e106
                          replace hx106_0 := (HB.out.cell (World.block_lt_of_cell? w _ hx106_0)).trans hx106_0
                          replace hx106_1 := (HB.out.cell (World.block_lt_of_cell? w _ hx106_1)).trans hx106_1
                          replace hx106_2 := (HB.out.cell (World.block_lt_of_cell? w _ hx106_2)).trans hx106_2
                          replace hx106_3 := (HB.out.cell (World.block_lt_of_cell? w _ hx106_3)).trans hx106_3
                          have HR106_2 := Aside0.mk hi106_2
                          have HC106_2 := Aside0.mk hl106_2
                          clear hi106_2 hl106_2
                          have HR106_3 := Aside0.mk hi106_3
                          have HC106_3 := Aside0.mk hl106_3
                          clear hi106_3 hl106_3
                          replace p106 := eq_true p106
                          replace q106 := eq_true q106
                          refine start_ (n := 12) (S := fun w' => w'.cell? ⟨gb101, 0, none⟩ = some (.int .u8 a0_0) ∧ w'.cell? ⟨gb101, 1, none⟩ = some (.string a0_1) ∧ w'.cell? ⟨gb101, 2, none⟩ = some (.slice A0_2 l0_2.length c0_2) ∧ w'.cell? ⟨gb101, 3, none⟩ = some (.slice (some ad105) l0_3.length c0_3) ∧ w'.cell? ⟨gb102, 0, none⟩ = some (.int .u8 a1_0) ∧ w'.cell? ⟨gb102, 1, none⟩ = some (.string a1_1) ∧ w'.cell? ⟨gb102, 2, none⟩ = some (.slice A1_2 l1_2.length c1_2) ∧ w'.cell? ⟨gb102, 3, none⟩ = some (.slice (some ad106) l1_3.length c1_3) ∧ w'.cell? (ad105.add ((x6_3).toNat * 4)) = some (.int .u8 ((rd_T25 l0_3 x6_3).f0)) ∧ w'.cell? ⟨(ad105.add ((x6_3).toNat * 4)).block, (ad105.add ((x6_3).toNat * 4)).off + 1, none⟩ = some (.string ((rd_T25 l0_3 x6_3).f1)) ∧ w'.cell? ⟨(ad105.add ((x6_3).toNat * 4)).block, (ad105.add ((x6_3).toNat * 4)).off + 2, none⟩ = some (.slice A105_2 ((rd_T25 l0_3 x6_3).f2).length c105_2) ∧ w'.cell? ⟨(ad105.add ((x6_3).toNat * 4)).block, (ad105.add ((x6_3).toNat * 4)).off + 3, none⟩ = some (.slice A105_3 ((rd_T25 l0_3 x6_3).f3).length c105_3) ∧ w'.cell? (ad106.add ((x6_3).toNat * 4)) = some (.int .u8 ((rd_T25 l1_3 x6_3).f0)) ∧ w'.cell? ⟨(ad106.add ((x6_3).toNat * 4)).block, (ad106.add ((x6_3).toNat * 4)).off + 1, none⟩ = some (.string ((rd_T25 l1_3 x6_3).f1)) ∧ w'.cell? ⟨(ad106.add ((x6_3).toNat * 4)).block, (ad106.add ((x6_3).toNat * 4)).off + 2, none⟩ = some (.slice A106_2 ((rd_T25 l1_3 x6_3).f2).length c106_2) ∧ w'.cell? ⟨(ad106.add ((x6_3).toNat * 4)).block, (ad106.add ((x6_3).toNat * 4)).off + 3, none⟩ = some (.slice A106_3 ((rd_T25 l1_3 x6_3).f3).length c106_3)) (ds := []) #[false, false, false, false, false, false, false, false, false, false, false, false] (by kernel_rfl) rfl rfl ⟨(blk_cell BK101.out 0).trans rfl, (blk_cell BK101.out 1).trans rfl, (blk_cell BK101.out 2).trans rfl, (blk_cell BK101.out 3).trans rfl, (blk_cell BK102.out 0).trans rfl, (blk_cell BK102.out 1).trans rfl, (blk_cell BK102.out 2).trans rfl, (blk_cell BK102.out 3).trans rfl, ((HB.out.cell (World.block_lt_of_cell? w _ hw105_0)).trans hw105_0), ((HB.out.cell (World.block_lt_of_cell? w _ hw105_1)).trans hw105_1), ((HB.out.cell (World.block_lt_of_cell? w _ hw105_2)).trans hw105_2), ((HB.out.cell (World.block_lt_of_cell? w _ hw105_3)).trans hw105_3), ((HB.out.cell (World.block_lt_of_cell? w _ hw106_0)).trans hw106_0), ((HB.out.cell (World.block_lt_of_cell? w _ hw106_1)).trans hw106_1), ((HB.out.cell (World.block_lt_of_cell? w _ hw106_2)).trans hw106_2), ((HB.out.cell (World.block_lt_of_cell? w _ hw106_3)).trans hw106_3)⟩ (fun hHeld => ?_); refine with_tabW epactref09_Same.tab11 epactref09_Same.bits11 (fun HT_ HW_ => ?_)
                          generalize wr.drew = w41 at BK101 BK102 HB HR105_2 HR105_3 HR106_2 HR106_3 hx105_0 hx105_1 hx105_2 hx105_3 hx106_0 hx106_1 hx106_2 hx106_3 hHeld ⊢
                          refine pure_ (i := 0) (N := some 62) (v := ?_) (a' := ?_) #[true, false, false, false, false, false, false, false, false, false, false, false] rfl rfl (any_of HT_.out (by kernel_rfl)) (fun _ _ _ h => h) (Or.inl ⟨by rfl, ?_⟩) ?_ ?_
                          rotate_left
                          · intro w'
                            go_simp
                            with_reducible rfl
                          rotate_left
                          · simp only [Act.put, List.setIfInBounds_toArray, List.set_cons_zero, List.set_cons_succ, i64_w, i32_w]
                            rfl
                          refine pure_ (i := 2) (N := some 64) (v := ?_) (a' := ?_) #[true, false, true, false, false, false, false, false, false, false, false, false] rfl rfl (any_of HT_.out (by kernel_rfl)) (fun _ _ _ h => h) (Or.inl ⟨by rfl, ?_⟩) ?_ ?_
                          rotate_left
                          · intro w'
                            go_simp
                            with_reducible rfl
                          rotate_left
                          · simp only [Act.put, List.setIfInBounds_toArray, List.set_cons_zero, List.set_cons_succ, i64_w, i32_w]
                            rfl
                          refine pure_ (i := 5) (N := some 67) (v := ?_) (a' := ?_) #[true, false, true, false, false, true, false, false, false, false, false, false] rfl rfl (any_of HT_.out (by kernel_rfl)) (fun _ _ _ h => h) (Or.inl ⟨by rfl, ?_⟩) ?_ ?_
                          rotate_left
                          · intro w'
                            go_simp
                            with_reducible rfl
                          rotate_left
                          · simp only [Act.put, List.setIfInBounds_toArray, List.set_cons_zero, List.set_cons_succ, i64_w, i32_w]
                            rfl
                          refine pure_ (i := 7) (N := some 69) (v := ?_) (a' := ?_) #[true, false, true, false, false, true, false, true, false, false, false, false] rfl rfl (any_of HT_.out (by kernel_rfl)) (fun _ _ _ h => h) (Or.inl ⟨by rfl, ?_⟩) ?_ ?_
                          rotate_left
                          · intro w'
                            go_simp
                            with_reducible rfl
                          rotate_left
                          · simp only [Act.put, List.setIfInBounds_toArray, List.set_cons_zero, List.set_cons_succ, i64_w, i32_w]
                            rfl
                          refine take_ (i := 1) (N := some 63) (v := ?_) (a' := ?_) #[true, true, true, false, false, true, false, true, false, false, false, false] rfl rfl (take_ofW HT_.out HW_.out (by kernel_rfl)) (fun _ _ _ h => h) (Or.inl ⟨by rfl, ?_⟩) hHeld ?_ ?_
                          rotate_left
                          · rintro w' ⟨s0, s1, s2, s3, s4, s5, s6, s7, s8, s9, s10, s11, s12, s13, s14, s15⟩
                            go_simp
                            with_reducible rfl
                          rotate_left
                          · simp only [Act.put, List.setIfInBounds_toArray, List.set_cons_zero, List.set_cons_succ, i64_w, i32_w]
                            rfl
                          refine pure_ (i := 3) (N := some 65) (v := ?_) (a' := ?_) #[true, true, true, true, false, true, false, true, false, false, false, false] rfl rfl (any_of HT_.out (by kernel_rfl)) (fun _ _ _ h => h) (Or.inl ⟨by rfl, ?_⟩) ?_ ?_
                          rotate_left
                          · intro w'
                            go_simp
                            with_reducible rfl
                          rotate_left
                          · simp only [Act.put, List.setIfInBounds_toArray, List.set_cons_zero, List.set_cons_succ, i64_w, i32_w]
                            rfl
                          refine take_ (i := 4) (N := some 66) (v := ?_) (a' := ?_) #[true, true, true, true, true, true, false, true, false, false, false, false] rfl rfl (take_ofW HT_.out HW_.out (by kernel_rfl)) (fun _ _ _ h => h) (Or.inl ⟨by rfl, ?_⟩) hHeld ?_ ?_
                          rotate_left
                          · rintro w' ⟨s0, s1, s2, s3, s4, s5, s6, s7, s8, s9, s10, s11, s12, s13, s14, s15⟩
                            go_simp
                            with_reducible rfl
                          rotate_left
                          · simp only [Act.put, List.setIfInBounds_toArray, List.set_cons_zero, List.set_cons_succ, i64_w, i32_w]
                            rfl
                          refine take_ (i := 6) (N := some 68) (v := ?_) (a' := ?_) #[true, true, true, true, true, true, true, true, false, false, false, false] rfl rfl (take_ofW HT_.out HW_.out (by kernel_rfl)) (fun _ _ _ h => h) (Or.inl ⟨by rfl, ?_⟩) hHeld ?_ ?_
                          rotate_left
                          · rintro w' ⟨s0, s1, s2, s3, s4, s5, s6, s7, s8, s9, s10, s11, s12, s13, s14, s15⟩
                            go_simp
                            with_reducible rfl
                          rotate_left
                          · simp only [Act.put, List.setIfInBounds_toArray, List.set_cons_zero, List.set_cons_succ, i64_w, i32_w]
                            rfl
                          refine pure_ (i := 8) (N := some 70) (v := ?_) (a' := ?_) #[true, true, true, true, true, true, true, true, true, false, false, false] rfl rfl (any_of HT_.out (by kernel_rfl)) (fun _ _ _ h => h) (Or.inl ⟨by rfl, ?_⟩) ?_ ?_
                          rotate_left
                          · intro w'
                            go_simp
                            with_reducible rfl
                          rotate_left
                          · simp only [Act.put, List.setIfInBounds_toArray, List.set_cons_zero, List.set_cons_succ, i64_w, i32_w]
                            rfl
                          refine take_ (i := 9) (N := some 71) (v := ?_) (a' := ?_) #[true, true, true, true, true, true, true, true, true, true, false, false] rfl rfl (take_ofW HT_.out HW_.out (by kernel_rfl)) (fun _ _ _ h => h) (Or.inl ⟨by rfl, ?_⟩) hHeld ?_ ?_
                          rotate_left
                          · rintro w' ⟨s0, s1, s2, s3, s4, s5, s6, s7, s8, s9, s10, s11, s12, s13, s14, s15⟩
                            go_simp
                            with_reducible rfl
                          rotate_left
                          · simp only [Act.put, List.setIfInBounds_toArray, List.set_cons_zero, List.set_cons_succ, i64_w, i32_w]
                            rfl
                          refine one_ (i := 10) (N := some 72) #[true, true, true, true, true, true, true, true, true, true, true, false] rfl rfl (one_of HT_.out (by kernel_rfl)) (by decide) (fun K hK => ?_)
                          refine goes_ Tryd.func28 (by kernel_rfl) rfl #[.agg #[.int .u8 ((rd_T25 l0_3 x6_3).f0), .string ((rd_T25 l0_3 x6_3).f1), .slice A105_2 ((rd_T25 l0_3 x6_3).f2).length c105_2, .slice A105_3 ((rd_T25 l0_3 x6_3).f3).length c105_3], .agg #[.int .u8 ((rd_T25 l1_3 x6_3).f0), .string ((rd_T25 l1_3 x6_3).f1), .slice A106_2 ((rd_T25 l1_3 x6_3).f2).length c106_2, .slice A106_3 ((rd_T25 l1_3 x6_3).f3).length c106_3]] (by rfl) rfl rfl (by (try simp only [List.map_toArray, List.map_cons, List.map_nil]); first | done | rfl | (simp only [List.length_drop, List.length_take]; rfl)) ?_
                          with_reducible refine (ih k3 (by have := HJ2.out; have := HK2.out; have := HK3.out; omega) ((rd_T25 l0_3 x6_3).f0) ((rd_T25 l0_3 x6_3).f1) _ _ ((rd_T25 l0_3 x6_3).f2) _ _ ((rd_T25 l0_3 x6_3).f3) ((rd_T25 l1_3 x6_3).f0) ((rd_T25 l1_3 x6_3).f1) _ _ ((rd_T25 l1_3 x6_3).f2) _ _ ((rd_T25 l1_3 x6_3).f3) true _ ?side1 ?side2 ?side3 ?side4 ?side5 ?side6 ?side7 ?side8 A37.out).mono ?_
                          (case side1 => repeat (first | exact (Kd.C_below HR105_2.out HB.out) | (with_reducible refine Kd.C_alloc ?_ _) | (with_reducible refine Kd.C_drewN ?_ _) | (with_reducible refine Kd.C_drew ?_)))
                          (case side2 => exact HC105_2.out)
                          (case side3 => repeat (first | exact (Kd.C_below HR105_3.out HB.out) | (with_reducible refine Kd.C_alloc ?_ _) | (with_reducible refine Kd.C_drewN ?_ _) | (with_reducible refine Kd.C_drew ?_)))
                          (case side4 => exact HC105_3.out)
                          (case side5 => repeat (first | exact (Kd.C_below HR106_2.out HB.out) | (with_reducible refine Kd.C_alloc ?_ _) | (with_reducible refine Kd.C_drewN ?_ _) | (with_reducible refine Kd.C_drew ?_)))
                          (case side6 => exact HC106_2.out)
                          (case side7 => repeat (first | exact (Kd.C_below HR106_3.out HB.out) | (with_reducible refine Kd.C_alloc ?_ _) | (with_reducible refine Kd.C_drewN ?_ _) | (with_reducible refine Kd.C_drew ?_)))
                          (case side8 => exact HC106_3.out)
                          rintro e w42 ⟨rfl, hb⟩
                          refine ⟨_, rfl, ?_⟩
                          have n0_ := Aside0.mk (blk_below (g := gb101) (o := .cells #[.int .u8 a0_0, .string a0_1, .slice A0_2 l0_2.length c0_2, .slice (some ad105) l0_3.length c0_3] 25 (0, 0)) (by (with_reducible repeat (first | refine blk_drewN ?_ _ | refine blk_drew ?_ | refine blk_alloc ?_ _)); exact BK101.out) hb)
                          have n1_ := Aside0.mk (blk_below (g := gb102) (o := .cells #[.int .u8 a1_0, .string a1_1, .slice A1_2 l1_2.length c1_2, .slice (some ad106) l1_3.length c1_3] 25 (0, 0)) (by (with_reducible repeat (first | refine blk_drewN ?_ _ | refine blk_drew ?_ | refine blk_alloc ?_ _)); exact BK102.out) hb)
                          have n2_ := Aside0.mk (below_step (by repeat (first | (with_reducible first | exact HB.out | apply below_alloc | apply pw_below_drewN | apply below_drew1 | refine below_set ?_ GE101.out | refine below_set ?_ GE102.out) | exact HB.out)) hb)
                          clear BK101
                          clear BK102
                          clear HB
                          have BK101 := n0_
                          have BK102 := n1_
                          have HB := n2_
                          clear n0_ n1_ n2_
                          (try clear hb)
                          (try clear hb2)
                          (try clear hk)
                          (try clear hi)
                          refine hK.out _ _ ⟨(blk_cell BK101.out 0).trans rfl, (blk_cell BK101.out 1).trans rfl, (blk_cell BK101.out 2).trans rfl, (blk_cell BK101.out 3).trans rfl, (blk_cell BK102.out 0).trans rfl, (blk_cell BK102.out 1).trans rfl, (blk_cell BK102.out 2).trans rfl, (blk_cell BK102.out 3).trans rfl, ((HB.out.cell (World.block_lt_of_cell? w _ hw105_0)).trans hw105_0), ((HB.out.cell (World.block_lt_of_cell? w _ hw105_1)).trans hw105_1), ((HB.out.cell (World.block_lt_of_cell? w _ hw105_2)).trans hw105_2), ((HB.out.cell (World.block_lt_of_cell? w _ hw105_3)).trans hw105_3), ((HB.out.cell (World.block_lt_of_cell? w _ hw106_0)).trans hw106_0), ((HB.out.cell (World.block_lt_of_cell? w _ hw106_1)).trans hw106_1), ((HB.out.cell (World.block_lt_of_cell? w _ hw106_2)).trans hw106_2), ((HB.out.cell (World.block_lt_of_cell? w _ hw106_3)).trans hw106_3)⟩ (fun hHeld => ?_)
                          clear hK K
                          refine norm_ (a' := ?_) ?_ ?_
                          rotate_left
                          · show Act.put _ (some 72) _ = _
                            simp only [Act.put, List.setIfInBounds_toArray, List.set_cons_zero, List.set_cons_succ, i64_w, i32_w]
                            rfl
                          refine pure_ (i := 11) (N := some 73) (v := ?_) (a' := ?_) #[true, true, true, true, true, true, true, true, true, true, true, true] rfl rfl (any_of HT_.out (by kernel_rfl)) (fun _ _ _ h => h) (Or.inl ⟨by rfl, ?_⟩) ?_ ?_
                          rotate_left
                          · intro w'
                            go_simp
                            with_reducible rfl
                          rotate_left
                          · simp only [Act.put, List.setIfInBounds_toArray, List.set_cons_zero, List.set_cons_succ, i64_w, i32_w]
                            rfl
                          refine done_ (done_of HT_.out (by kernel_rfl)) ?_
                          try go_wp2
                          go_roundg k3
                          case measure => have := HJ2.out; have := HK2.out; have := HK3.out; omega
                          case rel => exact ⟨(wrap64 (x6_3 + 1)), (by first | rfl | (simp; done) | (simp [*]; done)), H', ⟨by have := HJ2.out; have := HK2.out; have := HK3.out; omega⟩, ⟨by (with_reducible repeat (first | refine blk_drewN ?_ _ | refine blk_drew ?_ | refine blk_alloc ?_ _)); exact BK101.out⟩, ⟨by (with_reducible repeat (first | refine blk_drewN ?_ _ | refine blk_drew ?_ | refine blk_alloc ?_ _)); exact BK102.out⟩, ⟨by repeat (first | (with_reducible first | exact HB.out | apply below_alloc | apply pw_below_drewN | apply below_drew1 | refine below_set ?_ GE101.out | refine below_set ?_ GE102.out) | exact HB.out)⟩⟩
                        · replace c38 := Bool.eq_false_iff.mpr c38
                          subst c38
                          have H1 : (some false) = some r := by rw [if_neg (show ¬ (false = true) by decide)] at H; exact H
                          clear H
                          have H := H1
                          clear H1
                          obtain rfl := Option.some.inj H
                          have hnb43 := NB101_102.out
                          have hnc43 := NB102_101.out
                          have hcz44_0 : wr.cell? ⟨gb101, 0, none⟩ = some (.int .u8 a0_0) := (blk_cell BK101.out 0).trans rfl
                          have hcz44_1 : wr.cell? ⟨gb101, 1, none⟩ = some (.string a0_1) := (blk_cell BK101.out 1).trans rfl
                          have hcz44_2 : wr.cell? ⟨gb101, 2, none⟩ = some (.slice A0_2 l0_2.length c0_2) := (blk_cell BK101.out 2).trans rfl
                          have hcz44_3 : wr.cell? ⟨gb101, 3, none⟩ = some (.slice A0_3 l0_3.length c0_3) := (blk_cell BK101.out 3).trans rfl
                          have hfz44_0 := blk_frozen BK101.out 0
                          have hfz44_1 := blk_frozen BK101.out 1
                          have hfz44_2 := blk_frozen BK101.out 2
                          have hfz44_3 := blk_frozen BK101.out 3
                          try go_wp2
                          have n0_ := Aside0.mk (blk_drew BK101.out)
                          have n1_ := Aside0.mk (blk_drew BK102.out)
                          have n2_ := Aside0.mk (below_drew1 HB.out)
                          clear BK101
                          clear BK102
                          clear HB
                          have BK101 := n0_
                          have BK102 := n1_
                          have HB := n2_
                          clear n0_ n1_ n2_
                          have p105 : 0 ≤ (x6_3 : Int) := of_decide_eq_true (by first | (with_reducible assumption) | assumption)
                          have q105 : x6_3 < (l0_3.length : Int) := of_decide_eq_true (by first | (with_reducible assumption) | assumption)
                          obtain ⟨ad105, A105_2, c105_2, A105_3, c105_3, e105, hx105_0, hx105_1, hx105_2, hx105_3, hl105_2, hi105_2, hl105_3, hi105_3⟩ := at_T25 HR0_3.out x6_3 p105 q105
                          have hw105_3 := hx105_3
                          have hw105_2 := hx105_2
                          have hw105_1 := hx105_1
                          have hw105_0 := hx105_0
                          cases e105
                          replace hx105_0 := (HB.out.cell (World.block_lt_of_cell? w _ hx105_0)).trans hx105_0
                          replace hx105_1 := (HB.out.cell (World.block_lt_of_cell? w _ hx105_1)).trans hx105_1
                          replace hx105_2 := (HB.out.cell (World.block_lt_of_cell? w _ hx105_2)).trans hx105_2
                          replace hx105_3 := (HB.out.cell (World.block_lt_of_cell? w _ hx105_3)).trans hx105_3
                          have HR105_2 := Aside0.mk hi105_2
                          have HC105_2 := Aside0.mk hl105_2
                          clear hi105_2 hl105_2
                          have HR105_3 := Aside0.mk hi105_3
                          have HC105_3 := Aside0.mk hl105_3
                          clear hi105_3 hl105_3
                          replace p105 := eq_true p105
                          replace q105 := eq_true q105
                          have p106 : 0 ≤ (x6_3 : Int) := of_decide_eq_true (by first | (with_reducible assumption) | assumption)
                          have q106 : x6_3 < (l1_3.length : Int) := of_decide_eq_true (by first | (with_reducible assumption) | assumption)
                          obtain ⟨ad106, A106_2, c106_2, A106_3, c106_3, e106, hx106_0, hx106_1, hx106_2, hx106_3, hl106_2, hi106_2, hl106_3, hi106_3⟩ := at_T25 HR1_3.out x6_3 p106 q106
                          have hw106_3 := hx106_3
                          have hw106_2 := hx106_2
                          have hw106_1 := hx106_1
                          have hw106_0 := hx106_0
                          cases e106
                          replace hx106_0 := (HB.out.cell (World.block_lt_of_cell? w _ hx106_0)).trans hx106_0
                          replace hx106_1 := (HB.out.cell (World.block_lt_of_cell? w _ hx106_1)).trans hx106_1
                          replace hx106_2 := (HB.out.cell (World.block_lt_of_cell? w _ hx106_2)).trans hx106_2
                          replace hx106_3 := (HB.out.cell (World.block_lt_of_cell? w _ hx106_3)).trans hx106_3
                          have HR106_2 := Aside0.mk hi106_2
                          have HC106_2 := Aside0.mk hl106_2
                          clear hi106_2 hl106_2
                          have HR106_3 := Aside0.mk hi106_3
                          have HC106_3 := Aside0.mk hl106_3
                          clear hi106_3 hl106_3
                          replace p106 := eq_true p106
                          replace q106 := eq_true q106
                          refine start_ (n := 12) (S := fun w' => w'.cell? ⟨gb101, 0, none⟩ = some (.int .u8 a0_0) ∧ w'.cell? ⟨gb101, 1, none⟩ = some (.string a0_1) ∧ w'.cell? ⟨gb101, 2, none⟩ = some (.slice A0_2 l0_2.length c0_2) ∧ w'.cell? ⟨gb101, 3, none⟩ = some (.slice (some ad105) l0_3.length c0_3) ∧ w'.cell? ⟨gb102, 0, none⟩ = some (.int .u8 a1_0) ∧ w'.cell? ⟨gb102, 1, none⟩ = some (.string a1_1) ∧ w'.cell? ⟨gb102, 2, none⟩ = some (.slice A1_2 l1_2.length c1_2) ∧ w'.cell? ⟨gb102, 3, none⟩ = some (.slice (some ad106) l1_3.length c1_3) ∧ w'.cell? (ad105.add ((x6_3).toNat * 4)) = some (.int .u8 ((rd_T25 l0_3 x6_3).f0)) ∧ w'.cell? ⟨(ad105.add ((x6_3).toNat * 4)).block, (ad105.add ((x6_3).toNat * 4)).off + 1, none⟩ = some (.string ((rd_T25 l0_3 x6_3).f1)) ∧ w'.cell? ⟨(ad105.add ((x6_3).toNat * 4)).block, (ad105.add ((x6_3).toNat * 4)).off + 2, none⟩ = some (.slice A105_2 ((rd_T25 l0_3 x6_3).f2).length c105_2) ∧ w'.cell? ⟨(ad105.add ((x6_3).toNat * 4)).block, (ad105.add ((x6_3).toNat * 4)).off + 3, none⟩ = some (.slice A105_3 ((rd_T25 l0_3 x6_3).f3).length c105_3) ∧ w'.cell? (ad106.add ((x6_3).toNat * 4)) = some (.int .u8 ((rd_T25 l1_3 x6_3).f0)) ∧ w'.cell? ⟨(ad106.add ((x6_3).toNat * 4)).block, (ad106.add ((x6_3).toNat * 4)).off + 1, none⟩ = some (.string ((rd_T25 l1_3 x6_3).f1)) ∧ w'.cell? ⟨(ad106.add ((x6_3).toNat * 4)).block, (ad106.add ((x6_3).toNat * 4)).off + 2, none⟩ = some (.slice A106_2 ((rd_T25 l1_3 x6_3).f2).length c106_2) ∧ w'.cell? ⟨(ad106.add ((x6_3).toNat * 4)).block, (ad106.add ((x6_3).toNat * 4)).off + 3, none⟩ = some (.slice A106_3 ((rd_T25 l1_3 x6_3).f3).length c106_3)) (ds := []) #[false, false, false, false, false, false, false, false, false, false, false, false] (by kernel_rfl) rfl rfl ⟨(blk_cell BK101.out 0).trans rfl, (blk_cell BK101.out 1).trans rfl, (blk_cell BK101.out 2).trans rfl, (blk_cell BK101.out 3).trans rfl, (blk_cell BK102.out 0).trans rfl, (blk_cell BK102.out 1).trans rfl, (blk_cell BK102.out 2).trans rfl, (blk_cell BK102.out 3).trans rfl, ((HB.out.cell (World.block_lt_of_cell? w _ hw105_0)).trans hw105_0), ((HB.out.cell (World.block_lt_of_cell? w _ hw105_1)).trans hw105_1), ((HB.out.cell (World.block_lt_of_cell? w _ hw105_2)).trans hw105_2), ((HB.out.cell (World.block_lt_of_cell? w _ hw105_3)).trans hw105_3), ((HB.out.cell (World.block_lt_of_cell? w _ hw106_0)).trans hw106_0), ((HB.out.cell (World.block_lt_of_cell? w _ hw106_1)).trans hw106_1), ((HB.out.cell (World.block_lt_of_cell? w _ hw106_2)).trans hw106_2), ((HB.out.cell (World.block_lt_of_cell? w _ hw106_3)).trans hw106_3)⟩ (fun hHeld => ?_); refine with_tabW epactref09_Same.tab11 epactref09_Same.bits11 (fun HT_ HW_ => ?_)
                          generalize wr.drew = w45 at BK101 BK102 HB HR105_2 HR105_3 HR106_2 HR106_3 hx105_0 hx105_1 hx105_2 hx105_3 hx106_0 hx106_1 hx106_2 hx106_3 hHeld ⊢
                          refine pure_ (i := 0) (N := some 62) (v := ?_) (a' := ?_) #[true, false, false, false, false, false, false, false, false, false, false, false] rfl rfl (any_of HT_.out (by kernel_rfl)) (fun _ _ _ h => h) (Or.inl ⟨by rfl, ?_⟩) ?_ ?_
                          rotate_left
                          · intro w'
                            go_simp
                            with_reducible rfl
                          rotate_left
                          · simp only [Act.put, List.setIfInBounds_toArray, List.set_cons_zero, List.set_cons_succ, i64_w, i32_w]
                            rfl
                          refine pure_ (i := 2) (N := some 64) (v := ?_) (a' := ?_) #[true, false, true, false, false, false, false, false, false, false, false, false] rfl rfl (any_of HT_.out (by kernel_rfl)) (fun _ _ _ h => h) (Or.inl ⟨by rfl, ?_⟩) ?_ ?_
                          rotate_left
                          · intro w'
                            go_simp
                            with_reducible rfl
                          rotate_left
                          · simp only [Act.put, List.setIfInBounds_toArray, List.set_cons_zero, List.set_cons_succ, i64_w, i32_w]
                            rfl
                          refine pure_ (i := 5) (N := some 67) (v := ?_) (a' := ?_) #[true, false, true, false, false, true, false, false, false, false, false, false] rfl rfl (any_of HT_.out (by kernel_rfl)) (fun _ _ _ h => h) (Or.inl ⟨by rfl, ?_⟩) ?_ ?_
                          rotate_left
                          · intro w'
                            go_simp
                            with_reducible rfl
                          rotate_left
                          · simp only [Act.put, List.setIfInBounds_toArray, List.set_cons_zero, List.set_cons_succ, i64_w, i32_w]
                            rfl
                          refine pure_ (i := 7) (N := some 69) (v := ?_) (a' := ?_) #[true, false, true, false, false, true, false, true, false, false, false, false] rfl rfl (any_of HT_.out (by kernel_rfl)) (fun _ _ _ h => h) (Or.inl ⟨by rfl, ?_⟩) ?_ ?_
                          rotate_left
                          · intro w'
                            go_simp
                            with_reducible rfl
                          rotate_left
                          · simp only [Act.put, List.setIfInBounds_toArray, List.set_cons_zero, List.set_cons_succ, i64_w, i32_w]
                            rfl
                          refine take_ (i := 1) (N := some 63) (v := ?_) (a' := ?_) #[true, true, true, false, false, true, false, true, false, false, false, false] rfl rfl (take_ofW HT_.out HW_.out (by kernel_rfl)) (fun _ _ _ h => h) (Or.inl ⟨by rfl, ?_⟩) hHeld ?_ ?_
                          rotate_left
                          · rintro w' ⟨s0, s1, s2, s3, s4, s5, s6, s7, s8, s9, s10, s11, s12, s13, s14, s15⟩
                            go_simp
                            with_reducible rfl
                          rotate_left
                          · simp only [Act.put, List.setIfInBounds_toArray, List.set_cons_zero, List.set_cons_succ, i64_w, i32_w]
                            rfl
                          refine pure_ (i := 3) (N := some 65) (v := ?_) (a' := ?_) #[true, true, true, true, false, true, false, true, false, false, false, false] rfl rfl (any_of HT_.out (by kernel_rfl)) (fun _ _ _ h => h) (Or.inl ⟨by rfl, ?_⟩) ?_ ?_
                          rotate_left
                          · intro w'
                            go_simp
                            with_reducible rfl
                          rotate_left
                          · simp only [Act.put, List.setIfInBounds_toArray, List.set_cons_zero, List.set_cons_succ, i64_w, i32_w]
                            rfl
                          refine take_ (i := 4) (N := some 66) (v := ?_) (a' := ?_) #[true, true, true, true, true, true, false, true, false, false, false, false] rfl rfl (take_ofW HT_.out HW_.out (by kernel_rfl)) (fun _ _ _ h => h) (Or.inl ⟨by rfl, ?_⟩) hHeld ?_ ?_
                          rotate_left
                          · rintro w' ⟨s0, s1, s2, s3, s4, s5, s6, s7, s8, s9, s10, s11, s12, s13, s14, s15⟩
                            go_simp
                            with_reducible rfl
                          rotate_left
                          · simp only [Act.put, List.setIfInBounds_toArray, List.set_cons_zero, List.set_cons_succ, i64_w, i32_w]
                            rfl
                          refine take_ (i := 6) (N := some 68) (v := ?_) (a' := ?_) #[true, true, true, true, true, true, true, true, false, false, false, false] rfl rfl (take_ofW HT_.out HW_.out (by kernel_rfl)) (fun _ _ _ h => h) (Or.inl ⟨by rfl, ?_⟩) hHeld ?_ ?_
                          rotate_left
                          · rintro w' ⟨s0, s1, s2, s3, s4, s5, s6, s7, s8, s9, s10, s11, s12, s13, s14, s15⟩
                            go_simp
                            with_reducible rfl
                          rotate_left
                          · simp only [Act.put, List.setIfInBounds_toArray, List.set_cons_zero, List.set_cons_succ, i64_w, i32_w]
                            rfl
                          refine pure_ (i := 8) (N := some 70) (v := ?_) (a' := ?_) #[true, true, true, true, true, true, true, true, true, false, false, false] rfl rfl (any_of HT_.out (by kernel_rfl)) (fun _ _ _ h => h) (Or.inl ⟨by rfl, ?_⟩) ?_ ?_
                          rotate_left
                          · intro w'
                            go_simp
                            with_reducible rfl
                          rotate_left
                          · simp only [Act.put, List.setIfInBounds_toArray, List.set_cons_zero, List.set_cons_succ, i64_w, i32_w]
                            rfl
                          refine take_ (i := 9) (N := some 71) (v := ?_) (a' := ?_) #[true, true, true, true, true, true, true, true, true, true, false, false] rfl rfl (take_ofW HT_.out HW_.out (by kernel_rfl)) (fun _ _ _ h => h) (Or.inl ⟨by rfl, ?_⟩) hHeld ?_ ?_
                          rotate_left
                          · rintro w' ⟨s0, s1, s2, s3, s4, s5, s6, s7, s8, s9, s10, s11, s12, s13, s14, s15⟩
                            go_simp
                            with_reducible rfl
                          rotate_left
                          · simp only [Act.put, List.setIfInBounds_toArray, List.set_cons_zero, List.set_cons_succ, i64_w, i32_w]
                            rfl
                          refine one_ (i := 10) (N := some 72) #[true, true, true, true, true, true, true, true, true, true, true, false] rfl rfl (one_of HT_.out (by kernel_rfl)) (by decide) (fun K hK => ?_)
                          refine goes_ Tryd.func28 (by kernel_rfl) rfl #[.agg #[.int .u8 ((rd_T25 l0_3 x6_3).f0), .string ((rd_T25 l0_3 x6_3).f1), .slice A105_2 ((rd_T25 l0_3 x6_3).f2).length c105_2, .slice A105_3 ((rd_T25 l0_3 x6_3).f3).length c105_3], .agg #[.int .u8 ((rd_T25 l1_3 x6_3).f0), .string ((rd_T25 l1_3 x6_3).f1), .slice A106_2 ((rd_T25 l1_3 x6_3).f2).length c106_2, .slice A106_3 ((rd_T25 l1_3 x6_3).f3).length c106_3]] (by rfl) rfl rfl (by (try simp only [List.map_toArray, List.map_cons, List.map_nil]); first | done | rfl | (simp only [List.length_drop, List.length_take]; rfl)) ?_
                          with_reducible refine (ih k3 (by have := HJ2.out; have := HK2.out; have := HK3.out; omega) ((rd_T25 l0_3 x6_3).f0) ((rd_T25 l0_3 x6_3).f1) _ _ ((rd_T25 l0_3 x6_3).f2) _ _ ((rd_T25 l0_3 x6_3).f3) ((rd_T25 l1_3 x6_3).f0) ((rd_T25 l1_3 x6_3).f1) _ _ ((rd_T25 l1_3 x6_3).f2) _ _ ((rd_T25 l1_3 x6_3).f3) false _ ?side1 ?side2 ?side3 ?side4 ?side5 ?side6 ?side7 ?side8 A37.out).mono ?_
                          (case side1 => repeat (first | exact (Kd.C_below HR105_2.out HB.out) | (with_reducible refine Kd.C_alloc ?_ _) | (with_reducible refine Kd.C_drewN ?_ _) | (with_reducible refine Kd.C_drew ?_)))
                          (case side2 => exact HC105_2.out)
                          (case side3 => repeat (first | exact (Kd.C_below HR105_3.out HB.out) | (with_reducible refine Kd.C_alloc ?_ _) | (with_reducible refine Kd.C_drewN ?_ _) | (with_reducible refine Kd.C_drew ?_)))
                          (case side4 => exact HC105_3.out)
                          (case side5 => repeat (first | exact (Kd.C_below HR106_2.out HB.out) | (with_reducible refine Kd.C_alloc ?_ _) | (with_reducible refine Kd.C_drewN ?_ _) | (with_reducible refine Kd.C_drew ?_)))
                          (case side6 => exact HC106_2.out)
                          (case side7 => repeat (first | exact (Kd.C_below HR106_3.out HB.out) | (with_reducible refine Kd.C_alloc ?_ _) | (with_reducible refine Kd.C_drewN ?_ _) | (with_reducible refine Kd.C_drew ?_)))
                          (case side8 => exact HC106_3.out)
                          rintro e w46 ⟨rfl, hb⟩
                          refine ⟨_, rfl, ?_⟩
                          have n0_ := Aside0.mk (blk_below (g := gb101) (o := .cells #[.int .u8 a0_0, .string a0_1, .slice A0_2 l0_2.length c0_2, .slice (some ad105) l0_3.length c0_3] 25 (0, 0)) (by (with_reducible repeat (first | refine blk_drewN ?_ _ | refine blk_drew ?_ | refine blk_alloc ?_ _)); exact BK101.out) hb)
                          have n1_ := Aside0.mk (blk_below (g := gb102) (o := .cells #[.int .u8 a1_0, .string a1_1, .slice A1_2 l1_2.length c1_2, .slice (some ad106) l1_3.length c1_3] 25 (0, 0)) (by (with_reducible repeat (first | refine blk_drewN ?_ _ | refine blk_drew ?_ | refine blk_alloc ?_ _)); exact BK102.out) hb)
                          have n2_ := Aside0.mk (below_step (by repeat (first | (with_reducible first | exact HB.out | apply below_alloc | apply pw_below_drewN | apply below_drew1 | refine below_set ?_ GE101.out | refine below_set ?_ GE102.out) | exact HB.out)) hb)
                          clear BK101
                          clear BK102
                          clear HB
                          have BK101 := n0_
                          have BK102 := n1_
                          have HB := n2_
                          clear n0_ n1_ n2_
                          (try clear hb)
                          (try clear hb2)
                          (try clear hk)
                          (try clear hi)
                          refine hK.out _ _ ⟨(blk_cell BK101.out 0).trans rfl, (blk_cell BK101.out 1).trans rfl, (blk_cell BK101.out 2).trans rfl, (blk_cell BK101.out 3).trans rfl, (blk_cell BK102.out 0).trans rfl, (blk_cell BK102.out 1).trans rfl, (blk_cell BK102.out 2).trans rfl, (blk_cell BK102.out 3).trans rfl, ((HB.out.cell (World.block_lt_of_cell? w _ hw105_0)).trans hw105_0), ((HB.out.cell (World.block_lt_of_cell? w _ hw105_1)).trans hw105_1), ((HB.out.cell (World.block_lt_of_cell? w _ hw105_2)).trans hw105_2), ((HB.out.cell (World.block_lt_of_cell? w _ hw105_3)).trans hw105_3), ((HB.out.cell (World.block_lt_of_cell? w _ hw106_0)).trans hw106_0), ((HB.out.cell (World.block_lt_of_cell? w _ hw106_1)).trans hw106_1), ((HB.out.cell (World.block_lt_of_cell? w _ hw106_2)).trans hw106_2), ((HB.out.cell (World.block_lt_of_cell? w _ hw106_3)).trans hw106_3)⟩ (fun hHeld => ?_)
                          clear hK K
                          refine norm_ (a' := ?_) ?_ ?_
                          rotate_left
                          · show Act.put _ (some 72) _ = _
                            simp only [Act.put, List.setIfInBounds_toArray, List.set_cons_zero, List.set_cons_succ, i64_w, i32_w]
                            rfl
                          refine pure_ (i := 11) (N := some 73) (v := ?_) (a' := ?_) #[true, true, true, true, true, true, true, true, true, true, true, true] rfl rfl (any_of HT_.out (by kernel_rfl)) (fun _ _ _ h => h) (Or.inl ⟨by rfl, ?_⟩) ?_ ?_
                          rotate_left
                          · intro w'
                            go_simp
                            with_reducible rfl
                          rotate_left
                          · simp only [Act.put, List.setIfInBounds_toArray, List.set_cons_zero, List.set_cons_succ, i64_w, i32_w]
                            rfl
                          refine done_ (done_of HT_.out (by kernel_rfl)) ?_
                          try go_wp2
                          go_ret
                          exact ⟨by first | rfl | (simp [errW_none, errW_some] <;> rfl) | (simp [*, errW_none, errW_some] <;> rfl), by repeat (first | (with_reducible first | exact HB.out | apply below_alloc | apply pw_below_drewN | apply below_drew1 | refine below_set ?_ GE101.out | refine below_set ?_ GE102.out) | exact HB.out)⟩
                      · rw [if_neg c36] at H
                        exact absurd H (by simp)
                    · rw [if_neg c35] at H
                      exact absurd H (by simp)
                  · rw [if_neg c34] at H
                    have c34b0 : decide (x6_3 < (l0_3.length : Int)) = false := decide_eq_false c34
                    clear c34
                    obtain rfl := Option.some.inj H
                    have hnb47 := NB101_102.out
                    have hnc47 := NB102_101.out
                    have hcz48_0 : wr.cell? ⟨gb101, 0, none⟩ = some (.int .u8 a0_0) := (blk_cell BK101.out 0).trans rfl
                    have hcz48_1 : wr.cell? ⟨gb101, 1, none⟩ = some (.string a0_1) := (blk_cell BK101.out 1).trans rfl
                    have hcz48_2 : wr.cell? ⟨gb101, 2, none⟩ = some (.slice A0_2 l0_2.length c0_2) := (blk_cell BK101.out 2).trans rfl
                    have hcz48_3 : wr.cell? ⟨gb101, 3, none⟩ = some (.slice A0_3 l0_3.length c0_3) := (blk_cell BK101.out 3).trans rfl
                    have hfz48_0 := blk_frozen BK101.out 0
                    have hfz48_1 := blk_frozen BK101.out 1
                    have hfz48_2 := blk_frozen BK101.out 2
                    have hfz48_3 := blk_frozen BK101.out 3
                    go_wp2
                    go_ret
                    exact ⟨by first | rfl | (simp [errW_none, errW_some] <;> rfl) | (simp [*, errW_none, errW_some] <;> rfl), by repeat (first | (with_reducible first | exact HB.out | apply below_alloc | apply pw_below_drewN | apply below_drew1 | refine below_set ?_ GE101.out | refine below_set ?_ GE102.out) | exact HB.out)⟩
end Go.Proofs.YtjeofffddbibeaaDoor.PParseTells
end

section
namespace Go.Proofs.YtjeofffddbibeaaDoor.Pa
open Go Go.RowKit Go.Proofs.YtjeofffddbibeaaDoor.PParseTells Go.Proofs.YtjeofffddbibeaaDoor.Ex Go.Proofs.YtjeofffddbibeaaDoorW.PrintWords Go.Proofs.YtjeofffddbibeaaDoorW.PrintLast Go.Proofs.YtjeofffddbibeaaDoorW.PrintMore
set_option linter.unusedVariables false
set_option linter.unusedSimpArgs false
mutual
def wt : X → Nat
  | ⟨_, _, ns, xs⟩ => 4 + ns.length + wtL xs
def wtL : List X → Nat
  | [] => 0
  | y :: ys => wt y + wtL ys
end
theorem wt_eq (x : X) : wt x = 4 + x.f2.length + wtL x.f3 := by cases x; rw [wt]
theorem wtL_cons (y : X) (ys : List X) : wtL (y :: ys) = wt y + wtL ys := by rw [wtL]
theorem rdX_at (ys : List X) (i : Nat) (hi : i < ys.length) : rd_T25 ys (i : Int) = ys[i] := by
  unfold rd_T25
  rw [Int.toNat_natCast, List.getD_eq_getElem?_getD, List.getElem?_eq_getElem hi]
  rfl
theorem self_l1 (o : Int) (s : ByteArray) (ns : List Int) (xs : List X) (hm : xs.length ≤ 9223372036854775807)
    (hf : ∀ (i : Nat) (hi : i < xs.length) (k : Nat), wt xs[i] ≤ k → epactref09_Same.f k xs[i].f0 xs[i].f1 xs[i].f2 xs[i].f3 xs[i].f0 xs[i].f1 xs[i].f2 xs[i].f3 = some true) :
    ∀ (n i : Nat), i + n = xs.length → ∀ k : Nat, wtL (xs.drop i) + 1 ≤ k → epactref09_Same.l1 k i o s ns xs o s ns xs = some true := by
  intro n
  induction n with
  | zero =>
    intro i hi k hk
    obtain ⟨k, rfl⟩ : ∃ m, k = m + 1 := ⟨k - 1, by omega⟩
    simp only [epactref09_Same.l1]
    rw [if_neg (by omega)]
  | succ n ih =>
    intro i hi k hk
    obtain ⟨k, rfl⟩ : ∃ m, k = m + 1 := ⟨k - 1, by omega⟩
    have hix : i < xs.length := by omega
    rw [List.drop_eq_getElem_cons hix, wtL_cons] at hk
    have hw : 4 ≤ wt xs[i] := by rw [wt_eq]; omega
    have hn := ih (i + 1) (by omega) k (by omega)
    rw [show ((i + 1 : Nat) : Int) = (i : Int) + 1 by omega] at hn
    simp only [epactref09_Same.l1]
    rw [if_pos (by omega), if_pos (by omega), if_pos (by omega), rdX_at xs i hix, hf i hix k (by omega), Option.bind_some, if_pos rfl, w64 (by omega) (by omega), hn]
theorem self_l0 (o : Int) (s : ByteArray) (a : List Int) (xs : List X) (hm : a.length ≤ 9223372036854775807) (K : Nat)
    (hf : ∀ k : Nat, K ≤ k → epactref09_Same.l1 k 0 o s a xs o s a xs = some true) :
    ∀ (n i : Nat), i + n = a.length → ∀ k : Nat, n + 1 + K ≤ k → epactref09_Same.l0 k i o s a xs o s a xs = some true := by
  intro n
  induction n with
  | zero =>
    intro i hi k hk
    obtain ⟨k, rfl⟩ : ∃ m, k = m + 1 := ⟨k - 1, by omega⟩
    simp only [epactref09_Same.l0]
    rw [if_neg (by omega), hf k (by omega)]
  | succ n ih =>
    intro i hi k hk
    obtain ⟨k, rfl⟩ : ∃ m, k = m + 1 := ⟨k - 1, by omega⟩
    have hn := ih (i + 1) (by omega) k (by omega)
    rw [show ((i + 1 : Nat) : Int) = (i : Int) + 1 by omega] at hn
    simp only [epactref09_Same.l0]
    rw [if_pos (by omega), if_pos (by omega), if_pos (by omega)]
    rw [show ∀ (p : Prop) [Decidable p] (a b : Option Bool), p → (if p then a else b) = a from fun p _ a b h => if_pos h]
    · rw [w64 (by omega) (by omega), hn]
    · first | rfl | trivial
theorem self_f (N : Nat) : ∀ (x : X), cnt x ≤ N → ∀ (w : World) (cs : List Value), kX.K w x cs → ∀ k : Nat, wt x ≤ k → epactref09_Same.f k x.f0 x.f1 x.f2 x.f3 x.f0 x.f1 x.f2 x.f3 = some true := by
  induction N with
  | zero => intro x hx; have := cnt_pos x; omega
  | succ N ih =>
    intro x hN w cs hx k hk
    rw [wt_eq] at hk
    obtain ⟨k, rfl⟩ : ∃ m, k = m + 2 := ⟨k - 2, by omega⟩
    obtain ⟨A2, c2, A3, c3, _, _, g2, _, g3⟩ := k25_open hx
    simp only [epactref09_Same.f]
    rw [if_pos trivial, if_pos trivial, if_pos trivial, show ((x.f3.length : Int) != (x.f3.length : Int)) = false from bne_eq_false_iff_eq.2 rfl]
    simp only [epactref09_Same.j0]
    rw [if_neg (by simp)]
    have hL := self_l1 x.f0 x.f1 x.f2 x.f3 g3.2.1 (fun i hi m hm => by
      obtain ⟨ad, c, _, _, hc, _⟩ := Kd.C_get g3 z25 (i : Int) (by omega) (by omega)
      have he : x.f3.getD (i : Int).toNat z25 = x.f3[i] := by
        rw [Int.toNat_natCast, List.getD_eq_getElem?_getD, List.getElem?_eq_getElem hi]; rfl
      rw [he] at hc
      exact ih x.f3[i] (by have := cnt_child (List.getElem_mem hi); omega) w c hc m hm) x.f3.length 0 (by omega)
    rw [List.drop_zero] at hL
    exact self_l0 x.f0 x.f1 x.f2 x.f3 g2.2.1 (wtL x.f3 + 1) hL x.f2.length 0 (by omega) k (by omega)
end Go.Proofs.YtjeofffddbibeaaDoor.Pa
end

section
namespace Go.Proofs.YtjeofffddbibeaaDoor.Pa
open Go Go.RowKit Go.Proofs.YtjeofffddbibeaaDoor.PParseTells Go.Proofs.YtjeofffddbibeaaDoor.Ex Go.Proofs.YtjeofffddbibeaaDoorW.PrintWords Go.Proofs.YtjeofffddbibeaaDoorW.PrintLast Go.Proofs.YtjeofffddbibeaaDoorW.PrintMore
set_option linter.unusedVariables false
set_option linter.unusedSimpArgs false
theorem Made_to (o : Int) (A2 : Option Addr) (n2 c2 : Nat) (A3 : Option Addr) (n3 c3 : Nat) (w : World) :
    Calls Tryd.prog 14 #[.int .u8 o, .slice A2 n2 c2, .slice A3 n3 c3] w fun e w' => e = .returned (.agg #[.int .u8 o, .string nil8, .slice A2 n2 c2, .slice A3 n3 c3]) ∧ Below w.heap.size w w' := by
  go_enter Tryd.func14, Tryd.ntmps14
  go_wp2
  refine bodyPost_ret (results_c1 rfl _ _ _ TX _ (0, 0) _ rfl (blk_new w (.cells #[.int .u8 o, .string nil8, .slice A2 n2 c2, .slice A3 n3 c3] TX)) Tryd.underlying25 rfl info_x) rfl ?_
  exact ⟨rfl, below_alloc (Below.refl _ _) _⟩
theorem Named_to (s : ByteArray) (w : World) :
    Calls Tryd.prog 17 #[.string s] w fun e w' => e = .returned (.agg #[.int .u8 0, .string s, .slice none 0 0, .slice none 0 0]) ∧ Below w.heap.size w w' := by
  go_enter Tryd.func17, Tryd.ntmps17
  go_wp2
  refine bodyPost_ret (results_c1 rfl _ _ _ TX _ (0, 0) _ rfl (blk_new w (.cells #[.int .u8 0, .string s, .slice none 0 0, .slice none 0 0] TX)) Tryd.underlying25 rfl info_x) rfl ?_
  exact ⟨rfl, below_alloc (Below.refl _ _) _⟩
set_option maxHeartbeats 8000000 in
set_option maxRecDepth 100000 in
theorem line_expr (k : Nat) (s : ByteArray) (T : List Tok) (r2 : Int) (hW : epactref10_Words.f k s = some (T, r2)) (x : X) (at1 e1 : Int) (hP : parseE T = (x, at1, e1)) (w : World) (hL : Cal w) :
    Calls Tryd.prog 58 #[.string s] w fun e w' => ∃ A2 c2 A3 c3, e = .returned (.tuple #[ag x (.slice A2 x.f2.length c2) (.slice A3 x.f3.length c3), .int .i64 at1, .int .i64 e1]) ∧ kX.K w' x [.int .u8 x.f0, .string x.f1, .slice A2 x.f2.length c2, .slice A3 x.f3.length c3] ∧ Below w.heap.size w w' := by
  have CW := fun W => Aside0.mk (epactref10_Words.calls k s T r2 W hW)
  have CE := fun A n c W h1 h2 h3 h4 => Aside0.mk (Expr_calls T A n c W h1 h2 h3 h4)
  rw [hP] at CE
  dsimp only at CE
  have HL := Aside0.mk hL
  have bz := blk_new w (.cells zCells TX (0, 0))
  clear hW hP hL
  go_enter Tryd.func58, Tryd.ntmps58
  go_wp2_with fail
  (with_reducible refine (CW _).out.mono ?_)
  rintro e w1 ⟨v0, rfl, hR, hb1⟩
  obtain ⟨A, c, rfl, hc, hC⟩ := Kd.R_reads hR
  have HB1 := Aside0.mk (below_then (below_alloc (Below.refl w.heap.size w) (.cells zCells TX (0, 0))) (below_alloc (Below.refl w.heap.size w) (.cells zCells TX (0, 0))).size hb1)
  have bz1 := (hb1.block _ (blk_lt bz)).trans bz
  have HCC := Aside0.mk hC
  clear hR hb1 CW bz hC
  go_wp2_with fail
  (with_reducible refine (CE A _ c _ ?a1 ?a2 ?a3 ?a4).out.mono ?_)
  case a1 => rfl
  case a2 => exact HCC.out
  case a3 => exact hc
  case a4 => exact HL.out.l HB1.out
  rintro e w2 ⟨v2, v3, rfl, hg, hb2⟩
  obtain ⟨A2, c2, A3, c3, rfl, rfl⟩ := hg.slices
  have ZZ := Aside0.mk ((hb2.block _ (blk_lt bz1)).trans bz1)
  have HB2 := Aside0.mk (below_then HB1.out HB1.out.size hb2)
  have HG := Aside0.mk hg
  have hlt := blk_lt bz1
  clear hb2 hg CE bz1
  have z0 := (blk_cell ZZ.out 0).trans (show zCells[0]? = some (Value.int .u8 0) from rfl)
  have z1 := (blk_cell ZZ.out 1).trans (show zCells[1]? = some (Value.string nil8) from rfl)
  have z2 := (blk_cell ZZ.out 2).trans (show zCells[2]? = some (Value.slice none 0 0) from rfl)
  have z3 := (blk_cell ZZ.out 3).trans (show zCells[3]? = some (Value.slice none 0 0) from rfl)
  have y0 := blk_frozen ZZ.out 0
  have y1 := blk_frozen ZZ.out 1
  have y2 := blk_frozen ZZ.out 2
  have y3 := blk_frozen ZZ.out 3
  go_wp2
  refine bodyPost_ret (results_ctt rfl _ _ _ TX _ (0, 0) _ rfl (blk_put (blk_put (blk_put (blk_put ZZ.out 0 _ rfl) 1 _ rfl) 2 _ rfl) 3 _ rfl) Tryd.underlying25 rfl info_x) rfl ?_
  exact ⟨_, _, _, _, rfl, kX.K_of_M (HG.out.step (by refine Kept.mono (S := At w.heap.size) ?_ (fun k hk => by have h1 : k = w.heap.size := hk; omega); (repeat (first | (with_reducible exact Kept.refl _ _) | (with_reducible apply Kept.alloc) | (with_reducible apply Kept.drewN) | (with_reducible apply Kept.drew) | (with_reducible refine kept_at ?_ _ _) | (with_reducible refine kept_new ?_ _ _ (Nat.le_refl _)) | (with_reducible refine kept_new ?_ _ _ (by first | assumption | omega)))))), by (repeat (first | (with_reducible exact HB2.out) | (with_reducible apply below_alloc) | (with_reducible apply pw_below_drewN) | (with_reducible apply below_drew1) | (with_reducible refine below_set ?_ (by first | assumption | omega))))⟩
set_option maxHeartbeats 8000000 in
set_option maxRecDepth 100000 in
theorem line_command (k : Nat) (s : ByteArray) (T : List Tok) (r2 : Int) (hW : epactref10_Words.f k s = some (T, r2)) (q : Cmd) (at1 e1 : Int) (hP : parseC T = (q, at1, e1)) (w : World) (hL : Cal w) :
    Calls Tryd.prog 59 #[.string s] w fun e w' => ∃ AN cN AM nM cM A2 n2 c2 A3 n3 c3, e = .returned (.tuple #[cmdV q (.slice AN q.names.length cN) (.slice AM nM cM) (.slice A2 n2 c2) (.slice A3 n3 c3), .int .i64 at1, .int .i64 e1]) ∧ q.names.length ≤ cN ∧ kT.C w' AN q.names.length q.names ∧ Below w.heap.size w w' := by
  have CW := fun W => Aside0.mk (epactref10_Words.calls k s T r2 W hW)
  have CE := fun A n c W h1 h2 h3 h4 => Aside0.mk (Command_calls T A n c W h1 h2 h3 h4)
  rw [hP] at CE
  dsimp only at CE
  have HL := Aside0.mk hL
  have bz := blk_new w (.cells (cCells zC sN sN sN sN) TC (0, 0))
  clear hW hP hL
  go_enter Tryd.func59, Tryd.ntmps59
  go_wp2_with fail
  (with_reducible refine (CW _).out.mono ?_)
  rintro e w1 ⟨v0, rfl, hR, hb1⟩
  obtain ⟨A, c, rfl, hc, hC⟩ := Kd.R_reads hR
  have HB1 := Aside0.mk (below_then (below_alloc (Below.refl w.heap.size w) (.cells (cCells zC sN sN sN sN) TC (0, 0))) (below_alloc (Below.refl w.heap.size w) (.cells (cCells zC sN sN sN sN) TC (0, 0))).size hb1)
  have bz1 := (hb1.block _ (blk_lt bz)).trans bz
  have HCC := Aside0.mk hC
  clear hR hb1 CW bz hC
  go_wp2_with fail
  (with_reducible refine (CE A _ c _ ?a1 ?a2 ?a3 ?a4).out.mono ?_)
  case a1 => rfl
  case a2 => exact HCC.out
  case a3 => exact hc
  case a4 => exact HL.out.l HB1.out
  rintro e w2 ⟨vN, vM, v2, v3, rfl, hg, hb2⟩
  obtain ⟨hg1, hg2, hg3⟩ := hg
  obtain ⟨AN, cN, rfl, lN, gN⟩ := Kd.R_reads hg1
  obtain ⟨AM, cM, rfl⟩ := Kd.R_slice hg2
  obtain ⟨A2, c2, A3, c3, he, _, _, _, _⟩ := k25_open (kX.K_of_M hg3)
  simp only [List.cons.injEq, true_and, and_true] at he
  obtain ⟨rfl, rfl⟩ := he
  have ZZ := Aside0.mk ((hb2.block _ (blk_lt bz1)).trans bz1)
  have HB2 := Aside0.mk (below_then HB1.out HB1.out.size hb2)
  have HG := Aside0.mk hg1
  have hlt := blk_lt bz1
  clear hb2 hg1 hg2 hg3 CE bz1 gN
  obtain ⟨z0, z1, z2, z3, z4, z5, z6, z7, z8, z9, z10⟩ := cells11 ZZ.out
  obtain ⟨y0, y1, y2, y3, y4, y5, y6, y7, y8, y9, y10⟩ := free11 ZZ.out
  go_wp2
  refine bodyPost_ret (results_ctt rfl _ _ _ TC _ (0, 0) _ rfl (put11 ZZ.out _ _ _ _ _ _ _ _ _ _ _) Tryd.underlying54 rfl info_c) rfl ?_
  exact ⟨AN, cN, _, _, _, _, _, _, _, _, _, rfl, lN, (Kd.R_reads' (R_at HG.out (W2 := _) (g := w.heap.size) (by (repeat (first | (with_reducible exact Kept.refl _ _) | (with_reducible apply Kept.alloc) | (with_reducible apply Kept.drewN) | (with_reducible apply Kept.drew) | (with_reducible refine kept_at ?_ _ _) | (with_reducible refine kept_new ?_ _ _ (Nat.le_refl _)) | (with_reducible refine kept_new ?_ _ _ (by first | assumption | omega))))) hlt)).2.2, by (repeat (first | (with_reducible exact HB2.out) | (with_reducible apply below_alloc) | (with_reducible apply pw_below_drewN) | (with_reducible apply below_drew1) | (with_reducible refine below_set ?_ (by first | assumption | omega))))⟩
end Go.Proofs.YtjeofffddbibeaaDoor.Pa
end

section
namespace Go.Proofs.YtjeofffddbibeaaDoor.Pa
open Go Go.RowKit Go.Proofs.YtjeofffddbibeaaDoor.PParseTells Go.Proofs.YtjeofffddbibeaaDoor.Ex Go.Proofs.YtjeofffddbibeaaDoorW.PrintWords Go.Proofs.YtjeofffddbibeaaDoorW.PrintLast Go.Proofs.YtjeofffddbibeaaDoorW.PrintMore
set_option linter.unusedVariables false
set_option linter.unusedSimpArgs false
/-- An expression in a box. -/
structure Bx (b : Nat) (x : X) (A2 : Option Addr) (c2 : Nat) (A3 : Option Addr) (c3 : Nat) (W : World) : Prop where
  q0 : W.cell? ⟨b, 0, none⟩ = some (.int .u8 x.f0)
  q1 : W.cell? ⟨b, 1, none⟩ = some (.string x.f1)
  q2 : W.cell? ⟨b, 2, none⟩ = some (.slice A2 x.f2.length c2)
  q3 : W.cell? ⟨b, 3, none⟩ = some (.slice A3 x.f3.length c3)
  K : kX.K W x [.int .u8 x.f0, .string x.f1, .slice A2 x.f2.length c2, .slice A3 x.f3.length c3]
theorem cell_on {W W2 : World} {a : Addr} {v : Value} (hb : Below W.heap.size W W2) (h : W.cell? a = some v) : W2.cell? a = some v := (hb.cell (World.block_lt_of_cell? W a h)).trans h
theorem Bx.later {b : Nat} {x : X} {A2 : Option Addr} {c2 : Nat} {A3 : Option Addr} {c3 : Nat} {W W2 : World} (h : Bx b x A2 c2 A3 c3 W) (hb : Below W.heap.size W W2) : Bx b x A2 c2 A3 c3 W2 :=
  ⟨cell_on hb h.q0, cell_on hb h.q1, cell_on hb h.q2, cell_on hb h.q3, kX.K_below hb h.K⟩
theorem Bx.a {b : Nat} {x : X} {A2 : Option Addr} {c2 : Nat} {A3 : Option Addr} {c3 : Nat} {W : World} (h : Bx b x A2 c2 A3 c3 W) (o : Obj) : Bx b x A2 c2 A3 c3 (W.alloc o) := h.later (below_alloc (Below.refl _ _) o)
theorem Bx.new {x : X} {A2 : Option Addr} {c2 : Nat} {A3 : Option Addr} {c3 : Nat} {W : World} (h : kX.K W x [.int .u8 x.f0, .string x.f1, .slice A2 x.f2.length c2, .slice A3 x.f3.length c3]) :
    Bx W.heap.size x A2 c2 A3 c3 (W.alloc (.cells #[.int .u8 x.f0, .string x.f1, .slice A2 x.f2.length c2, .slice A3 x.f3.length c3] TX)) := by
  have h1 := blk_new W (.cells #[.int .u8 x.f0, .string x.f1, .slice A2 x.f2.length c2, .slice A3 x.f3.length c3] TX)
  exact ⟨(blk_cell h1 0).trans rfl, (blk_cell h1 1).trans rfl, (blk_cell h1 2).trans rfl, (blk_cell h1 3).trans rfl, kX.K_below (below_alloc (Below.refl _ _) _) h⟩
theorem same_k (x : X) (A2 : Option Addr) (c2 : Nat) (A3 : Option Addr) (c3 : Nat) (B2 : Option Addr) (d2 : Nat) (B3 : Option Addr) (d3 : Nat) (w : World) (h1 : kX.K w x [.int .u8 x.f0, .string x.f1, .slice A2 x.f2.length c2, .slice A3 x.f3.length c3]) (h2 : kX.K w x [.int .u8 x.f0, .string x.f1, .slice B2 x.f2.length d2, .slice B3 x.f3.length d3]) :
    Calls Tryd.prog 28 #[.agg #[.int .u8 x.f0, .string x.f1, .slice A2 x.f2.length c2, .slice A3 x.f3.length c3], .agg #[.int .u8 x.f0, .string x.f1, .slice B2 x.f2.length d2, .slice B3 x.f3.length d3]] w fun e w' => e = .returned (.bool true) ∧ Below w.heap.size w w' := by
  obtain ⟨A2', c2', A3', c3', he, l2, g2, l3, g3⟩ := k25_open h1
  obtain ⟨B2', d2', B3', d3', hf, m2, i2, m3, i3⟩ := k25_open h2
  simp only [List.cons.injEq, Value.slice.injEq, true_and, and_true] at he hf
  obtain ⟨⟨rfl, rfl⟩, rfl, rfl⟩ := he
  obtain ⟨⟨rfl, rfl⟩, rfl, rfl⟩ := hf
  exact epactref09_Same.calls (wt x) x.f0 x.f1 A2 c2 x.f2 A3 c3 x.f3 x.f0 x.f1 B2 d2 x.f2 B3 d3 x.f3 _ w g2 l2 g3 l3 i2 m2 i3 m3 (self_f (cnt x) x (Nat.le_refl _) w _ h1 _ (Nat.le_refl _))
theorem add0 (b i : Nat) : (⟨b, 0, none⟩ : Addr).add i = ⟨b, i, none⟩ := by
  unfold Addr.add
  split
  · rename_i h0; rw [h0]
  · simp
theorem rowI {W : World} {b : Nat} {n : Int} (h : W.heap[b]? = some (.cells #[.int .i64 n] 2 (0, 0))) : kI.C W (some ⟨b, 0, none⟩) 1 [n] := by
  refine ⟨rfl, by decide, fun _ => ⟨_, rfl, fun j p hj => ?_⟩⟩
  match j, hj with
  | 0, hj =>
    obtain rfl : n = p := by simpa using hj
    refine ⟨[.int .i64 n], rfl, rfl, fun i u hu => ?_⟩
    match i, hu with
    | 0, hu => cases hu; show W.cell? ((⟨b, 0, none⟩ : Addr).add 0) = _; rw [add0]; exact (blk_cell h 0).trans rfl
theorem rowS {W : World} {b : Nat} {l : List ByteArray} (hl : l.length ≤ 9223372036854775807) (h : W.heap[b]? = some (.cells (l.map Value.string).toArray TS (0, 0))) : kT.C W (some ⟨b, 0, none⟩) l.length l := by
  refine ⟨rfl, hl, fun _ => ⟨_, rfl, fun j p hj => ⟨[.string p], rfl, rfl, fun i u hu => ?_⟩⟩⟩
  cases i with
  | succ i => simp at hu
  | zero =>
    have hu' : Value.string p = u := by simpa using hu
    subst hu'
    show W.cell? ((⟨b, 0, none⟩ : Addr).add (j * 1 + 0)) = _
    rw [add0]
    refine (blk_cell h _).trans ?_
    simp [hj]
theorem rowX1 {W : World} {b : Nat} {x : X} {u0 u1 u2 u3 : Value} (hk : kX.K W x [u0, u1, u2, u3]) (h : W.heap[b]? = some (.cells #[u0, u1, u2, u3] TX (0, 0))) : kX.C W (some ⟨b, 0, none⟩) 1 [x] := by
  refine ⟨rfl, by decide, fun _ => ⟨_, rfl, fun j p hj => ?_⟩⟩
  match j, hj with
  | 0, hj =>
    obtain rfl : x = p := by simpa using hj
    refine ⟨[u0, u1, u2, u3], rfl, hk, fun i u hu => ?_⟩
    show W.cell? ((⟨b, 0, none⟩ : Addr).add (0 * 4 + i)) = _
    rw [add0, Nat.zero_mul, Nat.zero_add]
    refine (blk_cell h i).trans ?_
    simpa using hu
theorem rowX2 {W : World} {b : Nat} {x y : X} {u0 u1 u2 u3 v0 v1 v2 v3 : Value} (hk : kX.K W x [u0, u1, u2, u3]) (hk2 : kX.K W y [v0, v1, v2, v3]) (h : W.heap[b]? = some (.cells #[u0, u1, u2, u3, v0, v1, v2, v3] TX (0, 0))) : kX.C W (some ⟨b, 0, none⟩) 2 [x, y] := by
  refine ⟨rfl, by decide, fun _ => ⟨_, rfl, fun j p hj => ?_⟩⟩
  match j, hj with
  | 0, hj =>
    obtain rfl : x = p := by simpa using hj
    refine ⟨[u0, u1, u2, u3], rfl, hk, fun i u hu => ?_⟩
    show W.cell? ((⟨b, 0, none⟩ : Addr).add (0 * 4 + i)) = _
    rw [add0, Nat.zero_mul, Nat.zero_add]
    refine (blk_cell h i).trans ?_
    match i, hu with
    | 0, hu => simpa using hu
    | 1, hu => simpa using hu
    | 2, hu => simpa using hu
    | 3, hu => simpa using hu
  | 1, hj =>
    obtain rfl : y = p := by simpa using hj
    refine ⟨[v0, v1, v2, v3], rfl, hk2, fun i u hu => ?_⟩
    show W.cell? ((⟨b, 0, none⟩ : Addr).add (1 * 4 + i)) = _
    rw [add0, Nat.one_mul]
    refine (blk_cell h _).trans ?_
    match i, hu with
    | 0, hu => simpa using hu
    | 1, hu => simpa using hu
    | 2, hu => simpa using hu
    | 3, hu => simpa using hu
theorem K_named (W : World) (s : ByteArray) : kX.K W ⟨0, s, [], []⟩ [.int .u8 0, .string s, .slice none 0 0, .slice none 0 0] :=
  k25_mk W ⟨0, s, [], []⟩ (Nat.le_refl 0) (Kd.C_nil _ _) (Nat.le_refl 0) (Kd.C_nil _ _)
abbrev line (s : ByteArray) : List Tok := ((epactref10_Words.f 60 s).getD ([], 0)).1
theorem some_of {o : Option (List Tok × Int)} (h : o.isSome = true) : o = some ((o.getD ([], 0)).1, (o.getD ([], 0)).2) := by
  cases o with
  | none => cases h
  | some p => rfl
theorem lineE (s : ByteArray) (x : X) (at1 e1 : Int) (h1 : (epactref10_Words.f 60 s).isSome = true) (h2 : parseE (line s) = (x, at1, e1)) (w : World) (hL : Cal w) :
    Calls Tryd.prog 58 #[.string s] w fun e w' => ∃ A2 c2 A3 c3, e = .returned (.tuple #[ag x (.slice A2 x.f2.length c2) (.slice A3 x.f3.length c3), .int .i64 at1, .int .i64 e1]) ∧ kX.K w' x [.int .u8 x.f0, .string x.f1, .slice A2 x.f2.length c2, .slice A3 x.f3.length c3] ∧ Below w.heap.size w w' := line_expr 60 s _ _ (some_of h1) x at1 e1 h2 w hL
theorem lineC (s : ByteArray) (q : Cmd) (at1 e1 : Int) (h1 : (epactref10_Words.f 60 s).isSome = true) (h2 : parseC (line s) = (q, at1, e1)) (w : World) (hL : Cal w) :
    Calls Tryd.prog 59 #[.string s] w fun e w' => ∃ AN cN AM nM cM A2 n2 c2 A3 n3 c3, e = .returned (.tuple #[cmdV q (.slice AN q.names.length cN) (.slice AM nM cM) (.slice A2 n2 c2) (.slice A3 n3 c3), .int .i64 at1, .int .i64 e1]) ∧ q.names.length ≤ cN ∧ kT.C w' AN q.names.length q.names ∧ Below w.heap.size w w' := line_command 60 s _ _ (some_of h1) q at1 e1 h2 w hL
theorem ex1_w : (epactref10_Words.f 60 ⟨#[103, 114, 111, 117, 112, 40, 51, 44, 32, 100, 97, 121, 41]⟩).isSome = true := by decide +kernel
theorem ex1_p : parseE (line ⟨#[103, 114, 111, 117, 112, 40, 51, 44, 32, 100, 97, 121, 41]⟩) = (⟨1, nil8, [3], [⟨0, ⟨#[100, 97, 121]⟩, [], []⟩]⟩, -1, 0) := by kernel_rfl
theorem ex2_w : (epactref10_Words.f 60 ⟨#[117, 110, 105, 111, 110, 40, 97, 44, 32, 115, 104, 105, 102, 116, 40, 45, 49, 44, 32, 98, 41, 41]⟩).isSome = true := by decide +kernel
theorem ex2_p : parseE (line ⟨#[117, 110, 105, 111, 110, 40, 97, 44, 32, 115, 104, 105, 102, 116, 40, 45, 49, 44, 32, 98, 41, 41]⟩) = (⟨10, nil8, [], [⟨0, ⟨#[97]⟩, [], []⟩, ⟨2, nil8, [-1], [⟨0, ⟨#[98]⟩, [], []⟩]⟩]⟩, -1, 0) := by kernel_rfl
theorem ex3_w : (epactref10_Words.f 60 ⟨#[103, 114, 111, 117, 112, 40, 100, 97, 121, 41]⟩).isSome = true := by decide +kernel
theorem ex3_p : parseE (line ⟨#[103, 114, 111, 117, 112, 40, 100, 97, 121, 41]⟩) = (zX, 2, 110) := by kernel_rfl
theorem ex4_w : (epactref10_Words.f 60 ⟨#[103, 114, 111, 117, 112, 40, 51, 44, 32, 100, 97, 121]⟩).isSome = true := by decide +kernel
theorem ex4_p : parseE (line ⟨#[103, 114, 111, 117, 112, 40, 51, 44, 32, 100, 97, 121]⟩) = (zX, 5, 110) := by kernel_rfl
theorem ex5_w : (epactref10_Words.f 60 ⟨#[97, 32, 98]⟩).isSome = true := by decide +kernel
theorem ex5_p : parseE (line ⟨#[97, 32, 98]⟩) = (zX, 1, 110) := by kernel_rfl
theorem ex6_w : (epactref10_Words.f 60 ⟨#[]⟩).isSome = true := by decide +kernel
theorem ex6_p : parseE (line ⟨#[]⟩) = (zX, 0, 110) := by kernel_rfl
theorem ex7_w : (epactref10_Words.f 60 ⟨#[103, 114, 111, 117, 112]⟩).isSome = true := by decide +kernel
theorem ex7_p : parseE (line ⟨#[103, 114, 111, 117, 112]⟩) = (⟨0, ⟨#[103, 114, 111, 117, 112]⟩, [], []⟩, -1, 0) := by kernel_rfl
theorem cm1_w : (epactref10_Words.f 60 ⟨#[98, 111, 117, 110, 100, 32, 120, 32, 121, 32, 100, 97, 121, 32, 91, 49, 58, 93]⟩).isSome = true := by decide +kernel
theorem cm1_p : parseC (line ⟨#[98, 111, 117, 110, 100, 32, 120, 32, 121, 32, 100, 97, 121, 32, 91, 49, 58, 93]⟩) = (⟨⟨#[98, 111, 117, 110, 100]⟩, [⟨#[120]⟩, ⟨#[121]⟩, ⟨#[100, 97, 121]⟩], [], 1, 0, true, false, zX⟩, -1, 0) := by kernel_rfl
theorem cm2_w : (epactref10_Words.f 60 ⟨#[100, 101, 102, 105, 110, 101, 32, 97, 32, 61, 32, 98]⟩).isSome = true := by decide +kernel
theorem cm2_p : parseC (line ⟨#[100, 101, 102, 105, 110, 101, 32, 97, 32, 61, 32, 98]⟩) = (⟨⟨#[100, 101, 102, 105, 110, 101]⟩, [⟨#[97]⟩], [], 0, 0, false, false, ⟨0, ⟨#[98]⟩, [], []⟩⟩, -1, 0) := by kernel_rfl
theorem cm3_w : (epactref10_Words.f 60 ⟨#[100, 101, 102, 105, 110, 101, 32, 97, 32, 98]⟩).isSome = true := by decide +kernel
theorem cm3_p : parseC (line ⟨#[100, 101, 102, 105, 110, 101, 32, 97, 32, 98]⟩) = (zC, 2, 110) := by kernel_rfl
theorem cm4_w : (epactref10_Words.f 60 ⟨#[83, 104, 111, 119, 32, 97]⟩).isSome = true := by decide +kernel
theorem cm4_p : parseC (line ⟨#[83, 104, 111, 119, 32, 97]⟩) = (zC, 0, 110) := by kernel_rfl
end Go.Proofs.YtjeofffddbibeaaDoor.Pa
end
