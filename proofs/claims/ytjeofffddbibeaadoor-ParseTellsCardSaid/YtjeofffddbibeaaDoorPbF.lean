/-
  Part 6 of what the row stands on, put together by a program: RdE, RdF, RdB, RdC, RdD.
-/
import Derived.Test.YtjeofffddbibeaaDoorPbE
section
namespace Go.Proofs.YtjeofffddbibeaaDoor.Pa
open Go Go.RowKit Go.Proofs.YtjeofffddbibeaaDoor.PParseTells Go.Proofs.YtjeofffddbibeaaDoor.Ex Go.Proofs.YtjeofffddbibeaaDoorW.PrintWords Go.Proofs.YtjeofffddbibeaaDoorW.PrintLast Go.Proofs.YtjeofffddbibeaaDoorW.PrintMore
set_option linter.unusedVariables false
set_option linter.unusedSimpArgs false
theorem results_c1 {P : Program} {fn : Func} {p : Tmp} {ty : TypeId} (h : fn.results = #[.cell p ty]) (tmps : Array Value) (w : World) (g : Nat) (t : TypeId) (cs : Array Value) (fr : Nat × Nat) (d : TypeDesc)
    (hp : tmps.getD p undef = .pointer (some ⟨g, 0, none⟩)) (hg : w.heap[g]? = some (.cells cs t fr))
    (hu : P.underlying ty = some d) (hd : (match d with | .struct _ | .array _ _ => true | _ => false) = true) (hi : (P.info? ty).map (·.size) = some cs.size) :
    (results fn tmps).run P w = .ok (.agg cs) w := by
  have hp' : tmps[p]?.getD undef = .pointer (some ⟨g, 0, none⟩) := by simpa using hp
  simp [results, h, hp', asAddr, run_loadVar_row w g t ty cs fr d hg hu hd hi]
/-- Within the loop over the operands: the parser, the box of the expression, the box that is answered, the rows so far. -/
structure RxSt (w0 w W : World) (g b6 b : Nat) (op : Int) (L0 L : List Tok) (p e : Int) (ns : List Int) (ys : List X) (v2 v3 : Value) : Prop where
  isp : RdR w0 W g L0 L p e
  kept : Kept w W (At g)
  box : W.heap[b]? = some (.cells #[.int .u8 op, .string nil8, v2, v3] TX (0, 0))
  zero : W.heap[b6]? = some (.cells zCells TX (0, 0))
  nums : kI.R 2 W (b + 1) (fun _ => True) v2 ns
  args : kX.R TX W (b + 1) (fun _ => True) v3 ys
  lg : g < w.heap.size
  l6 : w.heap.size ≤ b6
  lb : b6 < b
section
variable {w0 w W W2 : World} {g b6 b : Nat} {op : Int} {L0 L L2 : List Tok} {p p2 e e2 : Int} {ns : List Int} {ys : List X} {v2 v3 : Value}
theorem RxSt.at (h : RxSt w0 w W g b6 b op L0 L p e ns ys v2 v3) (hI : RdR w0 W2 g L0 L2 p2 e2) (hk : Kept W W2 (At g)) : RxSt w0 w W2 g b6 b op L0 L2 p2 e2 ns ys v2 v3 := by
  have h1 := h.lg
  have h2 := h.l6
  have h3 := h.lb
  exact ⟨hI, h.kept.then_ hk (fun k hs => .inl hs), blk_kept h.box hk (fun hs => by have : b = g := hs; omega), blk_kept h.zero hk (fun hs => by have : b6 = g := hs; omega),
    R_at h.nums hk (by omega), R_at h.args hk (by omega), h1, h2, h3⟩
theorem RxSt.lt (h : RxSt w0 w W g b6 b op L0 L p e ns ys v2 v3) : b < W.heap.size := blk_lt h.box
theorem RxSt.grown_isp (h : RxSt w0 w W g b6 b op L0 L p e ns ys v2 v3) {row : Option Nat} (hg : W.grownBy W2 row) (hr : ∀ k, row = some k → b + 1 ≤ k) : RdR w0 W2 g L0 L p e := by
  have h1 := h.lg
  have h2 := h.l6
  have h3 := h.lb
  have h4 := h.isp.ge
  have h5 := h.lt
  exact h.isp.mv (S := fun k => b + 1 ≤ k) (Kept.of_grown hg (Kept.refl W _) (fun k hk => .inl (hr k hk))) (h.isp.low.grown hg (by omega) (fun k hk => by have := hr k hk; omega)) (by show ¬ (b + 1 ≤ g); omega)
theorem RxSt.num (h : RxSt w0 w W g b6 b op L0 L p e ns [] v2 (.slice none 0 0)) {n : Int} {u : Value} (hR : kI.R 2 W2 (b + 1) (fun _ => True) u (ns ++ [n])) (hg : W.grownBy W2 v2.ownBlock) :
    RxSt w0 w (W2.setCell ⟨b, 2, none⟩ u) g b6 b op L0 L p e (ns ++ [n]) [] u (.slice none 0 0) := by
  have h1 := h.lg
  have h2 := h.l6
  have h3 := h.lb
  have h5 := h.lt
  have hr := Kd.R_base h.nums
  have hbox : W2.heap[b]? = _ := (hg.block b h5 (fun he => by have := hr b he.symm; omega)).trans h.box
  have hz : W2.heap[b6]? = _ := (hg.block b6 (by omega) (fun he => by have := hr b6 he.symm; omega)).trans h.zero
  have hK : Kept w W2 (At g) := Kept.of_grown hg h.kept (fun k hk => .inr (by have := hr k hk; omega))
  have hI := h.grown_isp hg hr
  exact ⟨hI.mv (S := fun k => k = b) (Kept.setCell (Kept.refl _ (fun k => k = b)) (p := ⟨b, 2, none⟩) (.inl rfl) u) (below_set hI.low (by have := h.isp.ge; show _ ≤ b; omega)) (by show ¬ (g = b); omega), kept_new hK 2 u (by omega),
    blk_put hbox 2 u rfl, blk_far hz (by show b ≠ b6; omega) u, R_put hR (by omega) 2 u, Kd.R_nil _ _ _ _ _, h1, h2, h3⟩
theorem RxSt.arg (h : RxSt w0 w W g b6 b op L0 L p e ns ys v2 v3) {y : X} {u : Value} (hR : kX.R TX W2 (b + 1) (fun _ => True) u (ys ++ [y])) (hg : W.grownBy W2 v3.ownBlock) :
    RxSt w0 w (W2.setCell ⟨b, 3, none⟩ u) g b6 b op L0 L p e ns (ys ++ [y]) v2 u := by
  have h1 := h.lg
  have h2 := h.l6
  have h3 := h.lb
  have h5 := h.lt
  have hr := Kd.R_base h.args
  have hbox : W2.heap[b]? = _ := (hg.block b h5 (fun he => by have := hr b he.symm; omega)).trans h.box
  have hz : W2.heap[b6]? = _ := (hg.block b6 (by omega) (fun he => by have := hr b6 he.symm; omega)).trans h.zero
  have hK : Kept w W2 (At g) := Kept.of_grown hg h.kept (fun k hk => .inr (by have := hr k hk; omega))
  have hI := h.grown_isp hg hr
  exact ⟨hI.mv (S := fun k => k = b) (Kept.setCell (Kept.refl _ (fun k => k = b)) (p := ⟨b, 3, none⟩) (.inl rfl) u) (below_set hI.low (by have := h.isp.ge; show _ ≤ b; omega)) (by show ¬ (g = b); omega), kept_new hK 3 u (by omega),
    blk_put hbox 3 u rfl, blk_far hz (by show b ≠ b6; omega) u, R_put (Kd.R_over h.nums h.args (fun q hq => by simp [Kd.E, kI, Kd.int, Kd.scalar] at hq; subst hq; decide) hg) (by omega) 3 u, R_put hR (by omega) 3 u, h1, h2, h3⟩
/-- What is answered at the end. -/
theorem RxSt.box_grown (h : RxSt w0 w W g b6 b op L0 L p e ns ys v2 v3) {row : Option Nat} (hg : W.grownBy W2 row) (hr : ∀ k, row = some k → b + 1 ≤ k) : W2.heap[b]? = some (.cells #[.int .u8 op, .string nil8, v2, v3] TX (0, 0)) :=
  (hg.block b h.lt (fun he => by have := hr b he.symm; omega)).trans h.box
theorem RxSt.close (h : RxSt w0 w W g b6 b op L0 L p e ns ys v2 v3) (hk : Kept W W2 (At b6)) (hB : Below w0.heap.size w0 W2) : RdR w0 W2 g L0 L p e ∧ Kept w W2 (At g) := by
  have h1 := h.lg
  have h2 := h.l6
  exact ⟨h.isp.mv hk hB (by show ¬ (g = b6); omega), h.kept.then_ hk (fun k hs => .inr (by have : k = b6 := hs; omega))⟩
theorem RxSt.done (h : RxSt w0 w W g b6 b op L0 L p e ns ys v2 v3) (hk : Kept W W2 (At b6)) : Gives w W2 ⟨op, nil8, ns, ys⟩ v2 v3 := by
  have h2 := h.l6
  have h3 := h.lb
  exact k25_mkM _ _ _ ⟨op, nil8, ns, ys⟩ (Kd.R_lower (R_at h.nums hk (by omega)) (by omega)) (Kd.R_lower (R_at h.args hk (by omega)) (by omega))
end
/-- What an expression answers from any state: behind an error nothing is read. -/
def rex (F : Int → List Tok → Res) (L : List Tok) (p e : Int) : Res := if e = 0 then F p L else ⟨zX, L, p, e⟩
def RExprC (w0 : World) (g : Nat) (L0 : List Tok) (dp : Int) (F : Int → List Tok → Res) : Prop :=
  ∀ (L : List Tok) (p e : Int) (w : World), RdR w0 w g L0 L p e → (e = 0 → 0 ≤ p ∧ p ≤ 2000) → Calls Tryd.prog 66 #[.pointer (some ⟨g, 0, none⟩), .int .i64 dp] w fun en w' =>
    ∃ x p' v2 v3, en = .returned (ag x v2 v3) ∧ RdR w0 w' g L0 (rex F L p e).l p' (rex F L p e).e ∧ Kept w w' (At g) ∧ Gives w w' x v2 v3 ∧ ((rex F L p e).e = 0 → x = (rex F L p e).x ∧ p' = (rex F L p e).p)
/-- Behind k operands, a comma (or the end) ahead. -/
def contF (F : Int → List Tok → Res) (nn mm k : Nat) (x : X) (p : Int) (L : List Tok) : Res :=
  if k = 0 then stepsF F nn mm mm x p L
  else if (markF (if k = mm then RPA else COM) L).2 ≠ 0 then ⟨zX, (markF (if k = mm then RPA else COM) L).1, p, (markF (if k = mm then RPA else COM) L).2⟩
  else stepsF F nn mm (mm - k) x p (markF (if k = mm then RPA else COM) L).1
def Dead (R : Res) (L : List Tok) (e : Int) : Prop := e ≠ 0 ∧ R.l = L ∧ R.e = e
def Inv1 (F : Int → List Tok → Res) (nn mm k : Nat) (R : Res) (x : X) (L : List Tok) (p e : Int) : Prop := (e = 0 ∧ (0 ≤ p ∧ p ≤ 2000) ∧ contF F nn mm k x p L = R) ∨ Dead R L e
def Inv2 (F : Int → List Tok → Res) (nn mm k : Nat) (R : Res) (x : X) (L : List Tok) (p e : Int) : Prop := (e = 0 ∧ (0 ≤ p ∧ p ≤ 2000) ∧ stepsF F nn mm (mm - k) x p L = R) ∨ Dead R L e
section
variable {F : Int → List Tok → Res} {nn mm k : Nat} {R : Res} {x : X} {L : List Tok} {p e : Int}
theorem Inv1.ok (h : Inv1 F nn mm k R x L p e) : e = 0 → 0 ≤ p ∧ p ≤ 2000 := fun he => h.elim (fun h => h.2.1) (fun h => absurd he h.1)
theorem Inv2.ok (h : Inv2 F nn mm k R x L p e) : e = 0 → 0 ≤ p ∧ p ≤ 2000 := fun he => h.elim (fun h => h.2.1) (fun h => absurd he h.1)
theorem inv_zero (h : Inv1 F nn mm 0 R x L p e) : Inv2 F nn mm 0 R x L p e := by
  rcases h with ⟨h1, h2, h3⟩ | h
  · refine .inl ⟨h1, h2, ?_⟩
    rw [contF, if_pos rfl] at h3
    exact h3
  · exact .inr h
theorem inv_mark (h : Inv1 F nn mm k R x L p e) (hk : 0 < k) (hm : k < mm) : Inv2 F nn mm k R x (rmark COM L e).1 p (rmark COM L e).2 := by
  rcases h with ⟨rfl, h2, h3⟩ | h
  · unfold rmark
    rw [if_pos rfl]
    rw [contF, if_neg (by omega), if_neg (show ¬ k = mm by omega)] at h3
    by_cases hz : (markF COM L).2 = 0
    · rw [if_neg (by rw [hz]; simp)] at h3
      exact .inl ⟨hz, h2, h3⟩
    · rw [if_pos hz] at h3
      exact .inr ⟨hz, by rw [← h3], by rw [← h3]⟩
  · unfold rmark
    rw [if_neg h.1]
    exact .inr h
theorem inv_end (h : Inv1 F nn mm mm R x L p e) (hk : 0 < mm) : R.l = (rmark RPA L e).1 ∧ R.e = (rmark RPA L e).2 ∧ ((rmark RPA L e).2 = 0 → R.x = x ∧ R.p = p) := by
  rcases h with ⟨rfl, h2, h3⟩ | h
  · unfold rmark
    rw [if_pos rfl]
    rw [contF, if_neg (by omega), if_pos rfl, Nat.sub_self] at h3
    by_cases hz : (markF RPA L).2 = 0
    · rw [if_neg (by rw [hz]; simp), stepsF] at h3
      rw [← h3, hz]
      exact ⟨rfl, rfl, fun _ => ⟨rfl, rfl⟩⟩
    · rw [if_pos hz] at h3
      rw [← h3]
      exact ⟨rfl, rfl, fun h => absurd h hz⟩
  · unfold rmark
    rw [if_neg h.1]
    exact ⟨h.2.1, h.2.2, fun h1 => absurd h1 h.1⟩
theorem cont_of (hk : k < mm) (r : Res) (hr : itemF F (decide (k < nn)) x p L = r) (h3 : stepsF F nn mm (mm - k) x p L = R) : if r.e ≠ 0 then R = ⟨zX, r.l, r.p, r.e⟩ else contF F nn mm (k + 1) r.x r.p r.l = R := by
  rw [stepsF_at F nn mm k hk x p L r hr] at h3
  split
  · rename_i h
    rw [if_pos h] at h3
    exact h3.symm
  · rename_i h
    rw [if_neg h] at h3
    rw [contF, if_neg (by omega)]
    exact h3
theorem inv_num (h : Inv2 F nn mm k R x L p e) (hn : k < nn) (hk : k < mm) : Inv1 F nn mm (k + 1) R ⟨x.f0, x.f1, x.f2 ++ [(rtake [2, 3] L e).1.f2], x.f3⟩ (rtake [2, 3] L e).2.1 p (rtake [2, 3] L e).2.2 := by
  rcases h with ⟨rfl, h2, h3⟩ | h
  · unfold rtake
    rw [if_pos rfl]
    have hc := cont_of hk _ rfl h3
    rw [decide_eq_true hn] at hc
    have hI : itemF F true x p L = ⟨⟨x.f0, x.f1, x.f2 ++ [(takeF [2, 3] L).1.f2], x.f3⟩, (takeF [2, 3] L).2.1, p, (takeF [2, 3] L).2.2⟩ := by unfold itemF; rw [if_pos rfl]
    rw [hI] at hc
    dsimp only at hc
    by_cases hz : (takeF [2, 3] L).2.2 = 0
    · rw [if_neg (by rw [hz]; simp)] at hc
      exact .inl ⟨hz, h2, hc⟩
    · rw [if_pos hz] at hc
      exact .inr ⟨hz, by rw [hc], by rw [hc]⟩
  · unfold rtake
    rw [if_neg h.1]
    exact .inr h
theorem inv_arg (h : Inv2 F nn mm k R x L p e) (hG : ∀ p L, 0 ≤ p → p ≤ 2000 → Good p L (F p L)) (hn : ¬ k < nn) (hk : k < mm) (y : X) (p' : Int) (hy : (rex F L p e).e = 0 → y = (rex F L p e).x ∧ p' = (rex F L p e).p) :
    Inv1 F nn mm (k + 1) R ⟨x.f0, x.f1, x.f2, x.f3 ++ [y]⟩ (rex F L p e).l p' (rex F L p e).e := by
  rcases h with ⟨rfl, h2, h3⟩ | h
  · unfold rex at hy ⊢
    rw [if_pos rfl] at hy ⊢
    have hc := cont_of hk _ rfl h3
    rw [decide_eq_false hn] at hc
    have hI : itemF F false x p L = ⟨⟨x.f0, x.f1, x.f2, x.f3 ++ [(F p L).x]⟩, (F p L).l, (F p L).p, (F p L).e⟩ := by unfold itemF; rw [if_neg (by simp)]
    rw [hI] at hc
    dsimp only at hc
    have hg := hG p L h2.1 h2.2
    by_cases hz : (F p L).e = 0
    · rw [if_neg (by rw [hz]; simp)] at hc
      obtain ⟨rfl, rfl⟩ := hy hz
      exact .inl ⟨hz, ⟨by have := hg.p0; omega, hg.ok hz⟩, hc⟩
    · rw [if_pos hz] at hc
      exact .inr ⟨hz, by rw [hc], by rw [hc]⟩
  · unfold rex
    rw [if_neg h.1]
    exact .inr h
end
end Go.Proofs.YtjeofffddbibeaaDoor.Pa
end

section
namespace Go.Proofs.YtjeofffddbibeaaDoor.Pa
open Go Go.RowKit Go.Proofs.YtjeofffddbibeaaDoor.PParseTells Go.Proofs.YtjeofffddbibeaaDoor.Ex Go.Proofs.YtjeofffddbibeaaDoorW.PrintWords Go.Proofs.YtjeofffddbibeaaDoorW.PrintLast Go.Proofs.YtjeofffddbibeaaDoorW.PrintMore
set_option linter.unusedVariables false
set_option linter.unusedSimpArgs false
structure RySt (w0 w W : World) (g : Nat) (L0 L : List Tok) (p e : Int) : Prop where
  isp : RdR w0 W g L0 L p e
  kept : Kept w W (At g)
  zero : W.heap[w.heap.size]? = some (.cells zCells TX (0, 0))
  lg : g < w.heap.size
section
variable {w0 w W W2 : World} {g : Nat} {L0 L L2 : List Tok} {p p2 e e2 : Int}
theorem RySt.at (h : RySt w0 w W g L0 L p e) (hI : RdR w0 W2 g L0 L2 p2 e2) (hk : Kept W W2 (At g)) : RySt w0 w W2 g L0 L2 p2 e2 := by
  have h1 := h.lg
  exact ⟨hI, h.kept.then_ hk (fun k hs => .inl hs), blk_kept h.zero hk (fun hs => by have : w.heap.size = g := hs; omega), h1⟩
theorem RySt.later (h : RySt w0 w W g L0 L p e) (hb : Below W.heap.size W W2) : RySt w0 w W2 g L0 L p e := h.at (h.isp.keep hb) (Kept.of_below hb _)
theorem RySt.close (h : RySt w0 w W g L0 L p e) (hk : Kept W W2 (At w.heap.size)) (hB : Below w0.heap.size w0 W2) : RdR w0 W2 g L0 L p e ∧ Kept w W2 (At g) := by
  have h1 := h.lg
  exact ⟨h.isp.mv hk hB (by show ¬ (g = w.heap.size); omega), h.kept.then_ hk (fun k hs => .inr (by have : k = w.heap.size := hs; omega))⟩
theorem RySt.sz (h : RySt w0 w W g L0 L p e) : w.heap.size < W.heap.size := blk_lt h.zero
theorem RxSt.later {b6 b : Nat} {op : Int} {ns : List Int} {ys : List X} {v2 v3 : Value} (h : RxSt w0 w W g b6 b op L0 L p e ns ys v2 v3) (hb : Below W.heap.size W W2) : RxSt w0 w W2 g b6 b op L0 L p e ns ys v2 v3 := h.at (h.isp.keep hb) (Kept.of_below hb _)
theorem RdR.facts (h : RdR w0 W g L0 L p e) : ∃ (k : Nat) (A0 : Option Addr) (c0 : Nat), k ≤ L0.length ∧ L0.drop k = L ∧ W.cell? ⟨g, 0, none⟩ = some (.slice A0 L0.length c0) ∧ W.cell? ⟨g, 1, none⟩ = some (.int .i64 k) ∧ W.cell? ⟨g, 2, none⟩ = some (.int .i64 p) ∧ W.cell? ⟨g, 3, none⟩ = some (.int .i64 e) ∧ W.frozen? ⟨g, 2, none⟩ = false ∧ L0.length ≤ 9223372036854775800 ∧
    ∀ t r, L = t :: r → ∃ ad, A0 = some ad ∧ W.cell? (ad.add (k * 3)) = some (.int .u8 t.f0) ∧ k < L0.length := by
  obtain ⟨k, h1, h2, ⟨A0, c0, h3, h4, h5⟩, h6, h7⟩ := h
  refine ⟨k, A0, c0, h1, h2, (blk_cell h3 0).trans rfl, (blk_cell h3 1).trans rfl, (blk_cell h3 2).trans rfl, (blk_cell h3 3).trans rfl, blk_frozen h3 2, h7, ?_⟩
  rintro t r rfl
  obtain ⟨q1, q2, q3⟩ := rd_at L0 k h2
  obtain ⟨ad, rfl, c1, c2, c3⟩ := at_T61 (Kd.C_below h5 h6) (k : Int) (by omega) (by omega)
  rw [q1] at c1
  exact ⟨ad, rfl, c1, q2⟩
theorem RdR.more (h : RdR w0 W g L0 L p e) (q : Int) : RdR w0 (W.setCell ⟨g, 2, none⟩ (.int .i64 q)) g L0 L q e := by
  obtain ⟨k, h1, h2, ⟨A0, c0, h3, h4, h5⟩, h6, h7⟩ := h
  exact ⟨k, h1, h2, ⟨A0, c0, blk_put h3 2 _ rfl, h4, h5⟩, below_set h6 h4, h7⟩
theorem take_none {L : List Tok} (h : ¬ kindF L = 1) : takeF [1] L = (z61, L, 110) := by
  cases L with
  | nil => rfl
  | cons t r => exact if_neg (fun h1 => h (show t.f0 = 1 by simpa using h1.2))
end
theorem op_nil : opF z61.f1 = (0, false) := by decide +kernel
/-- At the loop's head. -/
structure RxRel (w0 w wb wr : World) (g : Nat) (op : Int) (L0 : List Tok) (nn aa : Nat) (F : Int → List Tok → Res) (R : Res) (k : Nat) (L : List Tok) (p e : Int) (ns : List Int) (ys : List X) (v2 v3 : Value) : Prop where
  k1 : k ≤ nn + aa
  len : ns.length + ys.length = k
  nil : k ≤ nn → ys = [] ∧ v3 = .slice none 0 0
  inv : Inv1 F nn (nn + aa) k R ⟨op, nil8, ns, ys⟩ L p e
  st : RxSt w0 w wr g w.heap.size wb.heap.size op L0 L p e ns ys v2 v3
set_option maxHeartbeats 16000000 in
set_option maxRecDepth 100000 in
theorem rexprG_calls (w0 : World) (g : Nat) (L0 : List Tok) (dp : Int) (deep : Bool) (hdp : deep = decide (40 < dp)) (d0 : 0 ≤ dp) (F : Int → List Tok → Res)
    (hF : deep = false → RExprC w0 g L0 (dp + 1) F) (hG : ∀ p L, 0 ≤ p → p ≤ 2000 → Good p L (F p L)) : RExprC w0 g L0 dp (exprG deep F) := by
  intro L p e w hI hpe
  obtain ⟨R, hR⟩ : ∃ R, rex (exprG deep F) L p e = R := ⟨_, rfl⟩
  rw [hR]
  have hgw := hI.lt
  have hw0 : w0.heap.size ≤ w.heap.size := by have := hI.ge; omega
  have HF := Aside0.mk hF
  have HG := Aside0.mk hG
  have ST0 := Aside0.mk (show RySt w0 w (w.alloc (.cells zCells TX (0, 0))) g L0 L p e from ⟨hI.keep (below_alloc (Below.refl _ _) _), (Kept.refl _ _).alloc _, blk_new w _, hgw⟩)
  obtain ⟨k, A0, c0, hk, hL, q0, q1, q2, q3, f2, hm, htok⟩ := hI.facts
  have hgn : ¬ (g = w.heap.size) := by omega
  obtain ⟨N, hN⟩ : ∃ N, N = L0.length := ⟨_, rfl⟩
  rw [← hN] at hk q0 hm htok
  unfold rex at hR
  have HN := Aside0.mk hN
  have HLd := Aside0.mk hL
  clear hI hF hG hN hL
  by_cases he : e ≠ 0
  · have e1 : (e != 0) = true := bne_iff_ne.2 he
    have e2 : (e == 0) = false := beq_eq_false_iff_ne.2 he
    rw [if_neg he] at hR
    subst hR
    go_enter Tryd.func66, Tryd.ntmps66
    go_wp2
    refine bodyPost_ret (results_c1 rfl _ _ _ TX _ (0, 0) _ rfl ST0.out.zero Tryd.underlying25 rfl info_x) rfl ?_
    exact ⟨zX, _, _, _, rfl, ST0.out.isp, ST0.out.kept, gives_zero _ _, fun h => absurd h he⟩
  · have he0 : e = 0 := by omega
    subst he0
    rw [if_pos rfl] at hR
    obtain ⟨p0, p1⟩ := hpe rfl
    clear hpe he
    unfold exprG at hR
    by_cases hkd : kindF L = 1
    · cases L with
      | nil => simp [kindF] at hkd
      | cons t r =>
      have h1 : t.f0 = 1 := hkd
      have e3 : (t.f0 == 1) = true := beq_iff_eq.2 h1
      obtain ⟨ad, rfl, ct, hkl⟩ := htok t r rfl
      have n1 : (k : Int) < (N : Int) := by omega
      have n2 : decide ((k : Int) < (N : Int)) = true := decide_eq_true n1
      have had := World.block_lt_of_cell? _ _ ct
      have had2 : ¬ ((ad.add (k * 3)).block = w.heap.size) := by omega
      clear htok
      cases deep with
      | true =>
        have hd : (40 : Int) < dp := by simpa using hdp.symm
        have hd2 : decide ((40 : Int) < dp) = true := decide_eq_true hd
        rw [hkd, if_pos ⟨rfl, .inl rfl⟩] at hR
        have HE := Aside0.mk hR
        clear hR hkd hdp
        go_enter Tryd.func66, Tryd.ntmps66
        go_wp2_with fail
        go_quiet (fail)
        go_wp2_with fail
        have STd := Aside0.mk (ST0.out.later (pw_below_drewN (Below.refl _ _) nq))
        clear q0 q1 q2 q3 f2 ST0
        (with_reducible refine (rfail_calls STd.out.isp 111).mono ?_)
        rintro en w2 ⟨rfl, hI2, hk2⟩
        have ST2 := Aside0.mk (STd.out.at hI2 hk2)
        clear hI2 hk2
        have z0 := (blk_cell ST2.out.zero 0).trans (show zCells[0]? = some (Value.int .u8 0) from rfl)
        have y0 := blk_frozen ST2.out.zero 0
        have z1 := (blk_cell ST2.out.zero 1).trans (show zCells[1]? = some (Value.string nil8) from rfl)
        have y1 := blk_frozen ST2.out.zero 1
        have z2 := (blk_cell ST2.out.zero 2).trans (show zCells[2]? = some (Value.slice none 0 0) from rfl)
        have y2 := blk_frozen ST2.out.zero 2
        have z3 := (blk_cell ST2.out.zero 3).trans (show zCells[3]? = some (Value.slice none 0 0) from rfl)
        have y3 := blk_frozen ST2.out.zero 3
        go_wp2
        refine bodyPost_ret (results_c1 rfl _ _ _ TX _ (0, 0) _ rfl (blk_put (blk_put (blk_put (blk_put ST2.out.zero 0 _ rfl) 1 _ rfl) 2 _ rfl) 3 _ rfl) Tryd.underlying25 rfl info_x) rfl ?_
        have hc := fun W2 h1 h2 => ST2.out.close (W2 := W2) h1 h2
        rw [← HE.out]
        exact ⟨zX, _, _, _, rfl, (hc _ (by (repeat (first | (with_reducible exact Kept.refl _ _) | (with_reducible apply Kept.alloc) | (with_reducible apply Kept.drewN) | (with_reducible apply Kept.drew) | (with_reducible refine kept_at ?_ _ _) | (with_reducible refine kept_new ?_ _ _ (Nat.le_refl _)) | (with_reducible refine kept_new ?_ _ _ (by first | assumption | omega))))) (by (repeat (first | (with_reducible exact ST2.out.isp.low) | (with_reducible apply below_alloc) | (with_reducible apply pw_below_drewN) | (with_reducible apply below_drew1) | (with_reducible refine below_set ?_ (by first | assumption | omega)))))).1, (hc _ (by (repeat (first | (with_reducible exact Kept.refl _ _) | (with_reducible apply Kept.alloc) | (with_reducible apply Kept.drewN) | (with_reducible apply Kept.drew) | (with_reducible refine kept_at ?_ _ _) | (with_reducible refine kept_new ?_ _ _ (Nat.le_refl _)) | (with_reducible refine kept_new ?_ _ _ (by first | assumption | omega))))) (by (repeat (first | (with_reducible exact ST2.out.isp.low) | (with_reducible apply below_alloc) | (with_reducible apply pw_below_drewN) | (with_reducible apply below_drew1) | (with_reducible refine below_set ?_ (by first | assumption | omega)))))).2, gives_zero _ _, fun h => absurd h (by show ¬ ((111 : Int) = 0); decide)⟩

      | false =>
        have hd : ¬ ((40 : Int) < dp) := by simpa using hdp.symm
        have hd2 : decide ((40 : Int) < dp) = false := decide_eq_false hd
        by_cases hp : 2000 ≤ p
        · have hp2 : decide (2000 ≤ p) = true := decide_eq_true hp
          rw [hkd, if_pos ⟨rfl, .inr hp⟩] at hR
          have HE := Aside0.mk hR
          clear hR hkd hdp
          go_enter Tryd.func66, Tryd.ntmps66
          go_wp2_with fail
          go_quiet (fail)
          go_wp2_with fail
          have STd := Aside0.mk (ST0.out.later (pw_below_drewN (Below.refl _ _) nq))
          clear q0 q1 q2 q3 f2 ST0
          (with_reducible refine (rfail_calls STd.out.isp 111).mono ?_)
          rintro en w2 ⟨rfl, hI2, hk2⟩
          have ST2 := Aside0.mk (STd.out.at hI2 hk2)
          clear hI2 hk2
          have z0 := (blk_cell ST2.out.zero 0).trans (show zCells[0]? = some (Value.int .u8 0) from rfl)
          have y0 := blk_frozen ST2.out.zero 0
          have z1 := (blk_cell ST2.out.zero 1).trans (show zCells[1]? = some (Value.string nil8) from rfl)
          have y1 := blk_frozen ST2.out.zero 1
          have z2 := (blk_cell ST2.out.zero 2).trans (show zCells[2]? = some (Value.slice none 0 0) from rfl)
          have y2 := blk_frozen ST2.out.zero 2
          have z3 := (blk_cell ST2.out.zero 3).trans (show zCells[3]? = some (Value.slice none 0 0) from rfl)
          have y3 := blk_frozen ST2.out.zero 3
          go_wp2
          refine bodyPost_ret (results_c1 rfl _ _ _ TX _ (0, 0) _ rfl (blk_put (blk_put (blk_put (blk_put ST2.out.zero 0 _ rfl) 1 _ rfl) 2 _ rfl) 3 _ rfl) Tryd.underlying25 rfl info_x) rfl ?_
          have hc := fun W2 h1 h2 => ST2.out.close (W2 := W2) h1 h2
          rw [← HE.out]
          exact ⟨zX, _, _, _, rfl, (hc _ (by (repeat (first | (with_reducible exact Kept.refl _ _) | (with_reducible apply Kept.alloc) | (with_reducible apply Kept.drewN) | (with_reducible apply Kept.drew) | (with_reducible refine kept_at ?_ _ _) | (with_reducible refine kept_new ?_ _ _ (Nat.le_refl _)) | (with_reducible refine kept_new ?_ _ _ (by first | assumption | omega))))) (by (repeat (first | (with_reducible exact ST2.out.isp.low) | (with_reducible apply below_alloc) | (with_reducible apply pw_below_drewN) | (with_reducible apply below_drew1) | (with_reducible refine below_set ?_ (by first | assumption | omega)))))).1, (hc _ (by (repeat (first | (with_reducible exact Kept.refl _ _) | (with_reducible apply Kept.alloc) | (with_reducible apply Kept.drewN) | (with_reducible apply Kept.drew) | (with_reducible refine kept_at ?_ _ _) | (with_reducible refine kept_new ?_ _ _ (Nat.le_refl _)) | (with_reducible refine kept_new ?_ _ _ (by first | assumption | omega))))) (by (repeat (first | (with_reducible exact ST2.out.isp.low) | (with_reducible apply below_alloc) | (with_reducible apply pw_below_drewN) | (with_reducible apply below_drew1) | (with_reducible refine below_set ?_ (by first | assumption | omega)))))).2, gives_zero _ _, fun h => absurd h (by show ¬ ((111 : Int) = 0); decide)⟩

        · have hp2 : decide (2000 ≤ p) = false := decide_eq_false hp
          have ht : takeF [1] (t :: r) = (t, r, 0) := if_pos ⟨by omega, by simp [h1]⟩
          have HT := Aside0.mk ht
          rw [if_neg (by rw [hkd]; simp; omega), ht, if_neg (show ¬ ((t, r, (0 : Int)).2.2 ≠ 0) by simp)] at hR
          dsimp only at hR
          have CO := Aside0.mk (fun w => epactref11_Op.calls 14 t.f1 (opF t.f1).1 (opF t.f1).2 w (refOp_f t.f1))
          obtain ⟨op, io, hop⟩ : ∃ op io, opF t.f1 = (op, io) := ⟨_, _, rfl⟩
          have hopr : io = true → 1 ≤ op ∧ op ≤ 12 := by
            intro h
            subst h
            have := idx_le t.f1
            unfold opF at hop
            split at hop
            · simp at hop
            · simp at hop; omega
          rw [hop] at CO hR
          dsimp only at CO hR
          clear hop ht
          cases io with
          | false =>
            have HE := Aside0.mk ((if_neg (show ¬ (false = true ∧ isF LPA r = true) by simp)).symm.trans hR)
            clear hopr
            clear hR hkd hdp
            go_enter Tryd.func66, Tryd.ntmps66
            go_wp2_with fail
            go_quiet (fail)
            go_wp2_with fail
            have STd := Aside0.mk (ST0.out.later (pw_below_drewN (Below.refl _ _) nq))
            clear q0 q1 q2 q3 f2 ST0
            have ST1 := Aside0.mk (STd.out.at (STd.out.isp.more (p + 1)) (kept_at (Kept.refl _ _) 2 _))
            (with_reducible refine (rname_calls ST1.out.isp).mono ?_)
            rintro en w2 ⟨rfl, hI2, hk2⟩
            rw [show ∀ L, rtake [1] L 0 = takeF [1] L from fun L => if_pos rfl] at hI2 ⊢
            rw [HT.out] at hI2 ⊢
            have ST2 := Aside0.mk (ST1.out.at hI2 hk2)
            dsimp only at ST2 ⊢
            clear hI2 hk2 STd
            go_wp2_with fail
            (with_reducible refine (CO.out _).mono ?_)
            rintro en w3 ⟨rfl, hb3⟩
            have ST3 := Aside0.mk (ST2.out.later hb3)
            clear hb3
            have z0 := (blk_cell ST3.out.zero 0).trans (show zCells[0]? = some (Value.int .u8 0) from rfl)
            have y0 := blk_frozen ST3.out.zero 0
            have z1 := (blk_cell ST3.out.zero 1).trans (show zCells[1]? = some (Value.string nil8) from rfl)
            have y1 := blk_frozen ST3.out.zero 1
            have z2 := (blk_cell ST3.out.zero 2).trans (show zCells[2]? = some (Value.slice none 0 0) from rfl)
            have y2 := blk_frozen ST3.out.zero 2
            have z3 := (blk_cell ST3.out.zero 3).trans (show zCells[3]? = some (Value.slice none 0 0) from rfl)
            have y3 := blk_frozen ST3.out.zero 3
            go_wp2
            refine bodyPost_ret (results_c1 rfl _ _ _ TX _ (0, 0) _ rfl (blk_put (blk_put (blk_put (blk_put ST3.out.zero 0 _ rfl) 1 _ rfl) 2 _ rfl) 3 _ rfl) Tryd.underlying25 rfl info_x) rfl ?_
            have hc := fun W2 h1 h2 => ST3.out.close (W2 := W2) h1 h2
            rw [← HE.out]
            exact ⟨⟨0, t.f1, [], []⟩, _, _, _, rfl, (hc _ (by (repeat (first | (with_reducible exact Kept.refl _ _) | (with_reducible apply Kept.alloc) | (with_reducible apply Kept.drewN) | (with_reducible apply Kept.drew) | (with_reducible refine kept_at ?_ _ _) | (with_reducible refine kept_new ?_ _ _ (Nat.le_refl _)) | (with_reducible refine kept_new ?_ _ _ (by first | assumption | omega))))) (by (repeat (first | (with_reducible exact ST3.out.isp.low) | (with_reducible apply below_alloc) | (with_reducible apply pw_below_drewN) | (with_reducible apply below_drew1) | (with_reducible refine below_set ?_ (by first | assumption | omega)))))).1, (hc _ (by (repeat (first | (with_reducible exact Kept.refl _ _) | (with_reducible apply Kept.alloc) | (with_reducible apply Kept.drewN) | (with_reducible apply Kept.drew) | (with_reducible refine kept_at ?_ _ _) | (with_reducible refine kept_new ?_ _ _ (Nat.le_refl _)) | (with_reducible refine kept_new ?_ _ _ (by first | assumption | omega))))) (by (repeat (first | (with_reducible exact ST3.out.isp.low) | (with_reducible apply below_alloc) | (with_reducible apply pw_below_drewN) | (with_reducible apply below_drew1) | (with_reducible refine below_set ?_ (by first | assumption | omega)))))).2, gives_name _ _ _, fun _ => ⟨rfl, rfl⟩⟩

          | true =>
            obtain ⟨o0, o1⟩ := hopr rfl
            clear hopr
            rcases mark_cases LPA r with ⟨t9, r9, hL9, hm9, hi9⟩ | ⟨hm9, hi9⟩
            · obtain ⟨nn, aa, hn, ha, hmn, hnn, haa, hmm⟩ : ∃ nn aa : Nat, numsOf op = nn ∧ argsOf op = aa ∧ manyOf op = nn + aa ∧ nn ≤ 3 ∧ aa ≤ 2 ∧ 1 ≤ nn + aa := by
                refine ⟨(numsOf op).toNat, (argsOf op).toNat, ?_⟩
                rcases (show op = 1 ∨ op = 2 ∨ op = 3 ∨ op = 4 ∨ op = 5 ∨ op = 6 ∨ op = 7 ∨ op = 8 ∨ op = 9 ∨ op = 10 ∨ op = 11 ∨ op = 12 by omega) with rfl | rfl | rfl | rfl | rfl | rfl | rfl | rfl | rfl | rfl | rfl | rfl <;> decide
              have hRR := (if_pos (show true = true ∧ isF LPA r = true from ⟨rfl, hi9⟩)).symm.trans hR
              rw [show r.tail = r9 by rw [hL9]; rfl, hn, hmn, Int.toNat_natCast] at hRR
              have HR := Aside0.mk hRR
              have CN := Aside0.mk (fun w => epactref09_Nums.calls 3 op (numsOf op) (decide (op ≤ 12)) w (refNums_f op (by omega)))
              have CA := Aside0.mk (fun w => epactref09_Args.calls 3 op (argsOf op) w (refArgs_f op (by omega)))
              rw [hn, decide_eq_true o1] at CN
              rw [ha] at CA
              have hfw := show RExprC w0 g L0 (wrap64 (dp + 1)) F by rw [w64 (by omega) (by omega)]; exact HF.out rfl
              have HFW := Aside0.mk (fun L p e w h1 h2 => hfw L p e w h1 h2)
              clear hfw
              clear hRR hn ha hmn hL9
              clear hR hkd hdp
              go_enter Tryd.func66, Tryd.ntmps66
              go_wp2_with fail
              go_quiet (fail)
              go_wp2_with fail
              have STd := Aside0.mk (ST0.out.later (pw_below_drewN (Below.refl _ _) nq))
              clear q0 q1 q2 q3 f2 ST0
              have ST1 := Aside0.mk (STd.out.at (STd.out.isp.more (p + 1)) (kept_at (Kept.refl _ _) 2 _))
              (with_reducible refine (rname_calls ST1.out.isp).mono ?_)
              rintro en w2 ⟨rfl, hI2, hk2⟩
              rw [show ∀ L, rtake [1] L 0 = takeF [1] L from fun L => if_pos rfl] at hI2 ⊢
              rw [HT.out] at hI2 ⊢
              have ST2 := Aside0.mk (ST1.out.at hI2 hk2)
              dsimp only at ST2 ⊢
              clear hI2 hk2 STd
              go_wp2_with fail
              (with_reducible refine (CO.out _).mono ?_)
              rintro en w3 ⟨rfl, hb3⟩
              have ST3 := Aside0.mk (ST2.out.later hb3)
              clear hb3
              go_wp2_with fail
              (with_reducible refine (ris_calls LPA ST3.out.isp).mono ?_)
              rintro en w4 ⟨rfl, hI4, hk4⟩
              rw [hi9]
              have ST4 := Aside0.mk (ST3.out.at hI4 hk4)
              clear hI4 hk4 ST3 ST1 ST2 HT CO
              go_wp2_with fail
              (with_reducible refine (rmark_calls LPA ST4.out.isp).mono ?_)
              rintro en w5 ⟨rfl, hI5, hk5⟩
              rw [show ∀ L, rmark LPA L 0 = markF LPA L from fun L => if_pos rfl, hm9] at hI5
              have ST5 := Aside0.mk (ST4.out.at hI5 hk5)
              clear hI5 hk5 ST4
              go_wp2_with fail
              (with_reducible refine (CN.out _).mono ?_)
              rintro en w6 ⟨rfl, ⟨m6, rfl⟩⟩
              have ST6 := Aside0.mk (ST5.out.later (pw_below_drewN (Below.refl _ _) m6))
              obtain ⟨w6, hw6⟩ : ∃ w6, w6 = w5.drewN m6 := ⟨_, rfl⟩
              rw [← hw6] at ST6 ⊢
              clear hw6 ST5
              go_wp2_with fail
              (with_reducible refine (CA.out _).mono ?_)
              rintro en w7 ⟨rfl, ⟨m7, rfl⟩⟩
              have bx := blk_new w6 (.cells #[.int .u8 op, .string nil8, .slice none 0 0, .slice none 0 0] TX)
              have hs6 := ST6.out.sz
              have STX := Aside0.mk (show RxSt w0 w ((w6.alloc (.cells #[.int .u8 op, .string nil8, .slice none 0 0, .slice none 0 0] TX)).drewN m7) g w.heap.size w6.heap.size op L0 r9 (p + 1) 0 [] [] (.slice none 0 0) (.slice none 0 0) from
                ⟨(ST6.out.later (pw_below_drewN (below_alloc (Below.refl _ _) _) m7)).isp, (ST6.out.later (pw_below_drewN (below_alloc (Below.refl _ _) _) m7)).kept, blk_drewN bx m7, (ST6.out.later (pw_below_drewN (below_alloc (Below.refl _ _) _) m7)).zero, Kd.R_nil _ _ _ _ _, Kd.R_nil _ _ _ _ _, hgw, Nat.le_refl _, hs6⟩)
              clear bx CN CA
              go_wp2_with fail
              go_loopw [12] (fun j wr => ∃ k L1 p1 e1 ns ys v2 v3, j = .int .i64 ((k : Nat) : Int) ∧ RxRel w0 w w6 wr g op L0 nn aa F R k L1 p1 e1 ns ys v2 v3) (fun j _ => (nn + aa : Nat) - (intOf j).toNat)
              case atStart =>
                refine ⟨0, r9, p + 1, 0, [], [], .slice none 0 0, .slice none 0 0, rfl, ⟨by omega, rfl, fun _ => ⟨rfl, rfl⟩, .inl ⟨rfl, ⟨by omega, by omega⟩, ?_⟩, STX.out⟩⟩
                rw [contF, if_pos rfl]
                exact HR.out
              case round =>
                obtain ⟨k, L1, p1, e1, ns, ys, v2, v3, rfl, hrl⟩ := hrel
                have HL := Aside0.mk hrl
                clear hrl STX HR
                by_cases hkk : k < nn + aa
                · have hki : (k : Int) < (nn : Int) + (aa : Int) := by omega
                  have hki' : decide ((k : Int) < (nn : Int) + (aa : Int)) = true := decide_eq_true hki
                  by_cases hkz : k = 0
                  · by_cases hnk : k < nn
                    · have hk0 : ¬ ((0 : Int) < (k : Int)) := by omega
                      have hk0' : decide ((0 : Int) < (k : Int)) = false := decide_eq_false hk0
                      have hgt : decide ((k : Int) > 0) = false := hk0'
                      have hn1 : (k : Int) < (nn : Int) := by omega
                      have hn2 : decide ((k : Int) < (nn : Int)) = true := decide_eq_true hn1
                      have IV := Aside0.mk (show Inv2 F nn (nn + aa) k R ⟨op, nil8, ns, ys⟩ L1 p1 e1 by subst hkz; exact inv_zero HL.out.inv)
                      have ST2 := Aside0.mk HL.out.st
                      have HNL := Aside0.mk HL.out.nil
                      have HLN := Aside0.mk HL.out.len
                      obtain ⟨w2, hw2⟩ : ∃ w2, w2 = wr := ⟨_, rfl⟩
                      obtain ⟨L2, hL2⟩ : ∃ L2, L2 = L1 := ⟨_, rfl⟩
                      obtain ⟨e2, he2⟩ : ∃ e2, e2 = e1 := ⟨_, rfl⟩
                      rw [← hw2, ← hL2, ← he2] at ST2
                      rw [← hL2, ← he2] at IV
                      go_wp2_with fail
                      rw [← hw2]
                      clear hw2 hL2 he2 HL
                      obtain ⟨rfl, rfl⟩ := HNL.out (by omega)
                      have STw := Aside0.mk (ST2.out.later (below_drew (Below.refl _ _)))
                      have q1 : w2.cell? ⟨w6.heap.size, 2, none⟩ = some v2 := (blk_cell ST2.out.box 2).trans rfl
                      refine start_ (n := 8) (S := fun w' => w'.cell? ⟨w6.heap.size, 2, none⟩ = some v2) (ds := [7]) #[false, false, false, false, false, false, false, false] (by kernel_rfl) rfl rfl (q1) (fun hHeld => ?_)
                      refine pure_ (i := 0) (N := some 105) (v := ?_) (a' := ?_) #[true, false, false, false, false, false, false, false] rfl rfl (by kernel_rfl) (fun _ _ _ h => h) (Or.inl ⟨by rfl, ?_⟩) ?_ ?_
                      rotate_left
                      · intro w'
                        go_simp
                        with_reducible rfl
                      rotate_left
                      · simp only [Act.put, List.setIfInBounds_toArray, List.set_cons_zero, List.set_cons_succ, i64_w, i32_w]
                        rfl
                      refine pure_ (i := 2) (N := some 107) (v := ?_) (a' := ?_) #[true, false, true, false, false, false, false, false] rfl rfl (by kernel_rfl) (fun _ _ _ h => h) (Or.inl ⟨by rfl, ?_⟩) ?_ ?_
                      rotate_left
                      · intro w'
                        go_simp
                        with_reducible rfl
                      rotate_left
                      · simp only [Act.put, List.setIfInBounds_toArray, List.set_cons_zero, List.set_cons_succ, i64_w, i32_w]
                        rfl
                      refine take_ (i := 1) (N := some 106) (v := ?_) (a' := ?_) #[true, true, true, false, false, false, false, false] rfl rfl (by kernel_rfl) (fun _ _ _ h => h) (Or.inl ⟨by rfl, ?_⟩) hHeld ?_ ?_
                      rotate_left
                      · intro w' s0
                        go_simp
                        with_reducible rfl
                      rotate_left
                      · simp only [Act.put, List.setIfInBounds_toArray, List.set_cons_zero, List.set_cons_succ, i64_w, i32_w]
                        rfl
                      refine one_ (i := 3) (N := some 108) #[true, true, true, true, false, false, false, false] rfl rfl (by kernel_rfl) (by decide) (fun K hK => ?_)
                      refine goes_ Tryd.func70 (by kernel_rfl) rfl #[.pointer (some ⟨g, 0, none⟩)] (by rfl) rfl rfl (by simp only [List.map_toArray, List.map_cons, List.map_nil]; rfl) ?_
                      with_reducible refine (rnumber_calls STw.out.isp).mono ?_
                      rintro en w3 ⟨rfl, hI3, hk3⟩
                      refine ⟨_, rfl, ?_⟩
                      have ST3 := Aside0.mk (STw.out.at hI3 hk3)
                      have q3 : w3.cell? ⟨w6.heap.size, 2, none⟩ = some v2 := (blk_cell ST3.out.box 2).trans rfl
                      have hbz3 : w6.heap.size + 1 ≤ w3.heap.size := ST3.out.lt
                      clear hI3 hk3
                      refine hK.out _ _ (q3) (fun hHeld => ?_)
                      clear hK K
                      refine norm_ (a' := ?_) ?_ ?_
                      rotate_left
                      · show Act.put _ (some 108) _ = _
                        simp only [Act.put, List.setIfInBounds_toArray, List.set_cons_zero, List.set_cons_succ, i64_w, i32_w]
                        rfl
                      refine one_ (i := 4) (N := some 109) #[true, true, true, true, true, false, false, false] rfl rfl (by kernel_rfl) (by decide) (fun K hK => ?_)
                      refine value_ (w1 := ?_) (v := ?_) (by rfl) rfl ?_ ?_
                      rotate_left 2
                      · go_simp
                        constructor
                        · rfl
                        · rfl
                      refine hK.out _ _ ((cell_alloc _ q3)) (fun hHeld => ?_)
                      clear hK K
                      refine norm_ (a' := ?_) ?_ ?_
                      rotate_left
                      · show Act.put _ (some 109) _ = _
                        simp only [Act.put, List.setIfInBounds_toArray, List.set_cons_zero, List.set_cons_succ, i64_w, i32_w]
                        rfl
                      refine one_ (i := 5) (N := some 110) #[true, true, true, true, true, true, false, false] rfl rfl (by kernel_rfl) (by decide) (fun K hK => ?_)
                      refine Kd.R_append_step kI (w0 := w3) (w6.heap.size + 1) (by rfl) (.tmp 106) (.tmp 109) 22 2 (.int .i64 0) 8 rfl Tryd.underlying22 info_i3 rfl (by decide) (by decide) v2 ns (rtake [2, 3] L2 e2).1.f2 [.int .i64 (rtake [2, 3] L2 e2).1.f2] (fun _ => True) (fun _ => False) rfl rfl rfl (fun _ hk => hk.elim) (fun _ _ => trivial) ST3.out.nums (Below.refl _ _) hbz3 (by have := HLN.out; omega) ?_
                      intro v8 w8 ho hb hg hat
                      obtain ⟨A8, c8, h8⟩ := Kd.R_slice ho
                      rw [List.length_append, List.length_singleton] at h8
                      subst h8
                      have HO := Aside0.mk ho
                      have HGR := Aside0.mk hg
                      have hbx := ST3.out.box_grown hg (Kd.R_base ST3.out.nums)
                      have f8 := blk_frozen hbx 2
                      have q8 : w8.cell? ⟨w6.heap.size, 2, none⟩ = some v2 := (blk_cell hbx 2).trans rfl
                      refine hK.out _ _ (q8) (fun hHeld => ?_)
                      clear hK K
                      refine norm_ (a' := ?_) ?_ ?_
                      rotate_left
                      · show Act.put _ (some 110) _ = _
                        simp only [Act.put, List.setIfInBounds_toArray, List.set_cons_zero, List.set_cons_succ, i64_w, i32_w]
                        rfl
                      refine pure_ (i := 6) (N := some 111) (v := ?_) (a' := ?_) #[true, true, true, true, true, true, true, false] rfl rfl (by kernel_rfl) (fun _ _ _ h => h) (Or.inl ⟨by rfl, ?_⟩) ?_ ?_
                      rotate_left
                      · intro w'
                        go_simp
                        with_reducible rfl
                      rotate_left
                      · simp only [Act.put, List.setIfInBounds_toArray, List.set_cons_zero, List.set_cons_succ, i64_w, i32_w]
                        rfl
                      refine last_ (i := 7) (N := none) #[true, true, true, true, true, true, true, true] rfl rfl (by kernel_rfl) (by decide) (fun K hK => ?_)
                      refine skip_ (w1 := ?_) (by rfl) rfl ?_ ?_
                      rotate_left
                      · go_simp
                        rfl
                      refine hK.out _ _ ?_
                      clear hK K
                      refine done_ (by kernel_rfl) ?_

                      have ST8 := Aside0.mk (ST3.out.num HO.out HGR.out)
                      have IV8 := Aside0.mk (inv_num IV.out (by omega) hkk)
                      go_wp2_with fail
                      go_roundw
                      case rel => exact ⟨k + 1, _, _, _, _, _, _, _, by go_num, ⟨hkk, by have h1 := HLN.out; simp only [List.length_append, List.length_cons, List.length_nil] at h1 ⊢; omega, fun _ => ⟨rfl, rfl⟩, IV8.out, ST8.out⟩⟩
                      case measure => simp [intOf]; omega

                    · have hk0 : ¬ ((0 : Int) < (k : Int)) := by omega
                      have hk0' : decide ((0 : Int) < (k : Int)) = false := decide_eq_false hk0
                      have hgt : decide ((k : Int) > 0) = false := hk0'
                      have hn1 : ¬ ((k : Int) < (nn : Int)) := by omega
                      have hn2 : decide ((k : Int) < (nn : Int)) = false := decide_eq_false hn1
                      have IV := Aside0.mk (show Inv2 F nn (nn + aa) k R ⟨op, nil8, ns, ys⟩ L1 p1 e1 by subst hkz; exact inv_zero HL.out.inv)
                      have ST2 := Aside0.mk HL.out.st
                      have HNL := Aside0.mk HL.out.nil
                      have HLN := Aside0.mk HL.out.len
                      obtain ⟨w2, hw2⟩ : ∃ w2, w2 = wr := ⟨_, rfl⟩
                      obtain ⟨L2, hL2⟩ : ∃ L2, L2 = L1 := ⟨_, rfl⟩
                      obtain ⟨e2, he2⟩ : ∃ e2, e2 = e1 := ⟨_, rfl⟩
                      rw [← hw2, ← hL2, ← he2] at ST2
                      rw [← hL2, ← he2] at IV
                      go_wp2_with fail
                      rw [← hw2]
                      clear hw2 hL2 he2 HL
                      have STw := Aside0.mk (ST2.out.later (below_drew (Below.refl _ _)))
                      have q1 : w2.cell? ⟨w6.heap.size, 3, none⟩ = some v3 := (blk_cell ST2.out.box 3).trans rfl
                      refine start_ (n := 10) (S := fun w' => w'.cell? ⟨w6.heap.size, 3, none⟩ = some v3) (ds := [9]) #[false, false, false, false, false, false, false, false, false, false] (by kernel_rfl) rfl rfl (q1) (fun hHeld => ?_)
                      refine pure_ (i := 0) (N := some 112) (v := ?_) (a' := ?_) #[true, false, false, false, false, false, false, false, false, false] rfl rfl (by kernel_rfl) (fun _ _ _ h => h) (Or.inl ⟨by rfl, ?_⟩) ?_ ?_
                      rotate_left
                      · intro w'
                        go_simp
                        with_reducible rfl
                      rotate_left
                      · simp only [Act.put, List.setIfInBounds_toArray, List.set_cons_zero, List.set_cons_succ, i64_w, i32_w]
                        rfl
                      refine pure_ (i := 2) (N := some 114) (v := ?_) (a' := ?_) #[true, false, true, false, false, false, false, false, false, false] rfl rfl (by kernel_rfl) (fun _ _ _ h => h) (Or.inl ⟨by rfl, ?_⟩) ?_ ?_
                      rotate_left
                      · intro w'
                        go_simp
                        with_reducible rfl
                      rotate_left
                      · simp only [Act.put, List.setIfInBounds_toArray, List.set_cons_zero, List.set_cons_succ, i64_w, i32_w]
                        rfl
                      refine pure_ (i := 3) (N := some 115) (v := ?_) (a' := ?_) #[true, false, true, true, false, false, false, false, false, false] rfl rfl (by kernel_rfl) (fun _ _ _ h => h) (Or.inl ⟨by rfl, ?_⟩) ?_ ?_
                      rotate_left
                      · intro w'
                        go_simp
                        with_reducible rfl
                      rotate_left
                      · simp only [Act.put, List.setIfInBounds_toArray, List.set_cons_zero, List.set_cons_succ, i64_w, i32_w]
                        rfl
                      refine pure_ (i := 4) (N := some 116) (v := ?_) (a' := ?_) #[true, false, true, true, true, false, false, false, false, false] rfl rfl (by kernel_rfl) (fun _ _ _ h => h) (Or.inl ⟨by rfl, ?_⟩) ?_ ?_
                      rotate_left
                      · intro w'
                        go_simp
                        with_reducible rfl
                      rotate_left
                      · simp only [Act.put, List.setIfInBounds_toArray, List.set_cons_zero, List.set_cons_succ, i64_w, i32_w]
                        rfl
                      refine take_ (i := 1) (N := some 113) (v := ?_) (a' := ?_) #[true, true, true, true, true, false, false, false, false, false] rfl rfl (by kernel_rfl) (fun _ _ _ h => h) (Or.inl ⟨by rfl, ?_⟩) hHeld ?_ ?_
                      rotate_left
                      · intro w' s0
                        go_simp
                        with_reducible rfl
                      rotate_left
                      · simp only [Act.put, List.setIfInBounds_toArray, List.set_cons_zero, List.set_cons_succ, i64_w, i32_w]
                        rfl
                      refine one_ (i := 5) (N := some 117) #[true, true, true, true, true, true, false, false, false, false] rfl rfl (by kernel_rfl) (by decide) (fun K hK => ?_)
                      refine goes_ Tryd.func66 (by kernel_rfl) rfl #[.pointer (some ⟨g, 0, none⟩), .int .i64 (wrap64 (dp + 1))] (by rfl) rfl rfl (by simp only [List.map_toArray, List.map_cons, List.map_nil]; rfl) ?_
                      with_reducible refine (HFW.out _ _ _ _ STw.out.isp IV.out.ok).mono ?_
                      rintro en w3 ⟨y, p3, v5, v6, rfl, hI3, hk3, hg3, hy3⟩
                      obtain ⟨A5, c5, A6, c6, rfl, rfl⟩ := hg3.slices
                      refine ⟨_, rfl, ?_⟩
                      have ST3 := Aside0.mk (STw.out.at hI3 hk3)
                      have q3 : w3.cell? ⟨w6.heap.size, 3, none⟩ = some v3 := (blk_cell ST3.out.box 3).trans rfl
                      have hbz3 : w6.heap.size + 1 ≤ w3.heap.size := ST3.out.lt
                      have HY := Aside0.mk (hg3.part (B := w6.heap.size + 1) STw.out.lt)
                      have HV := Aside0.mk (Kd.R_lt STw.out.args)
                      have HYY := Aside0.mk hy3
                      clear hI3 hk3 hg3 hy3
                      refine hK.out _ _ (q3) (fun hHeld => ?_)
                      clear hK K
                      refine norm_ (a' := ?_) ?_ ?_
                      rotate_left
                      · show Act.put _ (some 117) _ = _
                        simp only [Act.put, List.setIfInBounds_toArray, List.set_cons_zero, List.set_cons_succ, i64_w, i32_w]
                        rfl
                      refine one_ (i := 6) (N := some 118) #[true, true, true, true, true, true, true, false, false, false] rfl rfl (by kernel_rfl) (by decide) (fun K hK => ?_)
                      refine value_ (w1 := ?_) (v := ?_) (by rfl) rfl ?_ ?_
                      rotate_left 2
                      · go_simp
                        constructor
                        · rfl
                        · rfl
                      refine hK.out _ _ ((cell_alloc _ q3)) (fun hHeld => ?_)
                      clear hK K
                      refine norm_ (a' := ?_) ?_ ?_
                      rotate_left
                      · show Act.put _ (some 118) _ = _
                        simp only [Act.put, List.setIfInBounds_toArray, List.set_cons_zero, List.set_cons_succ, i64_w, i32_w]
                        rfl
                      refine one_ (i := 7) (N := some 119) #[true, true, true, true, true, true, true, true, false, false] rfl rfl (by kernel_rfl) (by decide) (fun K hK => ?_)
                      refine Kd.R_append_step kX (w0 := w3) (w6.heap.size + 1) (by rfl) (.tmp 113) (.tmp 118) 23 TX (.agg #[.int .u8 0, .string nil8, .slice none 0 0, .slice none 0 0]) 72 rfl Tryd.underlying23 info_x3 rfl (show 0 < kX.sz from Nat.zero_lt_succ 3) (by decide) v3 ys y [.int .u8 y.f0, .string y.f1, .slice A5 y.f2.length c5, .slice A6 y.f3.length c6] (fun _ => True) (fun k => w2.drew.heap.size ≤ k) rfl rfl HY.out (fun k hk => ⟨trivial, fun he => by have h1 := HV.out k he.symm; have h2 : w2.drew.heap.size ≤ k := hk; omega⟩) (fun _ _ => trivial) ST3.out.args (Below.refl _ _) hbz3 (by have := HLN.out; omega) ?_
                      intro v8 w8 ho hb hg hat
                      obtain ⟨A8, c8, h8⟩ := Kd.R_slice ho
                      rw [List.length_append, List.length_singleton] at h8
                      subst h8
                      have HO := Aside0.mk ho
                      have HGR := Aside0.mk hg
                      have hbx := ST3.out.box_grown hg (Kd.R_base ST3.out.args)
                      have f8 := blk_frozen hbx 3
                      have q8 : w8.cell? ⟨w6.heap.size, 3, none⟩ = some v3 := (blk_cell hbx 3).trans rfl
                      refine hK.out _ _ (q8) (fun hHeld => ?_)
                      clear hK K
                      refine norm_ (a' := ?_) ?_ ?_
                      rotate_left
                      · show Act.put _ (some 119) _ = _
                        simp only [Act.put, List.setIfInBounds_toArray, List.set_cons_zero, List.set_cons_succ, i64_w, i32_w]
                        rfl
                      refine pure_ (i := 8) (N := some 120) (v := ?_) (a' := ?_) #[true, true, true, true, true, true, true, true, true, false] rfl rfl (by kernel_rfl) (fun _ _ _ h => h) (Or.inl ⟨by rfl, ?_⟩) ?_ ?_
                      rotate_left
                      · intro w'
                        go_simp
                        with_reducible rfl
                      rotate_left
                      · simp only [Act.put, List.setIfInBounds_toArray, List.set_cons_zero, List.set_cons_succ, i64_w, i32_w]
                        rfl
                      refine last_ (i := 9) (N := none) #[true, true, true, true, true, true, true, true, true, true] rfl rfl (by kernel_rfl) (by decide) (fun K hK => ?_)
                      refine skip_ (w1 := ?_) (by rfl) rfl ?_ ?_
                      rotate_left
                      · go_simp
                        rfl
                      refine hK.out _ _ ?_
                      clear hK K
                      refine done_ (by kernel_rfl) ?_

                      have ST8 := Aside0.mk (ST3.out.arg HO.out HGR.out)
                      have IV8 := Aside0.mk (inv_arg IV.out HG.out (by omega) hkk y p3 HYY.out)
                      go_wp2_with fail
                      go_roundw
                      case rel => exact ⟨k + 1, _, _, _, _, _, _, _, by go_num, ⟨hkk, by have h1 := HLN.out; simp only [List.length_append, List.length_cons, List.length_nil] at h1 ⊢; omega, fun h => absurd h (by omega), IV8.out, ST8.out⟩⟩
                      case measure => simp [intOf]; omega

                  · by_cases hnk : k < nn
                    · have hk0 : (0 : Int) < (k : Int) := by omega
                      have hk0' : decide ((0 : Int) < (k : Int)) = true := decide_eq_true hk0
                      have hn1 : (k : Int) < (nn : Int) := by omega
                      have hn2 : decide ((k : Int) < (nn : Int)) = true := decide_eq_true hn1
                      have IV0 := Aside0.mk (inv_mark HL.out.inv (by omega) hkk)
                      have ST := Aside0.mk HL.out.st
                      have HNL := Aside0.mk HL.out.nil
                      have HLN := Aside0.mk HL.out.len
                      clear HL
                      go_wp2_with fail
                      (with_reducible refine (rmark_calls COM ST.out.isp).mono ?_)
                      rintro en w2 ⟨rfl, hI2, hk2⟩
                      have ST2 := Aside0.mk (ST.out.at hI2 hk2)
                      obtain ⟨L2, e2, hm2⟩ : ∃ L2 e2, rmark COM L1 e1 = (L2, e2) := ⟨_, _, rfl⟩
                      rw [hm2] at ST2 IV0
                      dsimp only at ST2 IV0
                      have IV := IV0
                      clear hI2 hk2 ST hm2 IV0
                      go_wp2_with fail
                      obtain ⟨rfl, rfl⟩ := HNL.out (by omega)
                      have STw := Aside0.mk (ST2.out.later (below_drew (Below.refl _ _)))
                      have q1 : w2.cell? ⟨w6.heap.size, 2, none⟩ = some v2 := (blk_cell ST2.out.box 2).trans rfl
                      refine start_ (n := 8) (S := fun w' => w'.cell? ⟨w6.heap.size, 2, none⟩ = some v2) (ds := [7]) #[false, false, false, false, false, false, false, false] (by kernel_rfl) rfl rfl (q1) (fun hHeld => ?_)
                      refine pure_ (i := 0) (N := some 105) (v := ?_) (a' := ?_) #[true, false, false, false, false, false, false, false] rfl rfl (by kernel_rfl) (fun _ _ _ h => h) (Or.inl ⟨by rfl, ?_⟩) ?_ ?_
                      rotate_left
                      · intro w'
                        go_simp
                        with_reducible rfl
                      rotate_left
                      · simp only [Act.put, List.setIfInBounds_toArray, List.set_cons_zero, List.set_cons_succ, i64_w, i32_w]
                        rfl
                      refine pure_ (i := 2) (N := some 107) (v := ?_) (a' := ?_) #[true, false, true, false, false, false, false, false] rfl rfl (by kernel_rfl) (fun _ _ _ h => h) (Or.inl ⟨by rfl, ?_⟩) ?_ ?_
                      rotate_left
                      · intro w'
                        go_simp
                        with_reducible rfl
                      rotate_left
                      · simp only [Act.put, List.setIfInBounds_toArray, List.set_cons_zero, List.set_cons_succ, i64_w, i32_w]
                        rfl
                      refine take_ (i := 1) (N := some 106) (v := ?_) (a' := ?_) #[true, true, true, false, false, false, false, false] rfl rfl (by kernel_rfl) (fun _ _ _ h => h) (Or.inl ⟨by rfl, ?_⟩) hHeld ?_ ?_
                      rotate_left
                      · intro w' s0
                        go_simp
                        with_reducible rfl
                      rotate_left
                      · simp only [Act.put, List.setIfInBounds_toArray, List.set_cons_zero, List.set_cons_succ, i64_w, i32_w]
                        rfl
                      refine one_ (i := 3) (N := some 108) #[true, true, true, true, false, false, false, false] rfl rfl (by kernel_rfl) (by decide) (fun K hK => ?_)
                      refine goes_ Tryd.func70 (by kernel_rfl) rfl #[.pointer (some ⟨g, 0, none⟩)] (by rfl) rfl rfl (by simp only [List.map_toArray, List.map_cons, List.map_nil]; rfl) ?_
                      with_reducible refine (rnumber_calls STw.out.isp).mono ?_
                      rintro en w3 ⟨rfl, hI3, hk3⟩
                      refine ⟨_, rfl, ?_⟩
                      have ST3 := Aside0.mk (STw.out.at hI3 hk3)
                      have q3 : w3.cell? ⟨w6.heap.size, 2, none⟩ = some v2 := (blk_cell ST3.out.box 2).trans rfl
                      have hbz3 : w6.heap.size + 1 ≤ w3.heap.size := ST3.out.lt
                      clear hI3 hk3
                      refine hK.out _ _ (q3) (fun hHeld => ?_)
                      clear hK K
                      refine norm_ (a' := ?_) ?_ ?_
                      rotate_left
                      · show Act.put _ (some 108) _ = _
                        simp only [Act.put, List.setIfInBounds_toArray, List.set_cons_zero, List.set_cons_succ, i64_w, i32_w]
                        rfl
                      refine one_ (i := 4) (N := some 109) #[true, true, true, true, true, false, false, false] rfl rfl (by kernel_rfl) (by decide) (fun K hK => ?_)
                      refine value_ (w1 := ?_) (v := ?_) (by rfl) rfl ?_ ?_
                      rotate_left 2
                      · go_simp
                        constructor
                        · rfl
                        · rfl
                      refine hK.out _ _ ((cell_alloc _ q3)) (fun hHeld => ?_)
                      clear hK K
                      refine norm_ (a' := ?_) ?_ ?_
                      rotate_left
                      · show Act.put _ (some 109) _ = _
                        simp only [Act.put, List.setIfInBounds_toArray, List.set_cons_zero, List.set_cons_succ, i64_w, i32_w]
                        rfl
                      refine one_ (i := 5) (N := some 110) #[true, true, true, true, true, true, false, false] rfl rfl (by kernel_rfl) (by decide) (fun K hK => ?_)
                      refine Kd.R_append_step kI (w0 := w3) (w6.heap.size + 1) (by rfl) (.tmp 106) (.tmp 109) 22 2 (.int .i64 0) 8 rfl Tryd.underlying22 info_i3 rfl (by decide) (by decide) v2 ns (rtake [2, 3] L2 e2).1.f2 [.int .i64 (rtake [2, 3] L2 e2).1.f2] (fun _ => True) (fun _ => False) rfl rfl rfl (fun _ hk => hk.elim) (fun _ _ => trivial) ST3.out.nums (Below.refl _ _) hbz3 (by have := HLN.out; omega) ?_
                      intro v8 w8 ho hb hg hat
                      obtain ⟨A8, c8, h8⟩ := Kd.R_slice ho
                      rw [List.length_append, List.length_singleton] at h8
                      subst h8
                      have HO := Aside0.mk ho
                      have HGR := Aside0.mk hg
                      have hbx := ST3.out.box_grown hg (Kd.R_base ST3.out.nums)
                      have f8 := blk_frozen hbx 2
                      have q8 : w8.cell? ⟨w6.heap.size, 2, none⟩ = some v2 := (blk_cell hbx 2).trans rfl
                      refine hK.out _ _ (q8) (fun hHeld => ?_)
                      clear hK K
                      refine norm_ (a' := ?_) ?_ ?_
                      rotate_left
                      · show Act.put _ (some 110) _ = _
                        simp only [Act.put, List.setIfInBounds_toArray, List.set_cons_zero, List.set_cons_succ, i64_w, i32_w]
                        rfl
                      refine pure_ (i := 6) (N := some 111) (v := ?_) (a' := ?_) #[true, true, true, true, true, true, true, false] rfl rfl (by kernel_rfl) (fun _ _ _ h => h) (Or.inl ⟨by rfl, ?_⟩) ?_ ?_
                      rotate_left
                      · intro w'
                        go_simp
                        with_reducible rfl
                      rotate_left
                      · simp only [Act.put, List.setIfInBounds_toArray, List.set_cons_zero, List.set_cons_succ, i64_w, i32_w]
                        rfl
                      refine last_ (i := 7) (N := none) #[true, true, true, true, true, true, true, true] rfl rfl (by kernel_rfl) (by decide) (fun K hK => ?_)
                      refine skip_ (w1 := ?_) (by rfl) rfl ?_ ?_
                      rotate_left
                      · go_simp
                        rfl
                      refine hK.out _ _ ?_
                      clear hK K
                      refine done_ (by kernel_rfl) ?_

                      have ST8 := Aside0.mk (ST3.out.num HO.out HGR.out)
                      have IV8 := Aside0.mk (inv_num IV.out (by omega) hkk)
                      go_wp2_with fail
                      go_roundw
                      case rel => exact ⟨k + 1, _, _, _, _, _, _, _, by go_num, ⟨hkk, by have h1 := HLN.out; simp only [List.length_append, List.length_cons, List.length_nil] at h1 ⊢; omega, fun _ => ⟨rfl, rfl⟩, IV8.out, ST8.out⟩⟩
                      case measure => simp [intOf]; omega

                    · have hk0 : (0 : Int) < (k : Int) := by omega
                      have hk0' : decide ((0 : Int) < (k : Int)) = true := decide_eq_true hk0
                      have hn1 : ¬ ((k : Int) < (nn : Int)) := by omega
                      have hn2 : decide ((k : Int) < (nn : Int)) = false := decide_eq_false hn1
                      have IV0 := Aside0.mk (inv_mark HL.out.inv (by omega) hkk)
                      have ST := Aside0.mk HL.out.st
                      have HNL := Aside0.mk HL.out.nil
                      have HLN := Aside0.mk HL.out.len
                      clear HL
                      go_wp2_with fail
                      (with_reducible refine (rmark_calls COM ST.out.isp).mono ?_)
                      rintro en w2 ⟨rfl, hI2, hk2⟩
                      have ST2 := Aside0.mk (ST.out.at hI2 hk2)
                      obtain ⟨L2, e2, hm2⟩ : ∃ L2 e2, rmark COM L1 e1 = (L2, e2) := ⟨_, _, rfl⟩
                      rw [hm2] at ST2 IV0
                      dsimp only at ST2 IV0
                      have IV := IV0
                      clear hI2 hk2 ST hm2 IV0
                      go_wp2_with fail
                      have STw := Aside0.mk (ST2.out.later (below_drew (Below.refl _ _)))
                      have q1 : w2.cell? ⟨w6.heap.size, 3, none⟩ = some v3 := (blk_cell ST2.out.box 3).trans rfl
                      refine start_ (n := 10) (S := fun w' => w'.cell? ⟨w6.heap.size, 3, none⟩ = some v3) (ds := [9]) #[false, false, false, false, false, false, false, false, false, false] (by kernel_rfl) rfl rfl (q1) (fun hHeld => ?_)
                      refine pure_ (i := 0) (N := some 112) (v := ?_) (a' := ?_) #[true, false, false, false, false, false, false, false, false, false] rfl rfl (by kernel_rfl) (fun _ _ _ h => h) (Or.inl ⟨by rfl, ?_⟩) ?_ ?_
                      rotate_left
                      · intro w'
                        go_simp
                        with_reducible rfl
                      rotate_left
                      · simp only [Act.put, List.setIfInBounds_toArray, List.set_cons_zero, List.set_cons_succ, i64_w, i32_w]
                        rfl
                      refine pure_ (i := 2) (N := some 114) (v := ?_) (a' := ?_) #[true, false, true, false, false, false, false, false, false, false] rfl rfl (by kernel_rfl) (fun _ _ _ h => h) (Or.inl ⟨by rfl, ?_⟩) ?_ ?_
                      rotate_left
                      · intro w'
                        go_simp
                        with_reducible rfl
                      rotate_left
                      · simp only [Act.put, List.setIfInBounds_toArray, List.set_cons_zero, List.set_cons_succ, i64_w, i32_w]
                        rfl
                      refine pure_ (i := 3) (N := some 115) (v := ?_) (a' := ?_) #[true, false, true, true, false, false, false, false, false, false] rfl rfl (by kernel_rfl) (fun _ _ _ h => h) (Or.inl ⟨by rfl, ?_⟩) ?_ ?_
                      rotate_left
                      · intro w'
                        go_simp
                        with_reducible rfl
                      rotate_left
                      · simp only [Act.put, List.setIfInBounds_toArray, List.set_cons_zero, List.set_cons_succ, i64_w, i32_w]
                        rfl
                      refine pure_ (i := 4) (N := some 116) (v := ?_) (a' := ?_) #[true, false, true, true, true, false, false, false, false, false] rfl rfl (by kernel_rfl) (fun _ _ _ h => h) (Or.inl ⟨by rfl, ?_⟩) ?_ ?_
                      rotate_left
                      · intro w'
                        go_simp
                        with_reducible rfl
                      rotate_left
                      · simp only [Act.put, List.setIfInBounds_toArray, List.set_cons_zero, List.set_cons_succ, i64_w, i32_w]
                        rfl
                      refine take_ (i := 1) (N := some 113) (v := ?_) (a' := ?_) #[true, true, true, true, true, false, false, false, false, false] rfl rfl (by kernel_rfl) (fun _ _ _ h => h) (Or.inl ⟨by rfl, ?_⟩) hHeld ?_ ?_
                      rotate_left
                      · intro w' s0
                        go_simp
                        with_reducible rfl
                      rotate_left
                      · simp only [Act.put, List.setIfInBounds_toArray, List.set_cons_zero, List.set_cons_succ, i64_w, i32_w]
                        rfl
                      refine one_ (i := 5) (N := some 117) #[true, true, true, true, true, true, false, false, false, false] rfl rfl (by kernel_rfl) (by decide) (fun K hK => ?_)
                      refine goes_ Tryd.func66 (by kernel_rfl) rfl #[.pointer (some ⟨g, 0, none⟩), .int .i64 (wrap64 (dp + 1))] (by rfl) rfl rfl (by simp only [List.map_toArray, List.map_cons, List.map_nil]; rfl) ?_
                      with_reducible refine (HFW.out _ _ _ _ STw.out.isp IV.out.ok).mono ?_
                      rintro en w3 ⟨y, p3, v5, v6, rfl, hI3, hk3, hg3, hy3⟩
                      obtain ⟨A5, c5, A6, c6, rfl, rfl⟩ := hg3.slices
                      refine ⟨_, rfl, ?_⟩
                      have ST3 := Aside0.mk (STw.out.at hI3 hk3)
                      have q3 : w3.cell? ⟨w6.heap.size, 3, none⟩ = some v3 := (blk_cell ST3.out.box 3).trans rfl
                      have hbz3 : w6.heap.size + 1 ≤ w3.heap.size := ST3.out.lt
                      have HY := Aside0.mk (hg3.part (B := w6.heap.size + 1) STw.out.lt)
                      have HV := Aside0.mk (Kd.R_lt STw.out.args)
                      have HYY := Aside0.mk hy3
                      clear hI3 hk3 hg3 hy3
                      refine hK.out _ _ (q3) (fun hHeld => ?_)
                      clear hK K
                      refine norm_ (a' := ?_) ?_ ?_
                      rotate_left
                      · show Act.put _ (some 117) _ = _
                        simp only [Act.put, List.setIfInBounds_toArray, List.set_cons_zero, List.set_cons_succ, i64_w, i32_w]
                        rfl
                      refine one_ (i := 6) (N := some 118) #[true, true, true, true, true, true, true, false, false, false] rfl rfl (by kernel_rfl) (by decide) (fun K hK => ?_)
                      refine value_ (w1 := ?_) (v := ?_) (by rfl) rfl ?_ ?_
                      rotate_left 2
                      · go_simp
                        constructor
                        · rfl
                        · rfl
                      refine hK.out _ _ ((cell_alloc _ q3)) (fun hHeld => ?_)
                      clear hK K
                      refine norm_ (a' := ?_) ?_ ?_
                      rotate_left
                      · show Act.put _ (some 118) _ = _
                        simp only [Act.put, List.setIfInBounds_toArray, List.set_cons_zero, List.set_cons_succ, i64_w, i32_w]
                        rfl
                      refine one_ (i := 7) (N := some 119) #[true, true, true, true, true, true, true, true, false, false] rfl rfl (by kernel_rfl) (by decide) (fun K hK => ?_)
                      refine Kd.R_append_step kX (w0 := w3) (w6.heap.size + 1) (by rfl) (.tmp 113) (.tmp 118) 23 TX (.agg #[.int .u8 0, .string nil8, .slice none 0 0, .slice none 0 0]) 72 rfl Tryd.underlying23 info_x3 rfl (show 0 < kX.sz from Nat.zero_lt_succ 3) (by decide) v3 ys y [.int .u8 y.f0, .string y.f1, .slice A5 y.f2.length c5, .slice A6 y.f3.length c6] (fun _ => True) (fun k => w2.drew.heap.size ≤ k) rfl rfl HY.out (fun k hk => ⟨trivial, fun he => by have h1 := HV.out k he.symm; have h2 : w2.drew.heap.size ≤ k := hk; omega⟩) (fun _ _ => trivial) ST3.out.args (Below.refl _ _) hbz3 (by have := HLN.out; omega) ?_
                      intro v8 w8 ho hb hg hat
                      obtain ⟨A8, c8, h8⟩ := Kd.R_slice ho
                      rw [List.length_append, List.length_singleton] at h8
                      subst h8
                      have HO := Aside0.mk ho
                      have HGR := Aside0.mk hg
                      have hbx := ST3.out.box_grown hg (Kd.R_base ST3.out.args)
                      have f8 := blk_frozen hbx 3
                      have q8 : w8.cell? ⟨w6.heap.size, 3, none⟩ = some v3 := (blk_cell hbx 3).trans rfl
                      refine hK.out _ _ (q8) (fun hHeld => ?_)
                      clear hK K
                      refine norm_ (a' := ?_) ?_ ?_
                      rotate_left
                      · show Act.put _ (some 119) _ = _
                        simp only [Act.put, List.setIfInBounds_toArray, List.set_cons_zero, List.set_cons_succ, i64_w, i32_w]
                        rfl
                      refine pure_ (i := 8) (N := some 120) (v := ?_) (a' := ?_) #[true, true, true, true, true, true, true, true, true, false] rfl rfl (by kernel_rfl) (fun _ _ _ h => h) (Or.inl ⟨by rfl, ?_⟩) ?_ ?_
                      rotate_left
                      · intro w'
                        go_simp
                        with_reducible rfl
                      rotate_left
                      · simp only [Act.put, List.setIfInBounds_toArray, List.set_cons_zero, List.set_cons_succ, i64_w, i32_w]
                        rfl
                      refine last_ (i := 9) (N := none) #[true, true, true, true, true, true, true, true, true, true] rfl rfl (by kernel_rfl) (by decide) (fun K hK => ?_)
                      refine skip_ (w1 := ?_) (by rfl) rfl ?_ ?_
                      rotate_left
                      · go_simp
                        rfl
                      refine hK.out _ _ ?_
                      clear hK K
                      refine done_ (by kernel_rfl) ?_

                      have ST8 := Aside0.mk (ST3.out.arg HO.out HGR.out)
                      have IV8 := Aside0.mk (inv_arg IV.out HG.out (by omega) hkk y p3 HYY.out)
                      go_wp2_with fail
                      go_roundw
                      case rel => exact ⟨k + 1, _, _, _, _, _, _, _, by go_num, ⟨hkk, by have h1 := HLN.out; simp only [List.length_append, List.length_cons, List.length_nil] at h1 ⊢; omega, fun h => absurd h (by omega), IV8.out, ST8.out⟩⟩
                      case measure => simp [intOf]; omega

                · have hke : k = nn + aa := by have := HL.out.k1; omega
                  have hki : ¬ ((k : Int) < (nn : Int) + (aa : Int)) := by omega
                  have hki' : decide ((k : Int) < (nn : Int) + (aa : Int)) = false := decide_eq_false hki
                  have ST := Aside0.mk HL.out.st
                  have hv := HL.out.inv
                  rw [hke] at hv
                  have hfin := inv_end hv (by omega)
                  clear hv HL hke
                  go_wp2_with fail
                  (with_reducible refine (rmark_calls RPA ST.out.isp).mono ?_)
                  rintro en w9 ⟨rfl, hI9, hk9⟩
                  obtain ⟨L9, e9, hm9⟩ : ∃ L9 e9, rmark RPA L1 e1 = (L9, e9) := ⟨_, _, rfl⟩
                  rw [hm9] at hI9 hfin
                  dsimp only at hI9 hfin
                  have ST9 := Aside0.mk (ST.out.at hI9 hk9)
                  obtain ⟨A2, c2, rfl⟩ := Kd.R_slice ST9.out.nums
                  obtain ⟨A3, c3, rfl⟩ := Kd.R_slice ST9.out.args
                  have HFIN := Aside0.mk hfin
                  have q0 : w9.cell? ⟨w6.heap.size, 0, none⟩ = some (.int .u8 op) := (blk_cell ST9.out.box 0).trans rfl
                  have q1 : w9.cell? ⟨w6.heap.size, 1, none⟩ = some (.string nil8) := (blk_cell ST9.out.box 1).trans rfl
                  have q2 : w9.cell? ⟨w6.heap.size, 2, none⟩ = some (.slice A2 _ c2) := (blk_cell ST9.out.box 2).trans rfl
                  have q3 : w9.cell? ⟨w6.heap.size, 3, none⟩ = some (.slice A3 _ c3) := (blk_cell ST9.out.box 3).trans rfl
                  clear hI9 hk9 hm9 hfin ST
                  have z0 := (blk_cell ST9.out.zero 0).trans (show zCells[0]? = some (Value.int .u8 0) from rfl)
                  have y0 := blk_frozen ST9.out.zero 0
                  have z1 := (blk_cell ST9.out.zero 1).trans (show zCells[1]? = some (Value.string nil8) from rfl)
                  have y1 := blk_frozen ST9.out.zero 1
                  have z2 := (blk_cell ST9.out.zero 2).trans (show zCells[2]? = some (Value.slice none 0 0) from rfl)
                  have y2 := blk_frozen ST9.out.zero 2
                  have z3 := (blk_cell ST9.out.zero 3).trans (show zCells[3]? = some (Value.slice none 0 0) from rfl)
                  have y3 := blk_frozen ST9.out.zero 3
                  go_wp2
                  refine bodyPost_ret (results_c1 rfl _ _ _ TX _ (0, 0) _ rfl (blk_put (blk_put (blk_put (blk_put ST9.out.zero 0 _ rfl) 1 _ rfl) 2 _ rfl) 3 _ rfl) Tryd.underlying25 rfl info_x) rfl ?_
                  have hc := fun W2 h1 h2 => ST9.out.close (W2 := W2) h1 h2
                  obtain ⟨r1, r2, r3⟩ := HFIN.out
                  rw [r1, r2]
                  exact ⟨⟨op, nil8, ns, ys⟩, _, _, _, rfl, (hc _ (by (repeat (first | (with_reducible exact Kept.refl _ _) | (with_reducible apply Kept.alloc) | (with_reducible apply Kept.drewN) | (with_reducible apply Kept.drew) | (with_reducible refine kept_at ?_ _ _) | (with_reducible refine kept_new ?_ _ _ (Nat.le_refl _)) | (with_reducible refine kept_new ?_ _ _ (by first | assumption | omega))))) (by (repeat (first | (with_reducible exact ST9.out.isp.low) | (with_reducible apply below_alloc) | (with_reducible apply pw_below_drewN) | (with_reducible apply below_drew1) | (with_reducible refine below_set ?_ (by first | assumption | omega)))))).1, (hc _ (by (repeat (first | (with_reducible exact Kept.refl _ _) | (with_reducible apply Kept.alloc) | (with_reducible apply Kept.drewN) | (with_reducible apply Kept.drew) | (with_reducible refine kept_at ?_ _ _) | (with_reducible refine kept_new ?_ _ _ (Nat.le_refl _)) | (with_reducible refine kept_new ?_ _ _ (by first | assumption | omega))))) (by (repeat (first | (with_reducible exact ST9.out.isp.low) | (with_reducible apply below_alloc) | (with_reducible apply pw_below_drewN) | (with_reducible apply below_drew1) | (with_reducible refine below_set ?_ (by first | assumption | omega)))))).2, ST9.out.done (by (repeat (first | (with_reducible exact Kept.refl _ _) | (with_reducible apply Kept.alloc) | (with_reducible apply Kept.drewN) | (with_reducible apply Kept.drew) | (with_reducible refine kept_at ?_ _ _) | (with_reducible refine kept_new ?_ _ _ (Nat.le_refl _)) | (with_reducible refine kept_new ?_ _ _ (by first | assumption | omega))))), fun h => ⟨(r3 h).1.symm, (r3 h).2.symm⟩⟩

            · have HE := Aside0.mk ((if_neg (show ¬ (true = true ∧ isF LPA r = true) by rw [hi9]; simp)).symm.trans hR)
              clear hR hkd hdp
              go_enter Tryd.func66, Tryd.ntmps66
              go_wp2_with fail
              go_quiet (fail)
              go_wp2_with fail
              have STd := Aside0.mk (ST0.out.later (pw_below_drewN (Below.refl _ _) nq))
              clear q0 q1 q2 q3 f2 ST0
              have ST1 := Aside0.mk (STd.out.at (STd.out.isp.more (p + 1)) (kept_at (Kept.refl _ _) 2 _))
              (with_reducible refine (rname_calls ST1.out.isp).mono ?_)
              rintro en w2 ⟨rfl, hI2, hk2⟩
              rw [show ∀ L, rtake [1] L 0 = takeF [1] L from fun L => if_pos rfl] at hI2 ⊢
              rw [HT.out] at hI2 ⊢
              have ST2 := Aside0.mk (ST1.out.at hI2 hk2)
              dsimp only at ST2 ⊢
              clear hI2 hk2 STd
              go_wp2_with fail
              (with_reducible refine (CO.out _).mono ?_)
              rintro en w3 ⟨rfl, hb3⟩
              have ST3 := Aside0.mk (ST2.out.later hb3)
              clear hb3
              go_wp2_with fail
              (with_reducible refine (ris_calls LPA ST3.out.isp).mono ?_)
              rintro en w4 ⟨rfl, hI4, hk4⟩
              rw [hi9]
              have ST4 := Aside0.mk (ST3.out.at hI4 hk4)
              clear hI4 hk4 ST3 ST1 ST2
              have z0 := (blk_cell ST4.out.zero 0).trans (show zCells[0]? = some (Value.int .u8 0) from rfl)
              have y0 := blk_frozen ST4.out.zero 0
              have z1 := (blk_cell ST4.out.zero 1).trans (show zCells[1]? = some (Value.string nil8) from rfl)
              have y1 := blk_frozen ST4.out.zero 1
              have z2 := (blk_cell ST4.out.zero 2).trans (show zCells[2]? = some (Value.slice none 0 0) from rfl)
              have y2 := blk_frozen ST4.out.zero 2
              have z3 := (blk_cell ST4.out.zero 3).trans (show zCells[3]? = some (Value.slice none 0 0) from rfl)
              have y3 := blk_frozen ST4.out.zero 3
              go_wp2
              refine bodyPost_ret (results_c1 rfl _ _ _ TX _ (0, 0) _ rfl (blk_put (blk_put (blk_put (blk_put ST4.out.zero 0 _ rfl) 1 _ rfl) 2 _ rfl) 3 _ rfl) Tryd.underlying25 rfl info_x) rfl ?_
              have hc := fun W2 h1 h2 => ST4.out.close (W2 := W2) h1 h2
              rw [← HE.out]
              exact ⟨⟨0, t.f1, [], []⟩, _, _, _, rfl, (hc _ (by (repeat (first | (with_reducible exact Kept.refl _ _) | (with_reducible apply Kept.alloc) | (with_reducible apply Kept.drewN) | (with_reducible apply Kept.drew) | (with_reducible refine kept_at ?_ _ _) | (with_reducible refine kept_new ?_ _ _ (Nat.le_refl _)) | (with_reducible refine kept_new ?_ _ _ (by first | assumption | omega))))) (by (repeat (first | (with_reducible exact ST4.out.isp.low) | (with_reducible apply below_alloc) | (with_reducible apply pw_below_drewN) | (with_reducible apply below_drew1) | (with_reducible refine below_set ?_ (by first | assumption | omega)))))).1, (hc _ (by (repeat (first | (with_reducible exact Kept.refl _ _) | (with_reducible apply Kept.alloc) | (with_reducible apply Kept.drewN) | (with_reducible apply Kept.drew) | (with_reducible refine kept_at ?_ _ _) | (with_reducible refine kept_new ?_ _ _ (Nat.le_refl _)) | (with_reducible refine kept_new ?_ _ _ (by first | assumption | omega))))) (by (repeat (first | (with_reducible exact ST4.out.isp.low) | (with_reducible apply below_alloc) | (with_reducible apply pw_below_drewN) | (with_reducible apply below_drew1) | (with_reducible refine below_set ?_ (by first | assumption | omega)))))).2, gives_name _ _ _, fun _ => ⟨rfl, rfl⟩⟩

    · cases L with
      | nil =>
        have hkN := rd_end L0 k (by have := HN.out; omega) HLd.out
        have hNN := HN.out
        have n1 : ¬ ((k : Int) < (N : Int)) := by omega
        have n2 : decide ((k : Int) < (N : Int)) = false := decide_eq_false n1
        have n3 : ¬ (k < N) := by omega
        have n4 : decide (k < N) = false := decide_eq_false n3
        clear hNN hkN htok HLd
        obtain ⟨L, hLL⟩ : ∃ L : List Tok, L = [] := ⟨_, rfl⟩
        rw [← hLL] at hkd hR ST0
        clear hLL
        have HT := Aside0.mk (take_none hkd)
        rw [if_neg (fun h => hkd h.1), take_none hkd, if_pos (show (z61, L, (110 : Int)).2.2 ≠ 0 by simp)] at hR
        dsimp only at hR
        have HE := Aside0.mk hR
        have CO := Aside0.mk (fun w => epactref11_Op.calls 14 z61.f1 (opF z61.f1).1 (opF z61.f1).2 w (refOp_f z61.f1))
        rw [op_nil] at CO
        dsimp only at CO
        clear hR hkd hdp
        go_enter Tryd.func66, Tryd.ntmps66
        go_wp2_with fail
        go_quiet (fail)
        go_wp2_with fail
        have STd := Aside0.mk (ST0.out.later (pw_below_drewN (Below.refl _ _) nq))
        clear q0 q1 q2 q3 f2 ST0
        have ST1 := Aside0.mk (STd.out.at (STd.out.isp.more (p + 1)) (kept_at (Kept.refl _ _) 2 _))
        (with_reducible refine (rname_calls ST1.out.isp).mono ?_)
        rintro en w2 ⟨rfl, hI2, hk2⟩
        rw [show ∀ L, rtake [1] L 0 = takeF [1] L from fun L => if_pos rfl] at hI2 ⊢
        rw [HT.out] at hI2 ⊢
        have ST2 := Aside0.mk (ST1.out.at hI2 hk2)
        dsimp only at ST2 ⊢
        clear hI2 hk2 STd
        go_wp2_with fail
        (with_reducible refine (CO.out _).mono ?_)
        rintro en w3 ⟨rfl, hb3⟩
        have ST3 := Aside0.mk (ST2.out.later hb3)
        clear hb3
        have z0 := (blk_cell ST3.out.zero 0).trans (show zCells[0]? = some (Value.int .u8 0) from rfl)
        have y0 := blk_frozen ST3.out.zero 0
        have z1 := (blk_cell ST3.out.zero 1).trans (show zCells[1]? = some (Value.string nil8) from rfl)
        have y1 := blk_frozen ST3.out.zero 1
        have z2 := (blk_cell ST3.out.zero 2).trans (show zCells[2]? = some (Value.slice none 0 0) from rfl)
        have y2 := blk_frozen ST3.out.zero 2
        have z3 := (blk_cell ST3.out.zero 3).trans (show zCells[3]? = some (Value.slice none 0 0) from rfl)
        have y3 := blk_frozen ST3.out.zero 3
        go_wp2
        refine bodyPost_ret (results_c1 rfl _ _ _ TX _ (0, 0) _ rfl (blk_put (blk_put (blk_put (blk_put ST3.out.zero 0 _ rfl) 1 _ rfl) 2 _ rfl) 3 _ rfl) Tryd.underlying25 rfl info_x) rfl ?_
        have hc := fun W2 h1 h2 => ST3.out.close (W2 := W2) h1 h2
        rw [← HE.out]
        exact ⟨⟨0, z61.f1, [], []⟩, _, _, _, rfl, (hc _ (by (repeat (first | (with_reducible exact Kept.refl _ _) | (with_reducible apply Kept.alloc) | (with_reducible apply Kept.drewN) | (with_reducible apply Kept.drew) | (with_reducible refine kept_at ?_ _ _) | (with_reducible refine kept_new ?_ _ _ (Nat.le_refl _)) | (with_reducible refine kept_new ?_ _ _ (by first | assumption | omega))))) (by (repeat (first | (with_reducible exact ST3.out.isp.low) | (with_reducible apply below_alloc) | (with_reducible apply pw_below_drewN) | (with_reducible apply below_drew1) | (with_reducible refine below_set ?_ (by first | assumption | omega)))))).1, (hc _ (by (repeat (first | (with_reducible exact Kept.refl _ _) | (with_reducible apply Kept.alloc) | (with_reducible apply Kept.drewN) | (with_reducible apply Kept.drew) | (with_reducible refine kept_at ?_ _ _) | (with_reducible refine kept_new ?_ _ _ (Nat.le_refl _)) | (with_reducible refine kept_new ?_ _ _ (by first | assumption | omega))))) (by (repeat (first | (with_reducible exact ST3.out.isp.low) | (with_reducible apply below_alloc) | (with_reducible apply pw_below_drewN) | (with_reducible apply below_drew1) | (with_reducible refine below_set ?_ (by first | assumption | omega)))))).2, gives_name _ _ _, fun h => absurd h (by show ¬ ((110 : Int) = 0); decide)⟩
      | cons t r =>
        have h1 : ¬ (t.f0 = 1) := hkd
        have e3 : (t.f0 == 1) = false := beq_eq_false_iff_ne.2 h1
        obtain ⟨ad, rfl, ct, hkl⟩ := htok t r rfl
        have n1 : (k : Int) < (N : Int) := by omega
        have n2 : decide ((k : Int) < (N : Int)) = true := decide_eq_true n1
        have had := World.block_lt_of_cell? _ _ ct
        have had2 : ¬ ((ad.add (k * 3)).block = w.heap.size) := by omega
        clear htok
        obtain ⟨L, hLL⟩ : ∃ L, L = t :: r := ⟨_, rfl⟩
        rw [← hLL] at hkd hR ST0
        clear hLL
        have HT := Aside0.mk (take_none hkd)
        rw [if_neg (fun h => hkd h.1), take_none hkd, if_pos (show (z61, L, (110 : Int)).2.2 ≠ 0 by simp)] at hR
        dsimp only at hR
        have HE := Aside0.mk hR
        have CO := Aside0.mk (fun w => epactref11_Op.calls 14 z61.f1 (opF z61.f1).1 (opF z61.f1).2 w (refOp_f z61.f1))
        rw [op_nil] at CO
        dsimp only at CO
        clear hR hkd hdp
        go_enter Tryd.func66, Tryd.ntmps66
        go_wp2_with fail
        go_quiet (fail)
        go_wp2_with fail
        have STd := Aside0.mk (ST0.out.later (pw_below_drewN (Below.refl _ _) nq))
        clear q0 q1 q2 q3 f2 ST0
        have ST1 := Aside0.mk (STd.out.at (STd.out.isp.more (p + 1)) (kept_at (Kept.refl _ _) 2 _))
        (with_reducible refine (rname_calls ST1.out.isp).mono ?_)
        rintro en w2 ⟨rfl, hI2, hk2⟩
        rw [show ∀ L, rtake [1] L 0 = takeF [1] L from fun L => if_pos rfl] at hI2 ⊢
        rw [HT.out] at hI2 ⊢
        have ST2 := Aside0.mk (ST1.out.at hI2 hk2)
        dsimp only at ST2 ⊢
        clear hI2 hk2 STd
        go_wp2_with fail
        (with_reducible refine (CO.out _).mono ?_)
        rintro en w3 ⟨rfl, hb3⟩
        have ST3 := Aside0.mk (ST2.out.later hb3)
        clear hb3
        have z0 := (blk_cell ST3.out.zero 0).trans (show zCells[0]? = some (Value.int .u8 0) from rfl)
        have y0 := blk_frozen ST3.out.zero 0
        have z1 := (blk_cell ST3.out.zero 1).trans (show zCells[1]? = some (Value.string nil8) from rfl)
        have y1 := blk_frozen ST3.out.zero 1
        have z2 := (blk_cell ST3.out.zero 2).trans (show zCells[2]? = some (Value.slice none 0 0) from rfl)
        have y2 := blk_frozen ST3.out.zero 2
        have z3 := (blk_cell ST3.out.zero 3).trans (show zCells[3]? = some (Value.slice none 0 0) from rfl)
        have y3 := blk_frozen ST3.out.zero 3
        go_wp2
        refine bodyPost_ret (results_c1 rfl _ _ _ TX _ (0, 0) _ rfl (blk_put (blk_put (blk_put (blk_put ST3.out.zero 0 _ rfl) 1 _ rfl) 2 _ rfl) 3 _ rfl) Tryd.underlying25 rfl info_x) rfl ?_
        have hc := fun W2 h1 h2 => ST3.out.close (W2 := W2) h1 h2
        rw [← HE.out]
        exact ⟨⟨0, z61.f1, [], []⟩, _, _, _, rfl, (hc _ (by (repeat (first | (with_reducible exact Kept.refl _ _) | (with_reducible apply Kept.alloc) | (with_reducible apply Kept.drewN) | (with_reducible apply Kept.drew) | (with_reducible refine kept_at ?_ _ _) | (with_reducible refine kept_new ?_ _ _ (Nat.le_refl _)) | (with_reducible refine kept_new ?_ _ _ (by first | assumption | omega))))) (by (repeat (first | (with_reducible exact ST3.out.isp.low) | (with_reducible apply below_alloc) | (with_reducible apply pw_below_drewN) | (with_reducible apply below_drew1) | (with_reducible refine below_set ?_ (by first | assumption | omega)))))).1, (hc _ (by (repeat (first | (with_reducible exact Kept.refl _ _) | (with_reducible apply Kept.alloc) | (with_reducible apply Kept.drewN) | (with_reducible apply Kept.drew) | (with_reducible refine kept_at ?_ _ _) | (with_reducible refine kept_new ?_ _ _ (Nat.le_refl _)) | (with_reducible refine kept_new ?_ _ _ (by first | assumption | omega))))) (by (repeat (first | (with_reducible exact ST3.out.isp.low) | (with_reducible apply below_alloc) | (with_reducible apply pw_below_drewN) | (with_reducible apply below_drew1) | (with_reducible refine below_set ?_ (by first | assumption | omega)))))).2, gives_name _ _ _, fun h => absurd h (by show ¬ ((110 : Int) = 0); decide)⟩
/-- The document's expression, when it may be so many deep. -/
theorem rexpr_calls (w0 : World) (g : Nat) (L0 : List Tok) : ∀ d : Nat, d ≤ 40 → RExprC w0 g L0 (41 - d) (exprF d)
  | 0, _ => rexprG_calls w0 g L0 (41 - (0 : Nat)) true (by decide) (by decide) (fun p L => ⟨zX, L, p, 111⟩) (fun h => by cases h) (fun p L h0 h1 => ⟨.inr (.inr rfl), List.suffix_refl L, Int.le_refl p, by show p ≤ 2001; omega, fun h => by cases h⟩)
  | d + 1, hd => by
    have ih := rexpr_calls w0 g L0 d (by omega)
    refine rexprG_calls w0 g L0 (41 - (d + 1 : Nat)) false (by simp; omega) (by omega) (exprF d) (fun _ => ?_) (expr_good d)
    rw [show (41 : Int) - (d + 1 : Nat) + 1 = 41 - (d : Int) by omega]
    exact ih
end Go.Proofs.YtjeofffddbibeaaDoor.Pa
end

section
namespace Go.Proofs.YtjeofffddbibeaaDoor.Pa
open Go Go.RowKit Go.Proofs.YtjeofffddbibeaaDoor.PParseTells Go.Proofs.YtjeofffddbibeaaDoor.Ex Go.Proofs.YtjeofffddbibeaaDoorW.PrintWords Go.Proofs.YtjeofffddbibeaaDoorW.PrintLast Go.Proofs.YtjeofffddbibeaaDoorW.PrintMore
set_option linter.unusedVariables false
set_option linter.unusedSimpArgs false
theorem end_f (L0 L : List Tok) (k : Nat) (p e : Int) (hk : k ≤ L0.length) (hL : L0.drop k = L) : ∃ e', epactref11_reader_end.f 1 L0 k p e = some ((placeF L0.length L e).1, (placeF L0.length L e).2, (k : Int), p, e') := by
  have hl : (L0.length : Int) - L.length = k := by
    have := congrArg List.length hL
    rw [List.length_drop] at this
    omega
  unfold epactref11_reader_end.f epactref11_reader_end.j0 placeF
  dsimp only
  rw [hl]
  by_cases he : e = 0
  · subst he
    rw [if_pos rfl, if_pos rfl]
    by_cases hz : L = []
    · have hk' := rd_end L0 k hk (hL.trans hz)
      rw [if_pos hz, decide_eq_false (by omega), if_neg (by simp), if_pos rfl]
      exact ⟨_, rfl⟩
    · have hk' : k < L0.length := by
        rcases Nat.lt_or_ge k L0.length with h | h
        · exact h
        · rw [List.drop_of_length_le h] at hL; exact absurd hL.symm hz
      rw [if_neg hz, decide_eq_true (by omega), if_pos rfl, if_neg (by decide)]
      exact ⟨_, rfl⟩
  · rw [if_neg he, if_neg he, if_neg (by simp), if_neg he]
    exact ⟨_, rfl⟩
def half (s : ByteArray) (L : List Tok) (e : Int) : Int × Bool × List Tok × Int :=
  if (decide (e = 0) && isF s L) = true then (0, false, (rmark s L e).1, (rmark s L e).2)
  else ((rtake [2, 3] L e).1.f2, true, (rmark s (rtake [2, 3] L e).2.1 (rtake [2, 3] L e).2.2).1, (rmark s (rtake [2, 3] L e).2.1 (rtake [2, 3] L e).2.2).2)
theorem half_good (s : ByteArray) (L : List Tok) : (half s L 0).2.2 = (endF s L).2.2 ∧ ((endF s L).2.2.2 = 0 → (half s L 0).1 = (endF s L).1 ∧ (half s L 0).2.1 = (endF s L).2.1) := by
  have h0 : ∀ L, rmark s L 0 = markF s L := fun L => if_pos rfl
  have h1 : rtake [2, 3] L 0 = numF L := if_pos rfl
  unfold half endF
  rw [h1]
  cases hi : isF s L with
  | true =>
    rw [if_pos (by simp), if_pos rfl, h0]
    exact ⟨rfl, fun _ => ⟨rfl, rfl⟩⟩
  | false =>
    rw [if_neg (by simp), if_neg (by simp)]
    by_cases hz : (numF L).2.2 = 0
    · rw [if_pos hz, hz, h0]
      exact ⟨rfl, fun h => ⟨rfl, (decide_eq_true h).symm⟩⟩
    · rw [if_neg hz]
      unfold rmark
      rw [if_neg hz]
      exact ⟨rfl, fun h => absurd h hz⟩
theorem half_dead (s : ByteArray) (L : List Tok) (e : Int) (he : e ≠ 0) : (half s L e).2.2 = (L, e) := by
  unfold half rmark rtake
  rw [if_neg (by simp [he]), if_neg he, if_neg he]
def rsc (L : List Tok) (e : Int) : Rng := if e = 0 then scopeF L else ⟨0, 0, false, false, L, e⟩
/-- The document's range is the program's. -/
theorem halves (L : List Tok) (e : Int) :
    (half RBR (half CLN (rmark LBR L e).1 (rmark LBR L e).2).2.2.1 (half CLN (rmark LBR L e).1 (rmark LBR L e).2).2.2.2).2.2 = ((rsc L e).l, (rsc L e).e) ∧
    ((rsc L e).e = 0 → (half CLN (rmark LBR L e).1 (rmark LBR L e).2).1 = (rsc L e).lo ∧ (half CLN (rmark LBR L e).1 (rmark LBR L e).2).2.1 = (rsc L e).hl ∧
      (half RBR (half CLN (rmark LBR L e).1 (rmark LBR L e).2).2.2.1 (half CLN (rmark LBR L e).1 (rmark LBR L e).2).2.2.2).1 = (rsc L e).hi ∧ (half RBR (half CLN (rmark LBR L e).1 (rmark LBR L e).2).2.2.1 (half CLN (rmark LBR L e).1 (rmark LBR L e).2).2.2.2).2.1 = (rsc L e).hh) := by
  unfold rsc
  by_cases he : e = 0
  · subst he
    rw [if_pos rfl, show rmark LBR L 0 = markF LBR L from if_pos rfl]
    unfold scopeF
    by_cases hm : (markF LBR L).2 = 0
    · rw [hm, if_neg (by simp)]
      obtain ⟨g1, g2⟩ := half_good CLN (markF LBR L).1
      by_cases h2 : (endF CLN (markF LBR L).1).2.2.2 = 0
      · rw [if_neg (by rw [h2]; simp)]
        obtain ⟨g3, g4⟩ := g2 h2
        obtain ⟨k1, k2⟩ := half_good RBR (endF CLN (markF LBR L).1).2.2.1
        have e1 : (half CLN (markF LBR L).1 0).2.2.1 = (endF CLN (markF LBR L).1).2.2.1 := by rw [g1]
        have e2 : (half CLN (markF LBR L).1 0).2.2.2 = 0 := by rw [g1]; exact h2
        rw [e1, e2]
        exact ⟨k1, fun h => ⟨g3, g4, (k2 h).1, (k2 h).2⟩⟩
      · rw [if_pos h2]
        have e1 : (half CLN (markF LBR L).1 0).2.2.1 = (endF CLN (markF LBR L).1).2.2.1 := by rw [g1]
        have e2 : (half CLN (markF LBR L).1 0).2.2.2 = (endF CLN (markF LBR L).1).2.2.2 := by rw [g1]
        rw [e1, e2, half_dead RBR _ _ h2]
        exact ⟨rfl, fun h => absurd h h2⟩
    · rw [if_pos hm, half_dead CLN _ _ hm, half_dead RBR _ _ hm]
      exact ⟨rfl, fun h => absurd h hm⟩
  · rw [if_neg he, show rmark LBR L e = (L, e) from if_neg he, half_dead CLN _ _ he, half_dead RBR _ _ he]
    exact ⟨rfl, fun h => absurd h he⟩
theorem scope_f (L0 L : List Tok) (k : Nat) (p e : Int) (hk : k ≤ L0.length) (hL : L0.drop k = L) (hm : L0.length ≤ 9223372036854775800) :
    ∃ (lo hi : Int) (hl hh : Bool) (k' : Nat), k' ≤ L0.length ∧ L0.drop k' = (rsc L e).l ∧ epactref11_reader_scope.f 1 L0 k p e = some (lo, hi, hl, hh, (k' : Int), p, (rsc L e).e) ∧
      ((rsc L e).e = 0 → lo = (rsc L e).lo ∧ hi = (rsc L e).hi ∧ hl = (rsc L e).hl ∧ hh = (rsc L e).hh) := by
  obtain ⟨hA, hB⟩ := halves L e
  obtain ⟨k1, a1, a2, a3⟩ := mark_f LBR L0 L k p e hk hL hm
  unfold epactref11_reader_scope.f
  rw [show epactref11_reader_mark.f L0 k p e ⟨#[91]⟩ = _ from a3, Option.bind_some]
  dsimp only
  rw [show epactref11_reader_is.f L0 k1 p (rmark LBR L e).2 ⟨#[58]⟩ = _ from is_f CLN L0 _ k1 p _ a1 a2, Option.bind_some]
  dsimp only
  generalize rmark LBR L e = m at *
  -- the first half
  have first : ∀ (k2 : Nat) (L2 : List Tok) (e2 lo : Int) (hl : Bool), k2 ≤ L0.length → L0.drop k2 = L2 → half CLN m.1 m.2 = (lo, hl, (rmark CLN L2 e2).1, (rmark CLN L2 e2).2) →
      ∃ (lo' hi : Int) (hl' hh : Bool) (k' : Nat), k' ≤ L0.length ∧ L0.drop k' = (rsc L e).l ∧ epactref11_reader_scope.j0 1 L0 k2 p e2 lo 0 hl false = some (lo', hi, hl', hh, (k' : Int), p, (rsc L e).e) ∧ ((rsc L e).e = 0 → lo' = (rsc L e).lo ∧ hi = (rsc L e).hi ∧ hl' = (rsc L e).hl ∧ hh = (rsc L e).hh) := by
    intro k2 L2 e2 lo hl c1 c2 hh1
    rw [hh1] at hA hB
    dsimp only at hA hB
    obtain ⟨k3, b1, b2, b3⟩ := mark_f CLN L0 L2 k2 p e2 c1 c2 hm
    unfold epactref11_reader_scope.j0
    dsimp only
    rw [show epactref11_reader_mark.f L0 k2 p e2 ⟨#[58]⟩ = _ from b3, Option.bind_some]
    dsimp only
    rw [show epactref11_reader_is.f L0 k3 p (rmark CLN L2 e2).2 ⟨#[93]⟩ = _ from is_f RBR L0 _ k3 p _ b1 b2, Option.bind_some]
    dsimp only
    generalize rmark CLN L2 e2 = n at *
    unfold half at hA hB
    by_cases hi : (decide (n.2 = 0) && isF RBR n.1) = true
    · rw [if_pos hi] at hA hB ⊢
      dsimp only at hA hB
      obtain ⟨k4, d1, d2, d3⟩ := mark_f RBR L0 n.1 k3 p n.2 b1 b2 hm
      rw [show epactref11_reader_mark.f L0 k3 p n.2 ⟨#[93]⟩ = _ from d3, Option.bind_some]
      injection hA with hA1 hA2
      refine ⟨lo, 0, hl, false, k4, d1, d2.trans hA1, ?_, fun h => ?_⟩
      · dsimp only; rw [hA2]
      · obtain ⟨x1, x2, x3, x4⟩ := hB h
        exact ⟨x1, x3, x2, x4⟩
    · rw [if_neg hi] at hA hB ⊢
      dsimp only at hA hB
      obtain ⟨k4, d1, d2, d3⟩ := number_f L0 n.1 k3 p n.2 b1 b2 hm
      rw [d3, Option.bind_some]
      dsimp only
      obtain ⟨k5, f1, f2, f3⟩ := mark_f RBR L0 _ k4 p _ d1 d2 hm
      rw [show epactref11_reader_mark.f L0 k4 p (rtake [2, 3] n.1 n.2).2.2 ⟨#[93]⟩ = _ from f3, Option.bind_some]
      injection hA with hA1 hA2
      refine ⟨lo, (rtake [2, 3] n.1 n.2).1.f2, hl, true, k5, f1, f2.trans hA1, ?_, fun h => ?_⟩
      · dsimp only; rw [hA2]
      · obtain ⟨x1, x2, x3, x4⟩ := hB h
        exact ⟨x1, x3, x2, x4⟩
  by_cases hi : (decide (m.2 = 0) && isF CLN m.1) = true
  · rw [if_pos hi]
    exact first k1 m.1 m.2 0 false a1 a2 (by unfold half; rw [if_pos hi])
  · rw [if_neg hi]
    obtain ⟨k4, d1, d2, d3⟩ := number_f L0 m.1 k1 p m.2 a1 a2 hm
    rw [d3, Option.bind_some]
    dsimp only
    exact first k4 _ _ _ true d1 d2 (by unfold half; rw [if_neg hi])
section
variable {w0 w W W2 : World} {g : Nat} {L0 L : List Tok} {p e : Int}
theorem rend_calls (h : RdR w0 w g L0 L p e) : Calls Tryd.prog 67 #[.pointer (some ⟨g, 0, none⟩)] w fun en w' => en = .returned (.tuple #[.int .i64 (placeF L0.length L e).1, .int .i64 (placeF L0.length L e).2]) ∧ Below w0.heap.size w0 w' ∧ Kept w w' (At g) := by
  obtain ⟨k, h1, h2, h3, h6, h7⟩ := h
  obtain ⟨e', he⟩ := end_f L0 L k p e h1 h2
  refine (epactref11_reader_end.calls 1 g L0 k p e _ _ k p e' w0 w h3 h6 he).mono ?_
  rintro en w' ⟨rfl, hI, hB, hK⟩
  exact ⟨rfl, hB, keep_kept hK⟩
theorem rscope_calls (h : RdR w0 w g L0 L p e) : Calls Tryd.prog 71 #[.pointer (some ⟨g, 0, none⟩)] w fun en w' => ∃ (lo hi : Int) (hl hh : Bool), en = .returned (.agg (rCells lo hi hl hh)) ∧ RdR w0 w' g L0 (rsc L e).l p (rsc L e).e ∧ Kept w w' (At g) ∧ ((rsc L e).e = 0 → lo = (rsc L e).lo ∧ hi = (rsc L e).hi ∧ hl = (rsc L e).hl ∧ hh = (rsc L e).hh) := by
  obtain ⟨k, h1, h2, h3, h6, h7⟩ := h
  obtain ⟨lo, hi, hl, hh, k', q1, q2, q3, q4⟩ := scope_f L0 L k p e h1 h2 h7
  refine (epactref11_reader_scope.calls 1 g L0 k p e lo hi hl hh k' p _ w0 w h3 h6 q3).mono ?_
  rintro en w' ⟨rfl, hI, hB, hK⟩
  exact ⟨lo, hi, hl, hh, rfl, ⟨k', q1, q2, hI, hB, h7⟩, keep_kept hK, q4⟩
end
theorem place_ok {a : Int} {L : List Tok} {e : Int} (h : (placeF a L e).2 = 0) : e = 0 ∧ (placeF a L e).1 = -1 := by
  unfold placeF at h ⊢
  by_cases he : e = 0
  · rw [if_pos he] at h ⊢
    by_cases hL : L = []
    · rw [if_pos hL] at h ⊢
      exact ⟨he, rfl⟩
    · rw [if_neg hL] at h
      cases h
  · rw [if_neg he] at h
    exact absurd h he
set_option maxHeartbeats 16000000 in
set_option maxRecDepth 100000 in
theorem rExpr_calls (L : List Tok) (A : Option Addr) (n c : Nat) (w : World) (hn : n = L.length) (hC : Kd.C k61 w A L.length L) (hc : L.length ≤ c) (hB9 : L.length ≤ 9223372036854775800) :
    Calls Tryd.prog 37 #[.slice A n c] w fun e w' => ∃ v2 v3, e = .returned (.tuple #[ag (parseE L).1 v2 v3, .int .i64 (parseE L).2.1, .int .i64 (parseE L).2.2]) ∧ Gives w w' (parseE L).1 v2 v3 ∧ Below w.heap.size w w' := by
  subst hn
  obtain ⟨N, hN⟩ : ∃ N, N = L.length := ⟨_, rfl⟩
  have b2 := blk_new w (.cells zCells TX (0, 0))
  have hs : ∀ (W : World) o, (W.alloc o).heap.size = W.heap.size + 1 := fun W o => Array.size_push ..
  have b3 := blk_new (w.alloc (.cells zCells TX (0, 0))) (.cells #[.slice A N c, .int .i64 0, .int .i64 0, .int .i64 0] 101)
  rw [hs] at b3
  have HI := Aside0.mk (show RdR w ((w.alloc (.cells zCells TX (0, 0))).alloc (.cells #[.slice A N c, .int .i64 0, .int .i64 0, .int .i64 0] 101)) (w.heap.size + 1) L L 0 0 from
    ⟨0, Nat.zero_le _, rfl, ⟨A, c, by rw [← hN]; exact b3, by omega, hC⟩, below_alloc (below_alloc (Below.refl _ _) _) _, hB9⟩)
  have hce := rexpr_calls w (w.heap.size + 1) L 40 (by omega)
  rw [show (41 : Int) - ((40 : Nat) : Int) = 1 by decide] at hce
  have CE := Aside0.mk (fun W h => hce L 0 0 W h (fun _ => ⟨Int.le_refl 0, by omega⟩))
  rw [show rex (exprF 40) L 0 0 = exprF 40 0 L from if_pos rfl] at CE
  obtain ⟨x, L1, p1, e1, hx⟩ : ∃ x L1 p1 e1, exprF 40 0 L = Res.mk x L1 p1 e1 := ⟨_, _, _, _, rfl⟩
  have hE : parseE L = topF L.length (exprF 40 0 L) := rfl
  rw [hx] at CE hE
  rw [hE]
  dsimp only at CE
  unfold topF
  dsimp only
  obtain ⟨at1, e2, hp⟩ : ∃ at1 e2, placeF L.length L1 e1 = (at1, e2) := ⟨_, _, rfl⟩
  have hpo : e2 = 0 → e1 = 0 ∧ at1 = -1 := fun h => by
    have := place_ok (a := L.length) (L := L1) (e := e1) (by rw [hp]; exact h)
    rw [hp] at this
    exact this
  rw [hp]
  have HP := Aside0.mk hp
  dsimp only
  have B2 := Aside0.mk (show ((w.alloc (.cells zCells TX (0, 0))).alloc (.cells #[.slice A N c, .int .i64 0, .int .i64 0, .int .i64 0] 101)).heap[w.heap.size]? = some (.cells zCells TX (0, 0)) from blk_alloc b2 _)
  have HZ2 := Aside0.mk (show ((w.alloc (.cells zCells TX (0, 0))).alloc (.cells #[.slice A N c, .int .i64 0, .int .i64 0, .int .i64 0] 101)).heap.size = w.heap.size + 1 + 1 by rw [hs, hs])
  rw [← hN]
  clear hC hE hx hp b2 b3 hs hN hce hB9 hc
  have main : ∀ K, K = (if e2 ≠ 0 then (zX, at1, e2) else (x, at1, 0)) → Calls Tryd.prog 37 #[.slice A N c] w fun e w' => ∃ v2 v3, e = .returned (.tuple #[ag K.1 v2 v3, .int .i64 K.2.1, .int .i64 K.2.2]) ∧ Gives w w' K.1 v2 v3 ∧ Below w.heap.size w w' := by
    intro K hK
    by_cases he : e2 ≠ 0
    · have f1 : (e2 != 0) = true := bne_iff_ne.2 he
      have f2 : (e2 == 0) = false := beq_eq_false_iff_ne.2 he
      rw [if_pos he] at hK
      subst hK
      clear hpo
      go_enter Tryd.func37, Tryd.ntmps37
      go_wp2_with fail
      (with_reducible refine (CE.out _ HI.out).mono ?_)
      rintro en w3 ⟨x', p', v5, v6, rfl, hI3, hk3, hg3, hx3⟩
      obtain ⟨A5, c5, A6, c6, rfl, rfl⟩ := hg3.slices
      have HG := Aside0.mk (hg3.later (below_alloc (Below.refl _ _) (.cells #[.int .u8 x'.f0, .string x'.f1, .slice A5 x'.f2.length c5, .slice A6 x'.f3.length c6] TX)))
      have HI4 := Aside0.mk (hI3.keep (below_alloc (Below.refl _ _) (.cells #[.int .u8 x'.f0, .string x'.f1, .slice A5 x'.f2.length c5, .slice A6 x'.f3.length c6] TX)))
      have z3 := blk_kept B2.out hk3 (fun h => by have h1 : w.heap.size = w.heap.size + 1 := h; omega)
      have Z4 := Aside0.mk (blk_alloc z3 (.cells #[.int .u8 x'.f0, .string x'.f1, .slice A5 x'.f2.length c5, .slice A6 x'.f3.length c6] TX))
      have q60 := blk_new w3 (.cells #[.int .u8 x'.f0, .string x'.f1, .slice A5 x'.f2.length c5, .slice A6 x'.f3.length c6] TX)
      have lt3 := Nat.le_trans (Nat.le_of_eq HZ2.out.symm) hk3.1
      clear hI3 hk3 hg3 CE z3
      go_wp2_with fail
      (with_reducible refine (rend_calls HI4.out).mono ?_)
      rintro en w4 ⟨rfl, hB4, hk4⟩
      rw [HP.out]
      have HB4 := Aside0.mk hB4
      have ZZ := Aside0.mk (blk_kept Z4.out hk4 (fun h => by have h1 : w.heap.size = w.heap.size + 1 := h; omega))
      have q6 := blk_kept q60 hk4 (fun h => by have h1 : w3.heap.size = w.heap.size + 1 := h; omega)
      have x0 : w4.cell? ⟨w3.heap.size, 0, none⟩ = some (.int .u8 x'.f0) := (blk_cell q6 0).trans rfl
      have x1 : w4.cell? ⟨w3.heap.size, 1, none⟩ = some (.string x'.f1) := (blk_cell q6 1).trans rfl
      have x2 : w4.cell? ⟨w3.heap.size, 2, none⟩ = some (.slice A5 x'.f2.length c5) := (blk_cell q6 2).trans rfl
      have x3 : w4.cell? ⟨w3.heap.size, 3, none⟩ = some (.slice A6 x'.f3.length c6) := (blk_cell q6 3).trans rfl
      have HG4 := Aside0.mk (M_at HG.out hk4 (by have := HZ2.out; omega))
      clear hB4 hk4 q60 q6 HI4
      have z0 := (blk_cell ZZ.out 0).trans (show zCells[0]? = some (Value.int .u8 0) from rfl)
      have y0 := blk_frozen ZZ.out 0
      have z1 := (blk_cell ZZ.out 1).trans (show zCells[1]? = some (Value.string nil8) from rfl)
      have y1 := blk_frozen ZZ.out 1
      have z2 := (blk_cell ZZ.out 2).trans (show zCells[2]? = some (Value.slice none 0 0) from rfl)
      have y2 := blk_frozen ZZ.out 2
      have z3 := (blk_cell ZZ.out 3).trans (show zCells[3]? = some (Value.slice none 0 0) from rfl)
      have y3 := blk_frozen ZZ.out 3
      go_wp2
      refine bodyPost_ret (results_ctt rfl _ _ _ TX _ (0, 0) _ rfl (blk_put (blk_put (blk_put (blk_put ZZ.out 0 _ rfl) 1 _ rfl) 2 _ rfl) 3 _ rfl) Tryd.underlying25 rfl info_x) rfl ?_
      exact ⟨_, _, rfl, gives_zero _ _, by (repeat (first | (with_reducible exact HB4.out) | (with_reducible apply below_alloc) | (with_reducible apply pw_below_drewN) | (with_reducible apply below_drew1) | (with_reducible refine below_set ?_ (by first | assumption | omega))))⟩
    · have he0 : e2 = 0 := by omega
      obtain ⟨rfl, rfl⟩ := hpo he0
      subst he0
      rw [if_neg he] at hK
      subst hK
      clear hpo he
      go_enter Tryd.func37, Tryd.ntmps37
      go_wp2_with fail
      (with_reducible refine (CE.out _ HI.out).mono ?_)
      rintro en w3 ⟨x', p', v5, v6, rfl, hI3, hk3, hg3, hx3⟩
      obtain rfl : x' = x := (hx3 (by trivial)).1
      obtain ⟨A5, c5, A6, c6, rfl, rfl⟩ := hg3.slices
      have HG := Aside0.mk (hg3.later (below_alloc (Below.refl _ _) (.cells #[.int .u8 x'.f0, .string x'.f1, .slice A5 x'.f2.length c5, .slice A6 x'.f3.length c6] TX)))
      have HI4 := Aside0.mk (hI3.keep (below_alloc (Below.refl _ _) (.cells #[.int .u8 x'.f0, .string x'.f1, .slice A5 x'.f2.length c5, .slice A6 x'.f3.length c6] TX)))
      have z3 := blk_kept B2.out hk3 (fun h => by have h1 : w.heap.size = w.heap.size + 1 := h; omega)
      have Z4 := Aside0.mk (blk_alloc z3 (.cells #[.int .u8 x'.f0, .string x'.f1, .slice A5 x'.f2.length c5, .slice A6 x'.f3.length c6] TX))
      have q60 := blk_new w3 (.cells #[.int .u8 x'.f0, .string x'.f1, .slice A5 x'.f2.length c5, .slice A6 x'.f3.length c6] TX)
      have lt3 := Nat.le_trans (Nat.le_of_eq HZ2.out.symm) hk3.1
      clear hI3 hk3 hg3 CE z3
      go_wp2_with fail
      (with_reducible refine (rend_calls HI4.out).mono ?_)
      rintro en w4 ⟨rfl, hB4, hk4⟩
      rw [HP.out]
      have HB4 := Aside0.mk hB4
      have ZZ := Aside0.mk (blk_kept Z4.out hk4 (fun h => by have h1 : w.heap.size = w.heap.size + 1 := h; omega))
      have q6 := blk_kept q60 hk4 (fun h => by have h1 : w3.heap.size = w.heap.size + 1 := h; omega)
      have x0 : w4.cell? ⟨w3.heap.size, 0, none⟩ = some (.int .u8 x'.f0) := (blk_cell q6 0).trans rfl
      have x1 : w4.cell? ⟨w3.heap.size, 1, none⟩ = some (.string x'.f1) := (blk_cell q6 1).trans rfl
      have x2 : w4.cell? ⟨w3.heap.size, 2, none⟩ = some (.slice A5 x'.f2.length c5) := (blk_cell q6 2).trans rfl
      have x3 : w4.cell? ⟨w3.heap.size, 3, none⟩ = some (.slice A6 x'.f3.length c6) := (blk_cell q6 3).trans rfl
      have HG4 := Aside0.mk (M_at HG.out hk4 (by have := HZ2.out; omega))
      clear hB4 hk4 q60 q6 HI4
      have z0 := (blk_cell ZZ.out 0).trans (show zCells[0]? = some (Value.int .u8 0) from rfl)
      have y0 := blk_frozen ZZ.out 0
      have z1 := (blk_cell ZZ.out 1).trans (show zCells[1]? = some (Value.string nil8) from rfl)
      have y1 := blk_frozen ZZ.out 1
      have z2 := (blk_cell ZZ.out 2).trans (show zCells[2]? = some (Value.slice none 0 0) from rfl)
      have y2 := blk_frozen ZZ.out 2
      have z3 := (blk_cell ZZ.out 3).trans (show zCells[3]? = some (Value.slice none 0 0) from rfl)
      have y3 := blk_frozen ZZ.out 3
      go_wp2
      refine bodyPost_ret (results_ctt rfl _ _ _ TX _ (0, 0) _ rfl (blk_put (blk_put (blk_put (blk_put ZZ.out 0 _ rfl) 1 _ rfl) 2 _ rfl) 3 _ rfl) Tryd.underlying25 rfl info_x) rfl ?_
      refine ⟨_, _, rfl, kX.M_lower ?_ (Gives.step (w := (w.alloc (.cells zCells TX (0, 0))).alloc (.cells #[.slice A N c, .int .i64 0, .int .i64 0, .int .i64 0] 101)) HG4.out ?_), by (repeat (first | (with_reducible exact HB4.out) | (with_reducible apply below_alloc) | (with_reducible apply pw_below_drewN) | (with_reducible apply below_drew1) | (with_reducible refine below_set ?_ (by first | assumption | omega))))⟩
      · rw [HZ2.out]; omega
      · refine Kept.mono (S := At w.heap.size) ?_ (fun k hk => by have h1 : k = w.heap.size := hk; rw [HZ2.out]; omega)
        (repeat (first | (with_reducible exact Kept.refl _ _) | (with_reducible apply Kept.alloc) | (with_reducible apply Kept.drewN) | (with_reducible apply Kept.drew) | (with_reducible refine kept_at ?_ _ _) | (with_reducible refine kept_new ?_ _ _ (Nat.le_refl _)) | (with_reducible refine kept_new ?_ _ _ (by first | assumption | omega))))
  exact main _ rfl
end Go.Proofs.YtjeofffddbibeaaDoor.Pa
end

section
namespace Go.Proofs.YtjeofffddbibeaaDoor.Pa
open Go Go.RowKit Go.Proofs.YtjeofffddbibeaaDoor.PParseTells Go.Proofs.YtjeofffddbibeaaDoor.Ex Go.Proofs.YtjeofffddbibeaaDoorW.PrintWords Go.Proofs.YtjeofffddbibeaaDoorW.PrintLast Go.Proofs.YtjeofffddbibeaaDoorW.PrintMore
set_option linter.unusedVariables false
set_option linter.unusedSimpArgs false
/-- Within a command: the parser, and the command's box; its rows lie from B on. -/
structure RaSt (w0 W : World) (g b B : Nat) (L0 L : List Tok) (p e : Int) (c : Cmd) (vN vM v2 v3 : Value) : Prop where
  isp : RdR w0 W g L0 L p e
  box : W.heap[b]? = some (.cells (cCells c vN vM v2 v3) TC (0, 0))
  names : kT.R TS W B (fun _ => True) vN c.names
  nums : kI.R 2 W B (fun _ => True) vM c.nums
  expr : kX.M W B (fun _ => True) c.x [.int .u8 c.x.f0, .string c.x.f1, v2, v3]
  gb : g < b
  bB : b < B
section
variable {w0 w W W2 : World} {g b B : Nat} {L0 L L2 : List Tok} {p p2 e e2 : Int} {c : Cmd} {vN vM v2 v3 : Value}
theorem RaSt.at (h : RaSt w0 W g b B L0 L p e c vN vM v2 v3) (hI : RdR w0 W2 g L0 L2 p2 e2) (hk : Kept W W2 (At g)) : RaSt w0 W2 g b B L0 L2 p2 e2 c vN vM v2 v3 := by
  have h1 := h.gb
  have h2 := h.bB
  exact ⟨hI, blk_kept h.box hk (fun hs => by have : b = g := hs; omega), R_at h.names hk (by omega), R_at h.nums hk (by omega), M_at h.expr hk (by omega), h1, h2⟩
theorem RaSt.later (h : RaSt w0 W g b B L0 L p e c vN vM v2 v3) (hb : Below W.heap.size W W2) : RaSt w0 W2 g b B L0 L p e c vN vM v2 v3 := h.at (h.isp.keep hb) (Kept.of_below hb _)
theorem RaSt.lt (h : RaSt w0 W g b B L0 L p e c vN vM v2 v3) : b < W.heap.size := blk_lt h.box
theorem RaSt.grown_isp (h : RaSt w0 W g b B L0 L p e c vN vM v2 v3) (hB : B ≤ W.heap.size) {row : Option Nat} (hg : W.grownBy W2 row) (hr : ∀ k, row = some k → B ≤ k) : RdR w0 W2 g L0 L p e := by
  have h1 := h.gb
  have h2 := h.bB
  have h4 := h.isp.ge
  exact h.isp.mv (S := fun k => B ≤ k) (Kept.of_grown hg (Kept.refl W _) (fun k hk => .inl (hr k hk))) (h.isp.low.grown hg (by omega) (fun k hk => by have := hr k hk; omega)) (by show ¬ (B ≤ g); omega)
theorem RaSt.grown_box (h : RaSt w0 W g b B L0 L p e c vN vM v2 v3) {row : Option Nat} (hg : W.grownBy W2 row) (hr : ∀ k, row = some k → B ≤ k) : W2.heap[b]? = some (.cells (cCells c vN vM v2 v3) TC (0, 0)) :=
  (hg.block b h.lt (fun he => by have := hr b he.symm; have := h.bB; omega)).trans h.box
theorem RaSt.setNames (h : RaSt w0 W g b B L0 L p e c vN vM sN sN) (hx : c.x = zX) (hB : B ≤ W.heap.size) {t : ByteArray} {u : Value} (hR : kT.R TS W2 B (fun _ => True) u (c.names ++ [t])) (hg : W.grownBy W2 vN.ownBlock) :
    RaSt w0 (W2.setCell ⟨b, 1, none⟩ u) g b B L0 L p e { c with names := c.names ++ [t] } u vM sN sN := by
  have h1 := h.gb
  have h2 := h.bB
  have h4 := h.isp.ge
  have hr := Kd.R_base h.names
  have hI := h.grown_isp hB hg hr
  exact ⟨hI.mv (S := At b) (by (repeat (first | (with_reducible exact Kept.refl _ _) | (with_reducible apply Kept.alloc) | (with_reducible apply Kept.drewN) | (with_reducible apply Kept.drew) | (with_reducible refine kept_at ?_ _ _) | (with_reducible refine kept_new ?_ _ _ (Nat.le_refl _)) | (with_reducible refine kept_new ?_ _ _ (by first | assumption | omega))))) (below_set hI.low (by show _ ≤ b; omega)) (by show ¬ (g = b); omega), blk_put (h.grown_box hg hr) 1 u rfl,
    R_put hR h2 1 u, R_put (Kd.R_over h.nums h.names (fun q hq => by simp [Kd.E, kI, Kd.int, Kd.scalar] at hq; subst hq; decide) hg) h2 1 u, by
      show kX.M _ B _ c.x [.int .u8 c.x.f0, .string c.x.f1, sN, sN]
      rw [hx]
      exact k25_mkM _ _ _ zX (Kd.R_nil _ _ _ _ _) (Kd.R_nil _ _ _ _ _), h1, h2⟩
theorem RaSt.setNums (h : RaSt w0 W g b B L0 L p e c vN vM sN sN) (hx : c.x = zX) (hB : B ≤ W.heap.size) {n : Int} {u : Value} (hR : kI.R 2 W2 B (fun _ => True) u (c.nums ++ [n])) (hg : W.grownBy W2 vM.ownBlock) :
    RaSt w0 (W2.setCell ⟨b, 2, none⟩ u) g b B L0 L p e { c with nums := c.nums ++ [n] } vN u sN sN := by
  have h1 := h.gb
  have h2 := h.bB
  have h4 := h.isp.ge
  have hr := Kd.R_base h.nums
  have hI := h.grown_isp hB hg hr
  exact ⟨hI.mv (S := At b) (by (repeat (first | (with_reducible exact Kept.refl _ _) | (with_reducible apply Kept.alloc) | (with_reducible apply Kept.drewN) | (with_reducible apply Kept.drew) | (with_reducible refine kept_at ?_ _ _) | (with_reducible refine kept_new ?_ _ _ (Nat.le_refl _)) | (with_reducible refine kept_new ?_ _ _ (by first | assumption | omega))))) (below_set hI.low (by show _ ≤ b; omega)) (by show ¬ (g = b); omega), blk_put (h.grown_box hg hr) 2 u rfl,
    R_put (Kd.R_over h.names h.nums (fun q hq => by simp [Kd.E, kT, Kd.string, Kd.scalar] at hq; subst hq; decide) hg) h2 2 u, R_put hR h2 2 u, by
      show kX.M _ B _ c.x [.int .u8 c.x.f0, .string c.x.f1, sN, sN]
      rw [hx]
      exact k25_mkM _ _ _ zX (Kd.R_nil _ _ _ _ _) (Kd.R_nil _ _ _ _ _), h1, h2⟩
theorem RaSt.setRange (h : RaSt w0 W g b B L0 L p e c vN vM sN sN) (hx : c.x = zX) (r : Rng) :
    RaSt w0 ((((W.setCell ⟨b, 3, none⟩ (.int .i64 r.lo)).setCell ⟨b, 4, none⟩ (.int .i64 r.hi)).setCell ⟨b, 5, none⟩ (.bool r.hl)).setCell ⟨b, 6, none⟩ (.bool r.hh)) g b B L0 L p e { c with lo := r.lo, hi := r.hi, hl := r.hl, hh := r.hh } vN vM sN sN := by
  have h1 := h.gb
  have h2 := h.bB
  have h4 := h.isp.ge
  have hw0 : w0.heap.size ≤ b := by omega
  exact ⟨h.isp.mv (S := At b) (by (repeat (first | (with_reducible exact Kept.refl _ _) | (with_reducible apply Kept.alloc) | (with_reducible apply Kept.drewN) | (with_reducible apply Kept.drew) | (with_reducible refine kept_at ?_ _ _) | (with_reducible refine kept_new ?_ _ _ (Nat.le_refl _)) | (with_reducible refine kept_new ?_ _ _ (by first | assumption | omega))))) (by (repeat (first | (with_reducible exact h.isp.low) | (with_reducible apply below_alloc) | (with_reducible apply pw_below_drewN) | (with_reducible apply below_drew1) | (with_reducible refine below_set ?_ (by first | assumption | omega))))) (by show ¬ (g = b); omega), blk_put (blk_put (blk_put (blk_put h.box 3 _ rfl) 4 _ rfl) 5 _ rfl) 6 _ rfl,
    R_put (R_put (R_put (R_put h.names h2 3 _) h2 4 _) h2 5 _) h2 6 _, R_put (R_put (R_put (R_put h.nums h2 3 _) h2 4 _) h2 5 _) h2 6 _, by
      show kX.M _ B _ c.x [.int .u8 c.x.f0, .string c.x.f1, sN, sN]
      rw [hx]
      exact k25_mkM _ _ _ zX (Kd.R_nil _ _ _ _ _) (Kd.R_nil _ _ _ _ _), h1, h2⟩
theorem RaSt.setExpr (h : RaSt w0 W g b B L0 L p e c vN vM v2 v3) {x : X} {u2 u3 : Value} (hx : kX.M W B (fun _ => True) x [.int .u8 x.f0, .string x.f1, u2, u3]) :
    RaSt w0 ((((W.setCell ⟨b, 7, none⟩ (.int .u8 x.f0)).setCell ⟨b, 8, none⟩ (.string x.f1)).setCell ⟨b, 9, none⟩ u2).setCell ⟨b, 10, none⟩ u3) g b B L0 L p e { c with x := x } vN vM u2 u3 := by
  have h1 := h.gb
  have h2 := h.bB
  have h4 := h.isp.ge
  have hw0 : w0.heap.size ≤ b := by omega
  exact ⟨h.isp.mv (S := At b) (by (repeat (first | (with_reducible exact Kept.refl _ _) | (with_reducible apply Kept.alloc) | (with_reducible apply Kept.drewN) | (with_reducible apply Kept.drew) | (with_reducible refine kept_at ?_ _ _) | (with_reducible refine kept_new ?_ _ _ (Nat.le_refl _)) | (with_reducible refine kept_new ?_ _ _ (by first | assumption | omega))))) (by (repeat (first | (with_reducible exact h.isp.low) | (with_reducible apply below_alloc) | (with_reducible apply pw_below_drewN) | (with_reducible apply below_drew1) | (with_reducible refine below_set ?_ (by first | assumption | omega))))) (by show ¬ (g = b); omega), blk_put (blk_put (blk_put (blk_put h.box 7 _ rfl) 8 _ rfl) 9 _ rfl) 10 _ rfl,
    R_put (R_put (R_put (R_put h.names h2 7 _) h2 8 _) h2 9 _) h2 10 _, R_put (R_put (R_put (R_put h.nums h2 7 _) h2 8 _) h2 9 _) h2 10 _, M_at hx (by (repeat (first | (with_reducible exact Kept.refl _ _) | (with_reducible apply Kept.alloc) | (with_reducible apply Kept.drewN) | (with_reducible apply Kept.drew) | (with_reducible refine kept_at ?_ _ _) | (with_reducible refine kept_new ?_ _ _ (Nat.le_refl _)) | (with_reducible refine kept_new ?_ _ _ (by first | assumption | omega))))) h2, h1, h2⟩
theorem RaSt.givesC (h : RaSt w0 W g b B L0 L p e c vN vM v2 v3) {j : Nat} (hj : j < B) (hk : Kept W W2 (At j)) (hw : w.heap.size ≤ B) : GivesC w W2 c vN vM v2 v3 :=
  ⟨Kd.R_lower (R_at h.names hk hj) hw, Kd.R_lower (R_at h.nums hk hj) hw, kX.M_lower hw (M_at h.expr hk hj)⟩
theorem RaSt.slices (h : RaSt w0 W g b B L0 L p e c vN vM v2 v3) : ∃ A0 n0 c0 A1 n1 c1 A2 n2 c2 A3 n3 c3, vN = .slice A0 n0 c0 ∧ vM = .slice A1 n1 c1 ∧ v2 = .slice A2 n2 c2 ∧ v3 = .slice A3 n3 c3 := by
  obtain ⟨A0, c0, e0⟩ := Kd.R_slice h.names
  obtain ⟨A1, c1, e1⟩ := Kd.R_slice h.nums
  obtain ⟨u2, u3, he, h2, h3⟩ := k25_openM h.expr
  simp only [List.cons.injEq, true_and, and_true] at he
  obtain ⟨rfl, rfl⟩ := he
  obtain ⟨A2, c2, e2⟩ := Kd.R_slice h2
  obtain ⟨A3, c3, e3⟩ := Kd.R_slice h3
  exact ⟨A0, _, c0, A1, _, c1, A2, _, c2, A3, _, c3, e0, e1, e2, e3⟩
theorem RaSt.setRange' (h : RaSt w0 W g b B L0 L p e c vN vM sN sN) (hx : c.x = zX) (lo hi : Int) (hl hh : Bool) :
    RaSt w0 ((((W.setCell ⟨b, 3, none⟩ (.int .i64 lo)).setCell ⟨b, 4, none⟩ (.int .i64 hi)).setCell ⟨b, 5, none⟩ (.bool hl)).setCell ⟨b, 6, none⟩ (.bool hh)) g b B L0 L p e { c with lo := lo, hi := hi, hl := hl, hh := hh } vN vM sN sN := h.setRange hx ⟨lo, hi, hl, hh, [], 0⟩
end
def InvC (ls : List Int) (R : Cmd × List Tok × Int) (c : Cmd) (L : List Tok) (p e : Int) : Prop :=
  (e = 0 ∧ (0 ≤ p ∧ p ≤ 2000) ∧ foldF ls c L p = R) ∨ (e ≠ 0 ∧ R.2.1 = L ∧ R.2.2 = e)
theorem InvC.ok {ls : List Int} {R : Cmd × List Tok × Int} {c : Cmd} {L : List Tok} {p e : Int} (h : InvC ls R c L p e) : e = 0 → 0 ≤ p ∧ p ≤ 2000 := fun he => h.elim (fun h => h.2.1) (fun h => absurd he h.1)
theorem InvC.step {l : Int} {ls : List Int} {R : Cmd × List Tok × Int} {c c9 : Cmd} {L L9 : List Tok} {p e p9 e9 : Int} (h : InvC (l :: ls) R c L p e)
    (h1 : e = 0 → L9 = (partF l c L p).2.1 ∧ e9 = (partF l c L p).2.2.2 ∧ (e9 = 0 → c9 = (partF l c L p).1 ∧ p9 = (partF l c L p).2.2.1)) (h2 : e ≠ 0 → L9 = L ∧ e9 = e) : InvC ls R c9 L9 p9 e9 := by
  rcases h with ⟨h0, hp, hf⟩ | h
  · obtain ⟨q1, q2, q3⟩ := h1 h0
    rw [foldF] at hf
    by_cases hz : (partF l c L p).2.2.2 = 0
    · rw [if_neg (by rw [hz]; simp)] at hf
      have hz9 : e9 = 0 := by rw [q2]; exact hz
      obtain ⟨q4, q5⟩ := q3 hz9
      have hb := (part_facts l c L p hp.1 hp.2).2.2 hz
      rw [← q4, ← q1, ← q5] at hf
      rw [← q5] at hb
      exact .inl ⟨hz9, hb, hf⟩
    · rw [if_pos hz] at hf
      refine .inr ⟨by rw [q2]; exact hz, ?_, ?_⟩
      · rw [← hf, q1]
      · rw [← hf, q2]
  · obtain ⟨q1, q2⟩ := h2 h.1
    exact .inr ⟨by rw [q2]; exact h.1, by rw [q1]; exact h.2.1, by rw [q2]; exact h.2.2⟩
theorem InvC.fin {R : Cmd × List Tok × Int} {c : Cmd} {L : List Tok} {p e : Int} (h : InvC [] R c L p e) (a : Int) : placeF a L e = placeF a R.2.1 R.2.2 ∧ ((placeF a L e).2 = 0 → R.1 = c ∧ (placeF a L e).1 = -1) := by
  rcases h with ⟨rfl, hp, hf⟩ | h
  · rw [foldF] at hf
    rw [← hf]
    exact ⟨rfl, fun h => ⟨rfl, (place_ok h).2⟩⟩
  · rw [h.2.1, h.2.2]
    exact ⟨rfl, fun h9 => absurd (place_ok h9).1 h.1⟩
/-- At the head of the loop over the letters. -/
structure CmRelR (w W : World) (g : Nat) (L0 : List Tok) (s : ByteArray) (R : Cmd × List Tok × Int) (k : Nat) (c : Cmd) (L : List Tok) (p e : Int) (vN vM v2 v3 : Value) : Prop where
  k1 : k ≤ s.size
  nn : c.names.length ≤ k
  nm : c.nums.length ≤ k
  ok : okL ((lets s).drop k) = true
  xz : (lets s).drop k = [] ∨ c.x = zX ∧ v2 = sN ∧ v3 = sN
  inv : InvC ((lets s).drop k) R c L p e
  st : RaSt w W g (g + 1) (g + 1 + 1) L0 L p e c vN vM v2 v3
  zero : W.heap[w.heap.size]? = some (.cells (cCells zC sN sN sN sN) TC (0, 0))
  sz : g + 1 + 1 ≤ W.heap.size
  lg : w.heap.size < g
end Go.Proofs.YtjeofffddbibeaaDoor.Pa
end

section
namespace Go.Proofs.YtjeofffddbibeaaDoor.Pa
open Go Go.RowKit Go.Proofs.YtjeofffddbibeaaDoor.PParseTells Go.Proofs.YtjeofffddbibeaaDoor.Ex Go.Proofs.YtjeofffddbibeaaDoorW.PrintWords Go.Proofs.YtjeofffddbibeaaDoorW.PrintLast Go.Proofs.YtjeofffddbibeaaDoorW.PrintMore
set_option linter.unusedVariables false
set_option linter.unusedSimpArgs false
theorem str_index (s : ByteArray) (k : Nat) (hk : k < s.size) (W : World) : (Instr.index 9 (.string s) (.int .i64 (k : Int))).run Tryd.prog W = .ok (.int .u8 ((s[k]'hk).toNat : Int)) W := by
  rw [run_index_string W 9 s .i64 (k : Int) Tryd.underlying9, dif_pos ⟨by omega, by omega⟩]
  rfl
set_option maxHeartbeats 16000000 in
set_option maxRecDepth 100000 in
theorem rCommand_calls (L : List Tok) (A : Option Addr) (n c : Nat) (w : World) (hn : n = L.length) (hC : Kd.C k61 w A L.length L) (hc : L.length ≤ c) (hB9 : L.length ≤ 9223372036854775800) :
    Calls Tryd.prog 39 #[.slice A n c] w fun e w' => ∃ vN vM v2 v3, e = .returned (.tuple #[cmdV (parseC L).1 vN vM v2 v3, .int .i64 (parseC L).2.1, .int .i64 (parseC L).2.2]) ∧ GivesC w w' (parseC L).1 vN vM v2 v3 ∧ Below w.heap.size w w' := by
  subst hn
  have bz := blk_new w (.cells (cCells zC sN sN sN sN) TC (0, 0))
  cases L with
  | nil =>
    have hP : parseC [] = (zC, 0, 110) := rfl
    rw [hP]
    clear hP hC hB9
    go_enter Tryd.func39, Tryd.ntmps39
    go_wp2
    refine bodyPost_ret (results_ctt rfl _ _ _ TC _ (0, 0) _ rfl (bz) Tryd.underlying54 rfl info_c) rfl ?_
    exact ⟨_, _, _, _, rfl, givesC_zero _ _, by (repeat (first | (with_reducible exact (Below.refl w.heap.size w)) | (with_reducible apply below_alloc) | (with_reducible apply pw_below_drewN) | (with_reducible apply below_drew1) | (with_reducible refine below_set ?_ (by first | assumption | omega))))⟩
  | cons t r =>
    have hm := hC.2.1
    rw [List.length_cons] at hm
    obtain ⟨ad, rfl, dd1, dd2, dd3⟩ := at_T61 hC 0 (by omega) (by simp)
    have e : ad.add ((0 : Int).toNat * 3) = ad := by show ad.add 0 = ad; exact Addr.add_zero' ad
    rw [e] at dd1 dd2 dd3
    have d1 : w.cell? ad = some (.int .u8 t.f0) := dd1
    have d2 : w.cell? ⟨ad.block, ad.off + 1, none⟩ = some (.string t.f1) := dd2
    have had := World.block_lt_of_cell? _ _ d1
    obtain ⟨L0, hL0⟩ : ∃ L0, L0 = t :: r := ⟨_, rfl⟩
    have hC0 := Aside0.mk (show Kd.C k61 w (some ad) L0.length L0 by rw [hL0]; exact hC)
    have HB99 := Aside0.mk (show L0.length ≤ 9223372036854775800 by rw [hL0]; exact hB9)
    have HL0 := Aside0.mk hL0
    obtain ⟨N, hN⟩ : ∃ N, N = r.length := ⟨_, rfl⟩
    have HLN := Aside0.mk (show L0.length = N + 1 by rw [hL0, List.length_cons, hN])
    rw [List.length_cons, ← hN] at hc ⊢
    rw [← hN] at hm
    have g1 : (0 : Int) < (N : Int) + 1 := by omega
    have g2 : 0 < N + 1 := by omega
    have g3 : ((N : Int) + 1 == 0) = false := beq_eq_false_iff_ne.2 (by omega)
    have g4 : ¬ (N + 1 = 0) := by omega
    clear hC e dd1 dd2 dd3 hB9 hL0
    by_cases h1 : t.f0 ≠ 1
    · have hP : parseC (t :: r) = (zC, 0, 110) := if_pos h1
      rw [hP]
      have f1 : (t.f0 != 1) = true := bne_iff_ne.2 h1
      have f2 : (t.f0 == 1) = false := beq_eq_false_iff_ne.2 h1
      clear hP hN
      go_enter Tryd.func39, Tryd.ntmps39
      go_wp2
      refine bodyPost_ret (results_ctt rfl _ _ _ TC _ (0, 0) _ rfl (bz) Tryd.underlying54 rfl info_c) rfl ?_
      exact ⟨_, _, _, _, rfl, givesC_zero _ _, by (repeat (first | (with_reducible exact (Below.refl w.heap.size w)) | (with_reducible apply below_alloc) | (with_reducible apply pw_below_drewN) | (with_reducible apply below_drew1) | (with_reducible refine below_set ?_ (by first | assumption | omega))))⟩
    · have h1' : t.f0 = 1 := by omega
      have f1 : (t.f0 != 1) = false := bne_eq_false_iff_eq.2 h1'
      have f2 : (t.f0 == 1) = true := beq_iff_eq.2 h1'
      have CS : ∀ W, Aside0 (Calls Tryd.prog 35 #[.string t.f1] W fun e w' => e = .returned (.tuple #[.string (shapeF t.f1).1, .bool (shapeF t.f1).2]) ∧ Below W.heap.size W w') := fun W => ⟨(epactref11_Shape.calls 3 t.f1 _ _ W (refShape_f t.f1)).mono (fun e w' h => ⟨h.1, h.2.below⟩)⟩
      have hso := shape_ok t.f1
      have hP : parseC (t :: r) = if (shapeF t.f1).2 = false then (zC, 0, 110) else endC ((r.length : Int) + 1) (foldF (lets (shapeF t.f1).1) (wC t.f1) r 0) := if_neg h1
      obtain ⟨s, is, hs⟩ : ∃ s is, shapeF t.f1 = (s, is) := ⟨_, _, rfl⟩
      rw [hs] at CS hP hso
      rw [hP]
      dsimp only at CS hso ⊢
      clear hP hs h1 h1'
      cases is with
      | false =>
        rw [if_pos rfl]
        go_enter Tryd.func39, Tryd.ntmps39
        go_wp2_with fail
        (with_reducible refine (CS _).out.mono ?_)
        rintro e w1 ⟨rfl, hb1⟩
        have bz1 : w1.heap[w.heap.size]? = some (.cells (cCells zC sN sN sN sN) TC (0, 0)) := (hb1.block _ (blk_lt bz)).trans bz
        have hbw := below_then (below_alloc (Below.refl w.heap.size w) (.cells (cCells zC sN sN sN sN) TC (0, 0))) (below_alloc (Below.refl w.heap.size w) (.cells (cCells zC sN sN sN sN) TC (0, 0))).size hb1
        obtain ⟨z0, z1, z2, z3, z4, z5, z6, z7, z8, z9, z10⟩ := cells11 bz1
        obtain ⟨y0, y1, y2, y3, y4, y5, y6, y7, y8, y9, y10⟩ := free11 bz1
        clear hb1 CS
        go_wp2
        refine bodyPost_ret (results_ctt rfl _ _ _ TC _ (0, 0) _ rfl (put11 bz1 _ _ _ _ _ _ _ _ _ _ _) Tryd.underlying54 rfl info_c) rfl ?_
        exact ⟨_, _, _, _, rfl, givesC_zero _ _, by (repeat (first | (with_reducible exact hbw) | (with_reducible apply below_alloc) | (with_reducible apply pw_below_drewN) | (with_reducible apply below_drew1) | (with_reducible refine below_set ?_ (by first | assumption | omega))))⟩
      | true =>
        rw [if_neg (by simp)]
        obtain ⟨R, hR⟩ : ∃ R, foldF (lets s) (wC t.f1) r 0 = R := ⟨_, rfl⟩
        obtain ⟨a, ha⟩ : ∃ a : Int, a = (N : Int) + 1 := ⟨_, rfl⟩
        rw [hR, ← hN, ← ha]
        obtain ⟨K, hK⟩ : ∃ K, endC a R = K := ⟨_, rfl⟩
        rw [hK]
        have HK := Aside0.mk hK
        have HR := Aside0.mk hR
        have HA := Aside0.mk (show a = (L0.length : Int) by rw [ha, HLN.out]; simp)
        have hce := rexpr_calls w
        have HS := Aside0.mk hso
        have hs : ∀ (W : World) o, (W.alloc o).heap.size = W.heap.size + 1 := fun W o => Array.size_push ..
        have HZ := Aside0.mk hs
        have CEE := Aside0.mk hce
        clear hK hR ha hN hso hs hce
        go_enter Tryd.func39, Tryd.ntmps39
        go_wp2_with fail
        (with_reducible refine (CS _).out.mono ?_)
        rintro e w1 ⟨rfl, hb1⟩
        have bz1 : w1.heap[w.heap.size]? = some (.cells (cCells zC sN sN sN sN) TC (0, 0)) := (hb1.block _ (blk_lt bz)).trans bz
        have hbw := below_then (below_alloc (Below.refl w.heap.size w) (.cells (cCells zC sN sN sN sN) TC (0, 0))) (below_alloc (Below.refl w.heap.size w) (.cells (cCells zC sN sN sN sN) TC (0, 0))).size hb1
        have d1' : w1.cell? ad = some (.int .u8 t.f0) := (hbw.cell had).trans d1
        have d2' : w1.cell? ⟨ad.block, ad.off + 1, none⟩ = some (.string t.f1) := (hbw.cell (show (⟨ad.block, ad.off + 1, none⟩ : Addr).block < w.heap.size from had)).trans d2
        have had1 := World.block_lt_of_cell? _ _ d1'
        have hz1 := blk_lt bz1
        clear d1 d2 CS hb1
        have HB := Aside0.mk hbw
        have BZ := Aside0.mk bz1
        clear hbw bz1 bz
        have b94 := Aside0.mk (blk_alloc (blk_new w1 (.cells #[.slice (some ad) (N + 1) c, .int .i64 1, .int .i64 0, .int .i64 0] 101)) (.cells (cCells (wC t.f1) sN sN sN sN) TC))
        have b54 := blk_new (w1.alloc (.cells #[.slice (some ad) (N + 1) c, .int .i64 1, .int .i64 0, .int .i64 0] 101)) (.cells (cCells (wC t.f1) sN sN sN sN) TC)
        rw [HZ.out] at b54
        have bzz := blk_alloc (blk_alloc BZ.out (.cells #[.slice (some ad) (N + 1) c, .int .i64 1, .int .i64 0, .int .i64 0] 101)) (.cells (cCells (wC t.f1) sN sN sN sN) TC)
        have B54 := Aside0.mk b54
        have BZZ := Aside0.mk bzz
        clear b54 bzz
        have CE := Aside0.mk (fun L p e W h1 h2 => (show RExprC w w1.heap.size L0 1 (exprF 40) from CEE.out w1.heap.size L0 40 (by omega)) L p e W h1 h2)
        go_wp2_with fail
        go_loopw [9] (fun j wr => ∃ k c' L1 p1 e1 vN vM v2 v3, j = .int .i64 ((k : Nat) : Int) ∧ CmRelR w wr w1.heap.size L0 s R k c' L1 p1 e1 vN vM v2 v3) (fun j _ => s.size - (intOf j).toNat)
        case atStart =>
          refine ⟨0, wC t.f1, r, 0, 0, sN, sN, sN, sN, rfl, ?_⟩
          refine { k1 := Nat.zero_le _, nn := Nat.le_refl 0, nm := Nat.le_refl 0, ok := HS.out.1, xz := .inr ⟨rfl, rfl, rfl⟩, inv := .inl ⟨rfl, ⟨Int.le_refl 0, by omega⟩, HR.out⟩, st := ?_, zero := BZZ.out, sz := ?_, lg := hz1 }
          · refine ⟨⟨1, by rw [HL0.out]; simp, by rw [HL0.out]; rfl, ⟨some ad, c, ?_, by omega, hC0.out⟩, below_alloc (below_alloc HB.out _) _, HB99.out⟩, B54.out, Kd.R_nil _ _ _ _ _, Kd.R_nil _ _ _ _ _, k25_mkM _ _ _ zX (Kd.R_nil _ _ _ _ _) (Kd.R_nil _ _ _ _ _), by omega, by omega⟩
            rw [HLN.out]
            exact b94.out
          · show _ ≤ ((w1.alloc (.cells #[.slice (some ad) (N + 1) c, .int .i64 1, .int .i64 0, .int .i64 0] 101)).alloc (.cells (cCells (wC t.f1) sN sN sN sN) TC)).heap.size
            rw [HZ.out, HZ.out]
            exact Nat.le_refl _
        case round =>
          obtain ⟨k, c', L1, p1, e1, vN, vM, v2, v3, rfl, H⟩ := hrel
          have hgz := H.lg
          have hnnk := H.nn
          have hnmk := H.nm
          have ST := Aside0.mk H.st
          have ZZ := Aside0.mk H.zero
          have SZ := Aside0.mk H.sz
          have hsz10 := HS.out.2.1
          by_cases hk : k < s.size
          · have hki : (k : Int) < (s.size : Int) := by omega
            have hki' : decide ((k : Int) < (s.size : Int)) = true := decide_eq_true hki
            have hd := lets_at s k hk
            obtain ⟨l, hl⟩ : ∃ l : Int, l = ((s[k]'hk).toNat : Int) := ⟨_, rfl⟩
            rw [← hl] at hd
            have hok := H.ok
            have hxz := H.xz
            have hin := H.inv
            rw [hd] at hok hxz hin
            obtain ⟨hx, rfl, rfl⟩ : c'.x = zX ∧ v2 = sN ∧ v3 = sN := hxz.resolve_left (by simp)
            have hoc := okL_cons hok
            have HX := Aside0.mk hx
            have IV := Aside0.mk hin
            have hix : ∀ W : World, (Instr.index 9 (.string s) (.int .i64 (k : Int))).run Tryd.prog W = .ok (.int .u8 l) W := fun W => by
              rw [hl]
              exact str_index s k hk W
            clear hd hok hxz hin hx H hl
            rcases hoc with ⟨rfl, hnil⟩ | ⟨hll, hne, hok9⟩
            · have HD0 := Aside0.mk hnil
              have OK9 := Aside0.mk (show okL ((lets s).drop (k + 1)) = true by rw [hnil]; rfl)
              clear hnil
              go_wp2_with fail
              (with_reducible refine (CE.out _ _ _ _ ST.out.isp IV.out.ok).mono ?_)
              rintro en w3 ⟨x9, p9, v5, v6, rfl, hI3, hk3, hg3, hr3⟩
              obtain ⟨A5, c5, A6, c6, rfl, rfl⟩ := hg3.slices
              have ST3 := Aside0.mk (ST.out.at hI3 hk3)
              have ZZ3 := Aside0.mk (blk_kept ZZ.out hk3 (fun h => by have h1 : w.heap.size = w1.heap.size := h; omega))
              have SZ3 := Aside0.mk (Nat.le_trans SZ.out hk3.1)
              have HG3 := Aside0.mk (show kX.M w3 (w1.heap.size + 1 + 1) (fun _ => True) x9 [.int .u8 x9.f0, .string x9.f1, .slice A5 x9.f2.length c5, .slice A6 x9.f3.length c6] from kX.M_lower SZ.out hg3)
              have IV9 := Aside0.mk (InvC.step (c9 := { c' with x := x9 }) (L9 := (rex (exprF 40) L1 p1 e1).l) (p9 := p9) (e9 := (rex (exprF 40) L1 p1 e1).e) IV.out
                (fun h => by
                  rw [show rex (exprF 40) L1 p1 e1 = exprF 40 p1 L1 from if_pos h] at hr3 ⊢
                  exact ⟨rfl, rfl, fun hz => by obtain ⟨r1, r2⟩ := hr3 hz; rw [r1, r2]; exact ⟨rfl, rfl⟩⟩) (fun h => by rw [show rex (exprF 40) L1 p1 e1 = ⟨zX, L1, p1, e1⟩ from if_neg h]; exact ⟨rfl, rfl⟩))
              have x7 : w3.cell? ⟨w1.heap.size + 1, 7, none⟩ = some (.int .u8 c'.x.f0) := (blk_cell ST3.out.box 7).trans rfl
              have x8 : w3.cell? ⟨w1.heap.size + 1, 8, none⟩ = some (.string c'.x.f1) := (blk_cell ST3.out.box 8).trans rfl
              have x9' : w3.cell? ⟨w1.heap.size + 1, 9, none⟩ = some sN := (blk_cell ST3.out.box 9).trans rfl
              have x10 : w3.cell? ⟨w1.heap.size + 1, 10, none⟩ = some sN := (blk_cell ST3.out.box 10).trans rfl
              have y7 := blk_frozen ST3.out.box 7
              have y8 := blk_frozen ST3.out.box 8
              have y9 := blk_frozen ST3.out.box 9
              have y10 := blk_frozen ST3.out.box 10
              have ST9 := Aside0.mk (ST3.out.setExpr HG3.out)
              have ZZ9 := Aside0.mk (blk_far (p := ⟨w1.heap.size + 1, 10, none⟩) (blk_far (p := ⟨w1.heap.size + 1, 9, none⟩) (blk_far (p := ⟨w1.heap.size + 1, 8, none⟩) (blk_far (p := ⟨w1.heap.size + 1, 7, none⟩) ZZ3.out (show w1.heap.size + 1 ≠ w.heap.size by omega) (.int .u8 x9.f0)) (show w1.heap.size + 1 ≠ w.heap.size by omega) (.string x9.f1)) (show w1.heap.size + 1 ≠ w.heap.size by omega) (.slice A5 x9.f2.length c5)) (show w1.heap.size + 1 ≠ w.heap.size by omega) (.slice A6 x9.f3.length c6))
              have SZ9 := Aside0.mk (show w1.heap.size + 1 + 1 ≤ ((((w3.setCell ⟨w1.heap.size + 1, 7, none⟩ (.int .u8 x9.f0)).setCell ⟨w1.heap.size + 1, 8, none⟩ (.string x9.f1)).setCell ⟨w1.heap.size + 1, 9, none⟩ (.slice A5 x9.f2.length c5)).setCell ⟨w1.heap.size + 1, 10, none⟩ (.slice A6 x9.f3.length c6)).heap.size by have h1 := SZ3.out; simp only [World.setCell, Array.size_modify]; exact h1)
              clear hI3 hk3 hr3 hg3
              go_wp2_with fail
              go_roundw
              case rel =>
                exact ⟨k + 1, { c' with x := x9 }, _, _, _, _, _, _, _, by go_num, { k1 := hk, nn := Nat.le_succ_of_le hnnk, nm := Nat.le_succ_of_le hnmk, ok := OK9.out, xz := .inl HD0.out, inv := IV9.out, st := ST9.out, zero := ZZ9.out, sz := SZ9.out, lg := hgz }⟩
              case measure => simp [intOf]; omega

            · have OK9 := Aside0.mk hok9
              clear hok9 hne
              rcases hll with rfl | rfl | rfl | rfl
              · have STw := Aside0.mk (ST.out.later (below_drew (Below.refl _ _)))
                have q1 : wr.cell? ⟨w1.heap.size + 1, 1, none⟩ = some vN := (blk_cell ST.out.box 1).trans rfl
                go_wp2_with fail
                refine start_ (n := 8) (S := fun w' => w'.cell? ⟨w1.heap.size + 1, 1, none⟩ = some vN) (ds := [7]) #[false, false, false, false, false, false, false, false] (by kernel_rfl) rfl rfl (q1) (fun hHeld => ?_)
                refine pure_ (i := 0) (N := some 55) (v := ?_) (a' := ?_) #[true, false, false, false, false, false, false, false] rfl rfl (by kernel_rfl) (fun _ _ _ h => h) (Or.inl ⟨by rfl, ?_⟩) ?_ ?_
                rotate_left
                · intro w'
                  go_simp
                  with_reducible rfl
                rotate_left
                · simp only [Act.put, List.setIfInBounds_toArray, List.set_cons_zero, List.set_cons_succ, i64_w, i32_w]
                  rfl
                refine pure_ (i := 2) (N := some 57) (v := ?_) (a' := ?_) #[true, false, true, false, false, false, false, false] rfl rfl (by kernel_rfl) (fun _ _ _ h => h) (Or.inl ⟨by rfl, ?_⟩) ?_ ?_
                rotate_left
                · intro w'
                  go_simp
                  with_reducible rfl
                rotate_left
                · simp only [Act.put, List.setIfInBounds_toArray, List.set_cons_zero, List.set_cons_succ, i64_w, i32_w]
                  rfl
                refine take_ (i := 1) (N := some 56) (v := ?_) (a' := ?_) #[true, true, true, false, false, false, false, false] rfl rfl (by kernel_rfl) (fun _ _ _ h => h) (Or.inl ⟨by rfl, ?_⟩) hHeld ?_ ?_
                rotate_left
                · intro w' s0
                  go_simp
                  with_reducible rfl
                rotate_left
                · simp only [Act.put, List.setIfInBounds_toArray, List.set_cons_zero, List.set_cons_succ, i64_w, i32_w]
                  rfl
                refine one_ (i := 3) (N := some 58) #[true, true, true, true, false, false, false, false] rfl rfl (by kernel_rfl) (by decide) (fun K hK => ?_)
                refine goes_ Tryd.func69 (by kernel_rfl) rfl #[.pointer (some ⟨w1.heap.size, 0, none⟩)] (by rfl) rfl rfl (by simp only [List.map_toArray, List.map_cons, List.map_nil]; rfl) ?_
                with_reducible refine (rname_calls STw.out.isp).mono ?_
                rintro en w3 ⟨rfl, hI3, hk3⟩
                refine ⟨_, rfl, ?_⟩
                have ST3 := Aside0.mk (STw.out.at hI3 hk3)
                have ZZ3 := Aside0.mk (blk_kept (W := wr.drew) ZZ.out hk3 (fun h => by have h1 : w.heap.size = w1.heap.size := h; omega))
                have q3 : w3.cell? ⟨w1.heap.size + 1, 1, none⟩ = some vN := (blk_cell ST3.out.box 1).trans rfl
                have hbz3 : w1.heap.size + 1 + 1 ≤ w3.heap.size := Nat.le_trans SZ.out hk3.1
                clear hI3 hk3
                refine hK.out _ _ (q3) (fun hHeld => ?_)
                clear hK K
                refine norm_ (a' := ?_) ?_ ?_
                rotate_left
                · show Act.put _ (some 58) _ = _
                  simp only [Act.put, List.setIfInBounds_toArray, List.set_cons_zero, List.set_cons_succ, i64_w, i32_w]
                  rfl
                refine one_ (i := 4) (N := some 59) #[true, true, true, true, true, false, false, false] rfl rfl (by kernel_rfl) (by decide) (fun K hK => ?_)
                refine value_ (w1 := ?_) (v := ?_) (by rfl) rfl ?_ ?_
                rotate_left 2
                · go_simp
                  constructor
                  · rfl
                  · rfl
                refine hK.out _ _ ((cell_alloc _ q3)) (fun hHeld => ?_)
                clear hK K
                refine norm_ (a' := ?_) ?_ ?_
                rotate_left
                · show Act.put _ (some 59) _ = _
                  simp only [Act.put, List.setIfInBounds_toArray, List.set_cons_zero, List.set_cons_succ, i64_w, i32_w]
                  rfl
                refine one_ (i := 5) (N := some 60) #[true, true, true, true, true, true, false, false] rfl rfl (by kernel_rfl) (by decide) (fun K hK => ?_)
                refine Kd.R_append_step kT (w0 := w3) (w1.heap.size + 1 + 1) (by rfl) (.tmp 56) (.tmp 59) 28 TS (.string nil8) 16 rfl Tryd.underlying28 info_s3 rfl (by decide) (by decide) vN c'.names (rtake [1] L1 e1).1.f1 [.string (rtake [1] L1 e1).1.f1] (fun _ => True) (fun _ => False) rfl rfl rfl (fun _ hk => hk.elim) (fun _ _ => trivial) ST3.out.names (Below.refl _ _) hbz3 (by omega) ?_
                intro v8 w8 ho hb hg hat
                obtain ⟨A8, c8, h8⟩ := Kd.R_slice ho
                rw [List.length_append, List.length_singleton] at h8
                subst h8
                have HO := Aside0.mk ho
                have HGR := Aside0.mk hg
                have hbx := ST3.out.grown_box hg (Kd.R_base ST3.out.names)
                have f8 := blk_frozen hbx 1
                have q8 : w8.cell? ⟨w1.heap.size + 1, 1, none⟩ = some vN := (blk_cell hbx 1).trans rfl
                refine hK.out _ _ (q8) (fun hHeld => ?_)
                clear hK K
                refine norm_ (a' := ?_) ?_ ?_
                rotate_left
                · show Act.put _ (some 60) _ = _
                  simp only [Act.put, List.setIfInBounds_toArray, List.set_cons_zero, List.set_cons_succ, i64_w, i32_w]
                  rfl
                refine pure_ (i := 6) (N := some 61) (v := ?_) (a' := ?_) #[true, true, true, true, true, true, true, false] rfl rfl (by kernel_rfl) (fun _ _ _ h => h) (Or.inl ⟨by rfl, ?_⟩) ?_ ?_
                rotate_left
                · intro w'
                  go_simp
                  with_reducible rfl
                rotate_left
                · simp only [Act.put, List.setIfInBounds_toArray, List.set_cons_zero, List.set_cons_succ, i64_w, i32_w]
                  rfl
                refine last_ (i := 7) (N := none) #[true, true, true, true, true, true, true, true] rfl rfl (by kernel_rfl) (by decide) (fun K hK => ?_)
                refine skip_ (w1 := ?_) (by rfl) rfl ?_ ?_
                rotate_left
                · go_simp
                  rfl
                refine hK.out _ _ ?_
                clear hK K
                refine done_ (by kernel_rfl) ?_

                have ST9 := Aside0.mk (ST3.out.setNames HX.out hbz3 HO.out HGR.out)
                have ZZ9 := Aside0.mk (blk_far ((HGR.out.block _ (blk_lt ZZ3.out) (fun he => by have h1 := Kd.R_base ST3.out.names _ he.symm; omega)).trans ZZ3.out) (show w1.heap.size + 1 ≠ w.heap.size by omega) (p := ⟨w1.heap.size + 1, 1, none⟩) (.slice A8 (c'.names.length + 1) c8))
                have SZ9 := Aside0.mk (show w1.heap.size + 1 + 1 ≤ (w8.setCell ⟨w1.heap.size + 1, 1, none⟩ (.slice A8 (c'.names.length + 1) c8)).heap.size by have h1 := HGR.out.size; simp only [World.setCell, Array.size_modify]; omega)
                have IV9 := Aside0.mk (InvC.step (c9 := { c' with names := c'.names ++ [(rtake [1] L1 e1).1.f1] }) (L9 := (rtake [1] L1 e1).2.1) (p9 := p1) (e9 := (rtake [1] L1 e1).2.2) IV.out
                  (fun h => by rw [show rtake [1] L1 e1 = takeF [1] L1 from if_pos h]; exact ⟨rfl, rfl, fun _ => ⟨rfl, rfl⟩⟩) (fun h => by rw [show rtake [1] L1 e1 = (z61, L1, e1) from if_neg h]; exact ⟨rfl, rfl⟩))
                go_wp2_with fail
                go_roundw
                case rel =>
                  exact ⟨k + 1, { c' with names := c'.names ++ [(rtake [1] L1 e1).1.f1] }, _, _, _, _, _, _, _, by go_num, { k1 := hk, nn := by have := hnnk; simp only [List.length_append, List.length_cons, List.length_nil]; omega, nm := Nat.le_succ_of_le hnmk, ok := OK9.out, xz := .inr ⟨HX.out, rfl, rfl⟩, inv := IV9.out, st := ST9.out, zero := ZZ9.out, sz := SZ9.out, lg := hgz }⟩
                case measure => simp [intOf]; omega

              · have STw := Aside0.mk (ST.out.later (below_drew (Below.refl _ _)))
                have q1 : wr.cell? ⟨w1.heap.size + 1, 2, none⟩ = some vM := (blk_cell ST.out.box 2).trans rfl
                go_wp2_with fail
                refine start_ (n := 8) (S := fun w' => w'.cell? ⟨w1.heap.size + 1, 2, none⟩ = some vM) (ds := [7]) #[false, false, false, false, false, false, false, false] (by kernel_rfl) rfl rfl (q1) (fun hHeld => ?_)
                refine pure_ (i := 0) (N := some 64) (v := ?_) (a' := ?_) #[true, false, false, false, false, false, false, false] rfl rfl (by kernel_rfl) (fun _ _ _ h => h) (Or.inl ⟨by rfl, ?_⟩) ?_ ?_
                rotate_left
                · intro w'
                  go_simp
                  with_reducible rfl
                rotate_left
                · simp only [Act.put, List.setIfInBounds_toArray, List.set_cons_zero, List.set_cons_succ, i64_w, i32_w]
                  rfl
                refine pure_ (i := 2) (N := some 66) (v := ?_) (a' := ?_) #[true, false, true, false, false, false, false, false] rfl rfl (by kernel_rfl) (fun _ _ _ h => h) (Or.inl ⟨by rfl, ?_⟩) ?_ ?_
                rotate_left
                · intro w'
                  go_simp
                  with_reducible rfl
                rotate_left
                · simp only [Act.put, List.setIfInBounds_toArray, List.set_cons_zero, List.set_cons_succ, i64_w, i32_w]
                  rfl
                refine take_ (i := 1) (N := some 65) (v := ?_) (a' := ?_) #[true, true, true, false, false, false, false, false] rfl rfl (by kernel_rfl) (fun _ _ _ h => h) (Or.inl ⟨by rfl, ?_⟩) hHeld ?_ ?_
                rotate_left
                · intro w' s0
                  go_simp
                  with_reducible rfl
                rotate_left
                · simp only [Act.put, List.setIfInBounds_toArray, List.set_cons_zero, List.set_cons_succ, i64_w, i32_w]
                  rfl
                refine one_ (i := 3) (N := some 67) #[true, true, true, true, false, false, false, false] rfl rfl (by kernel_rfl) (by decide) (fun K hK => ?_)
                refine goes_ Tryd.func70 (by kernel_rfl) rfl #[.pointer (some ⟨w1.heap.size, 0, none⟩)] (by rfl) rfl rfl (by simp only [List.map_toArray, List.map_cons, List.map_nil]; rfl) ?_
                with_reducible refine (rnumber_calls STw.out.isp).mono ?_
                rintro en w3 ⟨rfl, hI3, hk3⟩
                refine ⟨_, rfl, ?_⟩
                have ST3 := Aside0.mk (STw.out.at hI3 hk3)
                have ZZ3 := Aside0.mk (blk_kept (W := wr.drew) ZZ.out hk3 (fun h => by have h1 : w.heap.size = w1.heap.size := h; omega))
                have q3 : w3.cell? ⟨w1.heap.size + 1, 2, none⟩ = some vM := (blk_cell ST3.out.box 2).trans rfl
                have hbz3 : w1.heap.size + 1 + 1 ≤ w3.heap.size := Nat.le_trans SZ.out hk3.1
                clear hI3 hk3
                refine hK.out _ _ (q3) (fun hHeld => ?_)
                clear hK K
                refine norm_ (a' := ?_) ?_ ?_
                rotate_left
                · show Act.put _ (some 67) _ = _
                  simp only [Act.put, List.setIfInBounds_toArray, List.set_cons_zero, List.set_cons_succ, i64_w, i32_w]
                  rfl
                refine one_ (i := 4) (N := some 68) #[true, true, true, true, true, false, false, false] rfl rfl (by kernel_rfl) (by decide) (fun K hK => ?_)
                refine value_ (w1 := ?_) (v := ?_) (by rfl) rfl ?_ ?_
                rotate_left 2
                · go_simp
                  constructor
                  · rfl
                  · rfl
                refine hK.out _ _ ((cell_alloc _ q3)) (fun hHeld => ?_)
                clear hK K
                refine norm_ (a' := ?_) ?_ ?_
                rotate_left
                · show Act.put _ (some 68) _ = _
                  simp only [Act.put, List.setIfInBounds_toArray, List.set_cons_zero, List.set_cons_succ, i64_w, i32_w]
                  rfl
                refine one_ (i := 5) (N := some 69) #[true, true, true, true, true, true, false, false] rfl rfl (by kernel_rfl) (by decide) (fun K hK => ?_)
                refine Kd.R_append_step kI (w0 := w3) (w1.heap.size + 1 + 1) (by rfl) (.tmp 65) (.tmp 68) 22 2 (.int .i64 0) 8 rfl Tryd.underlying22 info_i3 rfl (by decide) (by decide) vM c'.nums (rtake [2, 3] L1 e1).1.f2 [.int .i64 (rtake [2, 3] L1 e1).1.f2] (fun _ => True) (fun _ => False) rfl rfl rfl (fun _ hk => hk.elim) (fun _ _ => trivial) ST3.out.nums (Below.refl _ _) hbz3 (by omega) ?_
                intro v8 w8 ho hb hg hat
                obtain ⟨A8, c8, h8⟩ := Kd.R_slice ho
                rw [List.length_append, List.length_singleton] at h8
                subst h8
                have HO := Aside0.mk ho
                have HGR := Aside0.mk hg
                have hbx := ST3.out.grown_box hg (Kd.R_base ST3.out.nums)
                have f8 := blk_frozen hbx 2
                have q8 : w8.cell? ⟨w1.heap.size + 1, 2, none⟩ = some vM := (blk_cell hbx 2).trans rfl
                refine hK.out _ _ (q8) (fun hHeld => ?_)
                clear hK K
                refine norm_ (a' := ?_) ?_ ?_
                rotate_left
                · show Act.put _ (some 69) _ = _
                  simp only [Act.put, List.setIfInBounds_toArray, List.set_cons_zero, List.set_cons_succ, i64_w, i32_w]
                  rfl
                refine pure_ (i := 6) (N := some 70) (v := ?_) (a' := ?_) #[true, true, true, true, true, true, true, false] rfl rfl (by kernel_rfl) (fun _ _ _ h => h) (Or.inl ⟨by rfl, ?_⟩) ?_ ?_
                rotate_left
                · intro w'
                  go_simp
                  with_reducible rfl
                rotate_left
                · simp only [Act.put, List.setIfInBounds_toArray, List.set_cons_zero, List.set_cons_succ, i64_w, i32_w]
                  rfl
                refine last_ (i := 7) (N := none) #[true, true, true, true, true, true, true, true] rfl rfl (by kernel_rfl) (by decide) (fun K hK => ?_)
                refine skip_ (w1 := ?_) (by rfl) rfl ?_ ?_
                rotate_left
                · go_simp
                  rfl
                refine hK.out _ _ ?_
                clear hK K
                refine done_ (by kernel_rfl) ?_

                have ST9 := Aside0.mk (ST3.out.setNums HX.out hbz3 HO.out HGR.out)
                have ZZ9 := Aside0.mk (blk_far ((HGR.out.block _ (blk_lt ZZ3.out) (fun he => by have h1 := Kd.R_base ST3.out.nums _ he.symm; omega)).trans ZZ3.out) (show w1.heap.size + 1 ≠ w.heap.size by omega) (p := ⟨w1.heap.size + 1, 2, none⟩) (.slice A8 (c'.nums.length + 1) c8))
                have SZ9 := Aside0.mk (show w1.heap.size + 1 + 1 ≤ (w8.setCell ⟨w1.heap.size + 1, 2, none⟩ (.slice A8 (c'.nums.length + 1) c8)).heap.size by have h1 := HGR.out.size; simp only [World.setCell, Array.size_modify]; omega)
                have IV9 := Aside0.mk (InvC.step (c9 := { c' with nums := c'.nums ++ [(rtake [2, 3] L1 e1).1.f2] }) (L9 := (rtake [2, 3] L1 e1).2.1) (p9 := p1) (e9 := (rtake [2, 3] L1 e1).2.2) IV.out
                  (fun h => by rw [show rtake [2, 3] L1 e1 = takeF [2, 3] L1 from if_pos h]; exact ⟨rfl, rfl, fun _ => ⟨rfl, rfl⟩⟩) (fun h => by rw [show rtake [2, 3] L1 e1 = (z61, L1, e1) from if_neg h]; exact ⟨rfl, rfl⟩))
                go_wp2_with fail
                go_roundw
                case rel =>
                  exact ⟨k + 1, { c' with nums := c'.nums ++ [(rtake [2, 3] L1 e1).1.f2] }, _, _, _, _, _, _, _, by go_num, { k1 := hk, nn := Nat.le_succ_of_le hnnk, nm := by have := hnmk; simp only [List.length_append, List.length_cons, List.length_nil]; omega, ok := OK9.out, xz := .inr ⟨HX.out, rfl, rfl⟩, inv := IV9.out, st := ST9.out, zero := ZZ9.out, sz := SZ9.out, lg := hgz }⟩
                case measure => simp [intOf]; omega

              · go_wp2_with fail
                (with_reducible refine (rscope_calls ST.out.isp).mono ?_)
                rintro en w3 ⟨lo, hi, hl, hh, rfl, hI3, hk3, hr3⟩
                have ST3 := Aside0.mk (ST.out.at hI3 hk3)
                have ZZ3 := Aside0.mk (blk_kept ZZ.out hk3 (fun h => by have h1 : w.heap.size = w1.heap.size := h; omega))
                have SZ3 := Aside0.mk (Nat.le_trans SZ.out hk3.1)
                have IV9 := Aside0.mk (InvC.step (c9 := { c' with lo := lo, hi := hi, hl := hl, hh := hh }) (L9 := (rsc L1 e1).l) (p9 := p1) (e9 := (rsc L1 e1).e) IV.out
                  (fun h => by
                    rw [show rsc L1 e1 = scopeF L1 from if_pos h] at hr3 ⊢
                    exact ⟨rfl, rfl, fun hz => by obtain ⟨r1, r2, r3, r4⟩ := hr3 hz; rw [r1, r2, r3, r4]; exact ⟨rfl, rfl⟩⟩) (fun h => by rw [show rsc L1 e1 = ⟨0, 0, false, false, L1, e1⟩ from if_neg h]; exact ⟨rfl, rfl⟩))
                have x3 : w3.cell? ⟨w1.heap.size + 1, 3, none⟩ = some (.int .i64 c'.lo) := (blk_cell ST3.out.box 3).trans rfl
                have x4 : w3.cell? ⟨w1.heap.size + 1, 4, none⟩ = some (.int .i64 c'.hi) := (blk_cell ST3.out.box 4).trans rfl
                have x5 : w3.cell? ⟨w1.heap.size + 1, 5, none⟩ = some (.bool c'.hl) := (blk_cell ST3.out.box 5).trans rfl
                have x6 : w3.cell? ⟨w1.heap.size + 1, 6, none⟩ = some (.bool c'.hh) := (blk_cell ST3.out.box 6).trans rfl
                have y3 := blk_frozen ST3.out.box 3
                have y4 := blk_frozen ST3.out.box 4
                have y5 := blk_frozen ST3.out.box 5
                have y6 := blk_frozen ST3.out.box 6
                have ST9 := Aside0.mk (ST3.out.setRange' HX.out lo hi hl hh)
                have ZZ9 := Aside0.mk (blk_far (p := ⟨w1.heap.size + 1, 6, none⟩) (blk_far (p := ⟨w1.heap.size + 1, 5, none⟩) (blk_far (p := ⟨w1.heap.size + 1, 4, none⟩) (blk_far (p := ⟨w1.heap.size + 1, 3, none⟩) ZZ3.out (show w1.heap.size + 1 ≠ w.heap.size by omega) (.int .i64 lo)) (show w1.heap.size + 1 ≠ w.heap.size by omega) (.int .i64 hi)) (show w1.heap.size + 1 ≠ w.heap.size by omega) (.bool hl)) (show w1.heap.size + 1 ≠ w.heap.size by omega) (.bool hh))
                have SZ9 := Aside0.mk (show w1.heap.size + 1 + 1 ≤ ((((w3.setCell ⟨w1.heap.size + 1, 3, none⟩ (.int .i64 lo)).setCell ⟨w1.heap.size + 1, 4, none⟩ (.int .i64 hi)).setCell ⟨w1.heap.size + 1, 5, none⟩ (.bool hl)).setCell ⟨w1.heap.size + 1, 6, none⟩ (.bool hh)).heap.size by have h1 := SZ3.out; simp only [World.setCell, Array.size_modify]; exact h1)
                clear hI3 hk3 hr3
                go_wp2_with fail
                go_roundw
                case rel =>
                  exact ⟨k + 1, { c' with lo := lo, hi := hi, hl := hl, hh := hh }, _, _, _, _, _, _, _, by go_num, { k1 := hk, nn := Nat.le_succ_of_le hnnk, nm := Nat.le_succ_of_le hnmk, ok := OK9.out, xz := .inr ⟨HX.out, rfl, rfl⟩, inv := IV9.out, st := ST9.out, zero := ZZ9.out, sz := SZ9.out, lg := hgz }⟩
                case measure => simp [intOf]; omega

              · go_wp2_with fail
                (with_reducible refine (rmark_calls ⟨#[61]⟩ ST.out.isp).mono ?_)
                rintro en w3 ⟨rfl, hI3, hk3⟩
                have ST9 := Aside0.mk (ST.out.at hI3 hk3)
                have ZZ9 := Aside0.mk (blk_kept ZZ.out hk3 (fun h => by have h1 : w.heap.size = w1.heap.size := h; omega))
                have SZ9 := Aside0.mk (Nat.le_trans SZ.out hk3.1)
                have IV9 := Aside0.mk (InvC.step (c9 := c') (L9 := (rmark ⟨#[61]⟩ L1 e1).1) (p9 := p1) (e9 := (rmark ⟨#[61]⟩ L1 e1).2) IV.out
                  (fun h => by rw [show rmark ⟨#[61]⟩ L1 e1 = markF ⟨#[61]⟩ L1 from if_pos h]; exact ⟨rfl, rfl, fun _ => ⟨rfl, rfl⟩⟩) (fun h => by rw [show rmark ⟨#[61]⟩ L1 e1 = (L1, e1) from if_neg h]; exact ⟨rfl, rfl⟩))
                clear hI3 hk3
                go_wp2_with fail
                go_roundw
                case rel =>
                  exact ⟨k + 1, c', _, _, _, _, _, _, _, by go_num, { k1 := hk, nn := Nat.le_succ_of_le hnnk, nm := Nat.le_succ_of_le hnmk, ok := OK9.out, xz := .inr ⟨HX.out, rfl, rfl⟩, inv := IV9.out, st := ST9.out, zero := ZZ9.out, sz := SZ9.out, lg := hgz }⟩
                case measure => simp [intOf]; omega

          · have hks : k = s.size := by have := H.k1; omega
            have hki : ¬ ((k : Int) < (s.size : Int)) := by omega
            have hki' : decide ((k : Int) < (s.size : Int)) = false := decide_eq_false hki
            have hki2 : ¬ (k < s.size) := hk
            have hin := H.inv
            rw [show (lets s).drop k = [] from List.drop_of_length_le (by unfold lets; rw [List.length_map, Array.length_toList, hks]; exact Nat.le_refl _)] at hin
            have IV := Aside0.mk hin
            clear hin H hks
            go_wp2_with fail
            (with_reducible refine (rend_calls ST.out.isp).mono ?_)
            rintro e w9 ⟨rfl, hB9, hk9⟩
            have ZZ9 := Aside0.mk (blk_kept ZZ.out hk9 (fun h => by have h1 : w.heap.size = w1.heap.size := h; omega))
            have HB9 := Aside0.mk hB9
            have hf := IV.out.fin L0.length
            have hK := HK.out
            rw [← HA.out] at hf
            rw [← HA.out]
            unfold endC at hK
            rw [← hf.1] at hK
            obtain ⟨at1, e2, hp⟩ : ∃ at1 e2, placeF a L1 e1 = (at1, e2) := ⟨_, _, rfl⟩
            rw [hp] at hK hf ⊢
            dsimp only at hK hf ⊢
            have HF2 := Aside0.mk hf.2
            have GB := Aside0.mk (blk_kept ST.out.box hk9 (fun h => by have h1 : w1.heap.size + 1 = w1.heap.size := h; omega))
            have GC := Aside0.mk (show GivesC w w9 c' vN vM v2 v3 from ⟨Kd.R_lower (R_at ST.out.names hk9 (by omega)) (by omega), Kd.R_lower (R_at ST.out.nums hk9 (by omega)) (by omega), kX.M_lower (by omega) (M_at ST.out.expr hk9 (by omega))⟩)
            have GR := Aside0.mk (show kT.R TS w9 (w1.heap.size + 1 + 1) (fun _ => True) vN c'.names ∧ kI.R 2 w9 (w1.heap.size + 1 + 1) (fun _ => True) vM c'.nums ∧ kX.M w9 (w1.heap.size + 1 + 1) (fun _ => True) c'.x [.int .u8 c'.x.f0, .string c'.x.f1, v2, v3] from ⟨R_at ST.out.names hk9 (by omega), R_at ST.out.nums hk9 (by omega), M_at ST.out.expr hk9 (by omega)⟩)
            obtain ⟨A0, n0, c0, A1, n1, c1, A2, n2, c2, A3, n3, c3, rfl, rfl, rfl, rfl⟩ := ST.out.slices
            clear hp ST ZZ hB9 hk9 hf IV HR
            by_cases he : e2 ≠ 0
            · have f1 : (e2 != 0) = true := bne_iff_ne.2 he
              have f2 : (e2 == 0) = false := beq_eq_false_iff_ne.2 he
              rw [if_pos he] at hK
              subst hK
              obtain ⟨z0, z1, z2, z3, z4, z5, z6, z7, z8, z9, z10⟩ := cells11 ZZ9.out
              obtain ⟨y0, y1, y2, y3, y4, y5, y6, y7, y8, y9, y10⟩ := free11 ZZ9.out
              go_wp2
              refine bodyPost_ret (results_ctt rfl _ _ _ TC _ (0, 0) _ rfl (put11 ZZ9.out _ _ _ _ _ _ _ _ _ _ _) Tryd.underlying54 rfl info_c) rfl ?_
              exact ⟨_, _, _, _, rfl, givesC_zero _ _, by (repeat (first | (with_reducible exact HB9.out) | (with_reducible apply below_alloc) | (with_reducible apply pw_below_drewN) | (with_reducible apply below_drew1) | (with_reducible refine below_set ?_ (by first | assumption | omega))))⟩
            · have he0 : e2 = 0 := by omega
              obtain ⟨hc9, ha9⟩ := HF2.out he0
              subst he0
              rw [if_neg he] at hK
              rw [ha9, hc9] at hK
              subst hK
              clear he hc9 ha9
              obtain ⟨z0, z1, z2, z3, z4, z5, z6, z7, z8, z9, z10⟩ := cells11 ZZ9.out
              obtain ⟨y0, y1, y2, y3, y4, y5, y6, y7, y8, y9, y10⟩ := free11 ZZ9.out
              obtain ⟨x0, x1, x2, x3, x4, x5, x6, x7, x8, x9, x10⟩ := cells11 GB.out
              go_wp2
              refine bodyPost_ret (results_ctt rfl _ _ _ TC _ (0, 0) _ rfl (put11 ZZ9.out _ _ _ _ _ _ _ _ _ _ _) Tryd.underlying54 rfl info_c) rfl ?_
              exact ⟨_, _, _, _, rfl, ⟨Kd.R_lower (R_at GR.out.1 (by (repeat (first | (with_reducible exact Kept.refl _ _) | (with_reducible apply Kept.alloc) | (with_reducible apply Kept.drewN) | (with_reducible apply Kept.drew) | (with_reducible refine kept_at ?_ _ _) | (with_reducible refine kept_new ?_ _ _ (Nat.le_refl _)) | (with_reducible refine kept_new ?_ _ _ (by first | assumption | omega))))) (by omega)) (by omega), Kd.R_lower (R_at GR.out.2.1 (by (repeat (first | (with_reducible exact Kept.refl _ _) | (with_reducible apply Kept.alloc) | (with_reducible apply Kept.drewN) | (with_reducible apply Kept.drew) | (with_reducible refine kept_at ?_ _ _) | (with_reducible refine kept_new ?_ _ _ (Nat.le_refl _)) | (with_reducible refine kept_new ?_ _ _ (by first | assumption | omega))))) (by omega)) (by omega), kX.M_lower (by omega) (M_at (g := w.heap.size) GR.out.2.2 (by (repeat (first | (with_reducible exact Kept.refl _ _) | (with_reducible apply Kept.alloc) | (with_reducible apply Kept.drewN) | (with_reducible apply Kept.drew) | (with_reducible refine kept_at ?_ _ _) | (with_reducible refine kept_new ?_ _ _ (Nat.le_refl _)) | (with_reducible refine kept_new ?_ _ _ (by first | assumption | omega))))) (by omega))⟩, by (repeat (first | (with_reducible exact HB9.out) | (with_reducible apply below_alloc) | (with_reducible apply pw_below_drewN) | (with_reducible apply below_drew1) | (with_reducible refine below_set ?_ (by first | assumption | omega))))⟩
end Go.Proofs.YtjeofffddbibeaaDoor.Pa
end
