/-
  A part of an expression in memory of its own, and what a change of it alone does: the whole is another one.
-/
import Derived.Test.YtjeofffddbibeaaDoorCopy
namespace Go.Proofs.YtjeofffddbibeaaDoor.Ex
open Go Go.RowKit Go.Proofs.YtjeofffddbibeaaDoor.PExprTells Go.Proofs.YtjeofffddbibeaaDoorW.PrintWords Go.Proofs.YtjeofffddbibeaaDoorW.PrintLast Go.Proofs.YtjeofffddbibeaaDoorW.PrintMore
set_option linter.unusedVariables false
set_option linter.unusedSimpArgs false

theorem OwnL_split {w : World} {g hi : Nat} : ∀ (ys : List X) (j : Nat) (hj : j < ys.length) {i lo : Nat}, OwnL w g i lo hi ys →
    ∃ a b u2 u3, lo ≤ a ∧ a ≤ b ∧ b ≤ hi ∧ OwnL w g i lo a (ys.take j) ∧ w.cell? ⟨g, (i + j) * 4, none⟩ = some (.int .u8 ys[j].f0) ∧ w.cell? ⟨g, (i + j) * 4 + 1, none⟩ = some (.string ys[j].f1) ∧
      w.cell? ⟨g, (i + j) * 4 + 2, none⟩ = some u2 ∧ w.cell? ⟨g, (i + j) * 4 + 3, none⟩ = some u3 ∧ OwnT w a b ys[j] u2 u3 ∧ OwnL w g (i + j + 1) b hi (ys.drop (j + 1)) := by
  intro ys
  induction ys with
  | nil => intro j hj; simp at hj
  | cons y ys ih =>
    intro j hj i lo h
    obtain ⟨m, v2, v3, h1, c0, c1, c2, c3, h2, h3⟩ := (OwnL_cons w g i lo hi y ys).1 h
    cases j with
    | zero => exact ⟨lo, m, v2, v3, Nat.le_refl _, h2.le, h3.le, (OwnL_nil _ _ _ _ _).2 (Nat.le_refl _), c0, c1, c2, c3, h2, h3⟩
    | succ j =>
      obtain ⟨a, b, u2, u3, k1, k2, k3, k4, e0, e1, e2, e3, k5, k6⟩ := ih j (by simpa using hj) h3
      rw [show i + 1 + j = i + (j + 1) by omega] at e0 e1 e2 e3 k6
      exact ⟨a, b, u2, u3, by omega, k2, k3, (OwnL_cons _ _ _ _ _ _ _).2 ⟨m, v2, v3, h1, c0, c1, c2, c3, h2, k4⟩, e0, e1, e2, e3, k5, k6⟩
theorem OwnL_join {w : World} {g hi a b : Nat} {z : X} {u2 u3 : Value} {qs : List X} : ∀ (ps : List X) {i lo : Nat}, OwnL w g i lo a ps → w.cell? ⟨g, (i + ps.length) * 4, none⟩ = some (.int .u8 z.f0) → w.cell? ⟨g, (i + ps.length) * 4 + 1, none⟩ = some (.string z.f1) →
    w.cell? ⟨g, (i + ps.length) * 4 + 2, none⟩ = some u2 → w.cell? ⟨g, (i + ps.length) * 4 + 3, none⟩ = some u3 → OwnT w a b z u2 u3 → OwnL w g (i + ps.length + 1) b hi qs → OwnL w g i lo hi (ps ++ z :: qs) := by
  intro ps
  induction ps with
  | nil =>
    intro i lo h c0 c1 c2 c3 hT hq
    have hl := (OwnL_nil _ _ _ _ _).1 h
    have := hT.le
    rw [List.length_nil, Nat.add_zero] at c0 c1 c2 c3 hq
    exact (OwnL_cons _ _ _ _ _ _ _).2 ⟨b, u2, u3, by omega, c0, c1, c2, c3, hT.lower hl, hq⟩
  | cons y ps ih =>
    intro i lo h c0 c1 c2 c3 hT hq
    obtain ⟨m, v2, v3, h1, e0, e1, e2, e3, h2, h3⟩ := (OwnL_cons _ _ _ _ _ _ _).1 h
    rw [List.length_cons, show i + (ps.length + 1) = i + 1 + ps.length by omega] at c0 c1 c2 c3 hq
    exact (OwnL_cons _ _ _ _ _ _ _).2 ⟨m, v2, v3, h1, e0, e1, e2, e3, h2, ih h3 c0 c1 c2 c3 hT hq⟩
/-- A part z, at p, in the memory between l and h; and what its change alone does to the whole (x, in the box b, between lo and hi). -/
structure Spot (w : World) (b lo hi : Nat) (x : X) (p : Addr) (l h : Nat) (z : X) (u2 u3 : Value) : Prop where
  c0 : w.cell? p = some (.int .u8 z.f0)
  c1 : w.cell? ⟨p.block, p.off + 1, none⟩ = some (.string z.f1)
  c2 : w.cell? ⟨p.block, p.off + 2, none⟩ = some u2
  c3 : w.cell? ⟨p.block, p.off + 3, none⟩ = some u3
  flat : p = ⟨p.block, p.off, none⟩
  own : OwnT w l h z u2 u3
  row : ∃ arr, w.heap[p.block]? = some (.cells arr 25 (0, 0))
  inn : lo ≤ l ∧ h ≤ hi ∧ (p.block = b ∨ (lo ≤ p.block ∧ p.block < hi))
  out : ¬ (l ≤ p.block ∧ p.block < h)
  wf : Wf z
  small : cnt z ≤ cnt x
  put : ∀ (w' : World) (z' : X) (t2 t3 : Value), (∀ k, k ≠ p.block → ¬ (l ≤ k ∧ k < h) → w'.heap[k]? = w.heap[k]?) → (∀ i, (i < p.off ∨ p.off + 4 ≤ i) → w'.cell? ⟨p.block, i, none⟩ = w.cell? ⟨p.block, i, none⟩) →
    (∃ arr, w'.heap[p.block]? = some (.cells arr 25 (0, 0))) → w'.cell? p = some (.int .u8 z'.f0) → w'.cell? ⟨p.block, p.off + 1, none⟩ = some (.string z'.f1) → w'.cell? ⟨p.block, p.off + 2, none⟩ = some t2 → w'.cell? ⟨p.block, p.off + 3, none⟩ = some t3 →
    OwnT w' l h z' t2 t3 → Wf z' → cnt z' = cnt z → z' ≠ z →
    ∃ x' v2 v3, w'.cell? ⟨b, 0, none⟩ = some (.int .u8 x'.f0) ∧ w'.cell? ⟨b, 1, none⟩ = some (.string x'.f1) ∧ w'.cell? ⟨b, 2, none⟩ = some v2 ∧ w'.cell? ⟨b, 3, none⟩ = some v3 ∧ OwnT w' lo hi x' v2 v3 ∧ Wf x' ∧ cnt x' = cnt x ∧ x' ≠ x
theorem Spot.root {w : World} {b lo hi : Nat} {x : X} {v2 v3 : Value} (hw : w.heap[b]? = some (.cells #[.int .u8 x.f0, .string x.f1, v2, v3] 25 (0, 0))) (hT : OwnT w lo hi x v2 v3) (hb : ¬ (lo ≤ b ∧ b < hi)) (hwf : Wf x) : Spot w b lo hi x ⟨b, 0, none⟩ lo hi x v2 v3 where
  c0 := (blk_cell hw 0).trans rfl
  c1 := (blk_cell hw 1).trans rfl
  c2 := (blk_cell hw 2).trans rfl
  c3 := (blk_cell hw 3).trans rfl
  flat := rfl
  own := hT
  row := ⟨_, hw⟩
  inn := ⟨Nat.le_refl _, Nat.le_refl _, .inl rfl⟩
  out := hb
  wf := hwf
  small := Nat.le_refl _
  put := fun w' z' t2 t3 _ _ _ c0 c1 c2 c3 hT' hwf' hcnt hne => ⟨z', t2, t3, c0, c1, c2, c3, hT', hwf', hcnt, hne⟩
/-- The expression with another argument at j. -/
def setArg (z : X) (j : Nat) (y : X) : X := ⟨z.f0, z.f1, z.f2, z.f3.take j ++ y :: z.f3.drop (j + 1)⟩
theorem setArg_cnt (z : X) (j : Nat) (hj : j < z.f3.length) (y : X) (hy : cnt y = cnt z.f3[j]) : cnt (setArg z j y) = cnt z := by
  rw [cnt_eq, cnt_eq z]
  show 1 + cntL (z.f3.take j ++ y :: z.f3.drop (j + 1)) = _
  have h := cntL_append (z.f3.take j) (z.f3.drop j)
  rw [List.take_append_drop, List.drop_eq_getElem_cons hj, cntL_cons] at h
  rw [cntL_append, cntL_cons, hy, h]
theorem setArg_len (z : X) (j : Nat) (hj : j < z.f3.length) (y : X) : (setArg z j y).f3.length = z.f3.length := by
  show (z.f3.take j ++ y :: z.f3.drop (j + 1)).length = _
  rw [List.length_append, List.length_cons, List.length_take, List.length_drop]
  omega
theorem setArg_ne (z : X) (j : Nat) (hj : j < z.f3.length) (y : X) (hy : y ≠ z.f3[j]) : setArg z j y ≠ z := by
  intro h
  have h1 : (setArg z j y).f3[j]? = z.f3[j]? := by rw [h]
  have h2 : (setArg z j y).f3[j]? = some y := by
    show (z.f3.take j ++ y :: z.f3.drop (j + 1))[j]? = some y
    rw [List.getElem?_append_right (by rw [List.length_take]; omega), List.length_take, show j - min j z.f3.length = 0 by omega]
    rfl
  rw [h2, List.getElem?_eq_getElem hj] at h1
  exact hy (Option.some.inj h1)
theorem setArg_wf (z : X) (j : Nat) (y : X) (hz : Wf z) (hy : Wf y) : Wf (setArg z j y) := by
  refine (Wf_eq _).2 ⟨hz.op, hz.name, hz.nums, WfL_of (fun u hu => ?_)⟩
  rcases List.mem_append.1 hu with h | h
  · exact hz.child (List.mem_of_mem_take h)
  · rcases List.mem_cons.1 h with rfl | h
    · exact hy
    · exact hz.child (List.mem_of_mem_drop h)
theorem Spot.down {w : World} {b lo hi : Nat} {x : X} {p : Addr} {l h : Nat} {z : X} {u2 u3 : Value} (S : Spot w b lo hi x p l h z u2 u3) (j : Nat) (hj : j < z.f3.length) :
    ∃ g cap a e t2 t3, u3 = .slice (some ⟨g, 0, none⟩) z.f3.length cap ∧ Spot w b lo hi x ⟨g, j * 4, none⟩ a e z.f3[j] t2 t3 := by
  obtain ⟨m1, m2, h1, h2, h3, h4, h5, h6⟩ := (OwnT_eq _ _ _ _ _ _).1 S.own
  rcases h6 with ⟨h6, _⟩ | ⟨g, cap, hv, g1, g2, g3, ⟨arr, g4⟩, g5⟩
  · rw [h6] at hj; simp at hj
  obtain ⟨a, e, t2, t3, k1, k2, k3, kp, e0, e1, e2, e3, kT, ks⟩ := OwnL_split z.f3 j hj g5
  rw [Nat.zero_add] at e0 e1 e2 e3 ks
  have hin := S.inn
  have hout := S.out
  have hpg : p.block ≠ g := fun he => hout ⟨by omega, by omega⟩
  refine ⟨g, cap, a, e, t2, t3, hv, ⟨e0, e1, e2, e3, rfl, kT, ⟨arr, g4⟩, ⟨by omega, by omega, .inr ⟨by show lo ≤ g; omega, by show g < hi; omega⟩⟩, by show ¬ (a ≤ g ∧ g < e); omega, S.wf.child (List.getElem_mem hj), ?_, ?_⟩⟩
  · have := cnt_child (List.getElem_mem hj)
    have := S.small
    omega
  · intro w' z' s2 s3 hoth hcell ⟨arr', harr'⟩ c0 c1 c2 c3 hT' hwf' hcnt hne
    have hoth' : ∀ k, k ≠ g → ¬ (a ≤ k ∧ k < e) → w'.heap[k]? = w.heap[k]? := hoth
    have hp := hoth' p.block hpg (by omega)
    have hl : (z.f3.take j).length = j := by rw [List.length_take]; omega
    obtain ⟨arrp, hrowp⟩ := S.row
    refine S.put w' (setArg z j z') u2 u3 (fun k hk1 hk2 => hoth' k (fun he => hk2 ⟨by omega, by omega⟩) (by omega)) (fun i _ => cell_heap_eq hp i) ⟨arrp, hp.trans hrowp⟩
      ?_ ((cell_heap_eq hp _).trans S.c1) ((cell_heap_eq hp _).trans S.c2) ((cell_heap_eq hp _).trans S.c3) ?_ (setArg_wf z j z' S.wf hwf') (setArg_cnt z j hj z' hcnt) (setArg_ne z j hj z' hne)
    · have := S.c0
      rw [S.flat] at this ⊢
      exact (cell_heap_eq hp _).trans this
    · refine (OwnT_eq _ _ _ _ _ _).2 ⟨m1, m2, h1, h2, h3, ownsRow_same h4 (fun b' hb' => hoth' b' (by have := h5 b' hb'; omega) (by have := h5 b' hb'; omega)), h5, .inr ⟨g, cap, by rw [setArg_len z j hj]; exact hv, g1, g2, by rw [setArg_len z j hj]; exact g3, ⟨arr', harr'⟩, ?_⟩⟩
      show OwnL w' g 0 m2 h (z.f3.take j ++ z' :: z.f3.drop (j + 1))
      have hcell' : ∀ i, (i < j * 4 ∨ j * 4 + 4 ≤ i) → w'.cell? ⟨g, i, none⟩ = w.cell? ⟨g, i, none⟩ := hcell
      refine OwnL_join (a := a) (b := e) (u2 := s2) (u3 := s3) (z.f3.take j) ?_ ?_ ?_ ?_ ?_ hT' ?_
      · exact OwnL_keep kp (fun k q1 q2 => hoth' k (by omega) (by omega)) (fun i q1 q2 => hcell' i (.inl (by rw [hl] at q2; omega)))
      · rw [hl, Nat.zero_add]; exact c0
      · rw [hl, Nat.zero_add]; exact c1
      · rw [hl, Nat.zero_add]; exact c2
      · rw [hl, Nat.zero_add]; exact c3
      · rw [hl, Nat.zero_add]
        exact OwnL_keep ks (fun k q1 q2 => hoth' k (by omega) (by omega)) (fun i q1 q2 => hcell' i (.inr (by omega)))
theorem sameX_iff (N : Nat) : ∀ x y : X, cnt x ≤ N → sameX x y = true → x = y := by
  induction N with
  | zero => intro x y hx; have := cnt_pos x; omega
  | succ N ih =>
    intro x y hN h
    have key : ∀ xs ys : List X, (∀ u ∈ xs, cnt u ≤ N) → sameL xs ys = true → xs = ys := by
      intro xs
      induction xs with
      | nil =>
        intro ys _ h
        cases ys with
        | nil => rfl
        | cons z zs => rw [sameL] at h; cases h
      | cons u xs ih2 =>
        intro ys hu h
        cases ys with
        | nil => rw [sameL] at h; cases h
        | cons z zs =>
          rw [sameL_cons, Bool.and_eq_true] at h
          rw [ih u z (hu u (by simp)) h.1, ih2 zs (fun v hv => hu v (by simp [hv])) h.2]
    rw [sameX_eq, Bool.and_eq_true, Bool.and_eq_true, Bool.and_eq_true, decide_eq_true_eq, decide_eq_true_eq, eqB_iff] at h
    have h3 := key x.f3 y.f3 (fun u hu => by have := cnt_child hu; omega) h.2
    cases x
    cases y
    obtain ⟨⟨⟨a, b⟩, c⟩, _⟩ := h
    simp only at a b c h3
    rw [a, b, c, h3]
end Go.Proofs.YtjeofffddbibeaaDoor.Ex
