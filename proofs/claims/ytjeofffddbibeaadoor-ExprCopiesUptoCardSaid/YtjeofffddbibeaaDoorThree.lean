/-
  Another number at a part (ExprCopies); the weight of an expression with its names; what holds at the end; small.
-/
import Derived.Test.YtjeofffddbibeaaDoorTwo
import Derived.Test.YtjeofffddbibeaaDoorExprE
import Derived.Test.YtjeofffddbibeaaDoorExprNM
namespace Go.Proofs.YtjeofffddbibeaaDoor.Ex
open Go Go.RowKit Go.Proofs.YtjeofffddbibeaaDoor.PExprTells Go.Proofs.YtjeofffddbibeaaDoorW.PrintWords Go.Proofs.YtjeofffddbibeaaDoorW.PrintLast Go.Proofs.YtjeofffddbibeaaDoorW.PrintMore
set_option linter.unusedVariables false
set_option linter.unusedSimpArgs false

mutual
/-- The weight: parts, numbers and names' bytes. -/
def wz : X → Nat
  | ⟨_, s, ns, xs⟩ => 4 + s.size + ns.length + wzL xs
def wzL : List X → Nat
  | [] => 0
  | y :: ys => wz y + wzL ys
end
theorem wz_eq (x : X) : wz x = 4 + x.f1.size + x.f2.length + wzL x.f3 := by cases x; rw [wz]
theorem wzL_nil : wzL [] = 0 := by rw [wzL]
theorem wzL_cons (y : X) (ys : List X) : wzL (y :: ys) = wz y + wzL ys := by rw [wzL]
theorem wz_mem {y : X} : ∀ {ys : List X}, y ∈ ys → wz y ≤ wzL ys := by
  intro ys
  induction ys with
  | nil => intro h; cases h
  | cons z ys ih =>
    intro h
    rw [wzL_cons]
    rcases List.mem_cons.1 h with rfl | h
    · omega
    · have := ih h; omega
theorem wz_child {x y : X} (h : y ∈ x.f3) : wz y ≤ wz x := by
  have := wz_mem h
  rw [wz_eq x]
  omega
theorem wt_wz (N : Nat) : ∀ x : X, cnt x ≤ N → wt x ≤ wz x := by
  induction N with
  | zero => intro x hx; have := cnt_pos x; omega
  | succ N ih =>
    intro x hx
    have key : ∀ ys : List X, (∀ y ∈ ys, cnt y ≤ N) → wtL ys ≤ wzL ys := by
      intro ys
      induction ys with
      | nil => intro _; rw [wtL_nil]; exact Nat.zero_le _
      | cons y ys ih2 =>
        intro h
        rw [wtL_cons, wzL_cons]
        have h1 := ih y (h y (by simp))
        have h2 := ih2 (fun z hz => h z (by simp [hz]))
        omega
    have h := key x.f3 (fun y hy => by have := cnt_child hy; omega)
    rw [wt_eq, wz_eq]
    omega
theorem encs_set (enc : Int → Value) (ns : List Int) (j : Nat) (n : Int) : encs enc (ns.set j n) = (encs enc ns).set j (enc n) := by
  simp [encs, List.map_set]
/-- Another number at the part. -/
theorem Spot.setNum {w : World} {b lo hi : Nat} {x : X} {p : Addr} {l h : Nat} {z : X} {Z2 : Option Addr} {q2 : Nat} {u3 : Value} (S : Spot w b lo hi x p l h z (.slice Z2 z.f2.length q2) u3) (j : Nat) (hj : j < z.f2.length) (n : Int) (hn : -9223372036854775808 ≤ n ∧ n ≤ 9223372036854775807) (hne : n ≠ z.f2[j]) :
    ∃ g, Z2 = some ⟨g, 0, none⟩ ∧ (lo ≤ g ∧ g < hi) ∧ (∀ k (hk : k < z.f2.length), w.cell? ⟨g, k, none⟩ = some (.int .i64 z.f2[k])) ∧ (∃ arr, w.heap[g]? = some (.cells arr 2 (0, 0))) ∧
    ∃ x' v2 v3, (w.setCell ⟨g, j, none⟩ (.int .i64 n)).cell? ⟨b, 0, none⟩ = some (.int .u8 x'.f0) ∧ (w.setCell ⟨g, j, none⟩ (.int .i64 n)).cell? ⟨b, 1, none⟩ = some (.string x'.f1) ∧ (w.setCell ⟨g, j, none⟩ (.int .i64 n)).cell? ⟨b, 2, none⟩ = some v2 ∧ (w.setCell ⟨g, j, none⟩ (.int .i64 n)).cell? ⟨b, 3, none⟩ = some v3 ∧ OwnT (w.setCell ⟨g, j, none⟩ (.int .i64 n)) lo hi x' v2 v3 ∧ Wf x' ∧ cnt x' = cnt x ∧ x' ≠ x := by
  obtain ⟨m1, m2, h1, h2, h3, h4, h5, h6⟩ := (OwnT_eq _ _ _ _ _ _).1 S.own
  have hlen : (encs (Value.int .i64) z.f2).length = z.f2.length := by simp [encs]
  rcases h4.2 with ⟨h7, h8⟩ | ⟨g, cap, cur, hv, hb, hg, hc1, hc2, hc3, hc4⟩
  · rw [h8] at hj; simp at hj
  injection hv with hv1 hv2 hv3
  subst hv1
  subst hv3
  have hin := S.inn
  have hgm : g < m1 := h5 g rfl
  have hne1 : p.block ≠ g := fun he => S.out ⟨by omega, by omega⟩
  have hcell : ∀ k (hk : k < z.f2.length), w.cell? ⟨g, k, none⟩ = some (.int .i64 z.f2[k]) := by
    intro k hk
    rw [blk_cell hg k]
    have h9 : cur.toList[k]? = (encs (Value.int .i64) z.f2)[k]? := by rw [← hc4, List.getElem?_take_of_lt (by omega)]
    rw [← Array.getElem?_toList, h9]
    simp [encs, List.getElem?_eq_getElem hk]
  refine ⟨g, rfl, ⟨by omega, by omega⟩, hcell, ⟨cur, hg⟩, ?_⟩
  have a7 := heap_setCell_same w g j _ _ (Value.int .i64 n) hg
  have a4 : ∀ k, k ≠ g → (w.setCell ⟨g, j, none⟩ (.int .i64 n)).heap[k]? = w.heap[k]? := fun k hk => heap_setCell_other w ⟨g, j, none⟩ k _ hk
  have hp := a4 p.block hne1
  obtain ⟨arr, harr⟩ := S.row
  have hc0 := S.c0
  refine S.put _ ⟨z.f0, z.f1, z.f2.set j n, z.f3⟩ (.slice (some ⟨g, 0, none⟩) z.f2.length q2) u3 (fun k k1 k2 => a4 k (fun he => k2 ⟨by omega, by omega⟩)) (fun i _ => cell_heap_eq hp i) ⟨arr, hp.trans harr⟩ ?_ ((cell_heap_eq hp _).trans S.c1) ((cell_heap_eq hp _).trans S.c2) ((cell_heap_eq hp _).trans S.c3) ?_ ?_ ?_ ?_
  · rw [S.flat] at hc0 ⊢
    exact (cell_heap_eq hp _).trans hc0
  · refine (OwnT_eq _ _ _ _ _ _).2 ⟨m1, m2, h1, h2, h3, ⟨?_, .inr ⟨g, q2, cur.setIfInBounds j (.int .i64 n), ?_, hb, a7, ?_, hc2, ?_, ?_⟩⟩, h5, ?_⟩
    · simp [encs]
    · simp
    · show (z.f2.set j n).length ≤ q2
      rw [List.length_set]
      exact hc1
    · rw [Array.size_setIfInBounds]
      exact hc3
    · show (cur.setIfInBounds j (.int .i64 n)).toList.take ((z.f2.set j n).length * 1) = encs (Value.int .i64) (z.f2.set j n)
      rw [encs_set, List.length_set, Array.toList_setIfInBounds, List.take_set, hc4]
    · rcases h6 with h6 | ⟨g', cap', hv', g1, g2, g3, ⟨arr', g4⟩, g5⟩
      · exact .inl h6
      · have hg' := a4 g' (by omega)
        exact .inr ⟨g', cap', hv', g1, g2, g3, ⟨arr', hg'.trans g4⟩, OwnL_keep g5 (fun k q1 q2 => a4 k (by omega)) (fun i _ _ => cell_heap_eq hg' i)⟩
  · refine (Wf_eq _).2 ⟨S.wf.op, S.wf.name, fun k hk => ?_, ((Wf_eq z).1 S.wf).2.2.2⟩
    rcases List.mem_or_eq_of_mem_set hk with hk | rfl
    · exact S.wf.nums k hk
    · exact hn
  · rw [cnt_eq, cnt_eq z]
  · intro he
    have h9 : (z.f2.set j n)[j]? = z.f2[j]? := by
      have := congrArg (fun t : X => t.f2[j]?) he
      exact this
    rw [List.getElem?_set_self hj, List.getElem?_eq_getElem hj] at h9
    exact hne (Option.some.inj h9)
theorem small_calls (x : X) (A2 : Option Addr) (c2 : Nat) (A3 : Option Addr) (c3 : Nat) (w : World) (hx : Has w x A2 c2 A3 c3) (hc : cnt x ≤ 1099511627776) :
    Calls Tryd.prog 18 #[agg x A2 c2 A3 c3] w fun e w' => e = .returned (.bool (decide (cnt x ≤ 3000))) ∧ Below w.heap.size w w' := by
  refine (epactlaw09_small.calls (2 * cnt x) x.f0 x.f1 A2 c2 x.f2 A3 c3 x.f3 (decide (cnt x ≤ 3000)) w hx.C2 hx.l2 hx.C3 hx.l3 ?_).mono fun _ _ h => h
  unfold epactlaw09_small.f
  rw [refCount_f (cnt x) x (Nat.le_refl _) hc _ (Nat.le_refl _)]
  show some (decide ((cnt x : Int) ≤ 3000)) = _
  congr 1
  exact decide_eq_decide.2 (by omega)
/-- What holds of the two other boxes when one block of y's was written. -/
theorem Ends {w w4 w5 wr wf : World} {x : X} {A2 : Option Addr} {c2 : Nat} {A3 : Option Addr} {c3 : Nat} {l1 h1 l2 h2 : Nat} {V2 V3 : Value} {G2 : Option Addr} {r2 : Nat} {G3 : Option Addr} {r3 : Nat} {yb kb g : Nat}
    (hst : St w x A2 c2 A3 c3 (some ⟨l1, h1, V2, V3⟩) (some ⟨l2, h2, .slice G2 x.f2.length r2, .slice G3 x.f3.length r3⟩) (some yb) (some kb) w4) (hs : w5.heap.size = w4.heap.size)
    (hT2 : OwnT w5 l2 h2 x (.slice G2 x.f2.length r2) (.slice G3 x.f3.length r3)) (hX : Has w x A2 c2 A3 c3) (ix : InBox w.heap.size x A2 c2 A3 c3 w5) (ik : InBox kb x G2 r2 G3 r3 w5) (hcx : cnt x ≤ 1099511627776)
    (BY : Below w5.heap.size w5 wr) (hg : g = yb ∨ (l1 ≤ g ∧ g < h1)) (ho : ∀ b, b ≠ g → wf.heap[b]? = wr.heap[b]?) (BF : Below w.heap.size w wf) :
    InBox w.heap.size x A2 c2 A3 c3 wf ∧ InBox kb x G2 r2 G3 r3 wf := by
  obtain ⟨o1, o2, _⟩ := hst.one _ rfl
  obtain ⟨t1, t2, _⟩ := hst.two _ rfl
  have ap := hst.apart _ _ rfl rfl
  obtain ⟨y1, y2, _, y4, y5⟩ := hst.yb yb rfl
  obtain ⟨k1, k2, _, k4, k5⟩ := hst.kb kb rfl
  have yk := hst.yk yb kb rfl rfl
  have y6 := y5 _ rfl
  have k6 := k4 _ rfl
  have o1' : w.heap.size < l1 := o1
  have t1' : w.heap.size < l2 := t1
  have ap' : h1 ≤ l2 := ap
  have t2' : h2 ≤ w4.heap.size := t2
  have y6' : ¬ (l2 ≤ yb ∧ yb < h2) := y6
  have k6' : ¬ (l1 ≤ kb ∧ kb < h1) := k6
  have hx : wf.heap[w.heap.size]? = w5.heap[w.heap.size]? := (ho _ (by omega)).trans (BY.block _ (by omega))
  have hk : wf.heap[kb]? = w5.heap[kb]? := (ho _ (by omega)).trans (BY.block _ (by omega))
  have hT := OwnT_keep _ _ (Nat.le_refl _) hT2 (w' := wf) (fun b q1 q2 => (ho b (by omega)).trans (BY.block b (by omega)))
  exact ⟨⟨(cell_heap_eq hx 0).trans ix.q0, (cell_heap_eq hx 1).trans ix.q1, (cell_heap_eq hx 2).trans ix.q2, (cell_heap_eq hx 3).trans ix.q3, hX.below BF⟩,
    ⟨(cell_heap_eq hk 0).trans ik.q0, (cell_heap_eq hk 1).trans ik.q1, (cell_heap_eq hk 2).trans ik.q2, (cell_heap_eq hk 3).trans ik.q3, OwnT_Has hT hX.wf hcx⟩⟩
theorem sameX_ne {x y : X} (h : y ≠ x) : sameX x y = false ∧ sameX y x = false := by
  constructor
  · rcases hs : sameX x y with _ | _
    · rfl
    · exact absurd (sameX_iff (cnt x) x y (Nat.le_refl _) hs).symm h
  · rcases hs : sameX y x with _ | _
    · rfl
    · exact absurd (sameX_iff (cnt y) y x (Nat.le_refl _) hs) h
end Go.Proofs.YtjeofffddbibeaaDoor.Ex
