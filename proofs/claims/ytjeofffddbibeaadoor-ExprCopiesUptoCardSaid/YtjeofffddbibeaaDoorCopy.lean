/-
  expr.Copy: the same expression, in memory of its own.
-/
import Derived.Test.YtjeofffddbibeaaDoorOwn
import Derived.Test.YtjeofffddbibeaaDoorExprU
namespace Go.Proofs.YtjeofffddbibeaaDoor.Ex
open Go Go.RowKit Go.Proofs.YtjeofffddbibeaaDoor.PExprTells Go.Proofs.YtjeofffddbibeaaDoorW.PrintWords Go.Proofs.YtjeofffddbibeaaDoorW.PrintLast Go.Proofs.YtjeofffddbibeaaDoorW.PrintMore
set_option linter.unusedVariables false
set_option linter.unusedSimpArgs false

theorem wtL_mem {ys : List X} {y : X} (h : y ∈ ys) : wt y ≤ wtL ys := by
  induction ys with
  | nil => cases h
  | cons z ys ih =>
    rw [wtL_cons]
    rcases List.mem_cons.1 h with rfl | h
    · omega
    · have := ih h; omega
theorem wt_child {x y : X} (h : y ∈ x.f3) : wt y ≤ wt x := by
  have := wtL_mem h
  rw [wt_eq x]
  omega
theorem cnt_wt (N : Nat) : ∀ x : X, cnt x ≤ N → cnt x ≤ wt x := by
  induction N with
  | zero => intro x hx; have := cnt_pos x; omega
  | succ N ih =>
    intro x hx
    have key : ∀ ys : List X, (∀ y ∈ ys, cnt y ≤ wt y) → cntL ys ≤ wtL ys := by
      intro ys
      induction ys with
      | nil => intro _; rw [cntL_nil]; exact Nat.zero_le _
      | cons y ys ih2 => intro h; rw [cntL_cons, wtL_cons]; have := h y (by simp); have := ih2 (fun z hz => h z (by simp [hz])); omega
    have := key x.f3 (fun y hy => ih y (by have := cnt_child hy; omega))
    rw [cnt_eq, wt_eq]
    omega
/-- What cells a copied element holds. -/
theorem cells_of_drop {inner : List Value} {j : Nat} {a b c d : Value} (h : (inner.drop (j * 4)).take 4 = [a, b, c, d]) : inner[j * 4]? = some a ∧ inner[j * 4 + 1]? = some b ∧ inner[j * 4 + 2]? = some c ∧ inner[j * 4 + 3]? = some d := by
  have key : ∀ i, i < 4 → inner[j * 4 + i]? = [a, b, c, d][i]? := fun i hi => by
    rw [← h, List.getElem?_take_of_lt hi, List.getElem?_drop]
  exact ⟨key 0 (by omega), key 1 (by omega), key 2 (by omega), key 3 (by omega)⟩
theorem kX_sz : kX.sz = 4 := rfl
theorem kX_len {w : World} {x : X} {c : List Value} (h : kX.K w x c) : c.length = 4 ∧ ∀ u ∈ c, u.oneCell' = true := ⟨(kX.K_len h).trans kX_sz, kX.K_one h⟩
theorem kX_rows {w w' : World} {A : Option Addr} {xs : List X} (h : kX.C w A xs.length xs) (hb : Below w.heap.size w w') : ReadsRow (kX.K w) 4 w' A xs.length xs := ReadsRow.imp_ (show ReadsRow (kX.K w) 4 w A xs.length xs from h) hb (fun _ _ hp => hp)
theorem ownsRow_slice {w : World} {base : Nat} {e : TypeId} {size : Nat} {v : Value} {n : Nat} {xs : List Value} (h : w.ownsRow base e size v n xs) : ∃ A c, v = .slice A n c := by
  rcases h.2 with ⟨hv, hn⟩ | ⟨g, cap, cur, hv, _⟩
  · exact ⟨none, 0, by rw [hv, hn]⟩
  · exact ⟨_, _, hv⟩
/-- In the loop: the first k arguments are copies of their own, the others as they were. -/
structure CInv (w w5 : World) (g cap : Nat) (xs : List X) (inner : List Value) (k : Nat) (wr : World) : Prop where
  own : ∃ m, w5.heap.size ≤ m ∧ m ≤ wr.heap.size ∧ OwnL wr g 0 w5.heap.size m (xs.take k)
  rest : ∀ i, k * 4 ≤ i → i < xs.length * 4 → wr.cell? ⟨g, i, none⟩ = inner[i]?
  old : ∀ b, b < w5.heap.size → b ≠ g → wr.heap[b]? = w5.heap[b]?
  row : ∃ arr : Array Value, wr.heap[g]? = some (.cells arr 25 (0, 0)) ∧ arr.size = cap * 4
  below : Below w.heap.size w wr
  size : w5.heap.size ≤ wr.heap.size
/-- Four cells of a block, written. -/
theorem set4 {w : World} {g o : Nat} {arr : Array Value} {t : TypeId} (h : w.heap[g]? = some (.cells arr t (0, 0))) (ho : o + 3 < arr.size) (c0 c1 c2 c3 : Value) (w7 : World)
    (hw : w7 = (((w.setCell ⟨g, o, none⟩ c0).setCell ⟨g, o + 1, none⟩ c1).setCell ⟨g, o + 2, none⟩ c2).setCell ⟨g, o + 3, none⟩ c3) :
    (∃ arr' : Array Value, w7.heap[g]? = some (.cells arr' t (0, 0)) ∧ arr'.size = arr.size) ∧ w7.cell? ⟨g, o, none⟩ = some c0 ∧ w7.cell? ⟨g, o + 1, none⟩ = some c1 ∧ w7.cell? ⟨g, o + 2, none⟩ = some c2 ∧ w7.cell? ⟨g, o + 3, none⟩ = some c3 ∧
      (∀ i, (i < o ∨ o + 4 ≤ i) → w7.cell? ⟨g, i, none⟩ = w.cell? ⟨g, i, none⟩) ∧ (∀ b, b ≠ g → w7.heap[b]? = w.heap[b]?) ∧ w7.heap.size = w.heap.size := by
  have h7 : w7.heap[g]? = some (.cells ((((arr.setIfInBounds o c0).setIfInBounds (o + 1) c1).setIfInBounds (o + 2) c2).setIfInBounds (o + 3) c3) t (0, 0)) := by
    rw [hw]
    exact heap_setCell_same _ _ (o + 3) _ _ _ (heap_setCell_same _ _ (o + 2) _ _ _ (heap_setCell_same _ _ (o + 1) _ _ _ (heap_setCell_same _ _ o _ _ _ h)))
  refine ⟨⟨_, h7, by simp⟩, ?_, ?_, ?_, ?_, ?_, ?_, by rw [hw]; simp⟩
  · rw [blk_cell h7 o, Array.getElem?_setIfInBounds_ne (by omega), Array.getElem?_setIfInBounds_ne (by omega), Array.getElem?_setIfInBounds_ne (by omega), Array.getElem?_setIfInBounds_self_of_lt (by omega)]
  · rw [blk_cell h7 (o + 1), Array.getElem?_setIfInBounds_ne (by omega), Array.getElem?_setIfInBounds_ne (by omega), Array.getElem?_setIfInBounds_self_of_lt (by simp; omega)]
  · rw [blk_cell h7 (o + 2), Array.getElem?_setIfInBounds_ne (by omega), Array.getElem?_setIfInBounds_self_of_lt (by simp; omega)]
  · rw [blk_cell h7 (o + 3), Array.getElem?_setIfInBounds_self_of_lt (by simp; omega)]
  · intro i hi
    rw [blk_cell h7 i, blk_cell h i, Array.getElem?_setIfInBounds_ne (by omega), Array.getElem?_setIfInBounds_ne (by omega), Array.getElem?_setIfInBounds_ne (by omega), Array.getElem?_setIfInBounds_ne (by omega)]
  · intro b hb
    rw [hw]
    exact (heap_setCell_other _ ⟨g, o + 3, none⟩ b _ hb).trans ((heap_setCell_other _ ⟨g, o + 2, none⟩ b _ hb).trans ((heap_setCell_other _ ⟨g, o + 1, none⟩ b _ hb).trans (heap_setCell_other _ ⟨g, o, none⟩ b _ hb)))
theorem OwnL_hi {w : World} {g i lo hi hi' : Nat} {ys : List X} (h : OwnL w g i lo hi ys) (hh : hi ≤ hi') : OwnL w g i lo hi' ys := by
  induction ys generalizing i lo with
  | nil => exact (OwnL_nil _ _ _ _ _).2 (Nat.le_trans ((OwnL_nil _ _ _ _ _).1 h) hh)
  | cons y ys ih2 =>
    obtain ⟨m, u2, u3, h1, c0, c1, c2, c3, h2, h3⟩ := (OwnL_cons _ _ _ _ _ _ _).1 h
    exact (OwnL_cons _ _ _ _ _ _ _).2 ⟨m, u2, u3, h1, c0, c1, c2, c3, h2, ih2 h3⟩
theorem row_at {w : World} {g : Nat} {arr : Array Value} {t : TypeId} (h : w.heap[g]? = some (.cells arr t (0, 0))) (o : Nat) (ho : o < arr.size) : (∃ v, w.cell? ⟨g, o, none⟩ = some v) ∧ w.frozen? ⟨g, o, none⟩ = false :=
  ⟨⟨arr[o], by rw [blk_cell h o, Array.getElem?_eq_getElem ho]⟩, blk_frozen h o⟩
theorem row_set {w : World} {g : Nat} {arr : Array Value} {t : TypeId} (h : w.heap[g]? = some (.cells arr t (0, 0))) (o : Nat) (u : Value) : ∃ arr' : Array Value, (w.setCell ⟨g, o, none⟩ u).heap[g]? = some (.cells arr' t (0, 0)) ∧ arr'.size = arr.size :=
  ⟨_, heap_setCell_same w g o _ _ u h, by simp⟩
theorem OwnT_slices {w : World} {lo hi : Nat} {x : X} {v2 v3 : Value} (h : OwnT w lo hi x v2 v3) : ∃ A2 c2 A3 c3, v2 = .slice A2 x.f2.length c2 ∧ v3 = .slice A3 x.f3.length c3 := by
  obtain ⟨m1, m2, h1, h2, h3, h4, h5, h6⟩ := (OwnT_eq w lo hi x v2 v3).1 h
  obtain ⟨A2, c2, hv2⟩ := ownsRow_slice h4
  rcases h6 with ⟨h6, hv⟩ | ⟨g, cap, hv, _⟩
  · exact ⟨A2, c2, none, 0, hv2, by rw [hv, h6]; rfl⟩
  · exact ⟨A2, c2, _, cap, hv2, hv⟩
theorem CInv.step {w w5 : World} {g cap : Nat} {xs : List X} {inner : List Value} {k : Nat} {wr wy w6 w7 : World} {u2 u3 : Value} (h : CInv w w5 g cap xs inner k wr) (hk : k < xs.length) (hcap : xs.length ≤ cap) (hg : g < w5.heap.size) (hgw : w.heap.size ≤ g)
    (hy : Below wr.heap.size wr wy) (b6 : Below wy.heap.size wy w6) (hT : OwnT w6 wy.heap.size w6.heap.size xs[k] u2 u3)
    (hw : w7 = (((w6.setCell ⟨g, k * 4, none⟩ (.int .u8 xs[k].f0)).setCell ⟨g, k * 4 + 1, none⟩ (.string xs[k].f1)).setCell ⟨g, k * 4 + 2, none⟩ u2).setCell ⟨g, k * 4 + 3, none⟩ u3) : CInv w w5 g cap xs inner (k + 1) w7 := by
  have h56 := h.size
  have hyr := hy.size
  have h66 := b6.size
  obtain ⟨arr, ha, hs⟩ := h.row
  have hb6 : ∀ b, b < wr.heap.size → w6.heap[b]? = wr.heap[b]? := fun b hb => (b6.block b (by omega)).trans (hy.block b hb)
  have ha6 := (hb6 g (by omega)).trans ha
  obtain ⟨⟨arr', ha7, hs7⟩, c0, c1, c2, c3, hrest, hoth, hsz⟩ := set4 ha6 (by omega) _ _ _ _ w7 hw
  obtain ⟨m, hm1, hm2, hO⟩ := h.own
  have hx : OwnL w7 g 0 w5.heap.size w7.heap.size (xs.take k ++ [xs[k]]) := by
    have hl : (xs.take k).length = k := by rw [List.length_take]; omega
    refine OwnL_snoc (m := m) (v2 := u2) (v3 := u3) ?_ ?_ ?_ ?_ ?_ ?_
    · exact OwnL_keep hO (fun b h1 h2 => (hoth b (by omega)).trans (hb6 b (by omega))) (fun j h1 h2 => (hrest j (.inl (by rw [hl] at h2; omega))).trans (cell_heap_eq (hb6 g (by omega)) j))
    · rw [hl, Nat.zero_add]; exact c0
    · rw [hl, Nat.zero_add]; exact c1
    · rw [hl, Nat.zero_add]; exact c2
    · rw [hl, Nat.zero_add]; exact c3
    · rw [hsz]
      exact (OwnT_keep _ _ (Nat.le_refl _) hT (fun b h1 h2 => hoth b (by omega))).lower (by omega)
  refine ⟨⟨w7.heap.size, by omega, Nat.le_refl _, ?_⟩, ?_, ?_, ⟨arr', ha7, hs7.trans hs⟩, ?_, by omega⟩
  · rw [List.take_add_one, List.getElem?_eq_getElem hk]
    exact hx
  · intro i h1 h2
    rw [hrest i (.inr (by omega)), cell_heap_eq (hb6 g (by omega)) i]
    exact h.rest i (by omega) h2
  · intro b h1 h2
    rw [hoth b h2, hb6 b (by omega)]
    exact h.old b h1 h2
  · rw [hw]
    have hB := below_then (below_then h.below h.below.size hy) (below_then h.below h.below.size hy).size b6
    exact (((hB.setCell (p := ⟨g, k * 4, none⟩) hgw _).setCell (p := ⟨g, k * 4 + 1, none⟩) hgw _).setCell (p := ⟨g, k * 4 + 2, none⟩) hgw _).setCell (p := ⟨g, k * 4 + 3, none⟩) hgw _
set_option maxHeartbeats 8000000 in
set_option maxRecDepth 100000 in
theorem Copy_calls (N : Nat) : ∀ (x : X) (A2 : Option Addr) (c2 : Nat) (A3 : Option Addr) (c3 : Nat) (w : World), cnt x ≤ N → wt x ≤ 1099511627776 → Has w x A2 c2 A3 c3 →
    Calls Tryd.prog 30 #[agg x A2 c2 A3 c3] w fun e w' => ∃ v2 v3, e = .returned (.agg #[.int .u8 x.f0, .string x.f1, v2, v3]) ∧ OwnT w' w.heap.size w'.heap.size x v2 v3 ∧ Below w.heap.size w w' := by
  induction N with
  | zero => intro x _ _ _ _ _ hx; have := cnt_pos x; omega
  | succ N ih =>
  intro x A2 c2 A3 c3 w hN hW hx
  have HL2 := Aside0.mk (show x.f2.length ≤ 1099511627776 by rw [wt_eq] at hW; omega)
  have HL3 := Aside0.mk (show x.f3.length ≤ 1099511627776 by have h1 := cnt_wt _ x (Nat.le_refl _); have h2 := cnt_eq x; have h3 := len_cntL x.f3; omega)
  have IH := Aside0.mk ih
  have HN := Aside0.mk hN
  have HW := Aside0.mk hW
  have hlen := HL3.out
  clear ih hN hW
  go_enter Tryd.func30, Tryd.ntmps30
  go_wp2_with fail
  obtain ⟨w1, hw1⟩ : ∃ w1, w1 = (w.alloc (.cells #[.int .u8 x.f0, .string x.f1, .slice A2 x.f2.length c2, .slice A3 x.f3.length c3] 25)).alloc (.cells #[.int .u8 0, .string nil8, .slice none 0 0, .slice none 0 0] 25) := ⟨_, rfl⟩
  rw [← hw1]
  have B2 : Below w.heap.size w w1.drew := by rw [hw1]; exact below_drew (below_alloc (below_alloc (Below.refl _ _) _) _)
  have hz2 : w1.drew.heap.size = w.heap.size + 1 + 1 := by rw [hw1]; show ((w.alloc _).alloc _).heap.size = _; simp
  have hbs : w.heap.size < w1.drew.heap.size := by omega
  have hbs1 : w.heap.size + 1 < w1.drew.heap.size := by omega
  have K2 : w1.drew.heap[w.heap.size]? = some (.cells #[.int .u8 x.f0, .string x.f1, .slice A2 x.f2.length c2, .slice A3 x.f3.length c3] 25 (0, 0)) := by
    rw [hw1]
    exact blk_drew (blk_alloc (blk_new w _) _)
  have Z2 : w1.drew.heap[w.heap.size + 1]? = some (.cells #[.int .u8 0, .string nil8, .slice none 0 0, .slice none 0 0] 25 (0, 0)) := by
    rw [hw1]
    exact blk_drew (by have := blk_new (w.alloc (.cells #[.int .u8 x.f0, .string x.f1, .slice A2 x.f2.length c2, .slice A3 x.f3.length c3] 25)) (.cells #[.int .u8 0, .string nil8, .slice none 0 0, .slice none 0 0] 25 (0, 0)); simpa using this)
  have hx2 := hx.below B2
  have q2 : w1.drew.cell? ⟨w.heap.size, 2, none⟩ = some (.slice A2 x.f2.length c2) := (blk_cell K2 2).trans rfl
  have q3 : w1.drew.cell? ⟨w.heap.size, 3, none⟩ = some (.slice A3 x.f3.length c3) := (blk_cell K2 3).trans rfl
  clear hw1
  refine start_ (n := 10) (S := fun w' => w'.cell? ⟨w.heap.size, 2, none⟩ = some (.slice A2 x.f2.length c2) ∧ w'.cell? ⟨w.heap.size, 3, none⟩ = some (.slice A3 x.f3.length c3)) (ds := [7, 9]) #[false, false, false, false, false, false, false, false, false, false] (by kernel_rfl) rfl rfl ⟨q2, q3⟩ (fun hHeld => ?_)
  refine pure_ (i := 0) (N := some 5) (v := ?_) (a' := ?_) #[true, false, false, false, false, false, false, false, false, false] rfl rfl (by kernel_rfl) (fun _ _ _ h => h) (Or.inl ⟨by rfl, ?_⟩) ?_ ?_
  rotate_left
  · intro w'
    go_simp
    with_reducible rfl
  rotate_left
  · simp only [Act.put, List.setIfInBounds_toArray, List.set_cons_zero, List.set_cons_succ, i64_w, i32_w]
    rfl
  refine pure_ (i := 3) (N := some 8) (v := ?_) (a' := ?_) #[true, false, false, true, false, false, false, false, false, false] rfl rfl (by kernel_rfl) (fun _ _ _ h => h) (Or.inl ⟨by rfl, ?_⟩) ?_ ?_
  rotate_left
  · intro w'
    go_simp
    with_reducible rfl
  rotate_left
  · simp only [Act.put, List.setIfInBounds_toArray, List.set_cons_zero, List.set_cons_succ, i64_w, i32_w]
    rfl
  refine take_ (i := 1) (N := some 6) (v := ?_) (a' := ?_) #[true, true, false, true, false, false, false, false, false, false] rfl rfl (by kernel_rfl) (fun _ _ _ h => h) (Or.inl ⟨by rfl, ?_⟩) hHeld ?_ ?_
  rotate_left
  · rintro w' ⟨s0, s1⟩
    go_simp
    with_reducible rfl
  rotate_left
  · simp only [Act.put, List.setIfInBounds_toArray, List.set_cons_zero, List.set_cons_succ, i64_w, i32_w]
    rfl
  refine take_ (i := 4) (N := some 9) (v := ?_) (a' := ?_) #[true, true, false, true, true, false, false, false, false, false] rfl rfl (by kernel_rfl) (fun _ _ _ h => h) (Or.inl ⟨by rfl, ?_⟩) hHeld ?_ ?_
  rotate_left
  · rintro w' ⟨s0, s1⟩
    go_simp
    with_reducible rfl
  rotate_left
  · simp only [Act.put, List.setIfInBounds_toArray, List.set_cons_zero, List.set_cons_succ, i64_w, i32_w]
    rfl
  refine one_ (i := 2) (N := some 7) #[true, true, true, true, true, false, false, false, false, false] rfl rfl (by kernel_rfl) (by decide) (fun K hK => ?_)
  refine goes_ Tryd.func56 (by kernel_rfl) rfl #[.slice A2 x.f2.length c2] (by rfl) rfl rfl (by simp only [List.map_toArray, List.map_cons, List.map_nil]; rfl) ?_
  with_reducible refine (CloneI_calls A2 c2 x.f2 _ hx2.C2 HL2.out).mono ?_
  rintro e w3 ⟨v2, rfl, ho2, b3⟩
  refine ⟨_, rfl, ?_⟩
  obtain ⟨E2, e2, rfl⟩ := ownsRow_slice ho2
  have hx3 := hx2.below b3
  have K3 := (b3.block w.heap.size hbs).trans K2
  have Z3 := (b3.block (w.heap.size + 1) hbs1).trans Z2
  have r2 : w3.cell? ⟨w.heap.size, 2, none⟩ = some (.slice A2 x.f2.length c2) := (blk_cell K3 2).trans rfl
  have r3 : w3.cell? ⟨w.heap.size, 3, none⟩ = some (.slice A3 x.f3.length c3) := (blk_cell K3 3).trans rfl
  have B3 := below_then B2 B2.size b3
  refine hK.out _ _ ⟨r2, r3⟩ (fun hHeld => ?_)
  clear hK K
  refine norm_ (a' := ?_) ?_ ?_
  rotate_left
  · show Act.put _ (some 7) _ = _
    simp only [Act.put, List.setIfInBounds_toArray, List.set_cons_zero, List.set_cons_succ, i64_w, i32_w]
    rfl
  refine pure_ (i := 6) (N := some 11) (v := ?_) (a' := ?_) #[true, true, true, true, true, false, true, false, false, false] rfl rfl (by kernel_rfl) (fun _ _ _ h => h) (Or.inl ⟨by rfl, ?_⟩) ?_ ?_
  rotate_left
  · intro w'
    go_simp
    with_reducible rfl
  rotate_left
  · simp only [Act.put, List.setIfInBounds_toArray, List.set_cons_zero, List.set_cons_succ, i64_w, i32_w]
    rfl
  refine one_ (i := 5) (N := some 10) #[true, true, true, true, true, true, true, false, false, false] rfl rfl (by kernel_rfl) (by decide) (fun K hK => ?_)
  refine goes_ Tryd.func57 (by kernel_rfl) rfl #[.slice A3 x.f3.length c3] (by rfl) rfl rfl (by simp only [List.map_toArray, List.map_cons, List.map_nil]; rfl) ?_
  with_reducible refine (CloneX_calls (kX.K w) (fun _ _ hk => kX_len hk) A3 c3 x.f3 _ (kX_rows hx.C3 B3) HL3.out).mono ?_
  rintro e w4 ⟨v3, inner, rfl, ho3, hin, b4⟩
  refine ⟨_, rfl, ?_⟩
  obtain ⟨E3, cap, rfl⟩ := ownsRow_slice ho3
  have K4 := (b4.block w.heap.size (Nat.lt_of_lt_of_le hbs b3.size)).trans K3
  have Z4 := (b4.block (w.heap.size + 1) (Nat.lt_of_lt_of_le hbs1 b3.size)).trans Z3
  have p2 : w4.cell? ⟨w.heap.size, 2, none⟩ = some (.slice A2 x.f2.length c2) := (blk_cell K4 2).trans rfl
  have p3 : w4.cell? ⟨w.heap.size, 3, none⟩ = some (.slice A3 x.f3.length c3) := (blk_cell K4 3).trans rfl
  have z2 := blk_frozen K4 2
  have z3 := blk_frozen K4 3
  have B4 := below_then B3 B3.size b4
  refine hK.out _ _ ⟨p2, p3⟩ (fun hHeld => ?_)
  clear hK K
  refine norm_ (a' := ?_) ?_ ?_
  rotate_left
  · show Act.put _ (some 10) _ = _
    simp only [Act.put, List.setIfInBounds_toArray, List.set_cons_zero, List.set_cons_succ, i64_w, i32_w]
    rfl
  refine last_ (i := 7) (N := none) #[true, true, true, true, true, true, true, true, false, false] rfl rfl (by kernel_rfl) (by decide) (fun K hK => ?_)
  refine skip_ (w1 := ?_) (by rfl) rfl ?_ ?_
  rotate_left
  · go_simp
    rfl
  refine hK.out _ _ ?_
  clear hK K
  refine pure_ (i := 8) (N := some 12) (v := ?_) (a' := ?_) #[true, true, true, true, true, true, true, true, true, false] rfl rfl (by kernel_rfl) (fun _ _ _ h => h) (Or.inl ⟨by rfl, ?_⟩) ?_ ?_
  rotate_left
  · intro w'
    go_simp
    with_reducible rfl
  rotate_left
  · simp only [Act.put, List.setIfInBounds_toArray, List.set_cons_zero, List.set_cons_succ, i64_w, i32_w]
    rfl
  refine last_ (i := 9) (N := none) #[true, true, true, true, true, true, true, true, true, true] rfl rfl (by kernel_rfl) (by decide) (fun K hK => ?_)
  refine skip_ (w1 := ?_) (by rfl) rfl ?_ ?_
  rotate_left
  · go_simp
    rfl
  refine hK.out _ _ ?_
  clear hK K
  refine done_ (by kernel_rfl) ?_
  obtain ⟨w5, hw5⟩ : ∃ w5, w5 = (w4.setCell ⟨w.heap.size, 2, none⟩ (.slice E2 x.f2.length e2)).setCell ⟨w.heap.size, 3, none⟩ (.slice E3 x.f3.length cap) := ⟨_, rfl⟩
  rw [← hw5]
  have K5 : w5.heap[w.heap.size]? = some (.cells #[.int .u8 x.f0, .string x.f1, .slice E2 x.f2.length e2, .slice E3 x.f3.length cap] 25 (0, 0)) := by
    rw [hw5]
    exact heap_setCell_same _ _ 3 _ _ _ (heap_setCell_same w4 _ 2 _ _ _ K4)
  have O5 : ∀ b, b ≠ w.heap.size → w5.heap[b]? = w4.heap[b]? := fun b hb => by
    rw [hw5]
    exact (heap_setCell_other _ ⟨w.heap.size, 3, none⟩ b _ hb).trans (heap_setCell_other _ ⟨w.heap.size, 2, none⟩ b _ hb)
  have S5 : w5.heap.size = w4.heap.size := by rw [hw5]; simp
  have B5 : Below w.heap.size w w5 := by rw [hw5]; exact (B4.setCell (p := ⟨w.heap.size, 2, none⟩) (Nat.le_refl _) _).setCell (p := ⟨w.heap.size, 3, none⟩) (Nat.le_refl _) _
  have Z5 : w5.heap[w.heap.size + 1]? = some (.cells #[.int .u8 0, .string nil8, .slice none 0 0, .slice none 0 0] 25 (0, 0)) := (O5 _ (by omega)).trans Z4
  have ho2' : w5.ownsRow w.heap.size 2 1 (.slice E2 x.f2.length e2) x.f2.length (encs (Value.int .i64) x.f2) := ownsRow_same (ownsRow_lower ho2 (Nat.le_of_lt hbs)) (fun b hb => by
    have h1 := World.ownsRow.lt ho2 b hb
    rw [O5 b (by omega)]
    exact b4.block b h1.2)
  have hs34 : w3.heap.size ≤ w4.heap.size := b4.size
  have hs23 : w1.drew.heap.size ≤ w3.heap.size := b3.size
  have hge2 : ∀ b, (Value.slice E2 x.f2.length e2).ownBlock = some b → w1.drew.heap.size ≤ b := fun b hb => (World.ownsRow.lt ho2 b hb).1
  have hlt2 : ∀ b, (Value.slice E2 x.f2.length e2).ownBlock = some b → b < w3.heap.size := fun b hb => (World.ownsRow.lt ho2 b hb).2
  have Q3 : w5.cell? ⟨w.heap.size, 3, none⟩ = some (.slice E3 x.f3.length cap) := (blk_cell K5 3).trans rfl
  have P0 : w5.cell? ⟨w.heap.size, 0, none⟩ = some (.int .u8 x.f0) := (blk_cell K5 0).trans rfl
  have P1 : w5.cell? ⟨w.heap.size, 1, none⟩ = some (.string x.f1) := (blk_cell K5 1).trans rfl
  have P2 : w5.cell? ⟨w.heap.size, 2, none⟩ = some (.slice E2 x.f2.length e2) := (blk_cell K5 2).trans rfl
  clear hw5 K2 K3 K4 Z2 Z3 Z4 q2 q3 r2 r3 p2 p3 z2 z3 hHeld hx2 hx3
  rcases ho3.2 with ⟨hv, hn⟩ | ⟨g, cap', cur, hv, hg0, hg1, hg2, hg3, hg4, hg5⟩
  · injection hv with hv1 hv2 hv3
    subst hv1
    subst hv3
    have hnil : x.f3 = [] := List.eq_nil_of_length_eq_zero hn
    have HNIL := Aside0.mk hnil
    clear hnil hv2
    have f0 := blk_frozen Z5 0
    have f1 := blk_frozen Z5 1
    have f2 := blk_frozen Z5 2
    have f3 := blk_frozen Z5 3
    have y0 : w5.cell? ⟨w.heap.size + 1, 0, none⟩ = some (.int .u8 0) := (blk_cell Z5 0).trans rfl
    have y1 : w5.cell? ⟨w.heap.size + 1, 1, none⟩ = some (.string nil8) := (blk_cell Z5 1).trans rfl
    have y2 : w5.cell? ⟨w.heap.size + 1, 2, none⟩ = some (.slice none 0 0) := (blk_cell Z5 2).trans rfl
    have y3 : w5.cell? ⟨w.heap.size + 1, 3, none⟩ = some (.slice none 0 0) := (blk_cell Z5 3).trans rfl
    have HO2 := Aside0.mk ho2'
    have HT2 := Aside0.mk hlt2
    have HG2 := Aside0.mk hge2
    have KX := Aside0.mk K5
    have KZ := Aside0.mk Z5
    have KO := Aside0.mk O5
    have KS := Aside0.mk S5
    have HB5 := Aside0.mk B5
    clear K5 Z5 O5 S5 hge2 ho2 ho2' hlt2 B5 B4 B2 B3 b3 b4 ho3 hin
    go_wp2
    go_loopw [16] (fun j wr => j = .int .i64 0 ∧ wr = w5) (fun j _ => 0)
    case atStart => exact ⟨rfl, rfl⟩
    case round =>
      obtain ⟨rfl, rfl⟩ := hrel
      rw [hn]
      go_wp2
      obtain ⟨wE, hwE⟩ : ∃ wE, wE = (((wr.setCell ⟨w.heap.size + 1, 0, none⟩ (.int .u8 x.f0)).setCell ⟨w.heap.size + 1, 1, none⟩ (.string x.f1)).setCell ⟨w.heap.size + 1, 2, none⟩ (.slice E2 x.f2.length e2)).setCell ⟨w.heap.size + 1, 3, none⟩ (.slice none 0 0) := ⟨_, rfl⟩
      rw [← hwE]
      have hZ : wE.heap[w.heap.size + 1]? = some (.cells #[.int .u8 x.f0, .string x.f1, .slice E2 x.f2.length e2, .slice none 0 0] 25 (0, 0)) := by
        rw [hwE]
        exact heap_setCell_same _ _ 3 _ _ _ (heap_setCell_same _ _ 2 _ _ _ (heap_setCell_same _ _ 1 _ _ _ (heap_setCell_same _ _ 0 _ _ _ KZ.out)))
      have hO : ∀ b, b ≠ w.heap.size + 1 → wE.heap[b]? = wr.heap[b]? := fun b hb => by
        rw [hwE]
        exact (heap_setCell_other _ ⟨w.heap.size + 1, 3, none⟩ b _ hb).trans ((heap_setCell_other _ ⟨w.heap.size + 1, 2, none⟩ b _ hb).trans ((heap_setCell_other _ ⟨w.heap.size + 1, 1, none⟩ b _ hb).trans (heap_setCell_other _ ⟨w.heap.size + 1, 0, none⟩ b _ hb)))
      have hSz : wE.heap.size = wr.heap.size := by rw [hwE]; simp
      have hBE : Below w.heap.size w wE := by
        rw [hwE]
        exact (((HB5.out.setCell (p := ⟨w.heap.size + 1, 0, none⟩) (Nat.le_succ _) _).setCell (p := ⟨w.heap.size + 1, 1, none⟩) (Nat.le_succ _) _).setCell (p := ⟨w.heap.size + 1, 2, none⟩) (Nat.le_succ _) _).setCell (p := ⟨w.heap.size + 1, 3, none⟩) (Nat.le_succ _) _
      have r0 : wE.cell? ⟨w.heap.size + 1, 0, none⟩ = some (.int .u8 x.f0) := (blk_cell hZ 0).trans rfl
      have r1 : wE.cell? ⟨w.heap.size + 1, 1, none⟩ = some (.string x.f1) := (blk_cell hZ 1).trans rfl
      have r2 : wE.cell? ⟨w.heap.size + 1, 2, none⟩ = some (.slice E2 x.f2.length e2) := (blk_cell hZ 2).trans rfl
      have r3 : wE.cell? ⟨w.heap.size + 1, 3, none⟩ = some (.slice none 0 0) := (blk_cell hZ 3).trans rfl
      clear hwE
      refine bodyPost_ret (v := .agg #[.int .u8 x.f0, .string x.f1, .slice E2 x.f2.length e2, .slice none 0 0]) (by simp [results, Tryd.results30, go_sem, r0, r1, r2, r3]) rfl ⟨_, _, rfl, ?_, hBE⟩
      refine (OwnT_eq _ _ _ _ _ _).2 ⟨w3.heap.size, w3.heap.size, ?_, Nat.le_refl _, ?_, ownsRow_same HO2.out (fun b hb => hO b (by have := HG2.out b hb; omega)), HT2.out, .inl ⟨HNIL.out, rfl⟩⟩
      · omega
      · have := KS.out
        omega
  · injection hv with hv1 hv2 hv3
    subst hv1
    subst hv3
    have hgl5 : g < w4.heap.size := by
      rcases Nat.lt_or_ge g w4.heap.size with h | h
      · exact h
      · rw [Array.getElem?_eq_none h] at hg1; cases hg1
    have hcell := fun i hi => World.ownsRow.cellAt ho3 i hi
    have hgb : g ≠ w.heap.size := by omega
    have hgb1 : g ≠ w.heap.size + 1 := by omega
    have hgw : w.heap.size ≤ g := by omega
    have hinv : CInv w w5 g cap x.f3 inner 0 w5 := by
      refine ⟨⟨w5.heap.size, Nat.le_refl _, Nat.le_refl _, (OwnL_nil _ _ _ _ _).2 (Nat.le_refl _)⟩, fun i _ hi => ?_, fun b _ _ => rfl, ⟨cur, (O5 g hgb).trans hg1, hg4⟩, B5, Nat.le_refl _⟩
      rw [cell_heap_eq (O5 g hgb) i]
      exact hcell i hi
    obtain ⟨ad, had⟩ : ∃ ad : Addr, ad = ⟨g, 0, none⟩ := ⟨_, rfl⟩
    have hadd : ∀ i, ad.add i = ⟨g, i, none⟩ := fun i => by
      rw [had]
      unfold Addr.add
      split
      · rename_i h0
        rw [h0]
      · simp
    have hgad : ad.block = g := by rw [had]
    rw [← had] at Q3 K5 ⊢
    have HAD := Aside0.mk hadd
    have HGAD := Aside0.mk hgad
    have HAE := Aside0.mk had
    have HO2 := Aside0.mk ho2'
    have HT2 := Aside0.mk hlt2
    have HG2 := Aside0.mk hge2
    have KX := Aside0.mk K5
    have KZ := Aside0.mk Z5
    have KO := Aside0.mk O5
    have KS := Aside0.mk S5
    have HINV := Aside0.mk hinv
    have HIN := Aside0.mk hin
    have HG0 := Aside0.mk hg0
    have HCAP := Aside0.mk hg2
    clear had hadd hgad hinv hin hcell hv2 hg0 hg1 hg2 hg3 hg4 hg5 hge2 ho2 ho2' hlt2 B5 B4 B2 B3 b3 b4 ho3 K5 Z5 O5
    go_wp2
    go_loopw [16] (fun j wr => ∃ k : Nat, k ≤ x.f3.length ∧ j = .int .i64 k ∧ CInv w w5 g cap x.f3 inner k wr) (fun j _ => (x.f3.length : Int).toNat - (intOf j).toNat)
    case atStart => exact ⟨0, Nat.zero_le _, rfl, HINV.out⟩
    case round =>
      obtain ⟨k, hk, rfl, hI⟩ := hrel
      have CI := Aside0.mk hI
      have hbz : w.heap.size < w5.heap.size := by omega
      have KXr := (hI.old w.heap.size hbz (by omega)).trans KX.out
      have KZr := (hI.old (w.heap.size + 1) (by omega) (by omega)).trans KZ.out
      have Q0 : wr.cell? ⟨w.heap.size, 0, none⟩ = some (.int .u8 x.f0) := (blk_cell KXr 0).trans rfl
      have Q1 : wr.cell? ⟨w.heap.size, 1, none⟩ = some (.string x.f1) := (blk_cell KXr 1).trans rfl
      have Q2 : wr.cell? ⟨w.heap.size, 2, none⟩ = some (.slice E2 x.f2.length e2) := (blk_cell KXr 2).trans rfl
      have Q3 : wr.cell? ⟨w.heap.size, 3, none⟩ = some (.slice (some ad) x.f3.length cap) := (blk_cell KXr 3).trans rfl
      by_cases hkn : k < x.f3.length
      · have hki : (k : Int) < (x.f3.length : Int) := by omega
        have hki' : decide ((k : Int) < (x.f3.length : Int)) = true := decide_eq_true hki
        obtain ⟨B2, d2, B3, d3, hcs, l2, g2, l3, g3⟩ := k25_open (HIN.out k x.f3[k] (List.getElem?_eq_getElem hkn))
        obtain ⟨i0, i1, i2, i3⟩ := cells_of_drop hcs
        have hy : Has w x.f3[k] B2 d2 B3 d3 := ⟨hx.wf.child (List.getElem_mem hkn), l2, g2, l3, g3⟩
        have hNk : cnt x.f3[k] ≤ N := by have := cnt_child (List.getElem_mem hkn); have := HN.out; omega
        have hWk : wt x.f3[k] ≤ 1099511627776 := Nat.le_trans (wt_child (List.getElem_mem hkn)) HW.out
        have t0 : wr.cell? ⟨g, k * 4, none⟩ = some (.int .u8 x.f3[k].f0) := (hI.rest _ (by omega) (by omega)).trans i0
        have t1 : wr.cell? ⟨g, k * 4 + 1, none⟩ = some (.string x.f3[k].f1) := (hI.rest _ (by omega) (by omega)).trans i1
        have t2 : wr.cell? ⟨g, k * 4 + 2, none⟩ = some (.slice B2 x.f3[k].f2.length d2) := (hI.rest _ (by omega) (by omega)).trans i2
        have t3 : wr.cell? ⟨g, k * 4 + 3, none⟩ = some (.slice B3 x.f3[k].f3.length d3) := (hI.rest _ (by omega) (by omega)).trans i3
        have e0 : wr.cell? (ad.add (k * 4)) = some (.int .u8 x.f3[k].f0) := by rw [HAD.out]; exact t0
        have e1 : wr.cell? ⟨(ad.add (k * 4)).block, (ad.add (k * 4)).off + 1, none⟩ = some (.string x.f3[k].f1) := by rw [HAD.out]; exact t1
        have e2 : wr.cell? ⟨(ad.add (k * 4)).block, (ad.add (k * 4)).off + 2, none⟩ = some (.slice B2 x.f3[k].f2.length d2) := by rw [HAD.out]; exact t2
        have e3 : wr.cell? ⟨(ad.add (k * 4)).block, (ad.add (k * 4)).off + 3, none⟩ = some (.slice B3 x.f3[k].f3.length d3) := by rw [HAD.out]; exact t3
        clear hcs l2 g2 l3 g3 i0 i1 i2 i3 t0 t1 t2 t3 hI
        go_wp2_with fail
        obtain ⟨wa, hwa⟩ : ∃ wa, wa = wr.alloc (.cells #[.int .u8 x.f3[k].f0, .string x.f3[k].f1, .slice B2 x.f3[k].f2.length d2, .slice B3 x.f3[k].f3.length d3] 25) := ⟨_, rfl⟩
        rw [← hwa]
        have ba : Below wr.heap.size wr wa.drew := by rw [hwa]; exact below_drew (below_alloc (Below.refl _ _) _)
        have Ka : wa.drew.heap[wr.heap.size]? = some (.cells #[.int .u8 x.f3[k].f0, .string x.f3[k].f1, .slice B2 x.f3[k].f2.length d2, .slice B3 x.f3[k].f3.length d3] 25 (0, 0)) := by
          rw [hwa]
          exact blk_drew (blk_new wr _)
        have hza : wr.heap.size + 1 ≤ wa.drew.heap.size := by rw [hwa]; show _ ≤ (wr.alloc _).heap.size; simp
        have hy2 : Has wa.drew x.f3[k] B2 d2 B3 d3 := hy.below (below_then CI.out.below CI.out.below.size ba)
        have Y0 : wa.drew.cell? ⟨wr.heap.size, 0, none⟩ = some (.int .u8 x.f3[k].f0) := (blk_cell Ka 0).trans rfl
        have Y1 : wa.drew.cell? ⟨wr.heap.size, 1, none⟩ = some (.string x.f3[k].f1) := (blk_cell Ka 1).trans rfl
        have Y2 : wa.drew.cell? ⟨wr.heap.size, 2, none⟩ = some (.slice B2 x.f3[k].f2.length d2) := (blk_cell Ka 2).trans rfl
        have Y3 : wa.drew.cell? ⟨wr.heap.size, 3, none⟩ = some (.slice B3 x.f3[k].f3.length d3) := (blk_cell Ka 3).trans rfl
        have Q3d := cell_later ba Q3
        obtain ⟨arr, harr, hars⟩ := CI.out.row
        have harr2 : k * 4 + 3 < arr.size := by have := HCAP.out; omega
        have hgr : g < wr.heap.size := blk_lt harr
        have hgl : g < wa.drew.heap.size := by omega
        have G1 := (ba.block g hgr).trans harr
        clear hwa Ka harr hars
        clear Q0 Q1 Q2 Q3 KXr KZr e0 e1 e2 e3
        refine start_ (n := 7) (S := fun w' => w'.cell? ⟨w.heap.size, 3, none⟩ = some (.slice (some ad) x.f3.length cap) ∧ w'.cell? ⟨wr.heap.size, 0, none⟩ = some (.int .u8 x.f3[k].f0) ∧ w'.cell? ⟨wr.heap.size, 1, none⟩ = some (.string x.f3[k].f1) ∧ w'.cell? ⟨wr.heap.size, 2, none⟩ = some (.slice B2 x.f3[k].f2.length d2) ∧ w'.cell? ⟨wr.heap.size, 3, none⟩ = some (.slice B3 x.f3[k].f3.length d3)) (ds := [6]) #[false, false, false, false, false, false, false] (by kernel_rfl) rfl rfl ⟨Q3d, Y0, Y1, Y2, Y3⟩ (fun hHeld => ?_)
        refine pure_ (i := 0) (N := some 21) (v := ?_) (a' := ?_) #[true, false, false, false, false, false, false] rfl rfl (by kernel_rfl) (fun _ _ _ h => h) (Or.inl ⟨by rfl, ?_⟩) ?_ ?_
        rotate_left
        · intro w'
          go_simp
          with_reducible rfl
        rotate_left
        · simp only [Act.put, List.setIfInBounds_toArray, List.set_cons_zero, List.set_cons_succ, i64_w, i32_w]
          rfl
        refine pure_ (i := 2) (N := some 23) (v := ?_) (a' := ?_) #[true, false, true, false, false, false, false] rfl rfl (by kernel_rfl) (fun _ _ _ h => h) (Or.inl ⟨by rfl, ?_⟩) ?_ ?_
        rotate_left
        · intro w'
          go_simp
          with_reducible rfl
        rotate_left
        · simp only [Act.put, List.setIfInBounds_toArray, List.set_cons_zero, List.set_cons_succ, i64_w, i32_w]
          rfl
        refine take_ (i := 1) (N := some 22) (v := ?_) (a' := ?_) #[true, true, true, false, false, false, false] rfl rfl (by kernel_rfl) (fun _ _ _ h => h) (Or.inl ⟨by rfl, ?_⟩) hHeld ?_ ?_
        rotate_left
        · rintro w' ⟨s0, s1, s2, s3, s4⟩
          go_simp
          with_reducible rfl
        rotate_left
        · simp only [Act.put, List.setIfInBounds_toArray, List.set_cons_zero, List.set_cons_succ, i64_w, i32_w]
          rfl
        refine take_ (i := 3) (N := some 24) (v := ?_) (a' := ?_) #[true, true, true, true, false, false, false] rfl rfl (by kernel_rfl) (fun _ _ _ h => h) (Or.inl ⟨by rfl, ?_⟩) hHeld ?_ ?_
        rotate_left
        · rintro w' ⟨s0, s1, s2, s3, s4⟩
          go_simp
          with_reducible rfl
        rotate_left
        · simp only [Act.put, List.setIfInBounds_toArray, List.set_cons_zero, List.set_cons_succ, i64_w, i32_w]
          rfl
        refine one_ (i := 4) (N := some 25) #[true, true, true, true, true, false, false] rfl rfl (by kernel_rfl) (by decide) (fun K hK => ?_)
        refine goes_ Tryd.func30 (by kernel_rfl) rfl #[agg x.f3[k] B2 d2 B3 d3] (by rfl) rfl rfl (by simp only [List.map_toArray, List.map_cons, List.map_nil]; rfl) ?_
        with_reducible refine (IH.out x.f3[k] B2 d2 B3 d3 wa.drew hNk hWk hy2).mono ?_
        rintro e w6 ⟨u2, u3, rfl, hT6, b6⟩
        refine ⟨_, rfl, ?_⟩
        have Q6 := cell_later b6 Q3d
        have y0 := cell_later b6 Y0
        have y1 := cell_later b6 Y1
        have y2 := cell_later b6 Y2
        have y3 := cell_later b6 Y3
        have G6 := (b6.block g hgl).trans G1
        obtain ⟨F2, p2, F3, p3, rfl, rfl⟩ := OwnT_slices hT6
        have k0 := G6
        have s0 := harr2
        obtain ⟨⟨o0, a0⟩, b0_⟩ := row_at k0 (k * 4) (by omega)
        have m0 : w6.cell? (ad.add (k * 4)) = some o0 := by rw [HAD.out]; exact a0
        have n0 : w6.frozen? (ad.add (k * 4)) = false := by rw [HAD.out]; exact b0_
        obtain ⟨arr1, k1, z1⟩ := row_set k0 (k * 4) (.int .u8 x.f3[k].f0)
        have s1 := Nat.lt_of_lt_of_le s0 (Nat.le_of_eq z1.symm)
        obtain ⟨⟨o1, a1⟩, b1_⟩ := row_at k1 (k * 4 + 1) (by omega)
        have m1 : (w6.setCell (ad.add (k * 4)) (.int .u8 x.f3[k].f0)).cell? ⟨(ad.add (k * 4)).block, (ad.add (k * 4)).off + 1, none⟩ = some o1 := by rw [HAD.out]; exact a1
        have n1 : (w6.setCell (ad.add (k * 4)) (.int .u8 x.f3[k].f0)).frozen? ⟨(ad.add (k * 4)).block, (ad.add (k * 4)).off + 1, none⟩ = false := by rw [HAD.out]; exact b1_
        obtain ⟨arr2, k2, z2⟩ := row_set k1 (k * 4 + 1) (.string x.f3[k].f1)
        have s2 := Nat.lt_of_lt_of_le s1 (Nat.le_of_eq z2.symm)
        obtain ⟨⟨o2, a2⟩, b2_⟩ := row_at k2 (k * 4 + 2) (by omega)
        have m2 : ((w6.setCell (ad.add (k * 4)) (.int .u8 x.f3[k].f0)).setCell ⟨(ad.add (k * 4)).block, (ad.add (k * 4)).off + 1, none⟩ (.string x.f3[k].f1)).cell? ⟨(ad.add (k * 4)).block, (ad.add (k * 4)).off + 2, none⟩ = some o2 := by rw [HAD.out]; exact a2
        have n2 : ((w6.setCell (ad.add (k * 4)) (.int .u8 x.f3[k].f0)).setCell ⟨(ad.add (k * 4)).block, (ad.add (k * 4)).off + 1, none⟩ (.string x.f3[k].f1)).frozen? ⟨(ad.add (k * 4)).block, (ad.add (k * 4)).off + 2, none⟩ = false := by rw [HAD.out]; exact b2_
        obtain ⟨arr3, k3, z3⟩ := row_set k2 (k * 4 + 2) (.slice F2 x.f3[k].f2.length p2)
        have s3 := Nat.lt_of_lt_of_le s2 (Nat.le_of_eq z3.symm)
        obtain ⟨⟨o3, a3⟩, b3_⟩ := row_at k3 (k * 4 + 3) (by omega)
        have m3 : (((w6.setCell (ad.add (k * 4)) (.int .u8 x.f3[k].f0)).setCell ⟨(ad.add (k * 4)).block, (ad.add (k * 4)).off + 1, none⟩ (.string x.f3[k].f1)).setCell ⟨(ad.add (k * 4)).block, (ad.add (k * 4)).off + 2, none⟩ (.slice F2 x.f3[k].f2.length p2)).cell? ⟨(ad.add (k * 4)).block, (ad.add (k * 4)).off + 3, none⟩ = some o3 := by rw [HAD.out]; exact a3
        have n3 : (((w6.setCell (ad.add (k * 4)) (.int .u8 x.f3[k].f0)).setCell ⟨(ad.add (k * 4)).block, (ad.add (k * 4)).off + 1, none⟩ (.string x.f3[k].f1)).setCell ⟨(ad.add (k * 4)).block, (ad.add (k * 4)).off + 2, none⟩ (.slice F2 x.f3[k].f2.length p2)).frozen? ⟨(ad.add (k * 4)).block, (ad.add (k * 4)).off + 3, none⟩ = false := by rw [HAD.out]; exact b3_
        clear a0 a1 a2 a3 b0_ b1_ b2_ b3_ k1 k2 k3 z1 z2 z3 s1 s2 s3 k0
        refine hK.out _ _ ⟨Q6, y0, y1, y2, y3⟩ (fun hHeld => ?_)
        clear hK K
        refine norm_ (a' := ?_) ?_ ?_
        rotate_left
        · show Act.put _ (some 25) _ = _
          simp only [Act.put, List.setIfInBounds_toArray, List.set_cons_zero, List.set_cons_succ, i64_w, i32_w]
          rfl
        refine pure_ (i := 5) (N := some 26) (v := ?_) (a' := ?_) #[true, true, true, true, true, true, false] rfl rfl (by kernel_rfl) (fun _ _ _ h => h) (Or.inl ⟨by rfl, ?_⟩) ?_ ?_
        rotate_left
        · intro w'
          go_simp
          with_reducible rfl
        rotate_left
        · simp only [Act.put, List.setIfInBounds_toArray, List.set_cons_zero, List.set_cons_succ, i64_w, i32_w]
          rfl
        refine last_ (i := 6) (N := none) #[true, true, true, true, true, true, true] rfl rfl (by kernel_rfl) (by decide) (fun K hK => ?_)
        refine skip_ (w1 := ?_) (by rfl) rfl ?_ ?_
        rotate_left
        · go_simp
          rfl
        refine hK.out _ _ ?_
        clear hK K
        refine done_ (by kernel_rfl) ?_
        obtain ⟨w7, hw7⟩ : ∃ w7, w7 = (((w6.setCell (ad.add (k * 4)) (.int .u8 x.f3[k].f0)).setCell ⟨(ad.add (k * 4)).block, (ad.add (k * 4)).off + 1, none⟩ (.string x.f3[k].f1)).setCell ⟨(ad.add (k * 4)).block, (ad.add (k * 4)).off + 2, none⟩ (.slice F2 x.f3[k].f2.length p2)).setCell ⟨(ad.add (k * 4)).block, (ad.add (k * 4)).off + 3, none⟩ (.slice F3 x.f3[k].f3.length p3) := ⟨_, rfl⟩
        rw [← hw7]
        have HI7 := Aside0.mk (CI.out.step (w7 := w7) hkn HCAP.out (by omega) hgw ba b6 hT6 (by rw [hw7, HAD.out]))
        clear hw7 m0 m1 m2 m3 n0 n1 n2 n3 y0 y1 y2 y3 Q6 G6 Q3d Y0 Y1 Y2 Y3 hHeld hT6 b6 ba hy2 hy
        go_wp2_with fail
        go_roundw
        case rel => exact ⟨k + 1, by omega, by go_num, HI7.out⟩
        case measure => simp [intOf]; omega
      · obtain rfl : k = x.f3.length := by omega
        have hki' : decide ((x.f3.length : Int) < (x.f3.length : Int)) = false := by simp
        have f0 := blk_frozen KZr 0
        have f1 := blk_frozen KZr 1
        have f2 := blk_frozen KZr 2
        have f3 := blk_frozen KZr 3
        have y0 : wr.cell? ⟨w.heap.size + 1, 0, none⟩ = some (.int .u8 0) := (blk_cell KZr 0).trans rfl
        have y1 : wr.cell? ⟨w.heap.size + 1, 1, none⟩ = some (.string nil8) := (blk_cell KZr 1).trans rfl
        have y2 : wr.cell? ⟨w.heap.size + 1, 2, none⟩ = some (.slice none 0 0) := (blk_cell KZr 2).trans rfl
        have y3 : wr.cell? ⟨w.heap.size + 1, 3, none⟩ = some (.slice none 0 0) := (blk_cell KZr 3).trans rfl
        have KZR := Aside0.mk KZr
        clear KXr KZr hI
        go_wp2
        obtain ⟨wE, hwE⟩ : ∃ wE, wE = (((wr.setCell ⟨w.heap.size + 1, 0, none⟩ (.int .u8 x.f0)).setCell ⟨w.heap.size + 1, 1, none⟩ (.string x.f1)).setCell ⟨w.heap.size + 1, 2, none⟩ (.slice E2 x.f2.length e2)).setCell ⟨w.heap.size + 1, 3, none⟩ (.slice (some ad) x.f3.length cap) := ⟨_, rfl⟩
        rw [← hwE]
        have hZ : wE.heap[w.heap.size + 1]? = some (.cells #[.int .u8 x.f0, .string x.f1, .slice E2 x.f2.length e2, .slice (some ad) x.f3.length cap] 25 (0, 0)) := by
          rw [hwE]
          exact heap_setCell_same _ _ 3 _ _ _ (heap_setCell_same _ _ 2 _ _ _ (heap_setCell_same _ _ 1 _ _ _ (heap_setCell_same _ _ 0 _ _ _ KZR.out)))
        have hO : ∀ b, b ≠ w.heap.size + 1 → wE.heap[b]? = wr.heap[b]? := fun b hb => by
          rw [hwE]
          exact (heap_setCell_other _ ⟨w.heap.size + 1, 3, none⟩ b _ hb).trans ((heap_setCell_other _ ⟨w.heap.size + 1, 2, none⟩ b _ hb).trans ((heap_setCell_other _ ⟨w.heap.size + 1, 1, none⟩ b _ hb).trans (heap_setCell_other _ ⟨w.heap.size + 1, 0, none⟩ b _ hb)))
        have hSz : wE.heap.size = wr.heap.size := by rw [hwE]; simp
        have hBE : Below w.heap.size w wE := by
          rw [hwE]
          exact (((CI.out.below.setCell (p := ⟨w.heap.size + 1, 0, none⟩) (Nat.le_succ _) _).setCell (p := ⟨w.heap.size + 1, 1, none⟩) (Nat.le_succ _) _).setCell (p := ⟨w.heap.size + 1, 2, none⟩) (Nat.le_succ _) _).setCell (p := ⟨w.heap.size + 1, 3, none⟩) (Nat.le_succ _) _
        have r0 : wE.cell? ⟨w.heap.size + 1, 0, none⟩ = some (.int .u8 x.f0) := (blk_cell hZ 0).trans rfl
        have r1 : wE.cell? ⟨w.heap.size + 1, 1, none⟩ = some (.string x.f1) := (blk_cell hZ 1).trans rfl
        have r2 : wE.cell? ⟨w.heap.size + 1, 2, none⟩ = some (.slice E2 x.f2.length e2) := (blk_cell hZ 2).trans rfl
        have r3 : wE.cell? ⟨w.heap.size + 1, 3, none⟩ = some (.slice (some ad) x.f3.length cap) := (blk_cell hZ 3).trans rfl
        clear hwE
        refine bodyPost_ret (v := .agg #[.int .u8 x.f0, .string x.f1, .slice E2 x.f2.length e2, .slice (some ad) x.f3.length cap]) (by simp [results, Tryd.results30, go_sem, r0, r1, r2, r3]) rfl ⟨_, _, rfl, ?_, hBE⟩
        obtain ⟨m, hm1, hm2, hO'⟩ := CI.out.own
        rw [List.take_length] at hO'
        obtain ⟨arr, harr, _⟩ := CI.out.row
        have hKS := KS.out
        have hG0 := HG0.out
        refine (OwnT_eq _ _ _ _ _ _).2 ⟨w3.heap.size, w5.heap.size, ?_, ?_, ?_, ownsRow_same HO2.out (fun b hb => (hO b (by have := HG2.out b hb; omega)).trans (CI.out.old b (by have := HT2.out b hb; omega) (by have := HT2.out b hb; omega))), HT2.out, .inr ⟨g, cap, by rw [HAE.out], hG0, ?_, HCAP.out, ⟨arr, (hO g (by omega)).trans harr⟩, ?_⟩⟩
        · omega
        · omega
        · omega
        · omega
        · have hfin : OwnL wE g 0 w5.heap.size m x.f3 := OwnL_keep hO' (fun b h1 h2 => hO b (by omega)) (fun j _ _ => cell_heap_eq (hO g (by omega)) j)
          exact OwnL_hi hfin (by omega)
end Go.Proofs.YtjeofffddbibeaaDoor.Ex
