/-
  expr.Count and expr.Depth: how many parts, how deep.
-/
import Derived.Test.YtjeofffddbibeaaDoorExprV
import Derived.OneCell
namespace Go.Proofs.YtjeofffddbibeaaDoor.Ex
open Go Go.RowKit Go.Proofs.YtjeofffddbibeaaDoor.PExprTells Go.Proofs.YtjeofffddbibeaaDoorW.PrintWords Go.Proofs.YtjeofffddbibeaaDoorW.PrintLast Go.Proofs.YtjeofffddbibeaaDoorW.PrintMore
attribute [local go_sem] max2_int min2_int max_two min_two max_three min_three max_four min_four   -- for this text's walks alone
set_option linter.unusedVariables false
set_option linter.unusedSimpArgs false

theorem wrap64_add (a b : Int) : wrap64 (wrap64 a + b) = wrap64 (a + b) := by unfold wrap64; omega
theorem w64 {x : Int} (h0 : -9223372036854775808 ≤ x) (h1 : x ≤ 9223372036854775807) : wrap64 x = x := by unfold wrap64; omega

/-! ### Count -/
def cntF (s : Int) (_ : X) (_ : Int) : Int × Bool := (wrap64 (s + 1), true)
mutual
theorem goX_cnt : ∀ (x : X) (s : Int) (d : Int), goX cntF (wrap64 s) x d = (wrap64 (s + cnt x), true)
  | ⟨o, n, ns, xs⟩, s, d => by
    rw [goX_eq, cnt_eq]
    simp only [cntF, if_true]
    rw [wrap64_add, goL_cnt xs (s + 1) (d + 1)]
    congr 2
    omega
theorem goL_cnt : ∀ (xs : List X) (s : Int) (d : Int), goL cntF (wrap64 s) xs d = (wrap64 (s + cntL xs), true)
  | [], s, d => by rw [goL_nil, cntL_nil]; simp
  | y :: ys, s, d => by
    rw [goL_cons, goX_cnt y s d, cntL_cons]
    simp only [if_true]
    rw [goL_cnt ys (s + cnt y) d]
    congr 2
    omega
end
/-- A box of one whole number. -/
def Box (b : Nat) (t : TypeId) (v : Value) (w : World) : Prop := w.heap[b]? = some (.cells #[v] t (0, 0))
theorem Box.lt {b : Nat} {t : TypeId} {v : Value} {w : World} (h : Box b t v w) : b < w.heap.size := blk_lt h
theorem Box.cell {b : Nat} {t : TypeId} {v : Value} {w : World} (h : Box b t v w) : w.cell? ⟨b, 0, none⟩ = some v := by
  unfold World.cell?
  unfold Box at h
  rw [h]
  rfl
theorem Box.free {b : Nat} {t : TypeId} {v : Value} {w : World} (h : Box b t v w) : w.frozen? ⟨b, 0, none⟩ = false := by
  unfold World.frozen?
  unfold Box at h
  rw [h]
  rfl
theorem Box.keep {b : Nat} {t : TypeId} {v : Value} {w w' : World} {S : Nat → Prop} (h : Box b t v w) (hk : Kept w w' S) (hn : ¬ S b) : Box b t v w' := (hk.2 b h.lt hn).trans h
theorem Box.d {b : Nat} {t : TypeId} {v : Value} {w : World} (h : Box b t v w) (n : Nat) : Box b t v (w.drewN n) := h
theorem Box.a {b : Nat} {t : TypeId} {v : Value} {w : World} (h : Box b t v w) (o : Obj) : Box b t v (w.alloc o) := h.keep ((Kept.refl w (fun _ => False)).alloc o) (fun h => h)
theorem Box.new (w : World) (t : TypeId) (v : Value) : Box w.heap.size t v (w.alloc (.cells #[v] t)) := by
  show (w.heap.push _)[w.heap.size]? = _
  simp
theorem Box.new_at (w : World) (t : TypeId) (v : Value) (k : Nat) (hk : k = w.heap.size) : Box k t v (w.alloc (.cells #[v] t)) := by
  subst hk; exact Box.new w t v
theorem Box.set {b : Nat} {t : TypeId} {v u : Value} {w : World} (h : Box b t v w) : Box b t u (w.setCell ⟨b, 0, none⟩ u) := one_setCell h
theorem Count1_calls (b : Nat) (w0 : World) (hb : w0.heap.size ≤ b) (D : Int) (L : Nat) : Does 45 #[.pointer (some ⟨b, 0, none⟩)] (fun k => k = b) w0 cntF (fun s w => Box b 3 (.int .i64 s) w) D (fun _ => 0) L 0 where
  enter := fun args w => by kernel_rfl
  draws := fun s w n h => h.d n
  allocs := fun s w o h => h.a o
  above := fun k h => by rw [h]; exact hb
  step := fun _ _ _ => by omega
  run := by
    intro s w p x d A2 c2 A3 c3 hwf _ _ hI hB hN hp hd hdD
    have hc := hI.cell
    have hf := hI.free
    show Calls Tryd.prog 45 #[.pointer (some p), .int .i64 d, .pointer (some ⟨b, 0, none⟩)] w _
    have HI := Aside0.mk hI
    clear hI hN
    go_enter Tryd.func45, Tryd.ntmps45
    go_wp2
    go_ret
    exact ⟨rfl, HI.out.set, hB.setCell hb _, (Kept.refl w (fun k => k = b)).setCell (p := ⟨b, 0, none⟩) (.inl rfl) _⟩
/-- An expression that came in: its value's slices are rows of w. -/
structure Has (w : World) (x : X) (A2 : Option Addr) (c2 : Nat) (A3 : Option Addr) (c3 : Nat) : Prop where
  wf : Wf x
  l2 : x.f2.length ≤ c2
  C2 : kI.C w A2 x.f2.length x.f2
  l3 : x.f3.length ≤ c3
  C3 : kX.C w A3 x.f3.length x.f3
theorem Has.below {w w' : World} {x : X} {A2 : Option Addr} {c2 : Nat} {A3 : Option Addr} {c3 : Nat} (h : Has w x A2 c2 A3 c3) (hb : Below w.heap.size w w') : Has w' x A2 c2 A3 c3 :=
  ⟨h.wf, h.l2, Kd.C_below h.C2 hb, h.l3, Kd.C_below h.C3 hb⟩
set_option maxHeartbeats 4000000 in
set_option maxRecDepth 100000 in
theorem Count_calls (x : X) (A2 : Option Addr) (c2 : Nat) (A3 : Option Addr) (c3 : Nat) (w : World) (hx : Has w x A2 c2 A3 c3) (hc : cnt x ≤ 1099511627776) :
    Calls Tryd.prog 11 #[agg x A2 c2 A3 c3] w fun e w' => e = .returned (.int .i64 (cnt x)) ∧ Below w.heap.size w w' := by
  have HR : Aside0 (goX cntF 0 x 1 = ((cnt x : Int), true)) := by
    have h := goX_cnt x 0 1
    rw [w64 (x := 0) (by omega) (by omega), w64 (by omega) (by omega), Int.zero_add] at h
    exact ⟨h⟩
  go_enter Tryd.func11, Tryd.ntmps11
  go_wp2_with fail
  (with_reducible refine (each_calls (Count1_calls (w.heap.size + 1) w (by omega) (1 + cnt x) (cnt x)) (by omega) x (by omega) hx.wf 0 _ A2 c2 A3 c3 (by omega) (by omega) ?i1 ?i2 hx.l2 hx.C2 hx.l3 hx.C3 (by simp <;> omega) (by simp <;> omega) (by simp <;> omega)).mono ?_)
  case i1 => exact Box.new_at (w.alloc _) _ _ _ (by simp)
  case i2 => exact below_alloc (below_alloc (Below.refl _ _) _) _
  rintro e w1 ⟨rfl, hI, hB, hK⟩
  rw [HR.out] at hI
  have hcl := hI.cell
  go_wp2
  go_ret
  exact ⟨rfl, hB⟩

/-! ### Depth -/
mutual
def dep : X → Nat
  | ⟨_, _, _, xs⟩ => 1 + depL xs
def depL : List X → Nat
  | [] => 0
  | y :: ys => max (dep y) (depL ys)
end
theorem dep_eq (x : X) : dep x = 1 + depL x.f3 := by cases x; rw [dep]
theorem depL_nil : depL [] = 0 := by rw [depL]
theorem depL_cons (y : X) (ys : List X) : depL (y :: ys) = max (dep y) (depL ys) := by rw [depL]
mutual
theorem dep_le : ∀ x : X, dep x ≤ cnt x
  | ⟨o, n, ns, xs⟩ => by
    rw [dep_eq, cnt_eq]
    have := depL_le xs
    show 1 + depL xs ≤ 1 + cntL xs
    omega
theorem depL_le : ∀ xs : List X, depL xs ≤ cntL xs
  | [] => by rw [depL_nil, cntL_nil]; exact Nat.le_refl 0
  | y :: ys => by
    rw [depL_cons, cntL_cons]
    have := dep_le y
    have := depL_le ys
    omega
end
def depF (s : Int) (_ : X) (d : Int) : Int × Bool := (max s d, true)
mutual
theorem goX_dep : ∀ (x : X) (s : Int) (d : Int), goX depF s x d = (max s (d + dep x - 1), true)
  | ⟨o, n, ns, xs⟩, s, d => by
    rw [goX_eq, dep_eq]
    simp only [depF, if_true]
    rw [goL_dep xs (max s d) (d + 1) (by omega)]
    congr 1
    omega
theorem goL_dep : ∀ (xs : List X) (s : Int) (d : Int), d - 1 ≤ s → goL depF s xs d = (max s (d + depL xs - 1), true)
  | [], s, d, h => by
    rw [goL_nil, depL_nil]
    congr 1
    omega
  | y :: ys, s, d, h => by
    rw [goL_cons, goX_dep y s d, depL_cons]
    simp only [if_true]
    rw [goL_dep ys (max s (d + dep y - 1)) d (by omega)]
    congr 1
    omega
end
theorem Depth1_calls (b : Nat) (w0 : World) (hb : w0.heap.size ≤ b) (D : Int) (L : Nat) : Does 51 #[.pointer (some ⟨b, 0, none⟩)] (fun k => k = b) w0 depF (fun s w => Box b 3 (.int .i64 s) w) D (fun _ => 0) L 0 where
  enter := fun args w => by kernel_rfl
  draws := fun s w n h => h.d n
  allocs := fun s w o h => h.a o
  above := fun k h => by rw [h]; exact hb
  step := fun _ _ _ => by omega
  run := by
    intro s w p x d A2 c2 A3 c3 hwf _ _ hI hB hN hp hd hdD
    have hc := hI.cell
    have hf := hI.free
    show Calls Tryd.prog 51 #[.pointer (some p), .int .i64 d, .pointer (some ⟨b, 0, none⟩)] w _
    have HI := Aside0.mk hI
    clear hI hN
    by_cases hsd : s < d
    · skip
      go_enter Tryd.func51, Tryd.ntmps51
      go_wp2
      go_ret
      exact ⟨rfl, by unfold depF; rw [show max s d = d by omega]; exact HI.out.set, hB.setCell hb _, (Kept.refl w (fun k => k = b)).setCell (p := ⟨b, 0, none⟩) (.inl rfl) _⟩
    · have hsd' : d ≤ s := by omega
      go_enter Tryd.func51, Tryd.ntmps51
      go_wp2
      go_ret
      exact ⟨rfl, by unfold depF; rw [show max s d = s by omega]; exact HI.out.set, hB.setCell hb _, (Kept.refl w (fun k => k = b)).setCell (p := ⟨b, 0, none⟩) (.inl rfl) _⟩
set_option maxHeartbeats 4000000 in
set_option maxRecDepth 100000 in
theorem Depth_calls (x : X) (A2 : Option Addr) (c2 : Nat) (A3 : Option Addr) (c3 : Nat) (w : World) (hx : Has w x A2 c2 A3 c3) (hc : cnt x ≤ 1099511627776) :
    Calls Tryd.prog 24 #[agg x A2 c2 A3 c3] w fun e w' => e = .returned (.int .i64 (dep x)) ∧ Below w.heap.size w w' := by
  have HR : Aside0 (goX depF 0 x 1 = ((dep x : Int), true)) := by
    have h := goX_dep x 0 1
    have hd := dep_eq x
    rw [h]
    exact ⟨by congr 1; omega⟩
  go_enter Tryd.func24, Tryd.ntmps24
  go_wp2_with fail
  (with_reducible refine (each_calls (Depth1_calls (w.heap.size + 1) w (by omega) (1 + cnt x) (cnt x)) (by omega) x (by omega) hx.wf 0 _ A2 c2 A3 c3 (by omega) (by omega) ?i1 ?i2 hx.l2 hx.C2 hx.l3 hx.C3 (by simp <;> omega) (by simp <;> omega) (by simp <;> omega)).mono ?_)
  case i1 => exact Box.new_at (w.alloc _) _ _ _ (by simp)
  case i2 => exact below_alloc (below_alloc (Below.refl _ _) _) _
  rintro e w1 ⟨rfl, hI, hB, hK⟩
  rw [HR.out] at hI
  have hcl := hI.cell
  go_wp2
  go_ret
  exact ⟨rfl, hB⟩
end Go.Proofs.YtjeofffddbibeaaDoor.Ex
