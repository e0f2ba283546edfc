/-
  An expression in memory of its own: where each part lies, part behind part; what keeps it.
-/
import Derived.Test.YtjeofffddbibeaaDoorExprD
namespace Go.Proofs.YtjeofffddbibeaaDoor.Ex
open Go Go.RowKit Go.Proofs.YtjeofffddbibeaaDoor.PExprTells Go.Proofs.YtjeofffddbibeaaDoorW.PrintWords Go.Proofs.YtjeofffddbibeaaDoorW.PrintLast Go.Proofs.YtjeofffddbibeaaDoorW.PrintMore
set_option linter.unusedVariables false
set_option linter.unusedSimpArgs false

mutual
/-- Of this expression the numbers lie between lo and m1, the arguments' row between m1 and m2, what they lead to behind it, one behind the other. -/
def OwnT (w : World) (lo hi : Nat) : X → Value → Value → Prop
  | ⟨_, _, ns, xs⟩, v2, v3 => ∃ m1 m2 : Nat, lo ≤ m1 ∧ m1 ≤ m2 ∧ m2 ≤ hi ∧ w.ownsRow lo 2 1 v2 ns.length (encs (Value.int .i64) ns) ∧ (∀ b, v2.ownBlock = some b → b < m1) ∧
      ((xs = [] ∧ v3 = .slice none 0 0) ∨ ∃ g cap, v3 = .slice (some ⟨g, 0, none⟩) xs.length cap ∧ m1 ≤ g ∧ g < m2 ∧ xs.length ≤ cap ∧ (∃ arr, w.heap[g]? = some (.cells arr 25 (0, 0))) ∧ OwnL w g 0 m2 hi xs)
def OwnL (w : World) (g : Nat) : Nat → Nat → Nat → List X → Prop
  | _, lo, hi, [] => lo ≤ hi
  | i, lo, hi, y :: ys => ∃ (m : Nat) (v2 v3 : Value), lo ≤ m ∧ w.cell? ⟨g, i * 4, none⟩ = some (.int .u8 y.f0) ∧ w.cell? ⟨g, i * 4 + 1, none⟩ = some (.string y.f1) ∧ w.cell? ⟨g, i * 4 + 2, none⟩ = some v2 ∧ w.cell? ⟨g, i * 4 + 3, none⟩ = some v3 ∧ OwnT w lo m y v2 v3 ∧ OwnL w g (i + 1) m hi ys
end
theorem OwnT_eq (w : World) (lo hi : Nat) (x : X) (v2 v3 : Value) : OwnT w lo hi x v2 v3 ↔ ∃ m1 m2 : Nat, lo ≤ m1 ∧ m1 ≤ m2 ∧ m2 ≤ hi ∧ w.ownsRow lo 2 1 v2 x.f2.length (encs (Value.int .i64) x.f2) ∧ (∀ b, v2.ownBlock = some b → b < m1) ∧
      ((x.f3 = [] ∧ v3 = .slice none 0 0) ∨ ∃ g cap, v3 = .slice (some ⟨g, 0, none⟩) x.f3.length cap ∧ m1 ≤ g ∧ g < m2 ∧ x.f3.length ≤ cap ∧ (∃ arr, w.heap[g]? = some (.cells arr 25 (0, 0))) ∧ OwnL w g 0 m2 hi x.f3) := by cases x; rw [OwnT]
theorem OwnL_nil (w : World) (g i lo hi : Nat) : OwnL w g i lo hi [] ↔ lo ≤ hi := by rw [OwnL]
theorem OwnL_cons (w : World) (g i lo hi : Nat) (y : X) (ys : List X) : OwnL w g i lo hi (y :: ys) ↔ ∃ (m : Nat) (v2 v3 : Value), lo ≤ m ∧ w.cell? ⟨g, i * 4, none⟩ = some (.int .u8 y.f0) ∧ w.cell? ⟨g, i * 4 + 1, none⟩ = some (.string y.f1) ∧ w.cell? ⟨g, i * 4 + 2, none⟩ = some v2 ∧ w.cell? ⟨g, i * 4 + 3, none⟩ = some v3 ∧ OwnT w lo m y v2 v3 ∧ OwnL w g (i + 1) m hi ys := by rw [OwnL]
theorem OwnT.le {w : World} {lo hi : Nat} {x : X} {v2 v3 : Value} (h : OwnT w lo hi x v2 v3) : lo ≤ hi := by
  obtain ⟨m1, m2, h1, h2, h3, _⟩ := (OwnT_eq w lo hi x v2 v3).1 h
  omega
theorem OwnL.le {w : World} {g : Nat} {ys : List X} : ∀ {i lo hi : Nat}, OwnL w g i lo hi ys → lo ≤ hi := by
  induction ys with
  | nil => intro i lo hi h; exact (OwnL_nil w g i lo hi).1 h
  | cons y ys ih =>
    intro i lo hi h
    obtain ⟨m, v2, v3, h1, _, _, _, _, _, h2⟩ := (OwnL_cons w g i lo hi y ys).1 h
    exact Nat.le_trans h1 (ih h2)
theorem ownsRow_same {w w' : World} {base : Nat} {e : TypeId} {size : Nat} {v : Value} {n : Nat} {xs : List Value} (h : w.ownsRow base e size v n xs) (hb : ∀ b, v.ownBlock = some b → w'.heap[b]? = w.heap[b]?) : w'.ownsRow base e size v n xs := by
  refine ⟨h.1, ?_⟩
  rcases h.2 with h' | ⟨g, cap, cur, hv, h1, h2, h3⟩
  · exact .inl h'
  · exact .inr ⟨g, cap, cur, hv, h1, (hb g (by rw [hv]; simp [Value.ownBlock])).trans h2, h3⟩
theorem ownsRow_lower {w : World} {base base' : Nat} {e : TypeId} {size : Nat} {v : Value} {n : Nat} {xs : List Value} (h : w.ownsRow base e size v n xs) (hb : base' ≤ base) : w.ownsRow base' e size v n xs := by
  refine ⟨h.1, ?_⟩
  rcases h.2 with h' | ⟨g, cap, cur, hv, h1, h2⟩
  · exact .inl h'
  · exact .inr ⟨g, cap, cur, hv, Nat.le_trans hb h1, h2⟩
theorem cell_heap_eq {w w' : World} {g : Nat} (h : w'.heap[g]? = w.heap[g]?) (j : Nat) : w'.cell? ⟨g, j, none⟩ = w.cell? ⟨g, j, none⟩ := by simp [World.cell?, h]
theorem OwnL_keep_of {w w' : World} {g : Nat} {ys : List X} (hT : ∀ y ∈ ys, ∀ lo hi v2 v3, OwnT w lo hi y v2 v3 → (∀ b, lo ≤ b → b < hi → w'.heap[b]? = w.heap[b]?) → OwnT w' lo hi y v2 v3) :
    ∀ {i lo hi : Nat}, OwnL w g i lo hi ys → (∀ b, lo ≤ b → b < hi → w'.heap[b]? = w.heap[b]?) → (∀ j, i * 4 ≤ j → j < (i + ys.length) * 4 → w'.cell? ⟨g, j, none⟩ = w.cell? ⟨g, j, none⟩) → OwnL w' g i lo hi ys := by
  induction ys with
  | nil => intro i lo hi h _ _; exact (OwnL_nil w' g i lo hi).2 ((OwnL_nil w g i lo hi).1 h)
  | cons y ys ih =>
    intro i lo hi h hb hc
    obtain ⟨m, v2, v3, h1, c0, c1, c2, c3, h2, h3⟩ := (OwnL_cons w g i lo hi y ys).1 h
    have hm := h3.le
    rw [List.length_cons] at hc
    exact (OwnL_cons w' g i lo hi y ys).2 ⟨m, v2, v3, h1, (hc _ (by omega) (by omega)).trans c0, (hc _ (by omega) (by omega)).trans c1, (hc _ (by omega) (by omega)).trans c2, (hc _ (by omega) (by omega)).trans c3,
      hT y (by simp) lo m v2 v3 h2 (fun b h4 h5 => hb b h4 (by omega)), ih (fun z hz => hT z (by simp [hz])) h3 (fun b h4 h5 => hb b (by omega) h5) (fun j h4 h5 => hc j (by omega) (by omega))⟩
theorem OwnT_keep (N : Nat) : ∀ x : X, cnt x ≤ N → ∀ {w w' : World} {lo hi : Nat} {v2 v3 : Value}, OwnT w lo hi x v2 v3 → (∀ b, lo ≤ b → b < hi → w'.heap[b]? = w.heap[b]?) → OwnT w' lo hi x v2 v3 := by
  induction N with
  | zero => intro x hx; have := cnt_pos x; omega
  | succ N ih =>
    intro x hx w w' lo hi v2 v3 h hb
    obtain ⟨m1, m2, h1, h2, h3, h4, h5, h6⟩ := (OwnT_eq w lo hi x v2 v3).1 h
    refine (OwnT_eq w' lo hi x v2 v3).2 ⟨m1, m2, h1, h2, h3, ownsRow_same h4 (fun b hb' => hb b (World.ownsRow.lt h4 b hb').1 (by have := h5 b hb'; omega)), h5, ?_⟩
    rcases h6 with h6 | ⟨g, cap, hv, g1, g2, g3, ⟨arr, g4⟩, g5⟩
    · exact .inl h6
    · have hg := hb g (by omega) (by omega)
      exact .inr ⟨g, cap, hv, g1, g2, g3, ⟨arr, hg.trans g4⟩, OwnL_keep_of (fun y hy lo' hi' u2 u3 k1 k2 => ih y (by have := cnt_child hy; omega) k1 k2) g5 (fun b k1 k2 => hb b (by omega) k2) (fun j _ _ => cell_heap_eq hg j)⟩
theorem OwnL_keep {w w' : World} {g : Nat} {ys : List X} {i lo hi : Nat} (h : OwnL w g i lo hi ys) (hb : ∀ b, lo ≤ b → b < hi → w'.heap[b]? = w.heap[b]?) (hc : ∀ j, i * 4 ≤ j → j < (i + ys.length) * 4 → w'.cell? ⟨g, j, none⟩ = w.cell? ⟨g, j, none⟩) : OwnL w' g i lo hi ys :=
  OwnL_keep_of (fun y _ _ _ _ _ h1 h2 => OwnT_keep (cnt y) y (Nat.le_refl _) h1 h2) h hb hc
theorem OwnT.lower {w : World} {lo lo' hi : Nat} {x : X} {v2 v3 : Value} (h : OwnT w lo hi x v2 v3) (hl : lo' ≤ lo) : OwnT w lo' hi x v2 v3 := by
  obtain ⟨m1, m2, h1, h2, h3, h4, h5, h6⟩ := (OwnT_eq w lo hi x v2 v3).1 h
  exact (OwnT_eq w lo' hi x v2 v3).2 ⟨m1, m2, by omega, h2, h3, ownsRow_lower h4 hl, h5, h6⟩
theorem OwnL_snoc {w : World} {g : Nat} {ys : List X} {y : X} {m hi : Nat} {v2 v3 : Value} : ∀ {i lo : Nat}, OwnL w g i lo m ys → w.cell? ⟨g, (i + ys.length) * 4, none⟩ = some (.int .u8 y.f0) → w.cell? ⟨g, (i + ys.length) * 4 + 1, none⟩ = some (.string y.f1) →
    w.cell? ⟨g, (i + ys.length) * 4 + 2, none⟩ = some v2 → w.cell? ⟨g, (i + ys.length) * 4 + 3, none⟩ = some v3 → OwnT w m hi y v2 v3 → OwnL w g i lo hi (ys ++ [y]) := by
  induction ys with
  | nil =>
    intro i lo h c0 c1 c2 c3 hT
    have hl := (OwnL_nil w g i lo m).1 h
    rw [List.length_nil, Nat.add_zero] at c0 c1 c2 c3
    exact (OwnL_cons w g i lo hi y []).2 ⟨hi, v2, v3, Nat.le_trans hl hT.le, c0, c1, c2, c3, hT.lower hl, (OwnL_nil w g (i + 1) hi hi).2 (Nat.le_refl _)⟩
  | cons z ys ih =>
    intro i lo h c0 c1 c2 c3 hT
    obtain ⟨m', u2, u3, h1, e0, e1, e2, e3, h2, h3⟩ := (OwnL_cons w g i lo m z ys).1 h
    rw [List.length_cons, show i + (ys.length + 1) = (i + 1) + ys.length by omega] at c0 c1 c2 c3
    exact (OwnL_cons w g i lo hi z (ys ++ [y])).2 ⟨m', u2, u3, h1, e0, e1, e2, e3, h2, ih h3 c0 c1 c2 c3 hT⟩
theorem OwnL_rows {w : World} {g : Nat} {ys : List X} (hT : ∀ y ∈ ys, ∀ lo hi v2 v3, OwnT w lo hi y v2 v3 → kX.K w y [.int .u8 y.f0, .string y.f1, v2, v3]) :
    ∀ {i lo hi : Nat}, OwnL w g i lo hi ys → ∀ j p, ys[j]? = some p → ∃ c : List Value, c.length = 4 ∧ kX.K w p c ∧ ∀ k u, c[k]? = some u → w.cell? ⟨g, (i + j) * 4 + k, none⟩ = some u := by
  induction ys with
  | nil => intro i lo hi _ j p hj; simp at hj
  | cons y ys ih =>
    intro i lo hi h j p hj
    obtain ⟨m, v2, v3, h1, c0, c1, c2, c3, h2, h3⟩ := (OwnL_cons w g i lo hi y ys).1 h
    cases j with
    | zero =>
      obtain rfl : y = p := by simpa using hj
      refine ⟨_, rfl, hT y (by simp) lo m v2 v3 h2, ?_⟩
      intro k u hk
      match k, hk with
      | 0, hk => cases hk; exact c0
      | 1, hk => cases hk; exact c1
      | 2, hk => cases hk; exact c2
      | 3, hk => cases hk; exact c3
    | succ j =>
      obtain ⟨c, k1, k2, k3⟩ := ih (fun z hz => hT z (by simp [hz])) h3 j p (by simpa using hj)
      exact ⟨c, k1, k2, fun k u hk => by rw [show (i + (j + 1)) * 4 + k = (i + 1 + j) * 4 + k by omega]; exact k3 k u hk⟩
theorem OwnT_K (N : Nat) : ∀ x : X, cnt x ≤ N → cnt x ≤ 1099511627776 → ∀ {w : World} {lo hi : Nat} {v2 v3 : Value}, OwnT w lo hi x v2 v3 → kX.K w x [.int .u8 x.f0, .string x.f1, v2, v3] := by
  induction N with
  | zero => intro x hx; have := cnt_pos x; omega
  | succ N ih =>
    intro x hx hc w lo hi v2 v3 h
    obtain ⟨m1, m2, h1, h2, h3, h4, h5, h6⟩ := (OwnT_eq w lo hi x v2 v3).1 h
    obtain ⟨A2, c2, hv2, hl2, hC2⟩ := Kd.R_reads (Kd.R_of_own (enc := Value.int .i64) (h1 := fun _ => rfl) (ok := fun _ => True) h4 (fun _ _ => trivial))
    have hlen : x.f3.length ≤ 1099511627776 := by have := len_cntL x.f3; have := cnt_eq x; omega
    rcases h6 with ⟨h6, hv⟩ | ⟨g, cap, hv, g1, g2, g3, _, g5⟩
    · subst hv2
      subst hv
      have hz := k25_mk w x hl2 hC2 (A3 := none) (c3 := 0) (by rw [h6]; exact Nat.le_refl 0) (by rw [h6]; exact Kd.C_nil _ _)
      rw [show Value.slice none x.f3.length 0 = Value.slice none 0 0 by rw [h6]; rfl] at hz
      exact hz
    · subst hv2
      subst hv
      refine k25_mk w x hl2 hC2 g3 ⟨rfl, by omega, fun _ => ⟨⟨g, 0, none⟩, rfl, fun j p hj => ?_⟩⟩
      obtain ⟨c, k1, k2, k3⟩ := OwnL_rows (fun y hy lo' hi' u2 u3 hT => ih y (by have := cnt_child hy; omega) (by have := cnt_child hy; omega) hT) g5 j p hj
      refine ⟨c, k1, k2, fun k u hk => ?_⟩
      have := k3 k u hk
      rw [Nat.zero_add] at this
      have he : (⟨g, 0, none⟩ : Addr).add (j * 4 + k) = ⟨g, j * 4 + k, none⟩ := by
        unfold Addr.add
        split
        · rename_i h0
          rw [h0]
        · simp
      show w.cell? ((⟨g, 0, none⟩ : Addr).add (j * 4 + k)) = _
      rw [he]
      exact this
/-- What is one's own can be read. -/
theorem OwnT_has {x : X} {w : World} {lo hi : Nat} {v2 v3 : Value} (h : OwnT w lo hi x v2 v3) (hwf : Wf x) (hc : cnt x ≤ 1099511627776) : ∃ A2 c2 A3 c3, v2 = .slice A2 x.f2.length c2 ∧ v3 = .slice A3 x.f3.length c3 ∧ Has w x A2 c2 A3 c3 := by
  obtain ⟨A2, c2, A3, c3, he, l2, g2, l3, g3⟩ := k25_open (OwnT_K (cnt x) x (Nat.le_refl _) hc h)
  injection he with _ he
  injection he with _ he
  injection he with e2 he
  injection he with e3 _
  exact ⟨A2, c2, A3, c3, e2, e3, ⟨hwf, l2, g2, l3, g3⟩⟩
end Go.Proofs.YtjeofffddbibeaaDoor.Ex
