/-
  Two copies and two boxes, made in any order (ExprCopies): what holds at each time.
-/
import Derived.Test.YtjeofffddbibeaaDoorCtx
import Derived.Test.YtjeofffddbibeaaDoorExprA
namespace Go.Proofs.YtjeofffddbibeaaDoor.Ex
open Go Go.RowKit Go.Proofs.YtjeofffddbibeaaDoor.PExprTells Go.Proofs.YtjeofffddbibeaaDoorW.PrintWords Go.Proofs.YtjeofffddbibeaaDoorW.PrintLast Go.Proofs.YtjeofffddbibeaaDoorW.PrintMore
set_option linter.unusedVariables false
set_option linter.unusedSimpArgs false

abbrev zeroCells4 : Array Value := #[.int .u8 0, .string nil8, .slice none 0 0, .slice none 0 0]
/-- A copy (its memory, its two slices), or a box; not made as yet: none. -/
structure Cp where
  lo : Nat
  hi : Nat
  v2 : Value
  v3 : Value
structure St (w : World) (x : X) (A2 : Option Addr) (c2 : Nat) (A3 : Option Addr) (c3 : Nat) (m n : Option Cp) (y k : Option Nat) (w' : World) : Prop where
  box : InBox w.heap.size x A2 c2 A3 c3 w'
  below : Below w.heap.size w w'
  one : ∀ c, m = some c → w.heap.size < c.lo ∧ c.hi ≤ w'.heap.size ∧ OwnT w' c.lo c.hi x c.v2 c.v3
  two : ∀ c, n = some c → w.heap.size < c.lo ∧ c.hi ≤ w'.heap.size ∧ OwnT w' c.lo c.hi x c.v2 c.v3
  apart : ∀ c d, m = some c → n = some d → c.hi ≤ d.lo
  yb : ∀ b, y = some b → w.heap.size < b ∧ b < w'.heap.size ∧ w'.heap[b]? = some (.cells zeroCells4 25 (0, 0)) ∧ (∀ c, m = some c → ¬ (c.lo ≤ b ∧ b < c.hi)) ∧ (∀ c, n = some c → ¬ (c.lo ≤ b ∧ b < c.hi))
  kb : ∀ b, k = some b → w.heap.size < b ∧ b < w'.heap.size ∧ w'.heap[b]? = some (.cells zeroCells4 25 (0, 0)) ∧ (∀ c, m = some c → ¬ (c.lo ≤ b ∧ b < c.hi)) ∧ (∀ c, n = some c → ¬ (c.lo ≤ b ∧ b < c.hi))
  yk : ∀ b d, y = some b → k = some d → b ≠ d
section
variable {w w' w3 : World} {x : X} {A2 : Option Addr} {c2 : Nat} {A3 : Option Addr} {c3 : Nat} {m n : Option Cp} {y k : Option Nat}
theorem St.later (h : St w x A2 c2 A3 c3 m n y k w') (hb : Below w'.heap.size w' w3) : St w x A2 c2 A3 c3 m n y k w3 where
  box := h.box.later hb
  below := below_then h.below h.below.size hb
  one := fun c hc => by
    obtain ⟨h1, h2, h3⟩ := h.one c hc
    exact ⟨h1, Nat.le_trans h2 hb.size, OwnT_keep _ _ (Nat.le_refl _) h3 (fun b q1 q2 => hb.block b (by omega))⟩
  two := fun c hc => by
    obtain ⟨h1, h2, h3⟩ := h.two c hc
    exact ⟨h1, Nat.le_trans h2 hb.size, OwnT_keep _ _ (Nat.le_refl _) h3 (fun b q1 q2 => hb.block b (by omega))⟩
  apart := h.apart
  yb := fun b hb' => by
    obtain ⟨h1, h2, h3, h4⟩ := h.yb b hb'
    exact ⟨h1, Nat.lt_of_lt_of_le h2 hb.size, (hb.block b h2).trans h3, h4⟩
  kb := fun b hb' => by
    obtain ⟨h1, h2, h3, h4⟩ := h.kb b hb'
    exact ⟨h1, Nat.lt_of_lt_of_le h2 hb.size, (hb.block b h2).trans h3, h4⟩
  yk := h.yk
theorem St.copy1 (h : St w x A2 c2 A3 c3 none none y k w') (hb : Below w'.heap.size w' w3) {v2 v3 : Value} (hT : OwnT w3 w'.heap.size w3.heap.size x v2 v3) : St w x A2 c2 A3 c3 (some ⟨w'.heap.size, w3.heap.size, v2, v3⟩) none y k w3 :=
  have s := h.later hb
  { box := s.box, below := s.below
    one := fun c hc => by
      cases hc
      exact ⟨h.box.lt, Nat.le_refl _, hT⟩
    two := s.two
    apart := fun _ _ _ h => by cases h
    yb := fun b hb' => by
      obtain ⟨h1, h2, h3, h4, h5⟩ := s.yb b hb'
      obtain ⟨_, g2, _⟩ := h.yb b hb'
      exact ⟨h1, h2, h3, fun c hc => by cases hc; show ¬ (w'.heap.size ≤ b ∧ b < w3.heap.size); omega, h5⟩
    kb := fun b hb' => by
      obtain ⟨h1, h2, h3, h4, h5⟩ := s.kb b hb'
      obtain ⟨_, g2, _⟩ := h.kb b hb'
      exact ⟨h1, h2, h3, fun c hc => by cases hc; show ¬ (w'.heap.size ≤ b ∧ b < w3.heap.size); omega, h5⟩
    yk := s.yk }
theorem St.copy2 {c : Cp} (h : St w x A2 c2 A3 c3 (some c) none y k w') (hb : Below w'.heap.size w' w3) {v2 v3 : Value} (hT : OwnT w3 w'.heap.size w3.heap.size x v2 v3) : St w x A2 c2 A3 c3 (some c) (some ⟨w'.heap.size, w3.heap.size, v2, v3⟩) y k w3 :=
  have s := h.later hb
  { box := s.box, below := s.below
    one := s.one
    two := fun c hc => by
      cases hc
      exact ⟨h.box.lt, Nat.le_refl _, hT⟩
    apart := fun c' d hc hd => by
      cases hd
      exact (h.one c' hc).2.1
    yb := fun b hb' => by
      obtain ⟨h1, h2, h3, h4, h5⟩ := s.yb b hb'
      obtain ⟨_, g2, _⟩ := h.yb b hb'
      exact ⟨h1, h2, h3, h4, fun c hc => by cases hc; show ¬ (w'.heap.size ≤ b ∧ b < w3.heap.size); omega⟩
    kb := fun b hb' => by
      obtain ⟨h1, h2, h3, h4, h5⟩ := s.kb b hb'
      obtain ⟨_, g2, _⟩ := h.kb b hb'
      exact ⟨h1, h2, h3, h4, fun c hc => by cases hc; show ¬ (w'.heap.size ≤ b ∧ b < w3.heap.size); omega⟩
    yk := s.yk }
theorem St.allocY (h : St w x A2 c2 A3 c3 m n none k w') : St w x A2 c2 A3 c3 m n (some w'.heap.size) k (w'.alloc (.cells zeroCells4 25)) :=
  have s := h.later (below_alloc (Below.refl w'.heap.size w') (.cells zeroCells4 25))
  { box := s.box, below := s.below, one := s.one, two := s.two, apart := s.apart, kb := s.kb
    yb := fun b hb' => by
      cases hb'
      exact ⟨h.box.lt, by simp, blk_new w' _, fun c hc => by have := (h.one c hc).2.1; omega, fun c hc => by have := (h.two c hc).2.1; omega⟩
    yk := fun b d hb' hd => by
      cases hb'
      have := (h.kb d hd).2.1
      omega }
theorem St.allocK (h : St w x A2 c2 A3 c3 m n y none w') : St w x A2 c2 A3 c3 m n y (some w'.heap.size) (w'.alloc (.cells zeroCells4 25)) :=
  have s := h.later (below_alloc (Below.refl w'.heap.size w') (.cells zeroCells4 25))
  { box := s.box, below := s.below, one := s.one, two := s.two, apart := s.apart, yb := s.yb
    kb := fun b hb' => by
      cases hb'
      exact ⟨h.box.lt, by simp, blk_new w' _, fun c hc => by have := (h.one c hc).2.1; omega, fun c hc => by have := (h.two c hc).2.1; omega⟩
    yk := fun b d hb' hd => by
      cases hd
      have := (h.yb b hb').2.1
      omega }
end
theorem OwnT_Has {x : X} {w : World} {lo hi : Nat} {F2 : Option Addr} {n2 p2 : Nat} {F3 : Option Addr} {n3 p3 : Nat} (h : OwnT w lo hi x (.slice F2 n2 p2) (.slice F3 n3 p3)) (hwf : Wf x) (hc : cnt x ≤ 1099511627776) : Has w x F2 p2 F3 p3 := by
  obtain ⟨A2, c2, A3, c3, e2, e3, hh⟩ := OwnT_has h hwf hc
  injection e2 with a1 a2 a3
  injection e3 with b1 b2 b3
  subst a1
  subst a3
  subst b1
  subst b3
  exact hh
theorem Spot.drew {w : World} {b lo hi : Nat} {x : X} {p : Addr} {l h : Nat} {z : X} {u2 u3 : Value} (S : Spot w b lo hi x p l h z u2 u3) : Spot w.drew b lo hi x p l h z u2 u3 where
  c0 := S.c0
  c1 := S.c1
  c2 := S.c2
  c3 := S.c3
  flat := S.flat
  own := OwnT_keep _ _ (Nat.le_refl _) S.own (fun _ _ _ => rfl)
  row := S.row
  inn := S.inn
  out := S.out
  wf := S.wf
  small := S.small
  put := S.put
/-- One cell of a block, written. -/
theorem set1 {w : World} {g o : Nat} {arr : Array Value} {t : TypeId} (h : w.heap[g]? = some (.cells arr t (0, 0))) (ho : (w.cell? ⟨g, o, none⟩).isSome) (c : Value) :
    (∃ arr' : Array Value, (w.setCell ⟨g, o, none⟩ c).heap[g]? = some (.cells arr' t (0, 0))) ∧ (w.setCell ⟨g, o, none⟩ c).cell? ⟨g, o, none⟩ = some c ∧ (∀ i, i ≠ o → (w.setCell ⟨g, o, none⟩ c).cell? ⟨g, i, none⟩ = w.cell? ⟨g, i, none⟩) ∧ (∀ b, b ≠ g → (w.setCell ⟨g, o, none⟩ c).heap[b]? = w.heap[b]?) := by
  have h7 := heap_setCell_same w g o _ _ c h
  have hlt : o < arr.size := by
    rw [blk_cell h o] at ho
    rcases Nat.lt_or_ge o arr.size with hh | hh
    · exact hh
    · rw [Array.getElem?_eq_none hh] at ho; cases ho
  refine ⟨⟨_, h7⟩, ?_, ?_, fun b hb => heap_setCell_other w ⟨g, o, none⟩ b _ hb⟩
  · rw [blk_cell h7 o, Array.getElem?_setIfInBounds_self_of_lt hlt]
  · intro i hi
    rw [blk_cell h7 i, blk_cell h i, Array.getElem?_setIfInBounds_ne (Ne.symm hi)]
/-- Another operator at the part. -/
theorem Spot.setOp {w : World} {b lo hi : Nat} {x : X} {p : Addr} {l h : Nat} {z : X} {u2 u3 : Value} (S : Spot w b lo hi x p l h z u2 u3) (n : Int) (hn : 0 ≤ n ∧ n ≤ 255) (hne : n ≠ z.f0) :
    ∃ x' v2 v3, (w.setCell p (.int .u8 n)).cell? ⟨b, 0, none⟩ = some (.int .u8 x'.f0) ∧ (w.setCell p (.int .u8 n)).cell? ⟨b, 1, none⟩ = some (.string x'.f1) ∧ (w.setCell p (.int .u8 n)).cell? ⟨b, 2, none⟩ = some v2 ∧ (w.setCell p (.int .u8 n)).cell? ⟨b, 3, none⟩ = some v3 ∧ OwnT (w.setCell p (.int .u8 n)) lo hi x' v2 v3 ∧ Wf x' ∧ cnt x' = cnt x ∧ x' ≠ x := by
  obtain ⟨arr, harr⟩ := S.row
  have hc0 := S.c0
  rw [S.flat] at hc0
  obtain ⟨a1, a2, a3, a4⟩ := set1 harr (by rw [hc0]; rfl) (.int .u8 n)
  have hf : w.setCell p (.int .u8 n) = w.setCell ⟨p.block, p.off, none⟩ (.int .u8 n) := by rw [← S.flat]
  rw [← hf] at a1 a2 a3 a4
  have hT := OwnT_keep _ z (Nat.le_refl _) S.own (fun k q1 q2 => a4 k (fun he => S.out (he ▸ ⟨q1, q2⟩)))
  refine S.put (w.setCell p (.int .u8 n)) ⟨n, z.f1, z.f2, z.f3⟩ u2 u3 (fun k h1 _ => a4 k h1) (fun i hi => a3 i (by omega)) a1 (by rw [S.flat]; rw [S.flat] at a2; exact a2) ((a3 _ (by omega)).trans S.c1) ((a3 _ (by omega)).trans S.c2) ((a3 _ (by omega)).trans S.c3) ?_ ?_ ?_ ?_
  · exact (OwnT_eq _ _ _ _ _ _).2 ((OwnT_eq _ _ _ z _ _).1 hT)
  · exact (Wf_eq _).2 ⟨hn, ((Wf_eq z).1 S.wf).2⟩
  · rw [cnt_eq, cnt_eq z]
  · intro he
    exact hne (by rw [← he])
/-- Another name at the part. -/
theorem Spot.setName {w : World} {b lo hi : Nat} {x : X} {p : Addr} {l h : Nat} {z : X} {u2 u3 : Value} (S : Spot w b lo hi x p l h z u2 u3) (s : ByteArray) (hs : s.size ≤ 140737488351232) (hne : s ≠ z.f1) :
    ∃ x' v2 v3, (w.setCell ⟨p.block, p.off + 1, none⟩ (.string s)).cell? ⟨b, 0, none⟩ = some (.int .u8 x'.f0) ∧ (w.setCell ⟨p.block, p.off + 1, none⟩ (.string s)).cell? ⟨b, 1, none⟩ = some (.string x'.f1) ∧ (w.setCell ⟨p.block, p.off + 1, none⟩ (.string s)).cell? ⟨b, 2, none⟩ = some v2 ∧ (w.setCell ⟨p.block, p.off + 1, none⟩ (.string s)).cell? ⟨b, 3, none⟩ = some v3 ∧ OwnT (w.setCell ⟨p.block, p.off + 1, none⟩ (.string s)) lo hi x' v2 v3 ∧ Wf x' ∧ cnt x' = cnt x ∧ x' ≠ x := by
  obtain ⟨arr, harr⟩ := S.row
  obtain ⟨a1, a2, a3, a4⟩ := set1 harr (o := p.off + 1) (by rw [S.c1]; rfl) (.string s)
  have hT := OwnT_keep _ z (Nat.le_refl _) S.own (fun k q1 q2 => a4 k (fun he => S.out (he ▸ ⟨q1, q2⟩)))
  have hc0 := S.c0
  rw [S.flat] at hc0
  refine S.put _ ⟨z.f0, s, z.f2, z.f3⟩ u2 u3 (fun k h1 _ => a4 k h1) (fun i hi => a3 i (by omega)) a1 (by rw [S.flat]; exact (a3 _ (by omega)).trans hc0) a2 ((a3 _ (by omega)).trans S.c2) ((a3 _ (by omega)).trans S.c3) ?_ ?_ ?_ ?_
  · exact (OwnT_eq _ _ _ _ _ _).2 ((OwnT_eq _ _ _ z _ _).1 hT)
  · exact (Wf_eq _).2 ⟨S.wf.op, hs, ((Wf_eq z).1 S.wf).2.2⟩
  · rw [cnt_eq, cnt_eq z]
  · intro he
    exact hne (by rw [← he])
end Go.Proofs.YtjeofffddbibeaaDoor.Ex
