/-
  Expressions in memory: a part at an address, its arguments behind it; what goes through all parts (a closure that calls itself), in plain Lean, and that Go's 'each' does that.
-/
import Derived.Test.YtjeofffddbibeaaDoorPExprTellsx2
import Derived.StillTailTactics
import Derived.WalkSpells
import Derived.Outline
namespace Go.Proofs.YtjeofffddbibeaaDoor.Ex
open Go Go.RowKit Go.Proofs.YtjeofffddbibeaaDoor.PExprTells Go.Proofs.YtjeofffddbibeaaDoorW.PrintWords Go.Proofs.YtjeofffddbibeaaDoorW.PrintLast Go.Proofs.YtjeofffddbibeaaDoorW.PrintMore
set_option linter.unusedVariables false
set_option linter.unusedSimpArgs false

/-- An expression, as the printed texts have it: f0 the operator, f1 the name, f2 the numbers, f3 the arguments. -/
abbrev X := S25
abbrev kX : Kd X := k25
abbrev kI : Kd Int := Kd.int .i64
/-- The value of an expression whose slices lie at A2, A3. -/
abbrev agg (x : X) (A2 : Option Addr) (c2 : Nat) (A3 : Option Addr) (c3 : Nat) : Value := .agg #[.int .u8 x.f0, .string x.f1, .slice A2 x.f2.length c2, .slice A3 x.f3.length c3]

/-! ### Going through all parts -/
section
variable {σ : Type} (f : σ → X → Int → σ × Bool)
mutual
def goX : σ → X → Int → σ × Bool
  | s, ⟨o, n, ns, xs⟩, d => if (f s ⟨o, n, ns, xs⟩ d).2 = true then goL (f s ⟨o, n, ns, xs⟩ d).1 xs (d + 1) else ((f s ⟨o, n, ns, xs⟩ d).1, false)
def goL : σ → List X → Int → σ × Bool
  | s, [], _ => (s, true)
  | s, y :: ys, d => if (goX s y d).2 = true then goL (goX s y d).1 ys d else ((goX s y d).1, false)
end
theorem goX_eq (s : σ) (x : X) (d : Int) : goX f s x d = if (f s x d).2 = true then goL f (f s x d).1 x.f3 (d + 1) else ((f s x d).1, false) := by
  cases x; rw [goX]
theorem goL_nil (s : σ) (d : Int) : goL f s [] d = (s, true) := by rw [goL]
theorem goL_cons (s : σ) (y : X) (ys : List X) (d : Int) : goL f s (y :: ys) d = if (goX f s y d).2 = true then goL f (goX f s y d).1 ys d else ((goX f s y d).1, false) := by rw [goL]
theorem goL_append (s : σ) (xs ys : List X) (d : Int) : goL f s (xs ++ ys) d = if (goL f s xs d).2 = true then goL f (goL f s xs d).1 ys d else ((goL f s xs d).1, false) := by
  induction xs generalizing s with
  | nil => simp [goL_nil]
  | cons y xs ih =>
    rw [List.cons_append, goL_cons, goL_cons]
    by_cases h : (goX f s y d).2 = true
    · rw [if_pos h, if_pos h, ih]
    · rw [if_neg h, if_neg h]
      simp
theorem goL_snoc (s : σ) (xs : List X) (k : Nat) (h : k < xs.length) (d : Int) (ht : (goL f s (xs.take k) d).2 = true) :
    goL f s (xs.take (k + 1)) d = if (goX f (goL f s (xs.take k) d).1 xs[k] d).2 = true then ((goX f (goL f s (xs.take k) d).1 xs[k] d).1, true) else ((goX f (goL f s (xs.take k) d).1 xs[k] d).1, false) := by
  rw [List.take_succ_eq_append_getElem h, goL_append, if_pos ht, goL_cons, goL_nil]
theorem goL_stop (s : σ) (xs : List X) (k : Nat) (h : k ≤ xs.length) (d : Int) (ht : (goL f s (xs.take k) d).2 = false) : goL f s xs d = ((goL f s (xs.take k) d).1, false) := by
  conv => lhs; rw [← List.take_append_drop k xs]
  rw [goL_append, ht]
  simp
end
/-! ### How many parts, and how deep -/
mutual
def cnt : X → Nat
  | ⟨_, _, _, xs⟩ => 1 + cntL xs
def cntL : List X → Nat
  | [] => 0
  | y :: ys => cnt y + cntL ys
end
theorem cnt_eq (x : X) : cnt x = 1 + cntL x.f3 := by cases x; rw [cnt]
theorem cntL_nil : cntL [] = 0 := by rw [cntL]
theorem cntL_cons (y : X) (ys : List X) : cntL (y :: ys) = cnt y + cntL ys := by rw [cntL]
theorem cntL_append (xs ys : List X) : cntL (xs ++ ys) = cntL xs + cntL ys := by
  induction xs with
  | nil => simp [cntL_nil]
  | cons y xs ih => rw [List.cons_append, cntL_cons, cntL_cons, ih]; omega
theorem cnt_mem {y : X} {xs : List X} (h : y ∈ xs) : cnt y ≤ cntL xs := by
  induction xs with
  | nil => cases h
  | cons z xs ih =>
    rw [cntL_cons]
    rcases List.mem_cons.1 h with rfl | h
    · omega
    · have := ih h; omega
theorem cnt_pos (x : X) : 0 < cnt x := by rw [cnt_eq]; omega
theorem cnt_child {x y : X} (h : y ∈ x.f3) : cnt y < cnt x := by
  have := cnt_mem h
  rw [cnt_eq x]
  omega
theorem len_cntL (xs : List X) : xs.length ≤ cntL xs := by
  induction xs with
  | nil => simp
  | cons y ys ih => rw [cntL_cons, List.length_cons]; have := cnt_pos y; omega

/-! ### What every expression in memory meets: its operator is a byte, its numbers have 64 bits, its texts fit -/
mutual
def Wf : X → Prop
  | ⟨o, n, ns, xs⟩ => (0 ≤ o ∧ o ≤ 255) ∧ n.size ≤ 140737488351232 ∧ (∀ k ∈ ns, -9223372036854775808 ≤ k ∧ k ≤ 9223372036854775807) ∧ WfL xs
def WfL : List X → Prop
  | [] => True
  | y :: ys => Wf y ∧ WfL ys
end
theorem Wf_eq (x : X) : Wf x ↔ (0 ≤ x.f0 ∧ x.f0 ≤ 255) ∧ x.f1.size ≤ 140737488351232 ∧ (∀ k ∈ x.f2, -9223372036854775808 ≤ k ∧ k ≤ 9223372036854775807) ∧ WfL x.f3 := by cases x; rw [Wf]
theorem WfL_mem {xs : List X} (h : WfL xs) {y : X} (hy : y ∈ xs) : Wf y := by
  induction xs with
  | nil => cases hy
  | cons z xs ih =>
    rw [WfL] at h
    rcases List.mem_cons.1 hy with rfl | hy
    · exact h.1
    · exact ih h.2 hy
theorem WfL_of {xs : List X} (h : ∀ y ∈ xs, Wf y) : WfL xs := by
  induction xs with
  | nil => rw [WfL]; trivial
  | cons z xs ih => rw [WfL]; exact ⟨h z (by simp), ih fun y hy => h y (by simp [hy])⟩
theorem Wf.child {x y : X} (h : Wf x) (hy : y ∈ x.f3) : Wf y := WfL_mem ((Wf_eq x).1 h).2.2.2 hy
theorem Wf.op {x : X} (h : Wf x) : 0 ≤ x.f0 ∧ x.f0 ≤ 255 := ((Wf_eq x).1 h).1
theorem Wf.name {x : X} (h : Wf x) : x.f1.size ≤ 140737488351232 := ((Wf_eq x).1 h).2.1
theorem Wf.nums {x : X} (h : Wf x) : ∀ k ∈ x.f2, -9223372036854775808 ≤ k ∧ k ≤ 9223372036854775807 := ((Wf_eq x).1 h).2.2.1

/-! ### A part in memory -/
def fld (p : Addr) (i : Nat) : Addr := ⟨p.block, p.off + i, none⟩
structure Node (w0 w : World) (p : Addr) (x : X) (A2 : Option Addr) (c2 : Nat) (A3 : Option Addr) (c3 : Nat) : Prop where
  q0 : w.cell? p = some (.int .u8 x.f0)
  q1 : w.cell? (fld p 1) = some (.string x.f1)
  q2 : w.cell? (fld p 2) = some (.slice A2 x.f2.length c2)
  q3 : w.cell? (fld p 3) = some (.slice A3 x.f3.length c3)
  l2 : x.f2.length ≤ c2
  C2 : kI.C w0 A2 x.f2.length x.f2
  l3 : x.f3.length ≤ c3
  C3 : kX.C w0 A3 x.f3.length x.f3
theorem cell_of_heap {w w1 : World} {a : Addr} {v : Value} (hb : w1.heap[a.block]? = w.heap[a.block]?) (h : w.cell? a = some v) : w1.cell? a = some v := by
  simpa [World.cell?, hb] using h
theorem Node.keep {w0 w w1 : World} {S : Nat → Prop} {p : Addr} {x : X} {A2 : Option Addr} {c2 : Nat} {A3 : Option Addr} {c3 : Nat} (h : Node w0 w p x A2 c2 A3 c3) (hk : Kept w w1 S) (hp : ¬ S p.block) : Node w0 w1 p x A2 c2 A3 c3 :=
  ⟨cell_kept h.q0 hk hp, cell_kept h.q1 hk hp, cell_kept h.q2 hk hp, cell_kept h.q3 hk hp, h.l2, h.C2, h.l3, h.C3⟩
/-- The part that is argument i. -/
theorem Node.child {w0 w : World} {p : Addr} {x : X} {A2 : Option Addr} {c2 : Nat} {A3 : Option Addr} {c3 : Nat} (h : Node w0 w p x A2 c2 A3 c3) (hb : Below w0.heap.size w0 w) (i : Nat) (hi : i < x.f3.length) :
    ∃ ad B2 d2 B3 d3, A3 = some ad ∧ Node w0 w (ad.add (i * 4)) x.f3[i] B2 d2 B3 d3 ∧ (ad.add (i * 4)).block < w0.heap.size := by
  obtain ⟨ad, B2, d2, B3, d3, e, q0, q1, q2, q3, l2, C2, l3, C3⟩ := at_T25 h.C3 (i : Int) (by omega) (by omega)
  have er : rd_T25 x.f3 (i : Int) = x.f3[i] := by
    unfold rd_T25
    rw [Int.toNat_natCast, List.getD_eq_getElem?_getD, List.getElem?_eq_getElem hi]
    rfl
  rw [er] at q0 q1 q2 q3 l2 C2 l3 C3
  rw [Int.toNat_natCast] at q0 q1 q2 q3
  have hlt := World.block_lt_of_cell? _ _ q0
  exact ⟨ad, B2, d2, B3, d3, e, ⟨(hb.cell hlt).trans q0, (hb.cell (p := ⟨_, _, none⟩) hlt).trans q1, (hb.cell (p := ⟨_, _, none⟩) hlt).trans q2, (hb.cell (p := ⟨_, _, none⟩) hlt).trans q3, l2, C2, l3, C3⟩, hlt⟩
theorem Node.none {w0 w : World} {p : Addr} {x : X} {A2 : Option Addr} {c2 : Nat} {A3 : Option Addr} {c3 : Nat} (h : Node w0 w p x A2 c2 A3 c3) : x.f3.length ≤ 9223372036854775807 := Kd.C_max h.C3
end Go.Proofs.YtjeofffddbibeaaDoor.Ex
