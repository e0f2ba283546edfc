/-
  The operators' table of package expr: shapes, of, Nums, Args.
-/
import Derived.Test.YtjeofffddbibeaaDoorExprC
import Derived.LoopN
namespace Go.Proofs.YtjeofffddbibeaaDoor.Ex
open Go Go.RowKit Go.Proofs.YtjeofffddbibeaaDoor.PExprTells Go.Proofs.YtjeofffddbibeaaDoorW.PrintWords Go.Proofs.YtjeofffddbibeaaDoorW.PrintLast Go.Proofs.YtjeofffddbibeaaDoorW.PrintMore
set_option linter.unusedVariables false
set_option linter.unusedSimpArgs false

/-- How many numbers and arguments an operator has. -/
def numsOf (o : Int) : Int := if o = 1 ∨ o = 2 then 1 else if o = 3 ∨ o = 7 ∨ o = 9 then 2 else if o = 4 then 3 else 0
def argsOf (o : Int) : Int := if o = 0 ∨ 12 < o then 0 else if o = 1 ∨ o = 2 ∨ o = 3 then 1 else 2
abbrev i64 (n : Int) : Value := .int .i64 n
/-- The table's cells. -/
def table : Array Value := #[i64 0, i64 0, i64 1, i64 1, i64 1, i64 1, i64 2, i64 1, i64 3, i64 2, i64 0, i64 2, i64 0, i64 2, i64 2, i64 2, i64 0, i64 2, i64 2, i64 2, i64 0, i64 2, i64 0, i64 2, i64 0, i64 2]
set_option maxHeartbeats 4000000 in
set_option maxRecDepth 100000 in
theorem shapes_calls (w : World) :
    Calls Tryd.prog 77 #[] w fun e w' => e = .returned (.slice (some ⟨w.heap.size, 0, none⟩) 13 13) ∧ w' = w.alloc (.cells table 74) := by
  have hmk : ∀ w, (Instr.makeSlice 112 (.int .u8 13) (.int .u8 13)).run Tryd.prog w = .ok (.slice (some ⟨w.heap.size, 0, none⟩) 13 13) (w.alloc (.cells #[i64 0, i64 0, i64 0, i64 0, i64 0, i64 0, i64 0, i64 0, i64 0, i64 0, i64 0, i64 0, i64 0, i64 0, i64 0, i64 0, i64 0, i64 0, i64 0, i64 0, i64 0, i64 0, i64 0, i64 0, i64 0, i64 0] 74)) := fun _ => by kernel_rfl
  go_enter Tryd.func77, Tryd.ntmps77
  go_wp2
  refine wp_loop_rounds 14 ?_
  iterate 14 (rw [rounds_succ]; go_wp2)
  go_ret
  exact ⟨rfl, rfl⟩
set_option maxHeartbeats 4000000 in
set_option maxRecDepth 100000 in
theorem of_calls (o : Int) (w : World) (h0 : 0 ≤ o) (h1 : o ≤ 255) :
    Calls Tryd.prog 49 #[.int .u8 o] w fun e w' => e = .returned (.tuple #[.agg #[i64 (numsOf o), i64 (argsOf o)], .bool (decide (o ≤ 12))]) ∧ Below w.heap.size w w' := by
  by_cases h : 12 < o
  · have e1 : numsOf o = 0 := by unfold numsOf; rw [if_neg (by omega), if_neg (by omega), if_neg (by omega)]
    have e2 : argsOf o = 0 := by unfold argsOf; rw [if_pos (by omega)]
    have e3 : decide (o ≤ 12) = false := decide_eq_false (by omega)
    rw [e1, e2, e3]
    clear e1 e2 e3
    go_enter Tryd.func49, Tryd.ntmps49
    go_wp2
    exact bodyPost_ret (v := .tuple #[.agg #[i64 0, i64 0], .bool false]) (by simp [results, Tryd.results49, go_sem]) rfl ⟨rfl, below_alloc (Below.refl _ _) _⟩
  · rcases (show o = 0 ∨ o = 1 ∨ o = 2 ∨ o = 3 ∨ o = 4 ∨ o = 5 ∨ o = 6 ∨ o = 7 ∨ o = 8 ∨ o = 9 ∨ o = 10 ∨ o = 11 ∨ o = 12 by omega) with rfl | rfl | rfl | rfl | rfl | rfl | rfl | rfl | rfl | rfl | rfl | rfl | rfl
    all_goals clear h h0 h1
    all_goals go_enter Tryd.func49, Tryd.ntmps49
    all_goals go_wp2_with fail
    all_goals (with_reducible refine (shapes_calls _).mono ?_)
    all_goals rintro e w' ⟨rfl, rfl⟩
    all_goals unfold table
    all_goals go_wp2
    · exact bodyPost_ret (v := .tuple #[.agg #[i64 0, i64 0], .bool true]) (by simp [results, Tryd.results49, go_sem]) rfl ⟨rfl, below_alloc (below_alloc (Below.refl _ _) _) _⟩
    · exact bodyPost_ret (v := .tuple #[.agg #[i64 1, i64 1], .bool true]) (by simp [results, Tryd.results49, go_sem]) rfl ⟨rfl, below_alloc (below_alloc (Below.refl _ _) _) _⟩
    · exact bodyPost_ret (v := .tuple #[.agg #[i64 1, i64 1], .bool true]) (by simp [results, Tryd.results49, go_sem]) rfl ⟨rfl, below_alloc (below_alloc (Below.refl _ _) _) _⟩
    · exact bodyPost_ret (v := .tuple #[.agg #[i64 2, i64 1], .bool true]) (by simp [results, Tryd.results49, go_sem]) rfl ⟨rfl, below_alloc (below_alloc (Below.refl _ _) _) _⟩
    · exact bodyPost_ret (v := .tuple #[.agg #[i64 3, i64 2], .bool true]) (by simp [results, Tryd.results49, go_sem]) rfl ⟨rfl, below_alloc (below_alloc (Below.refl _ _) _) _⟩
    · exact bodyPost_ret (v := .tuple #[.agg #[i64 0, i64 2], .bool true]) (by simp [results, Tryd.results49, go_sem]) rfl ⟨rfl, below_alloc (below_alloc (Below.refl _ _) _) _⟩
    · exact bodyPost_ret (v := .tuple #[.agg #[i64 0, i64 2], .bool true]) (by simp [results, Tryd.results49, go_sem]) rfl ⟨rfl, below_alloc (below_alloc (Below.refl _ _) _) _⟩
    · exact bodyPost_ret (v := .tuple #[.agg #[i64 2, i64 2], .bool true]) (by simp [results, Tryd.results49, go_sem]) rfl ⟨rfl, below_alloc (below_alloc (Below.refl _ _) _) _⟩
    · exact bodyPost_ret (v := .tuple #[.agg #[i64 0, i64 2], .bool true]) (by simp [results, Tryd.results49, go_sem]) rfl ⟨rfl, below_alloc (below_alloc (Below.refl _ _) _) _⟩
    · exact bodyPost_ret (v := .tuple #[.agg #[i64 2, i64 2], .bool true]) (by simp [results, Tryd.results49, go_sem]) rfl ⟨rfl, below_alloc (below_alloc (Below.refl _ _) _) _⟩
    · exact bodyPost_ret (v := .tuple #[.agg #[i64 0, i64 2], .bool true]) (by simp [results, Tryd.results49, go_sem]) rfl ⟨rfl, below_alloc (below_alloc (Below.refl _ _) _) _⟩
    · exact bodyPost_ret (v := .tuple #[.agg #[i64 0, i64 2], .bool true]) (by simp [results, Tryd.results49, go_sem]) rfl ⟨rfl, below_alloc (below_alloc (Below.refl _ _) _) _⟩
    · exact bodyPost_ret (v := .tuple #[.agg #[i64 0, i64 2], .bool true]) (by simp [results, Tryd.results49, go_sem]) rfl ⟨rfl, below_alloc (below_alloc (Below.refl _ _) _) _⟩
set_option maxHeartbeats 4000000 in
theorem Nums_calls (o : Int) (w : World) (h0 : 0 ≤ o) (h1 : o ≤ 255) :
    Calls Tryd.prog 19 #[.int .u8 o] w fun e w' => e = .returned (.tuple #[.int .i64 (numsOf o), .bool (decide (o ≤ 12))]) ∧ Below w.heap.size w w' := by
  have C := Aside0.mk (of_calls o w h0 h1)
  generalize numsOf o = n at *
  generalize argsOf o = m at *
  generalize decide (o ≤ 12) = b at *
  go_enter Tryd.func19, Tryd.ntmps19
  go_wp2_with fail
  (with_reducible refine C.out.mono ?_)
  rintro e w1 ⟨rfl, hb⟩
  go_wp2
  go_ret2
  exact ⟨rfl, below_alloc hb _⟩
set_option maxHeartbeats 4000000 in
theorem Args_calls (o : Int) (w : World) (h0 : 0 ≤ o) (h1 : o ≤ 255) :
    Calls Tryd.prog 21 #[.int .u8 o] w fun e w' => e = .returned (.int .i64 (argsOf o)) ∧ Below w.heap.size w w' := by
  have C := Aside0.mk (of_calls o w h0 h1)
  generalize numsOf o = n at *
  generalize argsOf o = m at *
  generalize decide (o ≤ 12) = b at *
  go_enter Tryd.func21, Tryd.ntmps21
  go_wp2_with fail
  (with_reducible refine C.out.mono ?_)
  rintro e w1 ⟨rfl, hb⟩
  go_wp2
  go_ret
  exact ⟨rfl, below_alloc hb _⟩
end Go.Proofs.YtjeofffddbibeaaDoor.Ex
