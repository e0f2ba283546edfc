/-
  expr.Names as a whole.
-/
import Derived.Test.YtjeofffddbibeaaDoorExprW
namespace Go.Proofs.YtjeofffddbibeaaDoor.Ex
open Go Go.Maps Go.RowKit Go.Proofs.YtjeofffddbibeaaDoor.PExprTells Go.Proofs.YtjeofffddbibeaaDoorW.PrintWords Go.Proofs.YtjeofffddbibeaaDoorW.PrintLast Go.Proofs.YtjeofffddbibeaaDoorW.PrintMore
set_option linter.unusedVariables false
set_option linter.unusedSimpArgs false

mutual
def namesX : X → List ByteArray
  | ⟨_, n, _, xs⟩ => n :: namesL xs
def namesL : List X → List ByteArray
  | [] => []
  | y :: ys => namesX y ++ namesL ys
end
theorem namesX_eq (x : X) : namesX x = x.f1 :: namesL x.f3 := by cases x; rw [namesX]
theorem namesL_nil : namesL [] = [] := by rw [namesL]
theorem namesL_cons (y : X) (ys : List X) : namesL (y :: ys) = namesX y ++ namesL ys := by rw [namesL]
def addN (s : List ByteArray) (t : ByteArray) : List ByteArray := if seenB s t = true then s else s ++ [t]
/-- Of these texts each once, behind those that were there. -/
def addAll (s l : List ByteArray) : List ByteArray := l.foldl addN s
theorem addAll_append (s l m : List ByteArray) : addAll s (l ++ m) = addAll (addAll s l) m := by unfold addAll; rw [List.foldl_append]
mutual
theorem goX_nam : ∀ (x : X) (s : List ByteArray) (d : Int), goX namF s x d = (addAll s (namesX x), true)
  | ⟨o, n, ns, xs⟩, s, d => by
    rw [goX_eq, namesX_eq]
    simp only [namF, if_true]
    exact goL_nam xs (addN s n) (d + 1)
theorem goL_nam : ∀ (xs : List X) (s : List ByteArray) (d : Int), goL namF s xs d = (addAll s (namesL xs), true)
  | [], s, d => by rw [goL_nil, namesL_nil]; rfl
  | y :: ys, s, d => by
    rw [goL_cons, goX_nam y s d, namesL_cons, addAll_append]
    simp only [if_true]
    exact goL_nam ys _ d
end
set_option maxHeartbeats 4000000 in
set_option maxRecDepth 100000 in
theorem Names_calls (x : X) (A2 : Option Addr) (c2 : Nat) (A3 : Option Addr) (c3 : Nat) (w : World) (hx : Has w x A2 c2 A3 c3) (hc : cnt x ≤ 1099511627776) :
    Calls Tryd.prog 13 #[agg x A2 c2 A3 c3] w fun e w' => ∃ v, e = .returned v ∧ kS.R 9 w' w.heap.size (fun _ => True) v (addAll [] (namesX x)) ∧ Below w.heap.size w w' := by
  have HR := Aside0.mk (goX_nam x [] 1)
  have hmm := @run_makeMap Tryd.prog
  go_enter Tryd.func13, Tryd.ntmps13
  go_wp2_with fail
  obtain ⟨w2, hw2⟩ : ∃ w2, w2 = (w.alloc (.cells #[.int .u8 x.f0, .string x.f1, .slice A2 x.f2.length c2, .slice A3 x.f3.length c3] 25)).alloc (.cells #[.slice none 0 0] 28) := ⟨_, rfl⟩
  have hB2 : Below w.heap.size w w2 := by rw [hw2]; exact below_alloc (below_alloc (Below.refl _ _) _) _
  have hz2 : w2.heap.size = w.heap.size + 1 + 1 := by rw [hw2]; simp
  have hx0 : w2.cell? ⟨w.heap.size, 0, none⟩ = some (.int .u8 x.f0) := by rw [hw2, World.cell?_alloc_past _ _ _ (by simp), World.cell?_alloc_at _ _ _ _ rfl]; rfl
  have hx1 : w2.cell? ⟨w.heap.size, 1, none⟩ = some (.string x.f1) := by rw [hw2, World.cell?_alloc_past _ _ _ (by simp), World.cell?_alloc_at _ _ _ _ rfl]; rfl
  have hx2 : w2.cell? ⟨w.heap.size, 2, none⟩ = some (.slice A2 x.f2.length c2) := by rw [hw2, World.cell?_alloc_past _ _ _ (by simp), World.cell?_alloc_at _ _ _ _ rfl]; rfl
  have hx3 : w2.cell? ⟨w.heap.size, 3, none⟩ = some (.slice A3 x.f3.length c3) := by rw [hw2, World.cell?_alloc_past _ _ _ (by simp), World.cell?_alloc_at _ _ _ _ rfl]; rfl
  have hbo : Box (w.heap.size + 1) 28 (.slice none 0 0) w2 := by rw [hw2]; exact Box.new_at _ _ _ _ (by simp)
  rw [← hw2]
  have HW2 := Aside0.mk hw2
  clear hw2
  have hmade := World.ownsMap_made w2 Tryd.prog 9 (plainElem (H := Unit) Tryd.prog 3)
  rw [hz2] at hmade
  have hkey : keyOf Tryd.prog 9 (.string nil8) = some (.string nil8.data.toList) := Go.WideMaps.keyOf_string_mk Tryd.underlying9 (by decide)
  obtain ⟨w4, hupd, hown4, hgr4⟩ := hmade.update keyLaw Tryd.underlying71 (val := .int .i64 1) (by decide) hkey (plainElem_int Tryd.underlying3 (by decide))
  rw [hupd]
  clear hupd
  have K4 := Kept.of_grown hgr4 ((Kept.refl w2 (fun _ => False)).alloc (.map #[] 0)) (fun k hk => by cases hk; exact .inr (by omega))
  have B4 : Below w.heap.size w w4 := pw_below_grown (below_alloc hB2 _) (some (w.heap.size + 1 + 1)) (by simp; omega) hgr4 (fun k hk => by cases hk; omega)
  have hz4 : w.heap.size + 1 + 1 + 1 ≤ w4.heap.size := by have := hgr4.size; simp at this; omega
  have hy0 := cell_kept hx0 K4 (fun h => h)
  have hy1 := cell_kept hx1 K4 (fun h => h)
  have hy2 := cell_kept hx2 K4 (fun h => h)
  have hy3 := cell_kept hx3 K4 (fun h => h)
  have XO4 := Aside0.mk (hbo.keep K4 (fun h => h))
  have HO4 := Aside0.mk hown4
  clear hx0 hx1 hx2 hx3 hbo hmade hown4 hgr4 K4 hB2
  have hlt : w.heap.size < w4.heap.size := by omega
  have hc0 : (w4.alloc (.cells #[.map (some (w.heap.size + 1 + 1))] 71)).cell? ⟨w.heap.size, 0, none⟩ = some (.int .u8 x.f0) := cell_alloc _ hy0
  have hc1 : (w4.alloc (.cells #[.map (some (w.heap.size + 1 + 1))] 71)).cell? ⟨w.heap.size, 1, none⟩ = some (.string x.f1) := cell_alloc _ hy1
  have hc2 : (w4.alloc (.cells #[.map (some (w.heap.size + 1 + 1))] 71)).cell? ⟨w.heap.size, 2, none⟩ = some (.slice A2 x.f2.length c2) := cell_alloc _ hy2
  have hc3 : (w4.alloc (.cells #[.map (some (w.heap.size + 1 + 1))] 71)).cell? ⟨w.heap.size, 3, none⟩ = some (.slice A3 x.f3.length c3) := cell_alloc _ hy3
  go_wp2_with fail
  (with_reducible refine (each_calls (Names1_calls w (w4.heap.size + 1 + 3) w4.heap.size (w.heap.size + 1 + 1) (w.heap.size + 1) (by omega) (by omega) (by omega) (by omega) (by omega) (by omega) (by omega) ⟨by omega, by omega, by omega⟩ (cnt x) hc (1 + cnt x)) (by omega) x (by omega) hx.wf [] _ A2 c2 A3 c3 (by simp) (by simp) ?i1 ?i2 hx.l2 hx.C2 hx.l3 hx.C3 (by simp <;> omega) (by simp <;> omega) (by simp <;> omega)).mono ?_)
  case i1 => exact ⟨Box.new_at w4 _ _ _ rfl, ⟨_, XO4.out.a _, Kd.R_nil _ _ _ _ _⟩, ⟨1, _, HO4.out.alloc _, by simp, isMap_empty.put _ _, Met.first⟩⟩
  case i2 => exact below_alloc B4 _
  rintro e w5 ⟨rfl, hI, hB, hK⟩
  rw [HR.out] at hI
  obtain ⟨v, hv, hr⟩ := hI.out
  have hcl := hv.cell
  have HRR := Aside0.mk hr
  have HBB := Aside0.mk hB
  clear hI hv hr hB hK
  go_wp2
  go_ret
  exact ⟨v, rfl, Kd.R_mono HRR.out (fun _ _ => trivial), HBB.out⟩
end Go.Proofs.YtjeofffddbibeaaDoor.Ex
