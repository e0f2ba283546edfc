/-
  slices.Clone over numbers and over expressions (shallow).
-/
import Derived.Test.YtjeofffddbibeaaDoorExprS
namespace Go.Proofs.YtjeofffddbibeaaDoor.Ex
open Go Go.RowKit Go.Proofs.YtjeofffddbibeaaDoor.PExprTells Go.Proofs.YtjeofffddbibeaaDoorW.PrintWords Go.Proofs.YtjeofffddbibeaaDoorW.PrintLast Go.Proofs.YtjeofffddbibeaaDoorW.PrintMore
set_option linter.unusedVariables false
set_option linter.unusedSimpArgs false

theorem info_int64 : (Tryd.prog.info? 2).map (fun i => (i.zero, i.size, i.bytes)) = some (some (.int .i64 0), 1, 8) := by kernel_rfl
theorem info_expr : (Tryd.prog.info? 25).map (fun i => (i.zero, i.size, i.bytes)) = some (some (.agg #[.int .u8 0, .string nil8, .slice none 0 0, .slice none 0 0]), 4, 72) := by kernel_rfl
set_option maxHeartbeats 2000000 in
set_option maxRecDepth 100000 in
theorem CloneI_calls (A : Option Addr) (c : Nat) (ns : List Int) (w : World) (h : kI.C w A ns.length ns) (hl : ns.length ≤ 1099511627776) :
    Calls Tryd.prog 56 #[.slice A ns.length c] w fun e w' => ∃ v, e = .returned v ∧ w'.ownsRow w.heap.size 2 1 v ns.length (encs (Value.int .i64) ns) ∧ Below w.heap.size w w' := by
  cases A with
  | none =>
    have h0 : ns = [] := by
      cases ns with
      | nil => rfl
      | cons n ns => obtain ⟨ad, hA, _⟩ := h.2.2 (by simp); cases hA
    subst h0
    clear h
    have q22 : ∀ (w : World) (a : Option Addr) (n c n' c' : Nat), (binOp .eql 22 (.slice a n c) (.slice none n' c')).run Tryd.prog w = .ok (.bool a.isNone) w := fun w a n c n' c' => Lib.run_eql_slice_nil w _ _ a n c n' c' Tryd.underlying22
    go_enter Tryd.func56, Tryd.ntmps56
    go_wp2
    go_ret
    exact ⟨_, rfl, World.ownsRow_nil _ _ _ _, Below.refl _ _⟩
  | some ad =>
    have H := Aside0.mk h
    have HL := Aside0.mk (show (0 + ns.length) * 8 ≤ 140737488355328 by omega)
    clear h
    have q22 : ∀ (w : World) (a : Option Addr) (n c n' c' : Nat), (binOp .eql 22 (.slice a n c) (.slice none n' c')).run Tryd.prog w = .ok (.bool a.isNone) w := fun w a n c n' c' => Lib.run_eql_slice_nil w _ _ a n c n' c' Tryd.underlying22
    go_enter Tryd.func56, Tryd.ntmps56
    go_wp2_with (first | ((with_reducible refine gate_builtin (b := .append) (xs := #[.tmp 5, .tmp 6]) rfl ?_); at_builtin; refine Kd.R_append_row (Value.int .i64) (0 : Int) (h1 := fun _ => rfl) (w0 := w) w.heap.size rfl (.tmp 5) (.tmp 6) 22 2 (.int .i64 0) 8 rfl Tryd.underlying22 info_int64 rfl (by omega) (.slice (some ⟨w.heap.size, 0, none⟩) 0 0) ([] : List Int) ns (some ad) ns.length c (fun _ => True) rfl rfl (fun _ _ => trivial) ⟨fun _ _ => trivial, OwnRow.lit w w.heap.size (inner := []) (ps := []) (Reps.none _ _) (Nat.le_refl _) (by decide)⟩ (Kd.C_below H.out (below_alloc (Below.refl _ _) _)) (below_alloc (Below.refl _ _) _) (Nat.le_of_lt (by simp)) HL.out ?_; intro v7 w7 ho hb hg hat; rw [List.nil_append] at ho; have HO := Aside0.mk ho; have HB := Aside0.mk hb; clear ho hb hg hat))
    go_ret
    exact ⟨_, rfl, Kd.own_of_R HO.out, HB.out⟩
set_option maxHeartbeats 2000000 in
set_option maxRecDepth 100000 in
theorem CloneX_calls (Rr : X → List Value → Prop) (hR : ∀ x c, Rr x c → c.length = 4 ∧ ∀ u ∈ c, u.oneCell' = true) (A : Option Addr) (c : Nat) (xs : List X) (w : World) (h : ReadsRow Rr 4 w A xs.length xs) (hl : xs.length ≤ 1099511627776) :
    Calls Tryd.prog 57 #[.slice A xs.length c] w fun e w' => ∃ v inner, e = .returned v ∧ w'.ownsRow w.heap.size 25 4 v xs.length inner ∧ (∀ (j : Nat) (x : X), xs[j]? = some x → Rr x ((inner.drop (j * 4)).take 4)) ∧ Below w.heap.size w w' := by
  cases A with
  | none =>
    have h0 : xs = [] := by
      cases xs with
      | nil => rfl
      | cons n xs => obtain ⟨ad, hA, _⟩ := h.2.2 (by simp); cases hA
    subst h0
    clear h
    have q22 : ∀ (w : World) (a : Option Addr) (n c n' c' : Nat), (binOp .eql 23 (.slice a n c) (.slice none n' c')).run Tryd.prog w = .ok (.bool a.isNone) w := fun w a n c n' c' => Lib.run_eql_slice_nil w _ _ a n c n' c' Tryd.underlying23
    go_enter Tryd.func57, Tryd.ntmps57
    go_wp2
    go_ret
    exact ⟨_, [], rfl, World.ownsRow_nil _ _ _ _, fun j x hx => by simp at hx, Below.refl _ _⟩
  | some ad =>
    obtain ⟨news, hnl, hnr, hnf⟩ := Kd.reads_raw h hR
    have HN := Aside0.mk (show (Kd.raw 4).C w (some ad) xs.length news from hnr)
    have HF := Aside0.mk hnf
    have HNL := Aside0.mk hnl
    have HL := Aside0.mk (show (([] : List (List Value)).length + xs.length) * 72 ≤ 140737488355328 by simp; omega)
    clear h hnl hnr hnf
    have q22 : ∀ (w : World) (a : Option Addr) (n c n' c' : Nat), (binOp .eql 23 (.slice a n c) (.slice none n' c')).run Tryd.prog w = .ok (.bool a.isNone) w := fun w a n c n' c' => Lib.run_eql_slice_nil w _ _ a n c n' c' Tryd.underlying23
    go_enter Tryd.func57, Tryd.ntmps57
    go_wp2_with (first | ((with_reducible refine gate_builtin (b := .append) (xs := #[.tmp 5, .tmp 6]) rfl ?_); at_builtin; refine Kd.R_append_rows (Kd.raw 4) (w0 := w) w.heap.size rfl (.tmp 5) (.tmp 6) 23 25 (.agg #[.int .u8 0, .string nil8, .slice none 0 0, .slice none 0 0]) 72 rfl Tryd.underlying23 info_expr rfl (by decide) (by omega) (.slice (some ⟨w.heap.size, 0, none⟩) 0 0) ([] : List (List Value)) news (some ad) xs.length c (fun _ => True) (fun _ => False) rfl rfl ⟨fun _ _ => trivial, OwnRow.lit w w.heap.size (inner := []) (ps := []) (Reps.none _ _) (Nat.le_refl _) (by decide)⟩ (Kd.C_below HN.out (below_alloc (Below.refl _ _) _)) (fun _ _ hk => hk) (fun _ hk => hk.elim) (fun _ _ => trivial) (below_alloc (Below.refl _ _) _) (Nat.le_of_lt (by simp)) HL.out ?_; intro v7 w7 ho hb hg hat; rw [List.nil_append] at ho; have HO := Aside0.mk ho; have HB := Aside0.mk hb; clear ho hb hg hat))
    go_ret
    obtain ⟨_, inner, ho, hr⟩ := HO.out
    rw [HNL.out] at ho
    refine ⟨_, inner, rfl, ho, fun j x hx => ?_, HB.out⟩
    have hj : j < news.length := by
      have := (List.getElem?_eq_some_iff.1 hx).1
      have := HNL.out
      omega
    have h1 := hr.2 j news[j] (List.getElem?_eq_getElem hj)
    have h2 : (inner.drop (j * 4)).take 4 = news[j] := h1.1
    rw [h2]
    exact HF.out j x news[j] hx (List.getElem?_eq_getElem hj)
end Go.Proofs.YtjeofffddbibeaaDoor.Ex
