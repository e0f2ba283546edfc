/-
  The document's own answer whether two expressions are the same: just if they are one.
-/
import Derived.Test.YtjeofffddbibeaaDoorExprS
import Derived.Test.YtjeofffddbibeaaDoorPExprTellsx4
namespace Go.Proofs.YtjeofffddbibeaaDoor.Ex
open Go Go.RowKit Go.Proofs.YtjeofffddbibeaaDoor.PExprTells Go.Proofs.YtjeofffddbibeaaDoorW.PrintWords Go.Proofs.YtjeofffddbibeaaDoorW.PrintLast Go.Proofs.YtjeofffddbibeaaDoorW.PrintMore
set_option linter.unusedVariables false
set_option linter.unusedSimpArgs false

mutual
def wt : X → Nat
  | ⟨_, _, ns, xs⟩ => 4 + ns.length + wtL xs
def wtL : List X → Nat
  | [] => 0
  | y :: ys => wt y + wtL ys
end
theorem wt_eq (x : X) : wt x = 4 + x.f2.length + wtL x.f3 := by cases x; rw [wt]
theorem wtL_nil : wtL [] = 0 := by rw [wtL]
theorem wtL_cons (y : X) (ys : List X) : wtL (y :: ys) = wt y + wtL ys := by rw [wtL]
theorem refSame_l1 (o : Int) (s : ByteArray) (ns : List Int) (xs : List X) (o' : Int) (s' : ByteArray) (ns' : List Int) (ys : List X) (hl : xs.length = ys.length) (hm : xs.length ≤ 9223372036854775807)
    (hf : ∀ (i : Nat) (hi : i < xs.length) (hj : i < ys.length) (k : Nat), wt xs[i] ≤ k → epactref09_Same.f k xs[i].f0 xs[i].f1 xs[i].f2 xs[i].f3 ys[i].f0 ys[i].f1 ys[i].f2 ys[i].f3 = some (sameX xs[i] ys[i])) :
    ∀ (n i : Nat), i + n = xs.length → ∀ k : Nat, wtL (xs.drop i) + 1 ≤ k → epactref09_Same.l1 k i o s ns xs o' s' ns' ys = some (sameL (xs.drop i) (ys.drop i)) := by
  intro n
  induction n with
  | zero =>
    intro i hi k hk
    obtain ⟨k, rfl⟩ : ∃ m, k = m + 1 := ⟨k - 1, by omega⟩
    simp only [epactref09_Same.l1]
    rw [if_neg (by omega), List.drop_eq_nil_of_le (by omega), List.drop_eq_nil_of_le (by omega), sameL_nil]
  | succ n ih =>
    intro i hi k hk
    obtain ⟨k, rfl⟩ : ∃ m, k = m + 1 := ⟨k - 1, by omega⟩
    have hix : i < xs.length := by omega
    have hiy : i < ys.length := by omega
    rw [List.drop_eq_getElem_cons hix, wtL_cons] at hk
    have hw : 4 ≤ wt xs[i] := by rw [wt_eq]; omega
    have hn := ih (i + 1) (by omega) k (by omega)
    rw [show ((i + 1 : Nat) : Int) = (i : Int) + 1 by omega] at hn
    simp only [epactref09_Same.l1]
    rw [if_pos (by omega), if_pos (by omega), if_pos (by omega), rd_at xs i hix, rd_at ys i hiy, hf i hix hiy k (by omega), List.drop_eq_getElem_cons hix, List.drop_eq_getElem_cons hiy, sameL_cons]
    show (if sameX xs[i] ys[i] = true then epactref09_Same.l1 k (wrap64 ((i : Int) + 1)) o s ns xs o' s' ns' ys else some false) = _
    rw [w64 (by omega) (by omega), hn]
    cases sameX xs[i] ys[i] <;> rfl
theorem refSame_l0 (o : Int) (s : ByteArray) (a : List Int) (xs : List X) (o' : Int) (s' : ByteArray) (b : List Int) (ys : List X) (hl : a.length = b.length) (hm : a.length ≤ 9223372036854775807) (K : Nat) (r : Bool)
    (hf : ∀ k : Nat, K ≤ k → epactref09_Same.l1 k 0 o s a xs o' s' b ys = some r) :
    ∀ (n i : Nat), i + n = a.length → ∀ k : Nat, n + 1 + K ≤ k → epactref09_Same.l0 k i o s a xs o' s' b ys = some (decide (a.drop i = b.drop i) && r) := by
  intro n
  induction n with
  | zero =>
    intro i hi k hk
    obtain ⟨k, rfl⟩ : ∃ m, k = m + 1 := ⟨k - 1, by omega⟩
    simp only [epactref09_Same.l0]
    rw [if_neg (by omega), List.drop_eq_nil_of_le (by omega), List.drop_eq_nil_of_le (by omega), hf k (by omega)]
    simp
  | succ n ih =>
    intro i hi k hk
    obtain ⟨k, rfl⟩ : ∃ m, k = m + 1 := ⟨k - 1, by omega⟩
    have hia : i < a.length := by omega
    have hib : i < b.length := by omega
    have ra : rd a (i : Int) = a[i] := by unfold rd; rw [Int.toNat_natCast, List.getD_eq_getElem?_getD, List.getElem?_eq_getElem hia]; rfl
    have rb : rd b (i : Int) = b[i] := by unfold rd; rw [Int.toNat_natCast, List.getD_eq_getElem?_getD, List.getElem?_eq_getElem hib]; rfl
    have hn := ih (i + 1) (by omega) k (by omega)
    rw [show ((i + 1 : Nat) : Int) = (i : Int) + 1 by omega] at hn
    simp only [epactref09_Same.l0]
    rw [if_pos (by omega), if_pos (by omega), if_pos (by omega), ra, rb, w64 (by omega) (by omega), hn, List.drop_eq_getElem_cons hia, List.drop_eq_getElem_cons hib]
    by_cases he : a[i] = b[i]
    · rw [if_pos he]
      congr 2
      exact decide_eq_decide.2 ⟨fun h => by rw [he, h], fun h => (List.cons.inj h).2⟩
    · rw [if_neg he, decide_eq_false (fun h => he (List.cons.inj h).1)]
      rfl
theorem refSame_f (N : Nat) : ∀ (x y : X), cnt x ≤ N → ∀ (w : World) (A2 : Option Addr) (c2 : Nat) (A3 : Option Addr) (c3 : Nat), Has w x A2 c2 A3 c3 → ∀ k : Nat, wt x ≤ k → epactref09_Same.f k x.f0 x.f1 x.f2 x.f3 y.f0 y.f1 y.f2 y.f3 = some (sameX x y) := by
  induction N with
  | zero => intro x y hx; have := cnt_pos x; omega
  | succ N ih =>
    intro x y hN w A2 c2 A3 c3 hx k hk
    rw [wt_eq] at hk
    obtain ⟨k, rfl⟩ : ∃ m, k = m + 2 := ⟨k - 2, by omega⟩
    have hT : ∀ r : Bool, (r = true → sameX x y = false) → r = true → epactref09_Same.j0 (k + 1) r x.f0 x.f1 x.f2 x.f3 y.f0 y.f1 y.f2 y.f3 = some (sameX x y) := by
      intro r h hr
      simp only [epactref09_Same.j0]
      rw [if_pos hr, h hr]
    simp only [epactref09_Same.f]
    have hE := sameX_eq x y
    by_cases h0 : x.f0 = y.f0
    · rw [if_pos h0]
      rw [decide_eq_true h0, Bool.true_and] at hE
      by_cases h1 : x.f1.toList = y.f1.toList
      · rw [if_pos h1]
        have h1' : eqB x.f1 y.f1 = true := by unfold eqB; rw [← Lib.toList_data, ← Lib.toList_data, h1]; exact beq_self_eq_true _
        rw [h1', Bool.true_and] at hE
        by_cases h2 : x.f2.length = y.f2.length
        · rw [if_pos (by omega)]
          by_cases h3 : x.f3.length = y.f3.length
          · rw [show ((x.f3.length : Int) != (y.f3.length : Int)) = false from bne_eq_false_iff_eq.2 (by omega)]
            simp only [epactref09_Same.j0]
            rw [if_neg (by simp)]
            have hL := refSame_l1 x.f0 x.f1 x.f2 x.f3 y.f0 y.f1 y.f2 y.f3 h3 hx.C3.2.1 (fun i hi hj m hm => by
              obtain ⟨ad, B2, d2, B3, d3, _, _, _, _, _, hc⟩ := child_at hx i hi
              exact ih x.f3[i] y.f3[i] (by have := cnt_child (List.getElem_mem hi); omega) w B2 d2 B3 d3 hc m hm) x.f3.length 0 (by omega)
            rw [List.drop_zero, List.drop_zero] at hL
            have h0' := refSame_l0 x.f0 x.f1 x.f2 x.f3 y.f0 y.f1 y.f2 y.f3 h2 hx.C2.2.1 (wtL x.f3 + 1) _ hL x.f2.length 0 (by omega) k (by omega)
            rw [List.drop_zero, List.drop_zero] at h0'
            rw [hE]
            exact h0'
          · exact hT _ (fun _ => by rw [hE, sameL_len h3, Bool.and_false]) (bne_iff_ne.2 (by omega))
        · rw [if_neg (by omega)]
          exact hT true (fun _ => by rw [hE, decide_eq_false (fun h => h2 (by rw [h])), Bool.false_and]) rfl
      · rw [if_neg h1]
        exact hT true (fun _ => by
          have h1' : eqB x.f1 y.f1 = false := by
            rw [Bool.eq_false_iff]
            intro h
            exact h1 (by rw [(eqB_iff _ _).1 h])
          rw [hE, h1', Bool.false_and, Bool.false_and]) rfl
    · rw [if_neg h0]
      exact hT true (fun _ => by rw [hE, decide_eq_false h0, Bool.false_and, Bool.false_and, Bool.false_and]) rfl
theorem refSame_calls (x y : X) (A2 : Option Addr) (c2 : Nat) (A3 : Option Addr) (c3 : Nat) (B2 : Option Addr) (d2 : Nat) (B3 : Option Addr) (d3 : Nat) (w : World) (hx : Has w x A2 c2 A3 c3) (hy : Has w y B2 d2 B3 d3) :
    Calls Tryd.prog 28 #[agg x A2 c2 A3 c3, agg y B2 d2 B3 d3] w fun e w' => e = .returned (.bool (sameX x y)) ∧ Below w.heap.size w w' :=
  epactref09_Same.calls (wt x) x.f0 x.f1 A2 c2 x.f2 A3 c3 x.f3 y.f0 y.f1 B2 d2 y.f2 B3 d3 y.f3 _ w hx.C2 hx.l2 hx.C3 hx.l3 hy.C2 hy.l2 hy.C3 hy.l3 (refSame_f (cnt x) x y (Nat.le_refl _) w A2 c2 A3 c3 hx _ (Nat.le_refl _))
theorem sameX_self (N : Nat) : ∀ x : X, cnt x ≤ N → sameX x x = true := by
  induction N with
  | zero => intro x hx; have := cnt_pos x; omega
  | succ N ih =>
    intro x hN
    have key : ∀ ys : List X, (∀ y ∈ ys, sameX y y = true) → sameL ys ys = true := by
      intro ys
      induction ys with
      | nil => intro _; exact sameL_nil
      | cons y ys ih2 => intro h; rw [sameL_cons, h y (by simp), ih2 (fun z hz => h z (by simp [hz]))]; rfl
    rw [sameX_eq, decide_eq_true rfl, decide_eq_true rfl, (eqB_iff x.f1 x.f1).2 rfl, key x.f3 (fun y hy => ih y (by have := cnt_child hy; omega))]
    rfl
end Go.Proofs.YtjeofffddbibeaaDoor.Ex
