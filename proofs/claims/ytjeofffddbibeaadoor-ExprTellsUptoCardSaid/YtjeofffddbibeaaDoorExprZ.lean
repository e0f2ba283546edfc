/-
  The document's own answer which names an expression has: the same, in the same order.
-/
import Derived.Test.YtjeofffddbibeaaDoorExprNM
import Derived.Test.YtjeofffddbibeaaDoorExprT
import Derived.Test.YtjeofffddbibeaaDoorMAll
namespace Go.Proofs.YtjeofffddbibeaaDoor.Ex
open Go Go.RowKit Go.Proofs.YtjeofffddbibeaaDoor.PExprTells Go.Proofs.YtjeofffddbibeaaDoorW.PrintWords Go.Proofs.YtjeofffddbibeaaDoorW.PrintLast Go.Proofs.YtjeofffddbibeaaDoorW.PrintMore
set_option linter.unusedVariables false
set_option linter.unusedSimpArgs false

def neN (t : ByteArray) : Bool := !t.toList.isEmpty
theorem neN_iff (t : ByteArray) : neN t = true ↔ t.toList ≠ [] := by
  unfold neN
  rw [Bool.not_eq_true', Bool.eq_false_iff]
  exact ⟨fun h he => h (List.isEmpty_iff.2 he), fun h he => h (List.isEmpty_iff.1 he)⟩
/-- The names, as they stand. -/
def allN (x : X) : List ByteArray := (namesX x).filter neN
def allNL (xs : List X) : List ByteArray := (namesL xs).filter neN
theorem allNL_nil : allNL [] = [] := by unfold allNL; rw [namesL_nil]; rfl
theorem allNL_cons (y : X) (ys : List X) : allNL (y :: ys) = allN y ++ allNL ys := by unfold allNL allN; rw [namesL_cons, List.filter_append]
theorem allN_eq (x : X) : allN x = (if x.f1.toList = [] then [] else [x.f1]) ++ allNL x.f3 := by
  unfold allN allNL
  rw [namesX_eq, List.filter_cons]
  by_cases h : x.f1.toList = []
  · rw [if_pos h, if_neg (fun he => (neN_iff _).1 he h)]
    rfl
  · rw [if_neg h, if_pos ((neN_iff _).2 h)]
    rfl
theorem allN_len (x : X) : (allN x).length ≤ cnt x := by
  unfold allN
  have h1 := List.length_filter_le neN (namesX x)
  rw [names_len _ x (Nat.le_refl _)] at h1
  exact h1
theorem namesL_len (ys : List X) : (namesL ys).length = cntL ys := by
  induction ys with
  | nil => rw [namesL_nil, cntL_nil]; rfl
  | cons y ys ih => rw [namesL_cons, cntL_cons, List.length_append, names_len _ y (Nat.le_refl _), ih]
theorem allNL_len (ys : List X) : (allNL ys).length ≤ cntL ys := by
  unfold allNL
  have h1 := List.length_filter_le neN (namesL ys)
  rw [namesL_len] at h1
  exact h1
theorem refAll_l0 (o : Int) (s : ByteArray) (ns : List Int) (ys : List X) (hl : cntL ys ≤ 1099511627776)
    (hf : ∀ (i : Nat) (hi : i < ys.length) (k : Nat), 3 * cnt ys[i] ≤ k → epactref09_all.f k ys[i].f0 ys[i].f1 ys[i].f2 ys[i].f3 = some (allN ys[i])) :
    ∀ (n i : Nat), i + n = ys.length → ∀ (k : Nat) (acc : List ByteArray), 3 * cntL (ys.drop i) + 1 ≤ k → acc.length + cntL (ys.drop i) ≤ 1099511627780 →
      epactref09_all.l0 k acc i o s ns ys = some (acc ++ allNL (ys.drop i)) := by
  intro n
  induction n with
  | zero =>
    intro i hi k acc hk h1
    obtain ⟨k, rfl⟩ : ∃ m, k = m + 1 := ⟨k - 1, by omega⟩
    simp only [epactref09_all.l0]
    rw [if_neg (by omega), List.drop_eq_nil_of_le (by omega), allNL_nil, List.append_nil]
  | succ n ih =>
    intro i hi k acc hk h1
    obtain ⟨k, rfl⟩ : ∃ m, k = m + 1 := ⟨k - 1, by omega⟩
    have hil : i < ys.length := by omega
    have hd := cntL_drop ys i hil
    have hp := cnt_pos ys[i]
    have hlen := len_cntL ys
    have hal := allN_len ys[i]
    simp only [epactref09_all.l0]
    rw [if_pos (by omega), if_pos (by omega), rd_at ys i hil, hf i hil k (by omega)]
    show (if acc.length + (allN ys[i]).length < 8796093022208 then epactref09_all.l0 k (acc ++ allN ys[i]) (wrap64 ((i : Int) + 1)) o s ns ys else none) = _
    rw [if_pos (by omega), w64 (by omega) (by omega), show (i : Int) + 1 = ((i + 1 : Nat) : Int) by omega, ih (i + 1) (by omega) k (acc ++ allN ys[i]) (by omega) (by rw [List.length_append]; omega)]
    rw [List.drop_eq_getElem_cons hil, allNL_cons, List.append_assoc]
theorem refAll_f (N : Nat) : ∀ x : X, cnt x ≤ N → cnt x ≤ 1099511627776 → ∀ k : Nat, 3 * cnt x ≤ k → epactref09_all.f k x.f0 x.f1 x.f2 x.f3 = some (allN x) := by
  induction N with
  | zero => intro x hx; have := cnt_pos x; omega
  | succ N ih =>
    intro x hx hb k hk
    have hc := cnt_eq x
    have hp := cnt_pos x
    obtain ⟨k, rfl⟩ : ∃ m, k = m + 2 := ⟨k - 2, by omega⟩
    have key : ∀ acc : List ByteArray, acc.length ≤ 1 → epactref09_all.j0 (k + 1) acc x.f0 x.f1 x.f2 x.f3 = some (acc ++ allNL x.f3) := by
      intro acc ha
      simp only [epactref09_all.j0]
      have h := refAll_l0 x.f0 x.f1 x.f2 x.f3 (by omega) (fun i hi m hm => ih x.f3[i] (by have := cnt_child (List.getElem_mem hi); omega) (by have := cnt_child (List.getElem_mem hi); omega) m hm) x.f3.length 0 (by omega) k acc (by rw [List.drop_zero]; omega) (by rw [List.drop_zero]; omega)
      rw [List.drop_zero] at h
      exact h
    simp only [epactref09_all.f]
    rw [allN_eq]
    by_cases h : x.f1.toList = []
    · rw [if_pos h, if_pos h]
      exact key [] (by simp)
    · rw [if_neg h, if_neg h, if_pos (by simp)]
      exact key [x.f1] (by simp)

/-! ### Each once -/
theorem rdN_at (l : List ByteArray) (i : Nat) (hi : i < l.length) : rdOf ByteArray.empty l (i : Int) = l[i] := by
  unfold rdOf
  rw [Int.toNat_natCast, List.getD_eq_getElem?_getD, List.getElem?_eq_getElem hi]
  rfl
theorem refNames_l1 (l acc : List ByteArray) (hl : l.length ≤ 1099511627780) (ha : acc.length ≤ 1099511627780) (i : Nat) (hi : i < l.length) (K : Nat) (r : List ByteArray)
    (hf : ∀ k : Nat, K ≤ k → epactref09_Names.l0 k (if (l.take i).any (eqB · l[i]) = true then acc else acc ++ [l[i]]) l ((i + 1 : Nat) : Int) = some r) :
    ∀ (n j : Nat), j + n = i → ∀ k : Nat, n + 1 + K ≤ k → epactref09_Names.l1 k acc l i ((l.take j).any (eqB · l[i])) j = some r := by
  intro n
  induction n with
  | zero =>
    intro j hj k hk
    obtain ⟨k, rfl⟩ : ∃ m, k = m + 1 := ⟨k - 1, by omega⟩
    have hji : j = i := by omega
    subst hji
    have h := hf k (by omega)
    simp only [epactref09_Names.l1]
    rw [if_neg (by omega), w64 (by omega) (by omega), rdN_at l j hi, show (j : Int) + 1 = ((j + 1 : Nat) : Int) by omega]
    by_cases hm : (l.take j).any (eqB · l[j]) = true
    · rw [if_pos hm] at h ⊢
      exact h
    · rw [if_neg hm] at h ⊢
      rw [if_pos (by omega), if_pos (by omega), if_pos (by omega)]
      exact h
  | succ n ih =>
    intro j hj k hk
    obtain ⟨k, rfl⟩ : ∃ m, k = m + 1 := ⟨k - 1, by omega⟩
    have hjl : j < l.length := by omega
    have hn := ih (j + 1) (by omega) k (by omega)
    rw [show ((j + 1 : Nat) : Int) = (j : Int) + 1 by omega] at hn
    have hs : (l.take (j + 1)).any (eqB · l[i]) = ((l.take j).any (eqB · l[i]) || eqB l[j] l[i]) := by
      rw [List.take_add_one, List.any_append, List.getElem?_eq_getElem hjl]
      simp
    rw [hs] at hn
    simp only [epactref09_Names.l1]
    rw [if_pos (by omega), w64 (by omega) (by omega), rdN_at l i hi, rdN_at l j hjl]
    by_cases hm : (l.take j).any (eqB · l[i]) = true
    · rw [if_pos hm]
      rw [hm, Bool.true_or] at hn
      exact hn
    · rw [if_neg hm, if_pos (by omega), if_pos (by omega), if_pos (by omega), if_pos (by omega)]
      rw [Bool.eq_false_iff.2 hm, Bool.false_or] at hn
      rw [show (l[j].toList == l[i].toList) = eqB l[j] l[i] from by unfold eqB; rw [Lib.toList_data, Lib.toList_data]]
      exact hn
theorem addAll_any (l : List ByteArray) (hne : ∀ t ∈ l, t.data.toList ≠ []) (t : ByteArray) : (addAll [] l).any (eqB · t) = l.any (eqB · t) := by
  rw [Bool.eq_iff_iff, List.any_eq_true, List.any_eq_true]
  constructor
  · rintro ⟨u, hu, he⟩
    rcases addAll_mem hu with h | ⟨h, _⟩
    · cases h
    · exact ⟨u, h, he⟩
  · rintro ⟨u, hu, he⟩
    exact ⟨u, addAll_has hu (hne u hu), he⟩
theorem addAll_snoc (l : List ByteArray) (hne : ∀ t ∈ l, t.data.toList ≠ []) (i : Nat) (hi : i < l.length) : addAll [] (l.take (i + 1)) = if (l.take i).any (eqB · l[i]) = true then addAll [] (l.take i) else addAll [] (l.take i) ++ [l[i]] := by
  rw [List.take_add_one, List.getElem?_eq_getElem hi]
  show addAll [] (l.take i ++ [l[i]]) = _
  rw [addAll_append]
  show addN (addAll [] (l.take i)) l[i] = _
  unfold addN seenB
  rw [show l[i].data.toList.isEmpty = false from Bool.eq_false_iff.2 (fun h => hne _ (List.getElem_mem hi) (List.isEmpty_iff.1 h)), Bool.false_or, addAll_any _ (fun t ht => hne t (List.mem_of_mem_take ht))]
theorem refNames_l0 (l : List ByteArray) (hl : l.length ≤ 1099511627776) (hne : ∀ t ∈ l, t.data.toList ≠ []) :
    ∀ (n i : Nat), i + n = l.length → ∀ k : Nat, n * (l.length + 3) + 1 ≤ k → epactref09_Names.l0 k (addAll [] (l.take i)) l i = some (addAll [] l) := by
  intro n
  induction n with
  | zero =>
    intro i hi k hk
    obtain ⟨k, rfl⟩ : ∃ m, k = m + 1 := ⟨k - 1, by omega⟩
    simp only [epactref09_Names.l0]
    rw [if_neg (by omega), List.take_of_length_le (by omega)]
  | succ n ih =>
    intro i hi k hk
    obtain ⟨k, rfl⟩ : ∃ m, k = m + 1 := ⟨k - 1, by omega⟩
    have hil : i < l.length := by omega
    have hlen : (addAll [] (l.take i)).length ≤ 1099511627780 := by
      have h1 := addAll_len (l.take i) []
      rw [List.length_take] at h1
      simp at h1
      omega
    rw [Nat.succ_mul] at hk
    simp only [epactref09_Names.l0]
    rw [if_pos (by omega)]
    have h := refNames_l1 l (addAll [] (l.take i)) (by omega) hlen i hil (n * (l.length + 3) + 1) (addAll [] l) (fun k' hk' => by rw [← addAll_snoc l hne i hil]; exact ih (i + 1) (by omega) k' hk') i 0 (by omega) k (by omega)
    exact h
theorem addAll_ne (l : List ByteArray) : ∀ s : List ByteArray, addAll s (l.filter neN) = addAll s l := by
  induction l with
  | nil => intro s; rfl
  | cons t l ih =>
    intro s
    rw [List.filter_cons]
    by_cases h : neN t = true
    · rw [if_pos h]
      exact ih (addN s t)
    · rw [if_neg h]
      show _ = addAll (addN s t) l
      have hs : seenB s t = true := (seen_iff s t).2 (.inl (by
        rw [← Lib.toList_data]
        exact Classical.byContradiction fun hn => h ((neN_iff t).2 hn)))
      rw [show addN s t = s from if_pos hs]
      exact ih s
theorem refNames_f (x : X) (hc : cnt x ≤ 1099511627776) : ∃ k, epactref09_Names.f k x.f0 x.f1 x.f2 x.f3 = some (addAll [] (namesX x)) := by
  have hl := allN_len x
  have hne : ∀ t ∈ allN x, t.data.toList ≠ [] := fun t ht => by
    have := (neN_iff t).1 (List.mem_filter.1 ht).2
    rw [← Lib.toList_data]
    exact this
  refine ⟨3 * cnt x + ((allN x).length * ((allN x).length + 3) + 1), ?_⟩
  unfold epactref09_Names.f
  rw [refAll_f (cnt x) x (Nat.le_refl _) hc _ (by omega)]
  show epactref09_Names.l0 _ [] (allN x) 0 = _
  have h := refNames_l0 (allN x) (by omega) hne (allN x).length 0 (by omega) (3 * cnt x + ((allN x).length * ((allN x).length + 3) + 1)) (by omega)
  rw [List.take_zero] at h
  rw [← addAll_ne (namesX x)]
  exact h
theorem refNames_rd (x : X) (A2 : Option Addr) (c2 : Nat) (A3 : Option Addr) (c3 : Nat) (w : World) (hx : Has w x A2 c2 A3 c3) (hc : cnt x ≤ 1099511627776) :
    Calls Tryd.prog 29 #[agg x A2 c2 A3 c3] w fun e w' => ∃ A c, e = .returned (.slice A (addAll [] (namesX x)).length c) ∧ (addAll [] (namesX x)).length ≤ c ∧ kS.C w' A (addAll [] (namesX x)).length (addAll [] (namesX x)) ∧ Below w.heap.size w w' := by
  obtain ⟨k, hk⟩ := refNames_f x hc
  exact (epactref09_Names.calls k x.f0 x.f1 A2 c2 x.f2 A3 c3 x.f3 _ w hx.C2 hx.l2 hx.C3 hx.l3 hk).mono fun e w' ⟨v, he, hr, hb⟩ => by
    obtain ⟨A, c, hv, hl, hC⟩ := Kd.R_reads hr
    exact ⟨A, c, by rw [he, hv], hl, hC, hb⟩
end Go.Proofs.YtjeofffddbibeaaDoor.Ex
