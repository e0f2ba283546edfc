/-
  Plain laws on names: of an operator over two expressions they are those of the first, and what is new of the second; a right expression has right names alone, one at least.
-/
import Derived.Test.YtjeofffddbibeaaDoorExprA
namespace Go.Proofs.YtjeofffddbibeaaDoor.Ex
open Go
set_option linter.unusedVariables false

theorem seen_iff (s : List ByteArray) (t : ByteArray) : seenB s t = true ↔ t.data.toList = [] ∨ t ∈ s := by
  unfold seenB
  rw [Bool.or_eq_true, List.isEmpty_iff, List.any_eq_true]
  constructor
  · rintro (h | ⟨u, hu, he⟩)
    · exact .inl h
    · rw [eqB_iff] at he
      exact .inr (he ▸ hu)
  · rintro (h | h)
    · exact .inl h
    · exact .inr ⟨t, h, (eqB_iff t t).2 rfl⟩
/-- Is a text none of these? -/
def newB (a : List ByteArray) (t : ByteArray) : Bool := !a.any (eqB t ·)
theorem newB_iff (a : List ByteArray) (t : ByteArray) : newB a t = true ↔ t ∉ a := by
  unfold newB
  rw [Bool.not_eq_true', Bool.eq_false_iff]
  constructor
  · intro h hm
    exact h (List.any_eq_true.2 ⟨t, hm, (eqB_iff t t).2 rfl⟩)
  · intro h hm
    obtain ⟨u, hu, he⟩ := List.any_eq_true.1 hm
    rw [eqB_iff] at he
    exact h (he ▸ hu)
theorem addAll_nil8 (s l : List ByteArray) : addAll s (nil8 :: l) = addAll s l := by
  unfold addAll
  rw [List.foldl_cons]
  rw [show addN s nil8 = s from if_pos ((seen_iff s nil8).2 (.inl rfl))]
theorem addN_mem {s : List ByteArray} {t u : ByteArray} (h : u ∈ addN s t) : u ∈ s ∨ (u = t ∧ t.data.toList ≠ []) := by
  unfold addN at h
  split at h
  · exact .inl h
  · rename_i hn
    rcases List.mem_append.1 h with h | h
    · exact .inl h
    · refine .inr ⟨List.mem_singleton.1 h, fun he => hn ((seen_iff s t).2 (.inl he))⟩
theorem addAll_mem {l : List ByteArray} : ∀ {s : List ByteArray} {u : ByteArray}, u ∈ addAll s l → u ∈ s ∨ (u ∈ l ∧ u.data.toList ≠ []) := by
  induction l with
  | nil => intro s u h; exact .inl h
  | cons t l ih =>
    intro s u h
    rcases ih (s := addN s t) h with h | h
    · rcases addN_mem h with h | ⟨rfl, h⟩
      · exact .inl h
      · exact .inr ⟨by simp, h⟩
    · exact .inr ⟨by simp [h.1], h.2⟩
theorem addN_keep {s : List ByteArray} {t u : ByteArray} (h : u ∈ s) : u ∈ addN s t := by
  unfold addN
  split
  · exact h
  · exact List.mem_append.2 (.inl h)
theorem addAll_keep {l : List ByteArray} : ∀ {s : List ByteArray} {u : ByteArray}, u ∈ s → u ∈ addAll s l := by
  induction l with
  | nil => intro s u h; exact h
  | cons t l ih => intro s u h; exact ih (addN_keep h)
theorem addAll_has {l : List ByteArray} : ∀ {s : List ByteArray} {u : ByteArray}, u ∈ l → u.data.toList ≠ [] → u ∈ addAll s l := by
  induction l with
  | nil => intro s u h; cases h
  | cons t l ih =>
    intro s u h hn
    rcases List.mem_cons.1 h with rfl | h
    · refine addAll_keep (l := l) (s := addN s u) ?_
      unfold addN
      split
      · rename_i hs
        rcases (seen_iff s u).1 hs with h | h
        · exact absurd h hn
        · exact h
      · exact List.mem_append.2 (.inr (by simp))
    · exact ih h hn
/-- Behind a, what is added is what is new of what would be added behind nothing. -/
theorem addAll_filter (a : List ByteArray) (l : List ByteArray) : ∀ c : List ByteArray, addAll (a ++ c.filter (newB a)) l = a ++ (addAll c l).filter (newB a) := by
  induction l with
  | nil => intro c; rfl
  | cons t l ih =>
    intro c
    show addAll (addN (a ++ c.filter (newB a)) t) l = a ++ (addAll (addN c t) l).filter (newB a)
    rw [← ih (addN c t)]
    congr 1
    by_cases he : t.data.toList = []
    · unfold addN
      rw [if_pos ((seen_iff _ t).2 (.inl he)), if_pos ((seen_iff _ t).2 (.inl he))]
    · by_cases ha : t ∈ a
      · have hn : newB a t = false := by rw [Bool.eq_false_iff]; exact fun h => (newB_iff a t).1 h ha
        unfold addN
        rw [if_pos ((seen_iff _ t).2 (.inr (List.mem_append.2 (.inl ha))))]
        split
        · rfl
        · rw [List.filter_append, List.filter_cons, hn]
          simp
      · have hn : newB a t = true := (newB_iff a t).2 ha
        by_cases hc : t ∈ c
        · unfold addN
          rw [if_pos ((seen_iff _ t).2 (.inr (List.mem_append.2 (.inr (List.mem_filter.2 ⟨hc, hn⟩))))), if_pos ((seen_iff _ t).2 (.inr hc))]
        · unfold addN
          rw [if_neg, if_neg]
          · rw [List.filter_append, List.filter_cons, hn]
            simp
          · rw [seen_iff]
            rintro (h | h)
            · exact he h
            · exact hc h
          · rw [seen_iff]
            rintro (h | h)
            · exact he h
            · rcases List.mem_append.1 h with h | h
              · exact ha h
              · exact hc (List.mem_filter.1 h).1
theorem names_two (o : Int) (ns : List Int) (x y : X) : addAll [] (namesX ⟨o, nil8, ns, [x, y]⟩) = addAll [] (namesX x) ++ (addAll [] (namesX y)).filter (newB (addAll [] (namesX x))) := by
  rw [namesX_eq, addAll_nil8]
  show addAll [] (namesL [x, y]) = _
  rw [namesL_cons, namesL_cons, namesL_nil, List.append_nil, addAll_append]
  have := addAll_filter (addAll [] (namesX x)) (namesX y) []
  simpa using this
theorem namesL_mem {xs : List X} {t : ByteArray} (h : t ∈ namesL xs) : ∃ y ∈ xs, t ∈ namesX y := by
  induction xs with
  | nil => rw [namesL_nil] at h; cases h
  | cons y ys ih =>
    rw [namesL_cons] at h
    rcases List.mem_append.1 h with h | h
    · exact ⟨y, by simp, h⟩
    · obtain ⟨z, hz, ht⟩ := ih h
      exact ⟨z, by simp [hz], ht⟩
theorem namesL_of {xs : List X} {y : X} {t : ByteArray} (hy : y ∈ xs) (h : t ∈ namesX y) : t ∈ namesL xs := by
  induction xs with
  | nil => cases hy
  | cons z zs ih =>
    rw [namesL_cons]
    rcases List.mem_cons.1 hy with rfl | hy
    · exact List.mem_append.2 (.inl h)
    · exact List.mem_append.2 (.inr (ih hy))
theorem allRL_mem {xs : List X} (h : allRL xs = true) {y : X} (hy : y ∈ xs) : allR y = true := by
  induction xs with
  | nil => cases hy
  | cons z zs ih =>
    rw [allRL_cons, Bool.and_eq_true] at h
    rcases List.mem_cons.1 hy with rfl | hy
    · exact h.1
    · exact ih h.2 hy
theorem rightB_parts {x : X} (h : rightB x = true) : x.f0 ≤ 12 ∧ (x.f2.length : Int) = numsOf x.f0 ∧ (x.f3.length : Int) = argsOf x.f0 ∧ (if x.f0 = 0 then nameB x.f1 = true else x.f1.data.toList = []) := by
  unfold rightB at h
  rw [Bool.and_eq_true, Bool.and_eq_true, Bool.and_eq_true, decide_eq_true_eq, decide_eq_true_eq, decide_eq_true_eq] at h
  refine ⟨h.1.1.1, h.1.1.2, h.1.2, ?_⟩
  by_cases h0 : x.f0 = 0
  · rw [if_pos h0] at h ⊢
    exact h.2
  · rw [if_neg h0] at h ⊢
    have := h.2
    rw [Lib.toList_data, List.isEmpty_iff] at this
    exact this
/-- Every name that is told of a right expression is a right one. -/
theorem names_right (N : Nat) : ∀ x : X, cnt x ≤ N → allR x = true → ∀ t ∈ namesX x, t.data.toList ≠ [] → nameB t = true := by
  induction N with
  | zero => intro x hx; have := cnt_pos x; omega
  | succ N ih =>
    intro x hx h t ht hne
    rw [allR_eq, Bool.and_eq_true] at h
    have hp := rightB_parts h.1
    rw [namesX_eq] at ht
    rcases List.mem_cons.1 ht with rfl | ht
    · have := hp.2.2.2
      by_cases h0 : x.f0 = 0
      · rw [if_pos h0] at this; exact this
      · rw [if_neg h0] at this; exact absurd this hne
    · obtain ⟨y, hy, hty⟩ := namesL_mem ht
      exact ih y (by have := cnt_child hy; omega) (allRL_mem h.2 hy) t hty hne
theorem nameB_ne {t : ByteArray} (h : nameB t = true) : t.data.toList ≠ [] := by
  intro he
  unfold nameB at h
  rw [he] at h
  cases h
/-- A right expression has a name. -/
theorem names_some (N : Nat) : ∀ x : X, cnt x ≤ N → Wf x → allR x = true → ∃ t ∈ namesX x, t.data.toList ≠ [] := by
  induction N with
  | zero => intro x hx; have := cnt_pos x; omega
  | succ N ih =>
    intro x hx hwf h
    rw [allR_eq, Bool.and_eq_true] at h
    have hp := rightB_parts h.1
    by_cases h0 : x.f0 = 0
    · have := hp.2.2.2
      rw [if_pos h0] at this
      exact ⟨x.f1, by rw [namesX_eq]; simp, nameB_ne this⟩
    · have hop := hwf.op
      have ha : 1 ≤ argsOf x.f0 := by
        unfold argsOf
        rw [if_neg (by omega)]
        split <;> omega
      cases hf : x.f3 with
      | nil => rw [hf] at hp; simp at hp; omega
      | cons y ys =>
        have hy : y ∈ x.f3 := by rw [hf]; simp
        obtain ⟨t, ht, hn⟩ := ih y (by have := cnt_child hy; omega) (hwf.child hy) (allRL_mem h.2 hy)
        exact ⟨t, by rw [namesX_eq]; exact List.mem_cons.2 (.inr (namesL_of hy ht)), hn⟩
theorem RightB_all {x : X} (h : RightB x = true) : allR x = true := by
  unfold RightB at h
  rw [Bool.and_eq_true, Bool.and_eq_true] at h
  exact h.1.1
theorem right_has_names {x : X} (hwf : Wf x) (h : RightB x = true) : 0 < (addAll [] (namesX x)).length := by
  obtain ⟨t, ht, hn⟩ := names_some _ x (Nat.le_refl _) hwf (RightB_all h)
  exact List.length_pos_of_mem (addAll_has ht hn)
theorem right_names {x : X} (h : RightB x = true) {t : ByteArray} (ht : t ∈ addAll [] (namesX x)) : nameB t = true := by
  rcases addAll_mem ht with h' | ⟨h1, h2⟩
  · cases h'
  · exact names_right _ x (Nat.le_refl _) (RightB_all h) t h1 h2
theorem RightB_leaf (s : ByteArray) : RightB ⟨0, s, [], []⟩ = nameB s := by
  unfold RightB
  rw [allR_eq, dep_eq, cnt_eq]
  show (rightB ⟨0, s, [], []⟩ && allRL [] && decide (1 + depL [] ≤ 40) && decide (1 + cntL [] ≤ 2000)) = _
  rw [allRL_nil, depL_nil, cntL_nil]
  unfold rightB
  simp [numsOf, argsOf]
theorem names_len (N : Nat) : ∀ x : X, cnt x ≤ N → (namesX x).length = cnt x := by
  induction N with
  | zero => intro x hx; have := cnt_pos x; omega
  | succ N ih =>
    intro x hx
    have key : ∀ ys : List X, (∀ y ∈ ys, (namesX y).length = cnt y) → (namesL ys).length = cntL ys := by
      intro ys
      induction ys with
      | nil => intro _; rw [namesL_nil, cntL_nil]; rfl
      | cons y ys ih2 =>
        intro h
        rw [namesL_cons, cntL_cons, List.length_append, h y (by simp), ih2 (fun z hz => h z (by simp [hz]))]
    rw [namesX_eq, cnt_eq, List.length_cons, key x.f3 (fun y hy => ih y (by have := cnt_child hy; omega))]
    omega
theorem addAll_len (l : List ByteArray) : ∀ s : List ByteArray, (addAll s l).length ≤ s.length + l.length := by
  induction l with
  | nil => intro s; exact Nat.le_refl _
  | cons t l ih =>
    intro s
    have h := ih (addN s t)
    have h2 : (addN s t).length ≤ s.length + 1 := by
      unfold addN
      split
      · omega
      · simp
    show (addAll (addN s t) l).length ≤ _
    rw [List.length_cons]
    omega
theorem names_cnt (x : X) : (addAll [] (namesX x)).length ≤ cnt x := by
  have := addAll_len (namesX x) []
  rw [names_len _ x (Nat.le_refl _)] at this
  simpa using this
end Go.Proofs.YtjeofffddbibeaaDoor.Ex
