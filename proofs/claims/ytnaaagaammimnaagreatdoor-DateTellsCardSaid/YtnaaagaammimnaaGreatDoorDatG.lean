/-
  A day's text with a byte changed, left out, put in, or more: none of these says that day. Plain Lean.
-/
import Derived.Test.YtnaaagaammimnaaGreatDoorDatF
namespace Go.Proofs.YtnaaagaammimnaaGreatDoor.Civ
open Go Go.Proofs.YtnaaagaammimnaaGreatDoor.Ex
set_option linter.unusedVariables false
set_option linter.unusedSimpArgs false

theorem dig1 {l : List UInt8} (h : l.length = 1) (ha : l.all digitB = true) : ∃ a, l = [a] ∧ digitB a = true := by
  match l, h with
  | [a], _ => exact ⟨a, rfl, by simpa using ha⟩
theorem dig2 {l : List UInt8} (h : l.length = 2) (ha : l.all digitB = true) : ∃ a b, l = [a, b] ∧ digitB a = true ∧ digitB b = true := by
  match l, h with
  | [a, b], _ => exact ⟨a, b, rfl, by simpa using ha⟩
theorem dig3 {l : List UInt8} (h : l.length = 3) (ha : l.all digitB = true) : ∃ a b c, l = [a, b, c] ∧ digitB a = true ∧ digitB b = true ∧ digitB c = true := by
  match l, h with
  | [a, b, c], _ => exact ⟨a, b, c, rfl, by simpa using ha⟩
theorem dig4 {l : List UInt8} (h : l.length = 4) (ha : l.all digitB = true) : ∃ a b c d, l = [a, b, c, d] ∧ digitB a = true ∧ digitB b = true ∧ digitB c = true ∧ digitB d = true := by
  match l, h with
  | [a, b, c, d], _ => exact ⟨a, b, c, d, rfl, by simpa using ha⟩
/-- The sign. -/
def sgn (y : Int) : List UInt8 := if y < 0 then [45] else []
theorem sgn_two (y : Int) : sgn y = [45] ∨ sgn y = [] := by unfold sgn; split <;> simp
theorem yearL_shape {y : Int} (h : InY y) : ∃ a b c d, yearL y = sgn y ++ [a, b, c, d] ∧ digitB a = true ∧ digitB b = true ∧ digitB c = true ∧ digitB d = true := by
  unfold yearL sgn
  obtain ⟨h0, h1⟩ := h
  split
  · obtain ⟨p1, p2, _⟩ := padF_spec (-y) 4 (by omega) (by omega) (by omega)
    obtain ⟨a, b, c, d, e, hh⟩ := dig4 p1 p2
    exact ⟨a, b, c, d, by rw [e]; rfl, hh⟩
  · obtain ⟨p1, p2, _⟩ := padF_spec y 4 (by omega) (by omega) (by omega)
    obtain ⟨a, b, c, d, e, hh⟩ := dig4 p1 p2
    exact ⟨a, b, c, d, by rw [e]; rfl, hh⟩
theorem form1_shape {n : Int} (hn : In n) : ∃ a b c d m1 m2 d1 d2, form1 n = sgn (yrF n) ++ [a, b, c, d, 45, m1, m2, 45, d1, d2] ∧ digitB a = true ∧ digitB m1 = true ∧ digitB d1 = true := by
  have hok := (date_ok hn).1
  have hm := hok.month
  have hd : 1 ≤ dyF n ∧ dyF n ≤ 31 := ⟨hok.2.2.2.2.1, by have := hok.2.2.2.2.2; have := len_le (yrF n) (moF n); omega⟩
  obtain ⟨a, b, c, d, e1, ha, _⟩ := yearL_shape (yrF_range hn)
  obtain ⟨p1, p2, _⟩ := padF_spec (moF n) 2 (by omega) (by omega) (by omega)
  obtain ⟨m1, m2, e2, hm1, _⟩ := dig2 p1 p2
  obtain ⟨q1, q2, _⟩ := padF_spec (dyF n) 2 (by omega) (by omega) (by omega)
  obtain ⟨d1, d2, e3, hd1, _⟩ := dig2 q1 q2
  refine ⟨a, b, c, d, m1, m2, d1, d2, ?_, ha, hm1, hd1⟩
  unfold form1
  rw [e1, e2, e3]
  simp
theorem form2_len {n : Int} (hn : In n) : (form2 n).length = (sgn (yrF n)).length + 8 := by
  obtain ⟨a, b, c, d, e1, _⟩ := yearL_shape (yrF_range hn)
  have hs := yrF_spec n
  have hb := beg_succ (yrF n)
  have hl := lp_bd (yrF n)
  obtain ⟨p1, p2, _⟩ := padF_spec (n - beg (yrF n) + 1) 3 (by omega) (by omega) (by omega)
  unfold form2
  rw [e1]
  simp only [List.length_append, List.length_cons, List.length_nil, p1]
theorem form3_shape {n : Int} (hi : InY (wyr n)) : ∃ a b c d w1 w2 d1, form3 n = sgn (wyr n) ++ [a, b, c, d, 45, 87, w1, w2, 45, d1] ∧ digitB a = true ∧ digitB w2 = true := by
  obtain ⟨a, b, c, d, e1, ha, _⟩ := yearL_shape hi
  have hs := wyr_spec n
  have hst := fst_step (wyr n)
  have hw := wdF_bd n
  obtain ⟨p1, p2, _⟩ := padF_spec ((n - fst (wyr n)) / 7 + 1) 2 (by omega) (by omega) (by omega)
  obtain ⟨w1, w2, e2, _, hw2⟩ := dig2 p1 p2
  obtain ⟨q1, q2, _⟩ := padF_spec (wdF n) 1 (by omega) (by omega) (by omega)
  obtain ⟨d1, e3, _⟩ := dig1 q1 q2
  refine ⟨a, b, c, d, w1, w2, d1, ?_, ha, hw2⟩
  unfold form3
  rw [e1, e2, e3]
  simp
theorem digit_ne' {b : UInt8} (h : digitB b = true) : b ≠ 45 ∧ b ≠ 87 ∧ (45 : UInt8) ≠ b ∧ (87 : UInt8) ≠ b := ⟨(digit_ne h).1, (digit_ne h).2, Ne.symm (digit_ne h).1, Ne.symm (digit_ne h).2⟩
theorem text_form {n : Int} (hn : In n) : (textF n).1 = toB (form1 n) := by
  unfold textF
  rw [if_pos hn, ymdL_form]
  rfl
/-- A byte changed: it is the text itself, or it doesn't say that day. -/
theorem other_law {n : Int} (hn : In n) {k : Nat} {c : UInt8} (hk : k < (form1 n).length) (h : readF (toB ((form1 n).take k ++ c :: (form1 n).drop (k + 1))) = (n, 0)) : (form1 n).take k ++ c :: (form1 n).drop (k + 1) = form1 n := by
  obtain ⟨a, b, cc, d, m1, m2, d1, d2, e1, ha, hm, hd⟩ := form1_shape hn
  have hlen : ((form1 n).take k ++ c :: (form1 n).drop (k + 1)).length = (form1 n).length := by
    rw [List.length_append, List.length_take, List.length_cons, List.length_drop]
    omega
  rcases (read_form h).2 with h1 | h1 | ⟨hi, h1⟩
  · exact h1
  · exfalso
    rw [h1, form2_len hn, e1, List.length_append] at hlen
    simp at hlen
  · exfalso
    obtain ⟨a', b', c', d', w1, w2, q1, e3, ha', hw⟩ := form3_shape hi
    have hl3 : (sgn (wyr n)).length = (sgn (yrF n)).length := by
      rw [h1, e3, e1, List.length_append, List.length_append] at hlen
      simp at hlen
      exact hlen
    -- positions behind the sign
    have pos : ∀ i, i ≠ k → (form3 n)[i]? = (form1 n)[i]? := by
      intro i hi'
      rw [← h1]
      rcases Nat.lt_or_ge i k with hlt | hge
      · rw [List.getElem?_append_left (by rw [List.length_take]; omega), List.getElem?_take_of_lt hlt]
      · rw [List.getElem?_append_right (by rw [List.length_take]; omega), List.length_take]
        have : i - min k (form1 n).length = (i - k - 1) + 1 := by omega
        rw [this, List.getElem?_cons_succ, List.getElem?_drop]
        congr 1
        omega
    have g3 : ∀ j, (form3 n)[(sgn (wyr n)).length + j]? = [a', b', c', d', 45, 87, w1, w2, 45, q1][j]? := by
      intro j
      rw [e3, List.getElem?_append_right (by omega)]
      congr 1
      omega
    have g1 : ∀ j, (form1 n)[(sgn (yrF n)).length + j]? = [a, b, cc, d, 45, m1, m2, 45, d1, d2][j]? := by
      intro j
      rw [e1, List.getElem?_append_right (by omega)]
      congr 1
      omega
    have n7 : (sgn (yrF n)).length + 7 = k := by
      apply Classical.byContradiction
      intro hne
      have := pos _ hne
      rw [g1 7] at this
      rw [← hl3, g3 7] at this
      simp at this
      exact (digit_ne' hw).1 this
    have n8 : (sgn (yrF n)).length + 8 = k := by
      apply Classical.byContradiction
      intro hne
      have := pos _ hne
      rw [g1 8] at this
      rw [← hl3, g3 8] at this
      simp at this
      exact (digit_ne' hd).1 this.symm
    omega
theorem sgn_len (y : Int) : (sgn y).length = 0 ∧ sgn y = [] ∨ (sgn y).length = 1 ∧ sgn y = [45] := by
  rcases sgn_two y with h | h
  · exact .inr ⟨by rw [h]; rfl, h⟩
  · exact .inl ⟨by rw [h]; rfl, h⟩
/-- Of another length, a text that says that day is the week's: and then its sign is another one. -/
theorem length_law {n : Int} (hn : In n) {x : List UInt8} (h : readF (toB x) = (n, 0)) (h0 : x.length ≠ (form1 n).length) (h2 : x.length ≠ (sgn (yrF n)).length + 8) :
    ∃ a b c d w1 w2 q, x = sgn (wyr n) ++ [a, b, c, d, 45, 87, w1, w2, 45, q] ∧ digitB a = true ∧ ((sgn (wyr n) = [] ∧ sgn (yrF n) = [45]) ∨ (sgn (wyr n) = [45] ∧ sgn (yrF n) = [])) := by
  rcases (read_form h).2 with h1 | h1 | ⟨hi, h1⟩
  · exact absurd (by rw [h1]) h0
  · exact absurd (by rw [h1]; exact form2_len hn) h2
  · obtain ⟨a', b', c', d', w1, w2, q1, e3, ha', hw⟩ := form3_shape hi
    obtain ⟨a, b, cc, d, m1, m2, d1, d2, e1, ha, hm, hd⟩ := form1_shape hn
    refine ⟨a', b', c', d', w1, w2, q1, by rw [h1]; exact e3, ha', ?_⟩
    rw [h1, e3, e1, List.length_append, List.length_append] at h0
    simp only [List.length_cons, List.length_nil] at h0
    rcases sgn_len (wyr n) with ⟨l1, s1⟩ | ⟨l1, s1⟩ <;> rcases sgn_len (yrF n) with ⟨l2, s2⟩ | ⟨l2, s2⟩
    · omega
    · exact .inl ⟨s1, s2⟩
    · exact .inr ⟨s1, s2⟩
    · omega
theorem less_law {n : Int} (hn : In n) {k : Nat} (hk : k < (form1 n).length) : readF (toB ((form1 n).take k ++ (form1 n).drop (k + 1))) ≠ (n, 0) := by
  intro h
  obtain ⟨a, b, cc, d, m1, m2, d1, d2, e1, ha, hm, hd⟩ := form1_shape hn
  have hl1 : (form1 n).length = (sgn (yrF n)).length + 10 := by rw [e1, List.length_append]; rfl
  have hlen : ((form1 n).take k ++ (form1 n).drop (k + 1)).length = (sgn (yrF n)).length + 9 := by
    rw [List.length_append, List.length_take, List.length_drop]
    omega
  obtain ⟨a', b', c', d', w1, w2, q, hx, ha', hs⟩ := length_law hn h (by omega) (by omega)
  rcases hs with ⟨s1, s2⟩ | ⟨s1, s2⟩
  · rw [s1, List.nil_append] at hx
    rw [s2] at e1
    cases k with
    | zero =>
      rw [e1] at hx
      simp at hx
      exact (digit_ne' hm).2.1 hx.2.2.2.2.1
    | succ k =>
      rw [e1] at hx
      simp at hx
      exact (digit_ne' ha').2.2.1 hx.1
  · rw [hx, s1, s2] at hlen
    simp at hlen
theorem more_law {n : Int} (hn : In n) {k : Nat} {c : UInt8} (hk : k < (form1 n).length) : readF (toB ((form1 n).take k ++ c :: (form1 n).drop k)) ≠ (n, 0) := by
  intro h
  obtain ⟨a, b, cc, d, m1, m2, d1, d2, e1, ha, hm, hd⟩ := form1_shape hn
  have hl1 : (form1 n).length = (sgn (yrF n)).length + 10 := by rw [e1, List.length_append]; rfl
  have hlen : ((form1 n).take k ++ c :: (form1 n).drop k).length = (sgn (yrF n)).length + 11 := by
    rw [List.length_append, List.length_take, List.length_cons, List.length_drop]
    omega
  obtain ⟨a', b', c', d', w1, w2, q, hx, ha', hs⟩ := length_law hn h (by omega) (by omega)
  rcases hs with ⟨s1, s2⟩ | ⟨s1, s2⟩
  · rw [hx, s1, s2] at hlen
    simp at hlen
  · rw [s1] at hx
    rw [s2, List.nil_append] at e1
    cases k with
    | zero =>
      rw [e1] at hx
      simp at hx
      exact (digit_ne' hm).2.1 hx.2.2.2.2.2.1
    | succ k =>
      rw [e1] at hx
      simp at hx
      exact (digit_ne' ha).1 hx.1
theorem behind_law {n : Int} (hn : In n) : readF (toB (form1 n ++ [45])) ≠ (n, 0) := by
  intro h
  obtain ⟨a, b, cc, d, m1, m2, d1, d2, e1, ha, hm, hd⟩ := form1_shape hn
  have hl1 : (form1 n).length = (sgn (yrF n)).length + 10 := by rw [e1, List.length_append]; rfl
  have hlen : (form1 n ++ [45]).length = (sgn (yrF n)).length + 11 := by rw [List.length_append, hl1]; rfl
  obtain ⟨a', b', c', d', w1, w2, q, hx, ha', hs⟩ := length_law hn h (by omega) (by omega)
  rcases hs with ⟨s1, s2⟩ | ⟨s1, s2⟩
  · rw [hx, s1, s2] at hlen
    simp at hlen
  · rw [s1] at hx
    rw [s2, List.nil_append] at e1
    rw [e1] at hx
    simp at hx
    exact (digit_ne' ha).1 hx.1
theorem ahead_law {n : Int} (hn : In n) : readF (toB (32 :: form1 n)) ≠ (n, 0) := by
  intro h
  obtain ⟨a, b, cc, d, m1, m2, d1, d2, e1, ha, hm, hd⟩ := form1_shape hn
  have hl1 : (form1 n).length = (sgn (yrF n)).length + 10 := by rw [e1, List.length_append]; rfl
  have hlen : (32 :: form1 n).length = (sgn (yrF n)).length + 11 := by rw [List.length_cons, hl1]
  obtain ⟨a', b', c', d', w1, w2, q, hx, ha', hs⟩ := length_law hn h (by omega) (by omega)
  rcases hs with ⟨s1, s2⟩ | ⟨s1, s2⟩
  · rw [hx, s1, s2] at hlen
    simp at hlen
  · rw [s1] at hx
    have := (List.cons.inj hx).1
    exact absurd this (by decide)
end Go.Proofs.YtnaaagaammimnaaGreatDoor.Civ
