/-
  Each of a day's texts is read as the day; what is not read is an error of one kind. Plain Lean.
-/
import Derived.Test.YtnaaagaammimnaaGreatDoorDatG
namespace Go.Proofs.YtnaaagaammimnaaGreatDoor.Civ
open Go Go.Proofs.YtnaaagaammimnaaGreatDoor.Ex
set_option linter.unusedVariables false
set_option linter.unusedSimpArgs false

theorem toB_list (l : List UInt8) : (toB l).data.toList = l := by show l.toArray.toList = l; simp
/-- What Read answers where a year stands ahead. -/
theorem readF_year {y : Int} (hy : InY y) (rest : List UInt8) : ∃ x0, readF (toB (yearL y ++ 45 :: rest)) = tailF y ((x0 :: cut rest).map toB) := by
  obtain ⟨h0, h1⟩ := hy
  unfold readF
  rw [toB_list]
  by_cases h : y < 0
  · have hp := padF_spec (-y) 4 (by omega) (by omega) (by omega)
    have hy' : yearL y = 45 :: padF (-y) 4 := by unfold yearL; rw [if_pos h]
    rw [hy', List.cons_append]
    have hpre : Lib.hasPrefix (45 :: (padF (-y) 4 ++ 45 :: rest)) [45] = true := by simp [Lib.hasPrefix, List.isPrefixOf]
    have htr : Lib.trimPrefix (45 :: (padF (-y) 4 ++ 45 :: rest)) [45] = padF (-y) 4 ++ 45 :: rest := by unfold Lib.trimPrefix; rw [if_pos hpre]; rfl
    rw [hpre, htr]
    have hpc := pieces_cut (toB (padF (-y) 4 ++ 45 :: rest))
    rw [toB_list, cut_dash _ _ (no_dash hp.2.1)] at hpc
    have hpc : pieces ⟨(padF (-y) 4 ++ 45 :: rest).toArray⟩ = (padF (-y) 4 :: cut rest).map toB := hpc
    rw [hpc]
    refine ⟨padF (-y) 4, ?_⟩
    unfold readL
    rw [getD_map]
    have e3 : (padF (-y) 4 :: cut rest).getD 0 [] = padF (-y) 4 := rfl
    have e4 : numF (toB (padF (-y) 4)) 4 = (-y, true) := (numF_L _ 4).trans (padF_num (-y) 4 (by omega) (by omega) (by omega))
    rw [e3, e4, if_neg (by intro hh; rcases hh with hh | ⟨_, hh⟩ <;> simp at hh; omega), if_pos rfl]
    show tailF (- -y) _ = _
    rw [Int.neg_neg]
  · have hp := padF_spec y 4 (by omega) (by omega) (by omega)
    have hy' : yearL y = padF y 4 := by unfold yearL; rw [if_neg h]
    rw [hy']
    have hpre : Lib.hasPrefix (padF y 4 ++ 45 :: rest) [45] = false := by
      cases hq : padF y 4 with
      | nil => rw [hq] at hp; simp at hp
      | cons b l =>
        have hb : digitB b = true := by
          have := hp.2.1
          rw [hq, List.all_cons, Bool.and_eq_true] at this
          exact this.1
        have := (digit_ne hb).1
        simp [Lib.hasPrefix, List.isPrefixOf, Ne.symm this]
    have htr : Lib.trimPrefix (padF y 4 ++ 45 :: rest) [45] = padF y 4 ++ 45 :: rest := by unfold Lib.trimPrefix; rw [if_neg (by rw [hpre]; simp)]
    rw [hpre, htr]
    have hpc := pieces_cut (toB (padF y 4 ++ 45 :: rest))
    rw [toB_list, cut_dash _ _ (no_dash hp.2.1)] at hpc
    have hpc : pieces ⟨(padF y 4 ++ 45 :: rest).toArray⟩ = (padF y 4 :: cut rest).map toB := hpc
    rw [hpc]
    refine ⟨padF y 4, ?_⟩
    unfold readL
    rw [getD_map]
    have e3 : (padF y 4 :: cut rest).getD 0 [] = padF y 4 := rfl
    have e4 : numF (toB (padF y 4)) 4 = (y, true) := (numF_L _ 4).trans (padF_num y 4 (by omega) (by omega) (by omega))
    rw [e3, e4, if_neg (by simp), if_neg (by simp)]
theorem form1_read {n : Int} (hn : In n) : readF (toB (form1 n)) = (n, 0) := by
  rw [← text_form hn]
  exact text_read hn
theorem form2_read {n : Int} (hn : In n) : readF (toB (form2 n)) = (n, 0) := by
  have hs := yrF_spec n
  have hbs := beg_succ (yrF n)
  have hlp := lp_bd (yrF n)
  have p := padF_spec (n - beg (yrF n) + 1) 3 (by omega) (by omega) (by omega)
  obtain ⟨x0, h⟩ := readF_year (yrF_range hn) (padF (n - beg (yrF n) + 1) 3)
  unfold form2
  rw [h, cut_none _ (no_dash p.2.1)]
  have hnum := padF_num (n - beg (yrF n) + 1) 3 (by omega) (by omega) (by omega)
  have s0 : shapeF (yrF n) ([x0, padF (n - beg (yrF n) + 1) 3].map toB) 0 = (0, 30) := by rw [shape_L]; rfl
  have s1 : shapeF (yrF n) ([x0, padF (n - beg (yrF n) + 1) 3].map toB) 1 = (0, 30) := by rw [shape_L]; rfl
  have s2 : shapeF (yrF n) ([x0, padF (n - beg (yrF n) + 1) 3].map toB) 2 = (n, 0) := by
    rw [shape_L]
    show (if (numL (padF (n - beg (yrF n) + 1) 3) 3).2 = true then ofNthF (yrF n) (numL (padF (n - beg (yrF n) + 1) 3) 3).1 else (0, 30)) = _
    rw [hnum, if_pos rfl]
    exact ofNth_nth hn
  unfold tailF
  rw [s0, s1, s2, if_neg (by decide), if_neg (by decide), if_pos rfl]
theorem form3_read {n : Int} (hn : In n) (hi : InY (wyr n)) : readF (toB (form3 n)) = (n, 0) := by
  have hs := wyr_spec n
  have hst := fst_step (wyr n)
  have hwd := wdF_bd n
  have p := padF_spec ((n - fst (wyr n)) / 7 + 1) 2 (by omega) (by omega) (by omega)
  have q := padF_spec (wdF n) 1 (by omega) (by omega) (by omega)
  have hnd : 45 ∉ 87 :: padF ((n - fst (wyr n)) / 7 + 1) 2 := by
    intro hm
    rcases List.mem_cons.1 hm with h | h
    · exact absurd h (by decide)
    · exact no_dash p.2.1 h
  obtain ⟨x0, h⟩ := readF_year hi (87 :: padF ((n - fst (wyr n)) / 7 + 1) 2 ++ 45 :: padF (wdF n) 1)
  unfold form3
  rw [h, cut_dash _ _ hnd, cut_none _ (no_dash q.2.1)]
  have hnum := padF_num ((n - fst (wyr n)) / 7 + 1) 2 (by omega) (by omega) (by omega)
  have hnum1 := padF_num (wdF n) 1 (by omega) (by omega) (by omega)
  have hlen : ¬ ((numL (87 :: padF ((n - fst (wyr n)) / 7 + 1) 2) 2).2 = true) := by
    unfold numL
    rw [if_neg (by rw [List.length_cons, p.1]; omega)]
    decide
  have s0 : shapeF (wyr n) ([x0, 87 :: padF ((n - fst (wyr n)) / 7 + 1) 2, padF (wdF n) 1].map toB) 0 = (0, 30) := by
    rw [shape_L]
    show (if (numL (87 :: padF ((n - fst (wyr n)) / 7 + 1) 2) 2).2 = true ∧ (numL (padF (wdF n) 1) 2).2 = true then _ else ((0 : Int), (30 : Int))) = _
    rw [if_neg (fun hh => hlen hh.1)]
  have s1 : shapeF (wyr n) ([x0, 87 :: padF ((n - fst (wyr n)) / 7 + 1) 2, padF (wdF n) 1].map toB) 1 = (n, 0) := by
    rw [shape_L]
    have hpre : Lib.hasPrefix (87 :: padF ((n - fst (wyr n)) / 7 + 1) 2) [87] = true := by simp [Lib.hasPrefix, List.isPrefixOf]
    have htr : Lib.trimPrefix (87 :: padF ((n - fst (wyr n)) / 7 + 1) 2) [87] = padF ((n - fst (wyr n)) / 7 + 1) 2 := by unfold Lib.trimPrefix; rw [if_pos hpre]; rfl
    show (if Lib.hasPrefix (87 :: padF ((n - fst (wyr n)) / 7 + 1) 2) [87] = true ∧ (numL (Lib.trimPrefix (87 :: padF ((n - fst (wyr n)) / 7 + 1) 2) [87]) 2).2 = true ∧ (numL (padF (wdF n) 1) 1).2 = true then ofWeekF (wyr n) (numL (Lib.trimPrefix (87 :: padF ((n - fst (wyr n)) / 7 + 1) 2) [87]) 2).1 (numL (padF (wdF n) 1) 1).1 else (0, 30)) = _
    rw [htr, hnum, hnum1, if_pos ⟨hpre, rfl, rfl⟩]
    exact ofWeek_week hn hi
  unfold tailF
  rw [s0, s1, if_neg (by decide), if_pos rfl]
/-- The texts of a day. -/
def textsL (n : Int) : List (List UInt8) := if In n then form1 n :: form2 n :: (if InY (wyr n) then [form3 n] else []) else []
theorem texts_read {n : Int} {l : List UInt8} (h : l ∈ textsL n) : readF (toB l) = (n, 0) := by
  unfold textsL at h
  split at h
  · rename_i hn
    rcases List.mem_cons.1 h with rfl | h
    · exact form1_read hn
    · rcases List.mem_cons.1 h with rfl | h
      · exact form2_read hn
      · split at h
        · rename_i hi
          rw [List.mem_singleton.1 h]
          exact form3_read hn hi
        · cases h
  · cases h
theorem read_texts {n : Int} {l : List UInt8} (h : readF (toB l) = (n, 0)) : l ∈ textsL n := by
  obtain ⟨hn, hf⟩ := read_form h
  unfold textsL
  rw [if_pos hn]
  rcases hf with rfl | rfl | ⟨hi, rfl⟩
  · simp
  · simp
  · rw [if_pos hi]; simp
theorem tailF_err (y : Int) (L : List ByteArray) : (tailF y L).2 = 0 ∨ tailF y L = (0, 30) := by
  unfold tailF
  by_cases h0 : (shapeF y L 0).2 = 0
  · rw [if_pos h0]; exact .inl rfl
  · rw [if_neg h0]
    by_cases h1 : (shapeF y L 1).2 = 0
    · rw [if_pos h1]; exact .inl rfl
    · rw [if_neg h1]
      by_cases h2 : (shapeF y L 2).2 = 0
      · rw [if_pos h2]; exact .inl rfl
      · rw [if_neg h2]; exact .inr rfl
theorem readL_err (minus : Bool) (L : List ByteArray) : (readL minus L).2 = 0 ∨ readL minus L = (0, 30) := by
  unfold readL
  by_cases h : (numF (L.getD 0 ⟨#[]⟩) 4).2 = false ∨ (minus = true ∧ (numF (L.getD 0 ⟨#[]⟩) 4).1 = 0)
  · rw [if_pos h]; exact .inr rfl
  · rw [if_neg h]; exact tailF_err _ _
theorem readF_err (s : ByteArray) : (readF s).2 = 0 ∨ readF s = (0, 30) := readL_err _ _
/-- The year that stands ahead of a day's text, and the day near it. -/
theorem texts_year {n : Int} {l : List UInt8} (h : l ∈ textsL n) : ∃ y rest, InY y ∧ l = yearL y ++ 45 :: rest ∧ 3 ≤ rest.length ∧ beg y - 7 ≤ n ∧ n < beg y + 373 := by
  unfold textsL at h
  split at h
  · rename_i hn
    have hs := yrF_spec n
    have hbs := beg_succ (yrF n)
    have hlp := lp_bd (yrF n)
    rcases List.mem_cons.1 h with rfl | h
    · refine ⟨yrF n, _, yrF_range hn, rfl, ?_, by omega, by omega⟩
      have hok := (date_ok hn).1
      have hm := hok.month
      have p := (padF_spec (moF n) 2 (by omega) (by omega) (by omega)).1
      rw [List.length_append, p, List.length_cons]
      omega
    · rcases List.mem_cons.1 h with rfl | h
      · refine ⟨yrF n, _, yrF_range hn, rfl, ?_, by omega, by omega⟩
        have p := (padF_spec (n - beg (yrF n) + 1) 3 (by omega) (by omega) (by omega)).1
        omega
      · split at h
        · rename_i hi
          rw [List.mem_singleton.1 h]
          have hw := wyr_spec n
          have f1 := (fst_step (wyr n)).2.2
          have f2 := (fst_step (wyr n + 1)).2.2
          have hb2 := beg_succ (wyr n)
          have hl2 := lp_bd (wyr n)
          have hst := fst_step (wyr n)
          refine ⟨wyr n, _, hi, rfl, ?_, by omega, by omega⟩
          have p := (padF_spec ((n - fst (wyr n)) / 7 + 1) 2 (by omega) (by omega) (by omega)).1
          rw [List.cons_append, List.length_cons, List.length_append, p, List.length_cons]
          omega
        · cases h
  · cases h
end Go.Proofs.YtnaaagaammimnaaGreatDoor.Civ
