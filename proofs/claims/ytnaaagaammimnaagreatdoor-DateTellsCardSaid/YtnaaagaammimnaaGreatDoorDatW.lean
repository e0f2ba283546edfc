/-
  The contracts of weeks and of days of a year: Weeks, Week, OfWeek, Nth, OfNth of the program, each answering the plain arithmetic of DatM.
-/
import Derived.Test.YtnaaagaammimnaaGreatDoorCivD
import Derived.Test.YtnaaagaammimnaaGreatDoorDatM
namespace Go.Proofs.YtnaaagaammimnaaGreatDoor.Civ
open Go Go.RowKit Go.Proofs.YtnaaagaammimnaaGreatDoor.PDateTells Go.Proofs.YtnaaagaammimnaaGreatDoorW.PrintWords Go.Proofs.YtnaaagaammimnaaGreatDoorW.PrintLast Go.Proofs.YtnaaagaammimnaaGreatDoorW.PrintMore
set_option linter.unusedVariables false
set_option linter.unusedSimpArgs false

set_option maxHeartbeats 4000000 in
theorem Weeks_lt (y : Int) (w : World) (hM : Months w) :
    Calls Tryz.prog 13 #[.int .i64 y] w fun e w' => e = .returned (.int .i64 (wks y)) ∧ Lt w w' ∧ Months w' := by
  have C1 := Aside0.mk (fun w hM => Days_lt y 1 1 w hM (by omega) (by omega))
  by_cases hy : InY y
  · rw [daysF_ok ((ok_1 y 1 (by omega)).2 hy), dn_first] at C1
    have hw : wks y = if wdF (beg y) = 4 ∨ (wdF (beg y) = 3 ∧ leap y = true) then 53 else 52 := by unfold wks; rw [if_pos hy]
    rw [hw]
    have C2 := Aside0.mk (fun w hM => Weekday_lt (beg y) w hM)
    have C3 := Aside0.mk (fun w hM => Leap_lt y w hM)
    clear hw hy
    generalize wdF (beg y) = d at *
    generalize leap y = l at *
    generalize beg y = b at *
    by_cases h4 : d = 4
    · subst h4
      rw [if_pos (.inl rfl)]
      go_enter Tryz.func13, Tryz.ntmps13
      go_wp2_with fail
      (with_reducible refine (C1.out _ (by assumption)).mono ?_)
      rintro e w1 ⟨rfl, hl1, hM1⟩
      go_wp2_with fail
      (with_reducible refine (C2.out _ (by assumption)).mono ?_)
      rintro e w2 ⟨rfl, hl2, hM2⟩
      go_wp2
      go_ret
      exact ⟨rfl, hl1.trans hl2, hM2⟩
    · have h4' : (d == 4) = false := beq_eq_false_iff_ne.2 h4
      by_cases h3 : d = 3
      · subst h3
        have hr : (if ((3 : Int) = 4 ∨ ((3 : Int) = 3 ∧ l = true)) then (53 : Int) else 52) = if l = true then 53 else 52 := by cases l <;> rfl
        rw [hr]
        clear hr
        cases l
        · rw [if_neg (by decide)]
          go_enter Tryz.func13, Tryz.ntmps13
          go_wp2_with fail
          (with_reducible refine (C1.out _ (by assumption)).mono ?_)
          rintro e w1 ⟨rfl, hl1, hM1⟩
          go_wp2_with fail
          (with_reducible refine (C2.out _ (by assumption)).mono ?_)
          rintro e w2 ⟨rfl, hl2, hM2⟩
          go_wp2_with fail
          (with_reducible refine (C3.out _ (by assumption)).mono ?_)
          rintro e w3 ⟨rfl, hl3, hM3⟩
          go_wp2
          go_ret
          exact ⟨rfl, hl1.trans (hl2.trans hl3), hM3⟩
        · rw [if_pos rfl]
          go_enter Tryz.func13, Tryz.ntmps13
          go_wp2_with fail
          (with_reducible refine (C1.out _ (by assumption)).mono ?_)
          rintro e w1 ⟨rfl, hl1, hM1⟩
          go_wp2_with fail
          (with_reducible refine (C2.out _ (by assumption)).mono ?_)
          rintro e w2 ⟨rfl, hl2, hM2⟩
          go_wp2_with fail
          (with_reducible refine (C3.out _ (by assumption)).mono ?_)
          rintro e w3 ⟨rfl, hl3, hM3⟩
          go_wp2
          go_ret
          exact ⟨rfl, hl1.trans (hl2.trans hl3), hM3⟩
      · have h3' : (d == 3) = false := beq_eq_false_iff_ne.2 h3
        rw [if_neg (by rintro (h | ⟨h, _⟩) <;> contradiction)]
        clear h4 h3
        go_enter Tryz.func13, Tryz.ntmps13
        go_wp2_with fail
        (with_reducible refine (C1.out _ (by assumption)).mono ?_)
        rintro e w1 ⟨rfl, hl1, hM1⟩
        go_wp2_with fail
        (with_reducible refine (C2.out _ (by assumption)).mono ?_)
        rintro e w2 ⟨rfl, hl2, hM2⟩
        go_wp2
        go_ret
        exact ⟨rfl, hl1.trans hl2, hM2⟩
  · rw [daysF_not (fun h => hy ((ok_1 y 1 (by omega)).1 h))] at C1
    rw [wks_out hy]
    clear hy
    go_enter Tryz.func13, Tryz.ntmps13
    go_wp2_with fail
    (with_reducible refine (C1.out _ (by assumption)).mono ?_)
    rintro e w1 ⟨rfl, hl1, hM1⟩
    go_wp2
    go_ret
    exact ⟨rfl, hl1, hM1⟩
set_option maxHeartbeats 4000000 in
theorem Nth_lt (n : Int) (w : World) (hM : Months w) :
    Calls Tryz.prog 15 #[.int .i64 n] w fun e w' => e = .returned (.tuple #[.int .i64 (nthF n).1, .int .i64 (nthF n).2.1, .int .i64 (nthF n).2.2]) ∧ Lt w w' ∧ Months w' := by
  have C1 := Aside0.mk (fun w hM => Date_lt n w hM)
  by_cases hn : In n
  · rw [dateF_in hn] at C1
    rw [nthF_in hn]
    have hy := yrF_range hn
    have C2 := Aside0.mk (fun w hM => Days_lt (yrF n) 1 1 w hM (by omega) (by omega))
    rw [daysF_ok ((ok_1 (yrF n) 1 (by omega)).2 hy), dn_first] at C2
    have hs := yrF_spec n
    have hb := beg_succ (yrF n)
    have hl := lp_bd (yrF n)
    have h1 : wrap64 (n - beg (yrF n)) = n - beg (yrF n) := w64 (by omega) (by omega)
    have h2 : wrap64 (n - beg (yrF n) + 1) = n - beg (yrF n) + 1 := w64 (by omega) (by omega)
    have h3 : 0 ≤ n - beg (yrF n) ∧ n - beg (yrF n) ≤ 366 := by omega
    clear hb hl hs hy hn
    generalize beg (yrF n) = b at *
    generalize yrF n = y at *
    generalize moF n = m at *
    generalize dyF n = d at *
    go_enter Tryz.func15, Tryz.ntmps15
    go_wp2_with fail
    (with_reducible refine (C1.out _ (by assumption)).mono ?_)
    rintro e w1 ⟨rfl, hl1, hM1⟩
    go_wp2_with fail
    (with_reducible refine (C2.out _ (by assumption)).mono ?_)
    rintro e w2 ⟨rfl, hl2, hM2⟩
    go_wp2
    go_ret3
    exact ⟨by simp [h1, h2], hl1.trans hl2, hM2⟩
  · rw [dateF_not hn] at C1
    rw [nthF_not hn]
    clear hn
    go_enter Tryz.func15, Tryz.ntmps15
    go_wp2_with fail
    (with_reducible refine (C1.out _ (by assumption)).mono ?_)
    rintro e w1 ⟨rfl, hl1, hM1⟩
    go_wp2
    go_ret3
    exact ⟨rfl, hl1, hM1⟩
set_option maxHeartbeats 4000000 in
theorem OfNth_lt (y n : Int) (w : World) (hM : Months w) (hn0 : -9223372036854775808 ≤ n) (hn1 : n ≤ 9223372036854775807) :
    Calls Tryz.prog 17 #[.int .i64 y, .int .i64 n] w fun e w' => e = .returned (.tuple #[.int .i64 (ofNthF y n).1, .int .i64 (ofNthF y n).2]) ∧ Lt w w' ∧ Months w' := by
  have C1 := Aside0.mk (fun w hM => Days_lt y 1 1 w hM (by omega) (by omega))
  have C2 := Aside0.mk (fun w hM => Days_lt y 12 31 w hM (by omega) (by omega))
  by_cases hy : InY y
  · rw [daysF_ok ((ok_1 y 1 (by omega)).2 hy), dn_first] at C1
    rw [daysF_ok ((ok_12 y 31 (by omega)).2 hy), dn_last] at C2
    have hl := lp_bd y
    have hbb : In (beg y) := in_year hy (Int.le_refl _) (by have := beg_lt_succ y; omega)
    obtain ⟨hb0, hb1⟩ := hbb
    have hr : ofNthF y n = if 1 ≤ n ∧ n ≤ 365 + lp y then (beg y + n - 1, 0) else (0, 30) := by
      unfold ofNthF
      by_cases h : 1 ≤ n ∧ n ≤ 365 + lp y
      · rw [if_pos ⟨hy, h⟩, if_pos h]
      · rw [if_neg (fun k => h k.2), if_neg h]
    rw [hr]
    clear hr hy
    obtain ⟨e, he⟩ : ∃ e, e = beg y + 364 + lp y := ⟨_, rfl⟩
    rw [← he] at C2
    generalize beg y = b at *
    generalize lp y = l at *
    have w1 : wrap64 (e - b) = e - b := w64 (by omega) (by omega)
    have w2 : wrap64 (e - b + 1) = e - b + 1 := w64 (by omega) (by omega)
    by_cases h1 : n < 1
    · have h1' : decide (n < 1) = true := decide_eq_true h1
      rw [if_neg (by omega)]
      clear he hl hb0 hb1
      go_enter Tryz.func17, Tryz.ntmps17
      go_wp2_with fail
      (with_reducible refine (C1.out _ (by assumption)).mono ?_)
      rintro e w1 ⟨rfl, hl1, hM1⟩
      go_wp2_with fail
      (with_reducible refine (C2.out _ (by assumption)).mono ?_)
      rintro e w2 ⟨rfl, hl2, hM2⟩
      go_wp2
      go_ret2
      exact ⟨rfl, hl1.trans hl2, hM2⟩
    have h1' : decide (n < 1) = false := decide_eq_false h1
    by_cases h2 : e - b + 1 < n
    · have h2' : decide (n > e - b + 1) = true := decide_eq_true h2
      have h2'' : decide (e - b + 1 < n) = true := decide_eq_true h2
      rw [if_neg (by omega)]
      clear he hl hb0 hb1
      go_enter Tryz.func17, Tryz.ntmps17
      go_wp2_with fail
      (with_reducible refine (C1.out _ (by assumption)).mono ?_)
      rintro e w1 ⟨rfl, hl1, hM1⟩
      go_wp2_with fail
      (with_reducible refine (C2.out _ (by assumption)).mono ?_)
      rintro e w2 ⟨rfl, hl2, hM2⟩
      go_wp2
      go_ret2
      exact ⟨rfl, hl1.trans hl2, hM2⟩
    · have h2' : decide (n > e - b + 1) = false := decide_eq_false h2
      have h2'' : decide (e - b + 1 < n) = false := decide_eq_false h2
      rw [if_pos ⟨by omega, by omega⟩]
      have w3 : wrap64 (n - 1) = n - 1 := w64 (by omega) (by omega)
      have w4 : wrap64 (b + (n - 1)) = b + (n - 1) := w64 (by omega) (by omega)
      have hres : b + (n - 1) = b + n - 1 := by omega
      have HR := Aside0.mk hres
      clear he hl hb0 hb1 hres
      go_enter Tryz.func17, Tryz.ntmps17
      go_wp2_with fail
      (with_reducible refine (C1.out _ (by assumption)).mono ?_)
      rintro e w1 ⟨rfl, hl1, hM1⟩
      go_wp2_with fail
      (with_reducible refine (C2.out _ (by assumption)).mono ?_)
      rintro e w2 ⟨rfl, hl2, hM2⟩
      go_wp2
      go_ret2
      exact ⟨by rw [HR.out] at w4; simp [HR.out, w3, w4], hl1.trans hl2, hM2⟩
  · rw [daysF_not (fun h => hy ((ok_1 y 1 (by omega)).1 h))] at C1
    rw [daysF_not (fun h => hy ((ok_12 y 31 (by omega)).1 h))] at C2
    have hr : ofNthF y n = (0, 30) := by unfold ofNthF; rw [if_neg (fun h => hy h.1)]
    rw [hr]
    clear hr hy
    go_enter Tryz.func17, Tryz.ntmps17
    go_wp2_with fail
    (with_reducible refine (C1.out _ (by assumption)).mono ?_)
    rintro e w1 ⟨rfl, hl1, hM1⟩
    go_wp2_with fail
    (with_reducible refine (C2.out _ (by assumption)).mono ?_)
    rintro e w2 ⟨rfl, hl2, hM2⟩
    go_wp2
    go_ret2
    exact ⟨rfl, hl1.trans hl2, hM2⟩
set_option maxHeartbeats 8000000 in
theorem OfWeek_lt (y n d : Int) (w : World) (hM : Months w) (hn0 : -9223372036854775808 ≤ n) (hn1 : n ≤ 9223372036854775807) :
    Calls Tryz.prog 11 #[.int .i64 y, .int .i64 n, .int .i64 d] w fun e w' => e = .returned (.tuple #[.int .i64 (ofWeekF y n d).1, .int .i64 (ofWeekF y n d).2]) ∧ Lt w w' ∧ Months w' := by
  have C1 := Aside0.mk (fun w hM => Weeks_lt y w hM)
  have hwb := wks_bd y
  by_cases hall : 1 ≤ n ∧ n ≤ wks y ∧ 1 ≤ d ∧ d ≤ 7
  · obtain ⟨a1, a2, a3, a4⟩ := hall
    have hy : InY y := by
      by_cases h : InY y
      · exact h
      · rw [wks_out h] at a2; omega
    have C2 := Aside0.mk (fun w hM => Days_lt y 1 4 w hM (by omega) (by omega))
    rw [daysF_ok ((ok_1 y 4 (by omega)).2 hy), dn_fourth] at C2
    have hbb : In (beg y) := in_year hy (Int.le_refl _) (by have := beg_lt_succ y; omega)
    obtain ⟨hb0, hb1⟩ := hbb
    have hw4 := wdF_bd (beg y + 3)
    have hf : fst y + 7 * (n - 1) + d - 1 = beg y + 3 + (7 * (n - 1) + d - wdF (beg y + 3)) := by unfold fst wdF; omega
    have hr : ofWeekF y n d = if In (beg y + 3 + (7 * (n - 1) + d - wdF (beg y + 3))) then (beg y + 3 + (7 * (n - 1) + d - wdF (beg y + 3)), 0) else (0, 30) := by
      unfold ofWeekF
      rw [hf]
      by_cases h : In (beg y + 3 + (7 * (n - 1) + d - wdF (beg y + 3)))
      · rw [if_pos ⟨a1, a2, a3, a4, h⟩, if_pos h]
      · rw [if_neg (fun k => h k.2.2.2.2), if_neg h]
    rw [hr]
    clear hr hf hy
    have C3 := Aside0.mk (fun w hM => Weekday_lt (beg y + 3) w hM)
    generalize wdF (beg y + 3) = v at *
    obtain ⟨f, hf⟩ : ∃ f, f = beg y + 3 := ⟨_, rfl⟩
    rw [← hf] at C2 C3 ⊢
    generalize wks y = k at *
    generalize beg y = b at *
    have n1 : decide (n < 1) = false := decide_eq_false (by omega)
    have n2 : decide (n > k) = false := decide_eq_false (by omega)
    have n2' : decide (k < n) = false := n2
    have n3 : decide (d < 1) = false := decide_eq_false (by omega)
    have n4 : decide (d > 7) = false := decide_eq_false (by omega)
    have n4' : decide (7 < d) = false := n4
    have w1 : wrap64 (n - 1) = n - 1 := w64 (by omega) (by omega)
    have w2 : wrap64 (7 * (n - 1)) = 7 * (n - 1) := w64 (by omega) (by omega)
    have w3 : wrap64 (7 * (n - 1) + d) = 7 * (n - 1) + d := w64 (by omega) (by omega)
    have w4 : wrap64 (7 * (n - 1) + d - v) = 7 * (n - 1) + d - v := w64 (by omega) (by omega)
    have w5 : wrap64 (f + (7 * (n - 1) + d - v)) = f + (7 * (n - 1) + d - v) := w64 (by omega) (by omega)
    have C4 := Aside0.mk (fun w hM => Date_lt (f + (7 * (n - 1) + d - v)) w hM)
    clear hwb hf hb0 hb1 hw4 a1 a2 a3 a4
    by_cases hin : In (f + (7 * (n - 1) + d - v))
    · rw [dateF_in hin] at C4
      rw [if_pos hin]
      clear hin
      generalize yrF (f + (7 * (n - 1) + d - v)) = q1 at *
      generalize moF (f + (7 * (n - 1) + d - v)) = q2 at *
      generalize dyF (f + (7 * (n - 1) + d - v)) = q3 at *
      go_enter Tryz.func11, Tryz.ntmps11
      go_wp2_with fail
      (with_reducible refine (C1.out _ (by assumption)).mono ?_)
      rintro e w1 ⟨rfl, hl1, hM1⟩
      go_wp2_with fail
      (with_reducible refine (C2.out _ (by assumption)).mono ?_)
      rintro e w2 ⟨rfl, hl2, hM2⟩
      go_wp2_with fail
      (with_reducible refine (C3.out _ (by assumption)).mono ?_)
      rintro e w3 ⟨rfl, hl3, hM3⟩
      go_wp2_with fail
      (with_reducible refine (C4.out _ (by assumption)).mono ?_)
      rintro e w4 ⟨rfl, hl4, hM4⟩
      go_wp2
      go_ret2
      exact ⟨rfl, hl1.trans (hl2.trans (hl3.trans hl4)), hM4⟩
    · rw [dateF_not hin] at C4
      rw [if_neg hin]
      clear hin
      go_enter Tryz.func11, Tryz.ntmps11
      go_wp2_with fail
      (with_reducible refine (C1.out _ (by assumption)).mono ?_)
      rintro e w1 ⟨rfl, hl1, hM1⟩
      go_wp2_with fail
      (with_reducible refine (C2.out _ (by assumption)).mono ?_)
      rintro e w2 ⟨rfl, hl2, hM2⟩
      go_wp2_with fail
      (with_reducible refine (C3.out _ (by assumption)).mono ?_)
      rintro e w3 ⟨rfl, hl3, hM3⟩
      go_wp2_with fail
      (with_reducible refine (C4.out _ (by assumption)).mono ?_)
      rintro e w4 ⟨rfl, hl4, hM4⟩
      go_wp2
      go_ret2
      exact ⟨rfl, hl1.trans (hl2.trans (hl3.trans hl4)), hM4⟩
  · have hr : ofWeekF y n d = (0, 30) := by
      unfold ofWeekF
      rw [if_neg (fun k => hall ⟨k.1, k.2.1, k.2.2.1, k.2.2.2.1⟩)]
    rw [hr]
    clear hr
    generalize wks y = k at *
    by_cases h1 : n < 1
    · have n1 : decide (n < 1) = true := decide_eq_true h1
      clear hall
      go_enter Tryz.func11, Tryz.ntmps11
      go_wp2
      go_ret2
      exact ⟨rfl, by first | exact Lt.refl _ | exact (Lt.refl _).d1 | exact (Lt.refl _).d _, by first | exact hM | exact hM.d _⟩
    have n1 : decide (n < 1) = false := decide_eq_false h1
    by_cases h2 : k < n
    · have n2 : decide (n > k) = true := decide_eq_true h2
      have n2' : decide (k < n) = true := n2
      clear hall
      go_enter Tryz.func11, Tryz.ntmps11
      go_wp2_with fail
      (with_reducible refine (C1.out _ (by assumption)).mono ?_)
      rintro e w1 ⟨rfl, hl1, hM1⟩
      go_wp2
      go_ret2
      exact ⟨rfl, hl1, hM1⟩
    have n2 : decide (n > k) = false := decide_eq_false h2
    have n2' : decide (k < n) = false := n2
    by_cases h3 : d < 1
    · have n3 : decide (d < 1) = true := decide_eq_true h3
      clear hall
      go_enter Tryz.func11, Tryz.ntmps11
      go_wp2_with fail
      (with_reducible refine (C1.out _ (by assumption)).mono ?_)
      rintro e w1 ⟨rfl, hl1, hM1⟩
      go_wp2
      go_ret2
      exact ⟨rfl, hl1, hM1⟩
    have n3 : decide (d < 1) = false := decide_eq_false h3
    have h4 : 7 < d := by
      rcases Int.lt_or_le 7 d with h | h
      · exact h
      · exact absurd ⟨by omega, by omega, by omega, h⟩ hall
    have n4 : decide (d > 7) = true := decide_eq_true h4
    have n4' : decide (7 < d) = true := n4
    clear hall
    go_enter Tryz.func11, Tryz.ntmps11
    go_wp2_with fail
    (with_reducible refine (C1.out _ (by assumption)).mono ?_)
    rintro e w1 ⟨rfl, hl1, hM1⟩
    go_wp2
    go_ret2
    exact ⟨rfl, hl1, hM1⟩
theorem inside_f (y : Int) : date_inside.f y = some (decide (InY y)) := by
  unfold date_inside.f InY
  by_cases h1 : -9999 ≤ y <;> by_cases h2 : y ≤ 9999 <;> simp [h1, h2]
theorem inside_lt (y : Int) (w : World) (hM : Months w) :
    Calls Tryz.prog 28 #[.int .i64 y] w fun e w' => e = .returned (.bool (decide (InY y))) ∧ Lt w w' ∧ Months w' :=
  (date_inside.calls y _ w (inside_f y)).mono fun _ _ ⟨he, h⟩ => ⟨he, Drawn0.lt h, hM.l (Drawn0.lt h)⟩
set_option maxHeartbeats 8000000 in
theorem Week_lt (n : Int) (w : World) (hM : Months w) :
    Calls Tryz.prog 9 #[.int .i64 n] w fun e w' => e = .returned (.tuple #[.int .i64 (weekF n).1, .int .i64 (weekF n).2.1, .int .i64 (weekF n).2.2.1, .int .i64 (weekF n).2.2.2]) ∧ Lt w w' ∧ Months w' := by
  have C1 := Aside0.mk (fun w hM => Nth_lt n w hM)
  by_cases hn : In n
  · rw [nthF_in hn] at C1
    have C2 := Aside0.mk (fun w hM => Weekday_lt n w hM)
    have hyr := yrF_range hn
    have hs := yrF_spec n
    have hb := beg_succ (yrF n)
    have hl := lp_bd (yrF n)
    have hd := wdF_bd n
    obtain ⟨k1, k2, k3⟩ := week_way n
    have k2 := k2 hyr
    have hr1 : 1 ≤ n - beg (yrF n) + 1 ∧ n - beg (yrF n) + 1 ≤ 366 := by omega
    obtain ⟨r, hr⟩ : ∃ r, r = n - beg (yrF n) + 1 := ⟨_, rfl⟩
    rw [← hr] at hr1 k1 k2 k3 C1
    have w1 : wrap64 (r - wdF n) = r - wdF n := w64 (by omega) (by omega)
    have w2 : wrap64 (r - wdF n + 10) = r - wdF n + 10 := w64 (by omega) (by omega)
    have w3 : Int.tdiv (r - wdF n + 10) 7 = (r - wdF n + 10) / 7 := tdiv_pos _ _ (by omega)
    obtain ⟨k, hk⟩ : ∃ k, k = (r - wdF n + 10) / 7 := ⟨_, rfl⟩
    rw [← hk] at w3 k1 k2 k3
    have hkb : 0 ≤ k ∧ k ≤ 60 := by omega
    have wk : wrap64 k = k := w64 (by omega) (by omega)
    have hge : 0 ≤ r - wdF n + 10 := by omega
    rcases (show n < fst (yrF n) ∨ fst (yrF n + 1) ≤ n ∨ (fst (yrF n) ≤ n ∧ n < fst (yrF n + 1)) by omega) with c | c | ⟨c1, c2⟩
    · have hw : wyr n = yrF n - 1 := by unfold wyr; rw [if_pos c]
      have hk1 := k1.2 c
      have C3 := Aside0.mk (fun w hM => Weeks_lt (yrF n - 1) w hM)
      have C4 := Aside0.mk (fun w hM => inside_lt (yrF n - 1) w hM)
      have w4 : wrap64 (yrF n - 1) = yrF n - 1 := w64 (by omega) (by omega)
      have c1 : decide (k < 1) = true := decide_eq_true hk1
      have c2 : decide (k > wks (yrF n - 1)) = decide (wks (yrF n - 1) < k) := rfl
      by_cases hi : InY (yrF n - 1)
      · rw [weekF_in hn (by rw [hw]; exact hi), hw, ← week_back c hi]
        rw [decide_eq_true hi] at C4
        clear hn hs hb hl k1 k2 k3 hr1 hr hk hw c hyr hi hd c2
        generalize wdF n = d at *
        generalize wks (yrF n - 1) = q at *
        obtain ⟨z, hz1, hz2⟩ : ∃ z, wrap64 (yrF n - 1) = z ∧ yrF n - 1 = z := ⟨_, w4, rfl⟩
        try rw [hz2] at C3
        try rw [hz2] at C4
        try rw [hz2]
        clear hz2 w4
        generalize yrF n = y at *
        go_enter Tryz.func9, Tryz.ntmps9
        go_wp2_with fail
        (with_reducible refine (C1.out _ (by assumption)).mono ?_)
        rintro e w1 ⟨rfl, hl1, hM1⟩
        go_wp2_with fail
        (with_reducible refine (C2.out _ (by assumption)).mono ?_)
        rintro e w2 ⟨rfl, hl2, hM2⟩
        go_wp2_with fail
        (with_reducible refine (C3.out _ (by assumption)).mono ?_)
        rintro e w3 ⟨rfl, hl3, hM3⟩
        go_wp2_with fail
        (with_reducible refine (C4.out _ (by assumption)).mono ?_)
        rintro e w4 ⟨rfl, hl4, hM4⟩
        go_wp2
        exact bodyPost_ret (v := .tuple #[.int .i64 z, .int .i64 q, .int .i64 d, .int .i64 0]) (by simp [results, Tryz.results9, go_sem]) rfl ⟨rfl, hl1.trans (hl2.trans (hl3.trans hl4)), hM4⟩
      · rw [weekF_not (by rw [hw]; exact fun h => hi h.2)]
        rw [decide_eq_false hi] at C4
        clear hn hs hb hl k1 k2 k3 hr1 hr hk hw c hyr hi hd c2
        generalize wdF n = d at *
        generalize wks (yrF n - 1) = q at *
        obtain ⟨z, hz1, hz2⟩ : ∃ z, wrap64 (yrF n - 1) = z ∧ yrF n - 1 = z := ⟨_, w4, rfl⟩
        try rw [hz2] at C3
        try rw [hz2] at C4
        try rw [hz2]
        clear hz2 w4
        generalize yrF n = y at *
        go_enter Tryz.func9, Tryz.ntmps9
        go_wp2_with fail
        (with_reducible refine (C1.out _ (by assumption)).mono ?_)
        rintro e w1 ⟨rfl, hl1, hM1⟩
        go_wp2_with fail
        (with_reducible refine (C2.out _ (by assumption)).mono ?_)
        rintro e w2 ⟨rfl, hl2, hM2⟩
        go_wp2_with fail
        (with_reducible refine (C3.out _ (by assumption)).mono ?_)
        rintro e w3 ⟨rfl, hl3, hM3⟩
        go_wp2_with fail
        (with_reducible refine (C4.out _ (by assumption)).mono ?_)
        rintro e w4 ⟨rfl, hl4, hM4⟩
        go_wp2
        exact bodyPost_ret (v := .tuple #[.int .i64 0, .int .i64 0, .int .i64 0, .int .i64 30]) (by simp [results, Tryz.results9, go_sem]) rfl ⟨rfl, hl1.trans (hl2.trans (hl3.trans hl4)), hM4⟩
    · have hw : wyr n = yrF n + 1 := by unfold wyr; rw [if_neg (by have := (fst_step (yrF n)); have := fst_mono (show yrF n ≤ yrF n + 1 by omega); omega), if_pos c]
      have hk1 : ¬ k < 1 := fun h => by have := k1.1 h; have := fst_mono (show yrF n ≤ yrF n + 1 by omega); omega
      have hk2 := k2.2 c
      have C3 := Aside0.mk (fun w hM => Weeks_lt (yrF n) w hM)
      have C4 := Aside0.mk (fun w hM => inside_lt (yrF n + 1) w hM)
      have w4 : wrap64 (yrF n + 1) = yrF n + 1 := w64 (by omega) (by omega)
      have c1 : decide (k < 1) = false := decide_eq_false hk1
      have c2 : decide (k > wks (yrF n)) = true := decide_eq_true hk2
      have c3 : decide (wks (yrF n) < k) = true := c2
      by_cases hi : InY (yrF n + 1)
      · rw [weekF_in hn (by rw [hw]; exact hi), hw, week_ahead c]
        rw [decide_eq_true hi] at C4
        clear hn hs hb hl k1 k2 k3 hr1 hr hk hw c hyr hi hd hk1 hk2
        generalize wdF n = d at *
        generalize wks (yrF n) = q at *
        obtain ⟨z, hz1, hz2⟩ : ∃ z, wrap64 (yrF n + 1) = z ∧ yrF n + 1 = z := ⟨_, w4, rfl⟩
        try rw [hz2] at C3
        try rw [hz2] at C4
        try rw [hz2]
        clear hz2 w4
        generalize yrF n = y at *
        go_enter Tryz.func9, Tryz.ntmps9
        go_wp2_with fail
        (with_reducible refine (C1.out _ (by assumption)).mono ?_)
        rintro e w1 ⟨rfl, hl1, hM1⟩
        go_wp2_with fail
        (with_reducible refine (C2.out _ (by assumption)).mono ?_)
        rintro e w2 ⟨rfl, hl2, hM2⟩
        go_wp2_with fail
        (with_reducible refine (C3.out _ (by assumption)).mono ?_)
        rintro e w3 ⟨rfl, hl3, hM3⟩
        go_wp2_with fail
        (with_reducible refine (C4.out _ (by assumption)).mono ?_)
        rintro e w4 ⟨rfl, hl4, hM4⟩
        go_wp2
        exact bodyPost_ret (v := .tuple #[.int .i64 z, .int .i64 1, .int .i64 d, .int .i64 0]) (by simp [results, Tryz.results9, go_sem]) rfl ⟨rfl, hl1.trans (hl2.trans (hl3.trans hl4)), hM4⟩
      · rw [weekF_not (by rw [hw]; exact fun h => hi h.2)]
        rw [decide_eq_false hi] at C4
        clear hn hs hb hl k1 k2 k3 hr1 hr hk hw c hyr hi hd hk1 hk2
        generalize wdF n = d at *
        generalize wks (yrF n) = q at *
        obtain ⟨z, hz1, hz2⟩ : ∃ z, wrap64 (yrF n + 1) = z ∧ yrF n + 1 = z := ⟨_, w4, rfl⟩
        try rw [hz2] at C3
        try rw [hz2] at C4
        try rw [hz2]
        clear hz2 w4
        generalize yrF n = y at *
        go_enter Tryz.func9, Tryz.ntmps9
        go_wp2_with fail
        (with_reducible refine (C1.out _ (by assumption)).mono ?_)
        rintro e w1 ⟨rfl, hl1, hM1⟩
        go_wp2_with fail
        (with_reducible refine (C2.out _ (by assumption)).mono ?_)
        rintro e w2 ⟨rfl, hl2, hM2⟩
        go_wp2_with fail
        (with_reducible refine (C3.out _ (by assumption)).mono ?_)
        rintro e w3 ⟨rfl, hl3, hM3⟩
        go_wp2_with fail
        (with_reducible refine (C4.out _ (by assumption)).mono ?_)
        rintro e w4 ⟨rfl, hl4, hM4⟩
        go_wp2
        exact bodyPost_ret (v := .tuple #[.int .i64 0, .int .i64 0, .int .i64 0, .int .i64 30]) (by simp [results, Tryz.results9, go_sem]) rfl ⟨rfl, hl1.trans (hl2.trans (hl3.trans hl4)), hM4⟩
    · have hw : wyr n = yrF n := wyr_of c1 c2
      have hk1 : ¬ k < 1 := fun h => by have := k1.1 h; omega
      have hk2 : ¬ wks (yrF n) < k := fun h => by have := k2.1 h; omega
      have C3 := Aside0.mk (fun w hM => Weeks_lt (yrF n) w hM)
      have C4 := Aside0.mk (fun w hM => inside_lt (yrF n) w hM)
      have d1 : decide (k < 1) = false := decide_eq_false hk1
      have d2 : decide (k > wks (yrF n)) = false := decide_eq_false hk2
      have d3 : decide (wks (yrF n) < k) = false := d2
      rw [weekF_in hn (by rw [hw]; exact hyr), hw, ← k3 c1]
      rw [decide_eq_true (show InY (yrF n) from hyr)] at C4
      clear hn hs hb hl k1 k2 k3 hr1 hr hk hw c1 c2 hyr hd hk1 hk2
      generalize wdF n = d at *
      generalize wks (yrF n) = q at *
      generalize yrF n = y at *
      go_enter Tryz.func9, Tryz.ntmps9
      go_wp2_with fail
      (with_reducible refine (C1.out _ (by assumption)).mono ?_)
      rintro e w1 ⟨rfl, hl1, hM1⟩
      go_wp2_with fail
      (with_reducible refine (C2.out _ (by assumption)).mono ?_)
      rintro e w2 ⟨rfl, hl2, hM2⟩
      go_wp2_with fail
      (with_reducible refine (C3.out _ (by assumption)).mono ?_)
      rintro e w3 ⟨rfl, hl3, hM3⟩
      go_wp2_with fail
      (with_reducible refine (C4.out _ (by assumption)).mono ?_)
      rintro e w4 ⟨rfl, hl4, hM4⟩
      go_wp2
      exact bodyPost_ret (v := .tuple #[.int .i64 y, .int .i64 k, .int .i64 d, .int .i64 0]) (by simp [results, Tryz.results9, go_sem]) rfl ⟨rfl, hl1.trans (hl2.trans (hl3.trans hl4)), hM4⟩
  · rw [nthF_not hn] at C1
    rw [weekF_not (fun h => hn h.1)]
    clear hn
    go_enter Tryz.func9, Tryz.ntmps9
    go_wp2_with fail
    (with_reducible refine (C1.out _ (by assumption)).mono ?_)
    rintro e w1 ⟨rfl, hl1, hM1⟩
    go_wp2
    exact bodyPost_ret (v := .tuple #[.int .i64 0, .int .i64 0, .int .i64 0, .int .i64 30]) (by simp [results, Tryz.results9, go_sem]) rfl ⟨rfl, hl1, hM1⟩
end Go.Proofs.YtnaaagaammimnaaGreatDoor.Civ
