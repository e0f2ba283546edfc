/-
  What the document's functions of weeks and of days of a year compute (the printed forms): the same as the program's.
-/
import Derived.Test.YtnaaagaammimnaaGreatDoorDatW
import Derived.Test.YtnaaagaammimnaaGreatDoorPDateRef
namespace Go.Proofs.YtnaaagaammimnaaGreatDoor.Civ
open Go Go.RowKit Go.Proofs.YtnaaagaammimnaaGreatDoor.PDateTells Go.Proofs.YtnaaagaammimnaaGreatDoorW.PrintWords Go.Proofs.YtnaaagaammimnaaGreatDoorW.PrintLast Go.Proofs.YtnaaagaammimnaaGreatDoorW.PrintMore
set_option linter.unusedVariables false
set_option linter.unusedSimpArgs false

theorem inside_r (y : Int) : epactref04_inside.f y = some (decide (InY y)) := by
  unfold epactref04_inside.f InY
  by_cases h1 : -9999 ≤ y <;> by_cases h2 : y ≤ 9999 <;> simp [h1, h2]
theorem beg_in {y : Int} (h : InY y) : -4371587 ≤ beg y ∧ beg y ≤ 2932896 := by
  have := in_year h (Int.le_refl _) (by have := beg_lt_succ y; omega)
  exact this
theorem first_r (k : Nat) (y : Int) (hk : 1000000 ≤ k) (h0 : -9999 ≤ y) (h1 : y ≤ 10000) : epactref04_first.f k y = some (fst y) := by
  unfold epactref04_first.f
  rw [inside_r, Option.bind_some]
  by_cases hy : InY y
  · rw [if_pos (decide_eq_true hy), rDays_f k y 1 4 (by omega), daysF_ok ((ok_1 y 4 (by omega)).2 hy), dn_fourth, Option.bind_some, rWeekday_f, Option.bind_some]
    have hb := beg_in hy
    have hw := wdF_bd (beg y + 3)
    show some (wrap64 (wrap64 (beg y + 3 - wdF (beg y + 3)) + 1)) = _
    rw [w64 (x := beg y + 3 - wdF (beg y + 3)) (by omega) (by omega), w64 (by omega) (by omega)]
    unfold fst wdF
    congr 1
    omega
  · obtain rfl : y = 10000 := by unfold InY at hy; omega
    rw [if_neg (by simp [hy]), if_pos (by omega), rDays_f k 9999 12 31 (by omega), Option.bind_some, rWeekday_f, Option.bind_some]
    decide +kernel
theorem fst_bd {y : Int} (h0 : -9999 ≤ y) (h1 : y ≤ 10000) : -4371600 ≤ fst y ∧ fst y ≤ 2932910 := by
  have h := (fst_step y).2.2
  have h2 := beg_mono h0
  have h3 := beg_mono h1
  rw [beg_min] at h2
  rw [beg_max] at h3
  omega
theorem Weeks_r (k : Nat) (y : Int) (hk : 1000000 ≤ k) : epactref04_Weeks.f k y = some (wks y) := by
  unfold epactref04_Weeks.f
  rw [inside_r, Option.bind_some]
  by_cases hy : InY y
  · have hy0 := hy.1
    have hy1 := hy.2
    have b1 := fst_bd hy0 (show y ≤ 10000 by omega)
    have b2 := fst_bd (show -9999 ≤ y + 1 by omega) (show y + 1 ≤ 10000 by omega)
    have hs := (fst_step y).1
    rw [if_pos (decide_eq_true hy), w64 (x := y + 1) (by omega) (by omega), first_r k (y + 1) hk (by omega) (by omega), Option.bind_some, first_r k y hk hy0 (by omega), Option.bind_some, w64 (x := fst (y + 1) - fst y) (by omega) (by omega), tdiv_pos _ _ (by omega), w64 (by omega) (by omega), wks_eq hy]
  · rw [if_neg (by simp [hy]), wks_out hy]
theorem week_l0 (k : Nat) (n y z : Int) (hk : 1000000 ≤ k) (hn : In n) (hz0 : -10002 ≤ z) (hz1 : z ≤ 10002) (hy0 : -10000 ≤ y) (hy1 : y ≤ 10000) :
    epactref04_Week.l0 (k + 1) n y z = if z ≤ y + 1 then (if InY z ∧ wyr n = z then some (weekF n) else epactref04_Week.l0 k n y (z + 1)) else some (0, 0, 0, 30) := by
  rw [epactref04_Week.l0, w64 (x := y + 1) (by omega) (by omega)]
  by_cases hle : z ≤ y + 1
  · rw [if_pos hle, if_pos hle, inside_r, Option.bind_some, w64 (x := z + 1) (by omega) (by omega)]
    by_cases hi : InY z
    · have hi0 := hi.1
      have hi1 := hi.2
      rw [if_pos (decide_eq_true hi), first_r k z hk hi0 (by omega), Option.bind_some, first_r k (z + 1) hk (by omega) (by omega)]
      have hsp := wyr_spec n
      by_cases h1 : fst z ≤ n
      · rw [if_pos h1, Option.bind_some]
        by_cases h2 : n < fst (z + 1)
        · have hw : wyr n = z := wyr_of h1 h2
          have hs := fst_step z
          have b1 := fst_bd hi0 (show z ≤ 10000 by omega)
          have hnn := hn.1
          have hnn' := hn.2
          rw [if_pos h2, Option.bind_some, if_pos ⟨hi, hw⟩, weekF_in hn (by rw [hw]; exact hi), hw, w64 (x := n - fst z) (by omega) (by omega), tdiv_pos _ _ (by omega), tmod_pos _ _ (by omega), w64 (x := (n - fst z) / 7) (by omega) (by omega), w64 (x := (n - fst z) / 7 + 1) (by omega) (by omega), w64 (x := (n - fst z) % 7 + 1) (by omega) (by omega)]
          have hwd := wdF_fst n
          rw [hw] at hwd
          rw [hwd]
        · rw [if_neg h2, if_neg (fun h => h2 (by rw [← h.2]; exact hsp.2))]
      · rw [if_neg h1, if_neg (fun h => h1 (by rw [← h.2]; exact hsp.1))]
    · rw [if_neg (by simp [hi]), if_neg (fun h => hi h.1)]
  · rw [if_neg hle, if_neg hle]
theorem Week_r (k : Nat) (n : Int) (hk : 1000010 ≤ k) : epactref04_Week.f k n = some (weekF n) := by
  unfold epactref04_Week.f
  rw [rDate_f k n (by omega), Option.bind_some]
  by_cases hn : In n
  · rw [dateF_in hn]
    have hy := yrF_range hn
    have h1 : wrap64 (yrF n - 1) = yrF n - 1 := w64 (by omega) (by omega)
    show (if (0 : Int) = 0 then epactref04_Week.l0 k n (yrF n) (wrap64 (yrF n - 1)) else some (0, 0, 0, 30)) = _
    rw [if_pos rfl, h1]
    obtain ⟨m, rfl⟩ : ∃ m, k = m + 1 + 1 + 1 + 1 := ⟨k - 4, by omega⟩
    have hw : wyr n = yrF n - 1 ∨ wyr n = yrF n ∨ wyr n = yrF n + 1 := by
      unfold wyr
      split
      · exact .inl rfl
      · split
        · exact .inr (.inr rfl)
        · exact .inr (.inl rfl)
    have hno : ¬ InY (wyr n) → weekF n = (0, 0, 0, 30) := fun h => weekF_not (fun h' => h h'.2)
    rw [week_l0 _ n _ _ (by omega) hn (by omega) (by omega) (by omega) (by omega), if_pos (by omega)]
    by_cases c1 : InY (yrF n - 1) ∧ wyr n = yrF n - 1
    · rw [if_pos c1]
    rw [if_neg c1, week_l0 _ n _ _ (by omega) hn (by omega) (by omega) (by omega) (by omega), if_pos (by omega)]
    by_cases c2 : InY (yrF n - 1 + 1) ∧ wyr n = yrF n - 1 + 1
    · rw [if_pos c2]
    rw [if_neg c2, week_l0 _ n _ _ (by omega) hn (by omega) (by omega) (by omega) (by omega), if_pos (by omega)]
    by_cases c3 : InY (yrF n - 1 + 1 + 1) ∧ wyr n = yrF n - 1 + 1 + 1
    · rw [if_pos c3]
    rw [if_neg c3, week_l0 _ n _ _ (by omega) hn (by omega) (by omega) (by omega) (by omega), if_neg (by omega), hno]
    intro hi
    rcases hw with h | h | h
    · exact c1 ⟨by rw [← h]; exact hi, h⟩
    · exact c2 ⟨by rw [show yrF n - 1 + 1 = yrF n by omega, ← h]; exact hi, by omega⟩
    · exact c3 ⟨by rw [show yrF n - 1 + 1 + 1 = yrF n + 1 by omega, ← h]; exact hi, by omega⟩
  · rw [dateF_not hn, weekF_not (fun h => hn h.1)]
    rfl
theorem Nth_r (k : Nat) (n : Int) (hk : 1000000 ≤ k) : epactref04_Nth.f k n = some (nthF n) := by
  unfold epactref04_Nth.f
  rw [rDate_f k n (by omega), Option.bind_some]
  by_cases hn : In n
  · rw [dateF_in hn, nthF_in hn]
    have hy := yrF_range hn
    have hs := yrF_spec n
    have hb := beg_succ (yrF n)
    have hl := lp_bd (yrF n)
    show (if (0 : Int) = 0 then (epactref03_Days.f k (yrF n) 1 1).bind _ else _) = _
    rw [if_pos rfl, rDays_f k (yrF n) 1 1 (by omega), daysF_ok ((ok_1 (yrF n) 1 (by omega)).2 hy), dn_first, Option.bind_some]
    show some (yrF n, wrap64 (wrap64 (n - beg (yrF n)) + 1), (0 : Int)) = _
    rw [w64 (x := n - beg (yrF n)) (by omega) (by omega), w64 (by omega) (by omega)]
  · rw [dateF_not hn, nthF_not hn]
    rfl
theorem OfNth_r (k : Nat) (y t : Int) (hk : 1000000 ≤ k) : epactref04_OfNth.f k y t = some (ofNthF y t) := by
  unfold epactref04_OfNth.f
  rw [rDays_f k y 1 1 (by omega), Option.bind_some, rDays_f k y 12 31 (by omega), Option.bind_some]
  by_cases hy : InY y
  · rw [daysF_ok ((ok_1 y 1 (by omega)).2 hy), daysF_ok ((ok_12 y 31 (by omega)).2 hy), dn_first, dn_last]
    have hb := beg_in hy
    have hl := lp_bd y
    show (if (0 : Int) = 0 then (if (0 : Int) = 0 then (if t < 1 then some (0, 30) else if t > wrap64 (wrap64 (beg y + 364 + lp y - beg y) + 1) then some (0, 30) else some (wrap64 (wrap64 (beg y + t) - 1), 0)) else some (0, 30)) else some (0, 30)) = _
    rw [if_pos rfl, if_pos rfl, w64 (x := beg y + 364 + lp y - beg y) (by omega) (by omega), w64 (x := beg y + 364 + lp y - beg y + 1) (by omega) (by omega)]
    unfold ofNthF
    by_cases h1 : t < 1
    · rw [if_pos h1, if_neg (by omega)]
    · rw [if_neg h1]
      by_cases h2 : t > beg y + 364 + lp y - beg y + 1
      · rw [if_pos h2, if_neg (by omega)]
      · rw [if_neg h2, if_pos ⟨hy, by omega, by omega⟩, w64 (x := beg y + t) (by omega) (by omega), w64 (by omega) (by omega)]
  · rw [daysF_not (fun h => hy ((ok_1 y 1 (by omega)).1 h))]
    have hr : ofNthF y t = (0, 30) := by unfold ofNthF; rw [if_neg (fun h => hy h.1)]
    rw [hr]
    rfl
theorem OfWeek_r (k : Nat) (y a d : Int) (hk : 1000010 ≤ k) (ha : -9223372036854775808 ≤ a ∧ a ≤ 9223372036854775807) : epactref04_OfWeek.f k y a d = some (ofWeekF y a d) := by
  obtain ⟨m, rfl⟩ : ∃ m, k = m + 1 := ⟨k - 1, by omega⟩
  unfold epactref04_OfWeek.f
  have hbad : epactref04_OfWeek.j0 (m + 1) y a d true = some (0, 30) := by rw [epactref04_OfWeek.j0, if_pos rfl]
  have hno : ¬ (1 ≤ a ∧ a ≤ wks y ∧ 1 ≤ d ∧ d ≤ 7) → ofWeekF y a d = (0, 30) := fun h => by unfold ofWeekF; rw [if_neg (fun h' => h ⟨h'.1, h'.2.1, h'.2.2.1, h'.2.2.2.1⟩)]
  have hwb := wks_bd y
  by_cases h1 : a < 1
  · rw [if_pos h1, hbad, hno (by omega)]
  rw [if_neg h1, Weeks_r _ y (by omega), Option.bind_some]
  by_cases h2 : a > wks y
  · rw [if_pos h2, hbad, hno (by omega)]
  rw [if_neg h2]
  by_cases h3 : d < 1
  · rw [if_pos h3, hbad, hno (by omega)]
  rw [if_neg h3]
  by_cases h4 : d > 7
  · rw [decide_eq_true h4, hbad, hno (by omega)]
  rw [decide_eq_false h4, epactref04_OfWeek.j0, if_neg (by simp)]
  have hy : InY y := by
    by_cases h : InY y
    · exact h
    · rw [wks_out h] at h2; omega
  have hb := fst_bd hy.1 (show y ≤ 10000 by have := hy.2; omega)
  rw [first_r m y (by omega) hy.1 (by have := hy.2; omega), Option.bind_some, w64 (x := a - 1) (by omega) (by omega), w64 (x := 7 * (a - 1)) (by omega) (by omega), w64 (x := 7 * (a - 1) + d) (by omega) (by omega), w64 (x := 7 * (a - 1) + d - 1) (by omega) (by omega), w64 (x := fst y + (7 * (a - 1) + d - 1)) (by omega) (by omega), rDate_f m _ (by omega), Option.bind_some]
  have he : fst y + (7 * (a - 1) + d - 1) = fst y + 7 * (a - 1) + d - 1 := by omega
  rw [he]
  by_cases hin : In (fst y + 7 * (a - 1) + d - 1)
  · have hr : ofWeekF y a d = (fst y + 7 * (a - 1) + d - 1, 0) := by unfold ofWeekF; rw [if_pos ⟨by omega, by omega, by omega, by omega, hin⟩]
    rw [dateF_in hin, hr]
    rfl
  · have hr : ofWeekF y a d = (0, 30) := by unfold ofWeekF; rw [if_neg (fun h => hin h.2.2.2.2)]
    rw [dateF_not hin, hr]
    rfl
end Go.Proofs.YtnaaagaammimnaaGreatDoor.Civ
