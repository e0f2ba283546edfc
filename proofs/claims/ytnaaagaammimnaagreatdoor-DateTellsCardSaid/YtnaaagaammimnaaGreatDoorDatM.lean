/-
  The plain arithmetic of weeks and of days of a year (no program in sight), and what undoes what.
-/
import Derived.Test.YtnaaagaammimnaaGreatDoorCivM
namespace Go.Proofs.YtnaaagaammimnaaGreatDoor.Civ
open Go

def InY (y : Int) : Prop := -9999 ≤ y ∧ y ≤ 9999
instance (y : Int) : Decidable (InY y) := by unfold InY; infer_instance
/-- The Monday of a year's first week: that of its fourth day. -/
def fst (y : Int) : Int := beg y + 3 - (beg y + 6) % 7
/-- What Weeks answers. -/
def wks (y : Int) : Int := if InY y then (if wdF (beg y) = 4 ∨ (wdF (beg y) = 3 ∧ leap y = true) then 53 else 52) else 0
/-- The year of a day's week. -/
def wyr (n : Int) : Int := if n < fst (yrF n) then yrF n - 1 else if fst (yrF n + 1) ≤ n then yrF n + 1 else yrF n
/-- What Week answers. -/
def weekF (n : Int) : Int × Int × Int × Int := if In n ∧ InY (wyr n) then (wyr n, (n - fst (wyr n)) / 7 + 1, wdF n, 0) else (0, 0, 0, 30)
/-- What OfWeek answers. -/
def ofWeekF (y k d : Int) : Int × Int := if 1 ≤ k ∧ k ≤ wks y ∧ 1 ≤ d ∧ d ≤ 7 ∧ In (fst y + 7 * (k - 1) + d - 1) then (fst y + 7 * (k - 1) + d - 1, 0) else (0, 30)
/-- What Nth answers. -/
def nthF (n : Int) : Int × Int × Int := if In n then (yrF n, n - beg (yrF n) + 1, 0) else (0, 0, 30)
/-- What OfNth answers. -/
def ofNthF (y k : Int) : Int × Int := if InY y ∧ 1 ≤ k ∧ k ≤ 365 + lp y then (beg y + k - 1, 0) else (0, 30)

theorem dn_first (y : Int) : dn y 1 1 = beg y := by unfold dn; rw [show (1 : Int) - 1 = 0 from rfl, upto_0]; omega
theorem dn_fourth (y : Int) : dn y 1 4 = beg y + 3 := by unfold dn; rw [show (1 : Int) - 1 = 0 from rfl, upto_0]; omega
theorem upto_11 (y : Int) : upto y 11 = 334 + lp y := by simp [upto, tab]
theorem dn_last (y : Int) : dn y 12 31 = beg y + 364 + lp y := by unfold dn; rw [show (12 : Int) - 1 = 11 from rfl, upto_11]; omega
theorem dn_28 (y : Int) : dn y 12 28 = beg y + 361 + lp y := by unfold dn; rw [show (12 : Int) - 1 = 11 from rfl, upto_11]; omega
theorem len_1 (y : Int) : len y 1 = 31 := by rw [len_table]; simp
theorem len_12 (y : Int) : len y 12 = 31 := by rw [len_table]; simp
theorem ok_1 (y d : Int) (h : 1 ≤ d ∧ d ≤ 31) : Ok y 1 d ↔ InY y := by
  unfold Ok InY
  rw [len_1]
  omega
theorem ok_12 (y d : Int) (h : 1 ≤ d ∧ d ≤ 31) : Ok y 12 d ↔ InY y := by
  unfold Ok InY
  rw [len_12]
  omega
theorem fst_step (y : Int) : (fst (y + 1) - fst y = 364 ∨ fst (y + 1) - fst y = 371) ∧ (fst y + 3) % 7 = 0 ∧ beg y - 3 ≤ fst y ∧ fst y ≤ beg y + 3 := by
  unfold fst
  have h1 := beg_succ y
  have h2 := lp_bd y
  rw [h1]
  generalize beg y = b at *
  generalize lp y = l at *
  omega
theorem wks_eq {y : Int} (h : InY y) : wks y = (fst (y + 1) - fst y) / 7 := by
  unfold wks
  rw [if_pos h]
  unfold fst wdF
  rw [beg_succ, lp_leap]
  generalize beg y = b at *
  cases leap y
  · simp only [Bool.false_eq_true, and_false, or_false, if_false]
    split <;> omega
  · simp only [and_true, if_true]
    split <;> omega
theorem wks_out {y : Int} (h : ¬ InY y) : wks y = 0 := by unfold wks; rw [if_neg h]
theorem wks_bd (y : Int) : 0 ≤ wks y ∧ wks y ≤ 53 := by
  unfold wks
  repeat' split
  all_goals decide
theorem wks_in {y : Int} (h : InY y) : wks y = 52 ∨ wks y = 53 := by
  unfold wks
  rw [if_pos h]
  split
  · exact .inr rfl
  · exact .inl rfl
theorem fst_mono {a b : Int} (h : a ≤ b) : fst a ≤ fst b := by
  rcases Int.lt_or_eq_of_le h with h | rfl
  · have h1 := beg_mono (Int.le_of_lt h)
    have h2 := (fst_step a).2.2
    have h3 := (fst_step b).2.2
    omega
  · exact Int.le_refl _
theorem wyr_unique {n a b : Int} (ha : fst a ≤ n) (ha' : n < fst (a + 1)) (hb : fst b ≤ n) (hb' : n < fst (b + 1)) : a = b := by
  rcases Int.lt_trichotomy a b with h | h | h
  · have := fst_mono (show a + 1 ≤ b by omega); omega
  · exact h
  · have := fst_mono (show b + 1 ≤ a by omega); omega
theorem wyr_spec (n : Int) : fst (wyr n) ≤ n ∧ n < fst (wyr n + 1) := by
  have h := yrF_spec n
  have h1 := (fst_step (yrF n)).2.2
  have h2 := (fst_step (yrF n + 1))
  have h3 := (fst_step (yrF n - 1))
  have h4 := beg_lt_succ (yrF n + 1)
  have h5 := beg_lt_succ (yrF n - 1)
  have h6 := (fst_step (yrF n + 1 + 1)).2.2
  rw [show yrF n - 1 + 1 = yrF n by omega] at h3 h5
  unfold wyr
  split
  · rw [show yrF n - 1 + 1 = yrF n by omega]; omega
  · split <;> omega
theorem wyr_of {n y : Int} (h1 : fst y ≤ n) (h2 : n < fst (y + 1)) : wyr n = y := wyr_unique (wyr_spec n).1 (wyr_spec n).2 h1 h2
/-- The program's own way to the week. -/
theorem week_way (n : Int) : (((n - beg (yrF n) + 1) - wdF n + 10) / 7 < 1 ↔ n < fst (yrF n)) ∧ (InY (yrF n) → ((wks (yrF n) < ((n - beg (yrF n) + 1) - wdF n + 10) / 7) ↔ fst (yrF n + 1) ≤ n)) ∧ (fst (yrF n) ≤ n → ((n - beg (yrF n) + 1) - wdF n + 10) / 7 = (n - fst (yrF n)) / 7 + 1) := by
  have h := yrF_spec n
  have hs := fst_step (yrF n)
  unfold wdF
  refine ⟨?_, fun hi => ?_, fun hi => ?_⟩
  · unfold fst
    generalize beg (yrF n) = b at *
    omega
  · rw [wks_eq hi]
    have hq := hs.1
    have h3 := hs.2.1
    generalize fst (yrF n + 1) = f at *
    have hf : fst (yrF n) = beg (yrF n) + 3 - (beg (yrF n) + 6) % 7 := rfl
    generalize fst (yrF n) = g at *
    generalize beg (yrF n) = b at *
    omega
  · have hf : fst (yrF n) = beg (yrF n) + 3 - (beg (yrF n) + 6) % 7 := rfl
    generalize fst (yrF n) = g at *
    generalize beg (yrF n) = b at *
    omega
/-- A week that ends the year before has that year's last number. -/
theorem week_back {n : Int} (h : n < fst (yrF n)) (hi : InY (yrF n - 1)) : wks (yrF n - 1) = (n - fst (yrF n - 1)) / 7 + 1 := by
  have hs := yrF_spec n
  have h1 := fst_step (yrF n - 1)
  have h2 := (fst_step (yrF n)).2
  rw [wks_eq hi]
  rw [show yrF n - 1 + 1 = yrF n by omega] at *
  have h3 := h1.1
  have h4 := h1.2.1
  generalize fst (yrF n - 1) = a at *
  generalize fst (yrF n) = b at *
  omega
theorem week_ahead {n : Int} (h : fst (yrF n + 1) ≤ n) : (n - fst (yrF n + 1)) / 7 + 1 = 1 := by
  have hs := yrF_spec n
  have h2 := (fst_step (yrF n + 1)).2
  omega
theorem weekF_in {n : Int} (h : In n) (hy : InY (wyr n)) : weekF n = (wyr n, (n - fst (wyr n)) / 7 + 1, wdF n, 0) := by unfold weekF; rw [if_pos ⟨h, hy⟩]
theorem weekF_not {n : Int} (h : ¬ (In n ∧ InY (wyr n))) : weekF n = (0, 0, 0, 30) := by unfold weekF; rw [if_neg h]
theorem wdF_fst (n : Int) : wdF n = (n - fst (wyr n)) % 7 + 1 := by
  have h := (fst_step (wyr n)).2.1
  unfold wdF
  omega
/-- OfWeek undoes Week. -/
theorem ofWeek_week {n : Int} (h : In n) (hy : InY (wyr n)) : ofWeekF (wyr n) ((n - fst (wyr n)) / 7 + 1) (wdF n) = (n, 0) := by
  have h1 := wyr_spec n
  have h2 := fst_step (wyr n)
  have h3 := wdF_fst n
  have e : fst (wyr n) + 7 * ((n - fst (wyr n)) / 7 + 1 - 1) + wdF n - 1 = n := by omega
  unfold ofWeekF
  rw [e, wks_eq hy, if_pos ⟨by omega, by omega, by omega, by omega, h⟩]
/-- Week undoes OfWeek. -/
theorem week_ofWeek {y k d : Int} (h1 : 1 ≤ k) (h2 : k ≤ wks y) (h3 : 1 ≤ d) (h4 : d ≤ 7) (h5 : In (fst y + 7 * (k - 1) + d - 1)) : weekF (fst y + 7 * (k - 1) + d - 1) = (y, k, d, 0) := by
  have hy : InY y := by
    by_cases h : InY y
    · exact h
    · rw [wks_out h] at h2; omega
  have hs := fst_step y
  rw [wks_eq hy] at h2
  have hw : wyr (fst y + 7 * (k - 1) + d - 1) = y := wyr_of (by omega) (by omega)
  have hd := wdF_fst (fst y + 7 * (k - 1) + d - 1)
  rw [weekF_in h5 (by rw [hw]; exact hy), hd, hw]
  rw [show (fst y + 7 * (k - 1) + d - 1 - fst y) / 7 + 1 = k by omega, show (fst y + 7 * (k - 1) + d - 1 - fst y) % 7 + 1 = d by omega]
theorem nthF_in {n : Int} (h : In n) : nthF n = (yrF n, n - beg (yrF n) + 1, 0) := by unfold nthF; rw [if_pos h]
theorem nthF_not {n : Int} (h : ¬ In n) : nthF n = (0, 0, 30) := by unfold nthF; rw [if_neg h]
/-- OfNth undoes Nth. -/
theorem ofNth_nth {n : Int} (h : In n) : ofNthF (yrF n) (n - beg (yrF n) + 1) = (n, 0) := by
  have h1 := yrF_range h
  have h2 := yrF_spec n
  rw [beg_succ] at h2
  unfold ofNthF
  rw [if_pos ⟨h1, by omega, by omega⟩]
  congr 1
  omega
theorem in_year {y n : Int} (hy : InY y) (h1 : beg y ≤ n) (h2 : n < beg (y + 1)) : In n := by
  have h3 := beg_mono hy.1
  have h4 := beg_mono (show y + 1 ≤ 10000 by have := hy.2; omega)
  rw [beg_min] at h3
  rw [beg_max] at h4
  unfold In
  have := hy.1
  have := hy.2
  omega
/-- Nth undoes OfNth. -/
theorem nth_ofNth {y k : Int} (hy : InY y) (h1 : 1 ≤ k) (h2 : k ≤ 365 + lp y) : nthF (beg y + k - 1) = (y, k, 0) := by
  have hb := beg_succ y
  have hn := in_year hy (show beg y ≤ beg y + k - 1 by omega) (by omega)
  have hs := yrF_spec (beg y + k - 1)
  have he : yrF (beg y + k - 1) = y := yr_unique hs.1 hs.2 (by omega) (by omega)
  rw [nthF_in hn, he]
  congr 2
  omega
/-- The next day's week. -/
theorem week_next {n : Int} (h2 : InY (wyr n)) (h3 : In (n + 1)) (h4 : InY (wyr (n + 1))) :
    weekF (n + 1) = if wdF n < 7 then (wyr n, (n - fst (wyr n)) / 7 + 1, wdF n + 1, 0) else if (n - fst (wyr n)) / 7 + 1 < wks (wyr n) then (wyr n, (n - fst (wyr n)) / 7 + 1 + 1, 1, 0) else (wyr n + 1, 1, 1, 0) := by
  have s1 := wyr_spec n
  have f1 := fst_step (wyr n)
  have d1 := wdF_fst n
  have d2 := wdF_fst (n + 1)
  rw [weekF_in h3 h4, d2, wks_eq h2]
  by_cases hc : n + 1 < fst (wyr n + 1)
  · have e : wyr (n + 1) = wyr n := wyr_of (by omega) hc
    rw [e]
    split
    · rw [show (n + 1 - fst (wyr n)) / 7 + 1 = (n - fst (wyr n)) / 7 + 1 by omega, show (n + 1 - fst (wyr n)) % 7 + 1 = wdF n + 1 by omega]
    · rw [if_pos (by omega), show (n + 1 - fst (wyr n)) / 7 + 1 = (n - fst (wyr n)) / 7 + 1 + 1 by omega, show (n + 1 - fst (wyr n)) % 7 + 1 = 1 by omega]
  · have f2 := fst_step (wyr n + 1)
    have e : wyr (n + 1) = wyr n + 1 := wyr_of (by omega) (by omega)
    rw [e, if_neg (by omega), if_neg (by omega), show (n + 1 - fst (wyr n + 1)) / 7 + 1 = 1 by omega, show (n + 1 - fst (wyr n + 1)) % 7 + 1 = 1 by omega]
/-- The fourth of January, the 28th of December. -/
theorem week_fourth {y : Int} (hy : InY y) : weekF (beg y + 3) = (y, 1, wdF (beg y + 3), 0) := by
  have f := fst_step y
  have hb := beg_lt_succ y
  have e : wyr (beg y + 3) = y := wyr_of (by omega) (by omega)
  rw [weekF_in (in_year hy (by omega) (by omega)) (by rw [e]; exact hy), e]
  rw [show (beg y + 3 - fst y) / 7 + 1 = 1 by unfold fst; omega]
theorem week_28 {y : Int} (hy : InY y) : weekF (beg y + 361 + lp y) = (y, wks y, wdF (beg y + 361 + lp y), 0) := by
  have f := fst_step y
  have f2 := fst_step (y + 1)
  have hb := beg_succ y
  have hl := lp_bd y
  have e : wyr (beg y + 361 + lp y) = y := wyr_of (by omega) (by unfold fst at f2 ⊢; omega)
  rw [weekF_in (in_year hy (by omega) (by omega)) (by rw [e]; exact hy), e, wks_eq hy]
  rw [show (beg y + 361 + lp y - fst y) / 7 + 1 = (fst (y + 1) - fst y) / 7 by unfold fst at *; omega]
end Go.Proofs.YtnaaagaammimnaaGreatDoor.Civ
