/-
  What the printed functions of the calendar compute: the plain arithmetic of CivM (no memory, no program's walk).
-/
import Derived.Test.YtnaaagaammimnaaGreatDoorCivM
import Derived.Test.YtnaaagaammimnaaGreatDoorPDateCiv
import Derived.Test.YtnaaagaammimnaaGreatDoorPDateTellsx5
namespace Go.Proofs.YtnaaagaammimnaaGreatDoor.Civ
open Go Go.RowKit Go.Proofs.YtnaaagaammimnaaGreatDoor.PDateTells Go.Proofs.YtnaaagaammimnaaGreatDoorW.PrintWords Go.Proofs.YtnaaagaammimnaaGreatDoorW.PrintLast Go.Proofs.YtnaaagaammimnaaGreatDoorW.PrintMore
set_option linter.unusedVariables false
set_option linter.unusedSimpArgs false

theorem w64 {x : Int} (h0 : -9223372036854775808 ≤ x) (h1 : x ≤ 9223372036854775807) : wrap64 x = x := by unfold wrap64; omega

theorem Leap_f (y : Int) : civil_Leap.f y = some (leap y) := by
  unfold civil_Leap.f leap
  rw [i64_and3, i64_and15]
  by_cases h4 : y % 4 = 0
  · rw [if_pos h4]
    by_cases h25 : Int.tmod y 25 = 0
    · rw [if_pos h25]
      rw [tmod_zero] at h25
      congr 1
      by_cases h16 : y % 16 = 0
      · rw [h16]
        symm
        simp only [beq_self_eq_true, decide_eq_true_eq]
        exact ⟨h4, by omega⟩
      · have : (y % 16 == 0) = false := beq_eq_false_iff_ne.2 h16
        rw [this]
        symm
        simp only [decide_eq_false_iff_not]
        omega
    · rw [if_neg h25]
      rw [tmod_zero] at h25
      congr 1
      symm
      simp only [decide_eq_true_eq]
      omega
  · rw [if_neg h4]
    congr 1
    symm
    simp only [decide_eq_false_iff_not]
    omega
theorem more_f (y m : Int) : civil_more.f y m = some (if 2 ≤ m then lp y else 0) := by
  unfold civil_more.f
  by_cases h : m ≥ 2
  · rw [if_pos h, if_pos h, Leap_f, lp_leap]
    simp only [Option.bind_some]
    split <;> rfl
  · rw [if_neg h, if_neg h]
theorem floor_f (a b : Int) (hb : 0 < b) (hb' : b < 4611686018427387904) (h0 : -4611686018427387904 ≤ a) (h1 : a ≤ 4611686018427387904) : civil_floor.f a b = some (a / b, a % b) := by
  unfold civil_floor.f
  have ht := tdiv_floor a b hb
  have h2 : Int.tmod a b < b := Int.tmod_lt_of_pos a hb
  have h3 : -b < Int.tmod a b := by
    have := Int.tmod_lt_of_pos (-a) hb
    rw [Int.neg_tmod] at this
    omega
  have hq : -4611686018427387904 ≤ Int.tdiv a b ∧ Int.tdiv a b ≤ 4611686018427387904 := by
    have h := Int.natAbs_tdiv_le_natAbs a b
    omega
  rw [if_neg (by omega)]
  by_cases h : Int.tmod a b < 0
  · rw [if_pos h, w64 (x := Int.tdiv a b) (by omega) (by omega), w64 (x := Int.tdiv a b - 1) (by omega) (by omega), w64 (x := Int.tmod a b + b) (by omega) (by omega), (ht.1 h).1, (ht.1 h).2]
  · rw [if_neg h, w64 (x := Int.tdiv a b) (by omega) (by omega), (ht.2 h).1, (ht.2 h).2]
theorem begins_f (y : Int) (h0 : -100000 ≤ y) (h1 : y ≤ 100000) : civil_begins.f y = some (beg y) := by
  unfold civil_begins.f
  rw [w64 (x := y - 1) (by omega) (by omega), floor_f _ 4 (by omega) (by omega) (by omega) (by omega), floor_f _ 100 (by omega) (by omega) (by omega) (by omega), floor_f _ 400 (by omega) (by omega) (by omega) (by omega)]
  simp only [Option.bind_some]
  rw [w64 (x := 365 * (y - 1)) (by omega) (by omega), w64 (x := 365 * (y - 1) + (y - 1) / 4) (by omega) (by omega), w64 (x := 365 * (y - 1) + (y - 1) / 4 - (y - 1) / 100) (by omega) (by omega), w64 (x := 365 * (y - 1) + (y - 1) / 4 - (y - 1) / 100 + (y - 1) / 400) (by omega) (by omega), w64 (x := 365 * (y - 1) + (y - 1) / 4 - (y - 1) / 100 + (y - 1) / 400 - 719162) (by omega) (by omega)]
  rfl
theorem mn_min (a b : Int) : mn a b = min a b := by unfold mn; omega
theorem year_f (n : Int) (h : In n) : civil_year.f n = some (yrF n) := by
  unfold In at h
  unfold civil_year.f
  have hl : 0 ≤ (n + 719162) % 146097 ∧ (n + 719162) % 146097 < 146097 := by omega
  rw [w64 (x := n + 719162) (by omega) (by omega), floor_f _ 146097 (by omega) (by omega) (by omega) (by omega)]
  simp only [Option.bind_some]
  unfold yrF
  have hc : -30 ≤ (n + 719162) / 146097 ∧ (n + 719162) / 146097 ≤ 30 := by omega
  generalize (n + 719162) % 146097 = l at *
  generalize (n + 719162) / 146097 = c at *
  rw [tdiv_pos l _ hl.1, mn_min, w64 (x := l / 36524) (by omega) (by omega)]
  have hh : 0 ≤ min (l / 36524) 3 ∧ min (l / 36524) 3 ≤ 3 ∧ 0 ≤ l - min (l / 36524) 3 * 36524 ∧ l - min (l / 36524) 3 * 36524 ≤ 36524 := by omega
  generalize min (l / 36524) 3 = h at *
  rw [w64 (x := h * 36524) (by omega) (by omega), w64 (x := l - h * 36524) (by omega) (by omega), tdiv_pos (l - h * 36524) _ hh.2.2.1, w64 (x := (l - h * 36524) / 1461) (by omega) (by omega)]
  have hf : 0 ≤ (l - h * 36524) / 1461 ∧ (l - h * 36524) / 1461 ≤ 25 ∧ 0 ≤ l - h * 36524 - (l - h * 36524) / 1461 * 1461 ∧ l - h * 36524 - (l - h * 36524) / 1461 * 1461 ≤ 1461 := by omega
  generalize (l - h * 36524) / 1461 = f at *
  rw [w64 (x := f * 1461) (by omega) (by omega), w64 (x := l - h * 36524 - f * 1461) (by omega) (by omega), tdiv_pos (l - h * 36524 - f * 1461) _ hf.2.2.1, mn_min, w64 (x := (l - h * 36524 - f * 1461) / 365) (by omega) (by omega)]
  have hg : 0 ≤ min ((l - h * 36524 - f * 1461) / 365) 3 ∧ min ((l - h * 36524 - f * 1461) / 365) 3 ≤ 3 := by omega
  generalize min ((l - h * 36524 - f * 1461) / 365) 3 = g at *
  rw [w64 (x := 400 * c) (by omega) (by omega), w64 (x := 1 + 400 * c) (by omega) (by omega), w64 (x := 100 * h) (by omega) (by omega), w64 (x := 1 + 400 * c + 100 * h) (by omega) (by omega), w64 (x := 4 * f) (by omega) (by omega), w64 (x := 1 + 400 * c + 100 * h + 4 * f) (by omega) (by omega), w64 (x := 1 + 400 * c + 100 * h + 4 * f + g) (by omega) (by omega)]
theorem tmod7 (n : Int) : -7 < Int.tmod n 7 ∧ Int.tmod n 7 < 7 ∧ (Int.tmod n 7 - n) % 7 = 0 := by
  have h1 := Int.mul_tdiv_add_tmod n 7
  have h2 : Int.tmod n 7 < 7 := Int.tmod_lt_of_pos n (by omega)
  have h3 : -7 < Int.tmod n 7 := by
    have := Int.tmod_lt_of_pos (-n) (show (0 : Int) < 7 by omega)
    rw [Int.neg_tmod] at this
    omega
  exact ⟨h3, h2, by omega⟩
theorem Weekday_f (n : Int) : civil_Weekday.f n = some (wdF n) := by
  have h := tmod7 n
  unfold civil_Weekday.f wdF
  generalize Int.tmod n 7 = t at *
  rw [w64 (x := t + 3) (by omega) (by omega), floor_f _ 7 (by omega) (by omega) (by omega) (by omega)]
  simp only [Option.bind_some]
  rw [w64 (x := (t + 3) % 7 + 1) (by omega) (by omega)]
  congr 1
  omega
theorem wdF_bd (n : Int) : 1 ≤ wdF n ∧ wdF n ≤ 7 := by unfold wdF; omega
theorem wdF_succ (n : Int) : wdF (n + 1) = wdF n % 7 + 1 := by unfold wdF; omega
/-! ### The document's -/
theorem rLeap_f (y : Int) : epactref03_Leap.f y = some (leap y) := by
  unfold epactref03_Leap.f leap
  by_cases h400 : Int.tmod y 400 = 0
  · rw [if_pos h400]
    rw [tmod_zero] at h400
    congr 1
    symm
    simp only [decide_eq_true_eq]
    omega
  · rw [if_neg h400]
    rw [tmod_zero] at h400
    by_cases h4 : Int.tmod y 4 = 0
    · rw [if_pos h4]
      rw [tmod_zero] at h4
      congr 1
      by_cases h100 : Int.tmod y 100 = 0
      · have : (Int.tmod y 100 != 0) = false := bne_eq_false_iff_eq.2 h100
        rw [this]
        rw [tmod_zero] at h100
        symm
        simp only [decide_eq_false_iff_not]
        omega
      · have : (Int.tmod y 100 != 0) = true := bne_iff_ne.2 h100
        rw [this]
        rw [tmod_zero] at h100
        symm
        simp only [decide_eq_true_eq]
        exact ⟨h4, Or.inl h100⟩
    · rw [if_neg h4]
      rw [tmod_zero] at h4
      congr 1
      symm
      simp only [decide_eq_false_iff_not]
      omega
theorem rLength_f (k : Nat) (y m : Int) (hk : 1 ≤ k) : epactref03_Length.f k y m = some (len y m) := by
  obtain ⟨k, rfl⟩ : ∃ j, k = j + 1 := ⟨k - 1, by omega⟩
  unfold epactref03_Length.f
  simp only [epactref03_Length.j0, rLeap_f, Option.bind_some]
  rw [len_table, lp_leap]
  by_cases h2 : m = 2
  · rw [if_pos h2, if_pos h2]
    split <;> rfl
  · rw [if_neg h2, if_neg h2]
    by_cases h4 : m = 4 ∨ m = 6 ∨ m = 9 ∨ m = 11
    · rw [if_pos h4]
      rcases h4 with rfl | rfl | rfl | rfl <;> rfl
    · rw [if_neg h4]
      rw [if_neg (by omega), if_neg (by omega), if_neg (by omega)]
      have : (m == 11) = false := beq_eq_false_iff_ne.2 (by omega)
      rw [this, if_neg (by decide)]
      by_cases h1 : m = 1 ∨ m = 3 ∨ m = 5 ∨ m = 7 ∨ m = 8 ∨ m = 10 ∨ m = 12
      · rw [if_pos h1]
        rcases h1 with rfl | rfl | rfl | rfl | rfl | rfl | rfl <;> rfl
      · rw [if_neg h1]
        repeat rw [if_neg (by omega)]
theorem whole_f (y : Int) : epactref03_whole.f y = some (365 + lp y) := by
  unfold epactref03_whole.f
  rw [rLeap_f, lp_leap]
  simp only [Option.bind_some]
  split <;> rfl
/-- The loops of the document's begin keep 'the number of year x4 is x3'. -/
theorem begin_l3 (d : Nat) : ∀ (k : Nat) (y n x : Int), x - y = d → -200000 ≤ y → x ≤ 200000 → n = beg x → d < k → epactref03_begin.l3 k y n x = some (beg y) := by
  induction d with
  | zero =>
    intro k y n x hd h0 h1 hn hk
    obtain ⟨k, rfl⟩ : ∃ m, k = m + 1 := ⟨k - 1, by omega⟩
    simp only [epactref03_begin.l3]
    rw [if_neg (by omega), hn, show x = y by omega]
  | succ d ih =>
    intro k y n x hd h0 h1 hn hk
    obtain ⟨k, rfl⟩ : ∃ m, k = m + 1 := ⟨k - 1, by omega⟩
    simp only [epactref03_begin.l3]
    have hs := beg_succ (x - 1)
    have hl := lp_bd (x - 1)
    have hb := beg_mono (show -200000 ≤ x - 1 by omega)
    have hb' := beg_mono (show x - 1 ≤ 200000 by omega)
    have e1 : beg (-200000) = -73768028 := by decide
    have e2 : beg 200000 = 72328972 := by decide
    rw [show x - 1 + 1 = x by omega] at hs
    rw [if_pos (by omega), w64 (x := x - 1) (by omega) (by omega), whole_f]
    simp only [Option.bind_some]
    rw [w64 (x := n - (365 + lp (x - 1))) (by omega) (by omega)]
    exact ih k y _ (x - 1) (by omega) h0 (by omega) (by omega) (by omega)
theorem begin_l2 (d : Nat) : ∀ (k : Nat) (y n x : Int), y - x = d → -200000 ≤ x → y ≤ 200000 → n = beg x → d + 1 < k → epactref03_begin.l2 k y n x = some (beg y) := by
  induction d with
  | zero =>
    intro k y n x hd h0 h1 hn hk
    obtain ⟨k, rfl⟩ : ∃ m, k = m + 1 := ⟨k - 1, by omega⟩
    simp only [epactref03_begin.l2]
    rw [if_neg (by omega)]
    exact begin_l3 0 k y n x (by omega) (by omega) (by omega) hn (by omega)
  | succ d ih =>
    intro k y n x hd h0 h1 hn hk
    obtain ⟨k, rfl⟩ : ∃ m, k = m + 1 := ⟨k - 1, by omega⟩
    simp only [epactref03_begin.l2]
    have hs := beg_succ x
    have hl := lp_bd x
    have hb := beg_mono (show -200000 ≤ x by omega)
    have hb' := beg_mono (show x ≤ 200000 by omega)
    have e1 : beg (-200000) = -73768028 := by decide
    have e2 : beg 200000 = 72328972 := by decide
    rw [if_pos (by omega), w64 (x := x + 1) (by omega) (by omega), whole_f]
    simp only [Option.bind_some]
    rw [w64 (x := n + (365 + lp x)) (by omega) (by omega)]
    exact ih k y _ (x + 1) (by omega) (by omega) h1 (by omega) (by omega)
theorem begin_low (k : Nat) (y n x : Int) (hyx : x - 400 < y) (h0 : -100000 ≤ y) (h1 : y ≤ 100000) (hx : -100000 ≤ x) (hx' : x ≤ 100000) (hn : n = beg x) (hk : 200010 < k) : epactref03_begin.l2 k y n x = some (beg y) := by
  by_cases h : x ≤ y
  · exact begin_l2 (y - x).toNat k y n x (by omega) (by omega) (by omega) hn (by omega)
  · obtain ⟨k, rfl⟩ : ∃ m, k = m + 1 := ⟨k - 1, by omega⟩
    simp only [epactref03_begin.l2]
    rw [if_neg (by omega)]
    exact begin_l3 (x - y).toNat k y n x (by omega) (by omega) (by omega) hn (by omega)
theorem begin_l1 (d : Nat) : ∀ (k : Nat) (y n x : Int), x - y ≤ d → -100000 ≤ y → y ≤ 100000 → -100000 ≤ x → x ≤ 100000 → n = beg x → d + 200020 < k → epactref03_begin.l1 k y n x = some (beg y) := by
  induction d with
  | zero =>
    intro k y n x hd h0 h1 hx hx' hn hk
    obtain ⟨k, rfl⟩ : ∃ m, k = m + 1 := ⟨k - 1, by omega⟩
    simp only [epactref03_begin.l1]
    rw [w64 (x := x - 400) (by omega) (by omega), if_neg (by omega)]
    exact begin_low k y n x (by omega) h0 h1 hx hx' hn (by omega)
  | succ d ih =>
    intro k y n x hd h0 h1 hx hx' hn hk
    obtain ⟨k, rfl⟩ : ∃ m, k = m + 1 := ⟨k - 1, by omega⟩
    simp only [epactref03_begin.l1]
    rw [w64 (x := x - 400) (by omega) (by omega)]
    by_cases h : x - 400 ≥ y
    · have hs := beg_400 (x - 400)
      have hb := beg_mono (show -200000 ≤ x by omega)
      have hb' := beg_mono (show x ≤ 200000 by omega)
      have e1 : beg (-200000) = -73768028 := by decide
      have e2 : beg 200000 = 72328972 := by decide
      rw [show x - 400 + 400 = x by omega] at hs
      rw [if_pos h, w64 (x := n - 146097) (by omega) (by omega)]
      exact ih k y _ (x - 400) (by omega) h0 h1 (by omega) (by omega) (by omega) (by omega)
    · rw [if_neg h]
      exact begin_low k y n x (by omega) h0 h1 hx hx' hn (by omega)
theorem begin_l0 (d : Nat) : ∀ (k : Nat) (y n x : Int), y - x ≤ d → -90000 ≤ y → y ≤ 90000 → -90000 ≤ x → x ≤ 90000 → n = beg x → d + 400040 < k → epactref03_begin.l0 k y n x = some (beg y) := by
  induction d with
  | zero =>
    intro k y n x hd h0 h1 hx hx' hn hk
    obtain ⟨k, rfl⟩ : ∃ m, k = m + 1 := ⟨k - 1, by omega⟩
    simp only [epactref03_begin.l0]
    rw [w64 (x := x + 400) (by omega) (by omega), if_neg (by omega)]
    exact begin_l1 200000 k y n x (by omega) (by omega) (by omega) (by omega) (by omega) hn (by omega)
  | succ d ih =>
    intro k y n x hd h0 h1 hx hx' hn hk
    obtain ⟨k, rfl⟩ : ∃ m, k = m + 1 := ⟨k - 1, by omega⟩
    simp only [epactref03_begin.l0]
    rw [w64 (x := x + 400) (by omega) (by omega)]
    by_cases h : x + 400 ≤ y
    · have hs := beg_400 x
      have hb := beg_mono (show -200000 ≤ x by omega)
      have hb' := beg_mono (show x ≤ 200000 by omega)
      have e1 : beg (-200000) = -73768028 := by decide
      have e2 : beg 200000 = 72328972 := by decide
      rw [if_pos h, w64 (x := n + 146097) (by omega) (by omega)]
      exact ih k y _ (x + 400) (by omega) h0 h1 (by omega) (by omega) (by omega) (by omega)
    · rw [if_neg h]
      exact begin_l1 200000 k y n x (by omega) (by omega) (by omega) (by omega) (by omega) hn (by omega)
/-- Rounds that are enough for whatever the document's calendar does. -/
def rounds : Nat := 1000000
theorem begin_f (k : Nat) (y : Int) (h0 : -80000 ≤ y) (h1 : y ≤ 80000) (hk : 600000 < k) : epactref03_begin.f k y = some (beg y) := by
  unfold epactref03_begin.f
  exact begin_l0 100000 k y 0 1970 (by omega) (by omega) (by omega) (by omega) (by omega) (by decide) (by omega)
theorem rDays_l0 (y m d : Int) (hm : m ≤ 12) (hd : -1000 ≤ d) (hd' : d ≤ 1000) (hy : -20000 ≤ y) (hy' : y ≤ 20000) (j : Nat) : ∀ (k : Nat) (x i : Int), m - i = j → 1 ≤ i → x = beg y + upto y (i - 1) → j + 10 < k → epactref03_Days.l0 k y m d x i = some (beg y + upto y (m - 1) + d - 1, 0) := by
  have hb := beg_mono (show -200000 ≤ y by omega)
  have hb' := beg_mono (show y ≤ 200000 by omega)
  have e1 : beg (-200000) = -73768028 := by decide
  have e2 : beg 200000 = 72328972 := by decide
  induction j with
  | zero =>
    intro k x i hj hi hx hk
    obtain ⟨k, rfl⟩ : ∃ m, k = m + 1 := ⟨k - 1, by omega⟩
    simp only [epactref03_Days.l0]
    obtain rfl : i = m := by omega
    have hu := upto_bd y (i - 1)
    rw [if_neg (by omega), hx, w64 (x := beg y + upto y (i - 1) + d) (by omega) (by omega), w64 (x := beg y + upto y (i - 1) + d - 1) (by omega) (by omega)]
  | succ j ih =>
    intro k x i hj hi hx hk
    obtain ⟨k, rfl⟩ : ∃ m, k = m + 1 := ⟨k - 1, by omega⟩
    simp only [epactref03_Days.l0]
    have hu := upto_bd y (i - 1)
    have hu' := upto_bd y i
    have hl := len_eq y i hi (by omega)
    rw [if_pos (by omega), rLength_f k y i (by omega)]
    simp only [Option.bind_some]
    rw [w64 (x := i + 1) (by omega) (by omega), w64 (x := x + len y i) (by omega) (by omega)]
    refine ih k _ (i + 1) (by omega) (by omega) ?_ (by omega)
    rw [show i + 1 - 1 = i by omega]
    omega
theorem rDays_f (k : Nat) (y m d : Int) (hk : 700000 < k) : epactref03_Days.f k y m d = some (daysF y m d) := by
  obtain ⟨k, rfl⟩ : ∃ m, k = m + 1 := ⟨k - 1, by omega⟩
  have hbad : epactref03_Days.j0 (k + 1) y m d true = some (0, 30) := by simp only [epactref03_Days.j0, if_true]
  unfold epactref03_Days.f
  by_cases h1 : y < -9999
  · rw [if_pos h1, hbad, daysF_not (fun h => by have := h.1; omega)]
  rw [if_neg h1]
  by_cases h2 : y > 9999
  · rw [if_pos h2, hbad, daysF_not (fun h => by have := h.2.1; omega)]
  rw [if_neg h2]
  by_cases h3 : d < 1
  · rw [if_pos h3, hbad, daysF_not (fun h => by have := h.2.2.2.2.1; omega)]
  rw [if_neg h3, rLength_f _ y m (by omega)]
  simp only [Option.bind_some]
  by_cases h4 : d > len y m
  · rw [decide_eq_true h4, hbad, daysF_not (fun h => by have := h.2.2.2.2.2; omega)]
  · rw [decide_eq_false h4]
    have hle := len_le y m
    have hm : 1 ≤ m ∧ m ≤ 12 := by
      apply Decidable.byContradiction
      intro hn
      have := len_out y m hn
      omega
    simp only [epactref03_Days.j0]
    rw [if_neg (by decide), begin_f k y (by omega) (by omega) (by omega)]
    simp only [Option.bind_some]
    rw [rDays_l0 y m d hm.2 (by omega) (by omega) (by omega) (by omega) (m - 1).toNat k (beg y) 1 (by omega) (by omega) (by rw [show (1 : Int) - 1 = 0 from rfl, upto_0]; omega) (by omega)]
    rw [daysF_ok ⟨by omega, by omega, hm.1, hm.2, by omega, by omega⟩]
    rfl
theorem rDate_l1 (y l : Int) (h0 : 0 ≤ l) (h1 : l < upto y 12) (j : Nat) : ∀ (k : Nat) (x i : Int), 12 - i = j → 1 ≤ i → x = l - upto y (i - 1) → 0 ≤ x → j + 10 < k → epactref03_Date.l1 k y x i = some (y, monOf y l, l - upto y (monOf y l - 1) + 1, 0) := by
  have hu12 := upto_bd y 12
  obtain ⟨m1, m2, m3, m4⟩ := monOf_spec y l h0 h1
  have fin : ∀ (k : Nat) (x i : Int), 1 ≤ i → i ≤ 12 → x = l - upto y (i - 1) → 0 ≤ x → x < len y i → 10 < k → epactref03_Date.l1 k y x i = some (y, monOf y l, l - upto y (monOf y l - 1) + 1, 0) := by
    intro k x i hi hi' hx hx0 hlt hk
    obtain ⟨k, rfl⟩ : ∃ m, k = m + 1 := ⟨k - 1, by omega⟩
    simp only [epactref03_Date.l1]
    have hl := len_eq y i hi hi'
    have hu := upto_bd y (i - 1)
    have : i = monOf y l := mon_unique hi hi' m1 m2 (by omega) (by omega) m3 m4
    rw [rLength_f k y i (by omega)]
    simp only [Option.bind_some]
    rw [if_neg (by omega), w64 (x := x + 1) (by omega) (by omega), hx, this]
  induction j with
  | zero =>
    intro k x i hj hi hx hx0 hk
    obtain rfl : i = 12 := by omega
    have hl := len_eq y 12 hi (by omega)
    exact fin k x 12 hi (by omega) hx hx0 (by omega) (by omega)
  | succ j ih =>
    intro k x i hj hi hx hx0 hk
    have hl := len_eq y i hi (by omega)
    have hu := upto_bd y (i - 1)
    have hle := len_le y i
    by_cases hlt : x < len y i
    · exact fin k x i hi (by omega) hx hx0 hlt (by omega)
    · obtain ⟨k, rfl⟩ : ∃ m, k = m + 1 := ⟨k - 1, by omega⟩
      simp only [epactref03_Date.l1]
      rw [rLength_f k y i (by omega)]
      simp only [Option.bind_some]
      rw [if_pos (by omega), w64 (x := i + 1) (by omega) (by omega), w64 (x := x - len y i) (by omega) (by omega)]
      refine ih k _ (i + 1) (by omega) (by omega) ?_ (by omega) (by omega)
      rw [show i + 1 - 1 = i by omega]
      omega
theorem rDate_l0 (n : Int) (h : In n) (j : Nat) : ∀ (k : Nat) (lo hi : Int), hi - lo ≤ j → -9999 ≤ lo → lo ≤ hi → hi ≤ 9999 → beg lo ≤ n → n < beg (hi + 1) → j + 700000 < k → epactref03_Date.l0 k n lo hi = some (dateF n) := by
  have fin : ∀ (k : Nat) (lo : Int), -9999 ≤ lo → lo ≤ 9999 → beg lo ≤ n → n < beg (lo + 1) → 700000 < k → epactref03_Date.l0 k n lo lo = some (dateF n) := by
    intro k lo a b h1 h2 hk
    obtain ⟨k, rfl⟩ : ∃ m, k = m + 1 := ⟨k - 1, by omega⟩
    have hs := yrF_spec n
    have hy := yr_unique h1 h2 hs.1 hs.2
    have hl := left_bd n
    have hu := upto_bd (yrF n) 12
    simp only [epactref03_Date.l0]
    rw [if_neg (by omega), begin_f k lo (by omega) (by omega) (by omega)]
    simp only [Option.bind_some]
    subst hy
    rw [w64 (x := n - beg (yrF n)) (by omega) (by omega)]
    rw [rDate_l1 (yrF n) (n - beg (yrF n)) hl.1 hl.2 11 k _ 1 (by omega) (by omega) (by rw [show (1 : Int) - 1 = 0 from rfl, upto_0]; omega) (by omega) (by omega), dateF_in h]
    rfl
  induction j with
  | zero =>
    intro k lo hi hj a b c h1 h2 hk
    obtain rfl : lo = hi := by omega
    exact fin k lo a c h1 h2 (by omega)
  | succ j ih =>
    intro k lo hi hj a b c h1 h2 hk
    by_cases e : lo = hi
    · subst e
      exact fin k lo a c h1 h2 (by omega)
    · obtain ⟨k, rfl⟩ : ∃ m, k = m + 1 := ⟨k - 1, by omega⟩
      simp only [epactref03_Date.l0]
      rw [if_pos (by omega), w64 (x := hi - lo) (by omega) (by omega), w64 (x := hi - lo + 1) (by omega) (by omega), tdiv_pos _ 2 (by omega), w64 (x := (hi - lo + 1) / 2) (by omega) (by omega), w64 (x := lo + (hi - lo + 1) / 2) (by omega) (by omega), begin_f k _ (by omega) (by omega) (by omega)]
      simp only [Option.bind_some]
      by_cases hb : beg (lo + (hi - lo + 1) / 2) ≤ n
      · rw [if_pos hb]
        exact ih k _ hi (by omega) (by omega) (by omega) c hb h2 (by omega)
      · rw [if_neg hb, w64 (x := lo + (hi - lo + 1) / 2 - 1) (by omega) (by omega)]
        refine ih k lo _ (by omega) a (by omega) (by omega) h1 ?_ (by omega)
        rw [show lo + (hi - lo + 1) / 2 - 1 + 1 = lo + (hi - lo + 1) / 2 by omega]
        omega
theorem rDate_f (k : Nat) (n : Int) (hk : 800000 < k) : epactref03_Date.f k n = some (dateF n) := by
  obtain ⟨k, rfl⟩ : ∃ m, k = m + 1 := ⟨k - 1, by omega⟩
  have hbad : epactref03_Date.j0 (k + 1) n true = some (0, 0, 0, 30) := by simp only [epactref03_Date.j0, if_true]
  unfold epactref03_Date.f
  rw [begin_f _ (-9999) (by omega) (by omega) (by omega), begin_f _ 10000 (by omega) (by omega) (by omega)]
  simp only [Option.bind_some]
  have h1 := beg_min
  have h2 := beg_max
  by_cases hlo : n < beg (-9999)
  · rw [if_pos hlo, hbad, dateF_not (fun h => by have := h.1; omega)]
  · rw [if_neg hlo]
    by_cases hhi : n ≥ beg 10000
    · rw [decide_eq_true hhi, hbad, dateF_not (fun h => by have := h.2; omega)]
    · rw [decide_eq_false hhi]
      simp only [epactref03_Date.j0]
      rw [if_neg (by decide)]
      exact rDate_l0 n ⟨by omega, by omega⟩ 20000 k (-9999) 9999 (by omega) (by omega) (by omega) (by omega) (by omega) (by rw [show (9999 : Int) + 1 = 10000 from rfl]; omega) (by omega)
theorem rWeekday_f (n : Int) : epactref03_Weekday.f n = some (wdF n) := by
  have h := tmod7 n
  unfold epactref03_Weekday.f wdF
  generalize Int.tmod n 7 = t at *
  by_cases hneg : t < 0
  · rw [if_pos hneg, w64 (x := t + 7) (by omega) (by omega), w64 (x := t + 7 + 3) (by omega) (by omega), tmod_pos _ 7 (by omega), w64 (x := (t + 7 + 3) % 7 + 1) (by omega) (by omega)]
    congr 1
    omega
  · rw [if_neg hneg, w64 (x := t + 3) (by omega) (by omega), tmod_pos _ 7 (by omega), w64 (x := (t + 3) % 7 + 1) (by omega) (by omega)]
    congr 1
    omega
end Go.Proofs.YtnaaagaammimnaaGreatDoor.Civ
