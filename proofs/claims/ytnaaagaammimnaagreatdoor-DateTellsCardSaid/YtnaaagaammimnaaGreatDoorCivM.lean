/-
  The plain arithmetic of the calendar (no program in sight): leap years, months, the number of a date, the date of a number, weekdays; that the number and the date undo one another.
-/
import Derived.WalkKit
import Derived.Laws.Bits128
namespace Go.Proofs.YtnaaagaammimnaaGreatDoor.Civ
open Go

/-! ### Quotients as Go takes them, and as the document does -/
theorem tdiv_floor (a b : Int) (hb : 0 < b) : (Int.tmod a b < 0 → Int.tdiv a b - 1 = a / b ∧ Int.tmod a b + b = a % b) ∧ (¬ Int.tmod a b < 0 → Int.tdiv a b = a / b ∧ Int.tmod a b = a % b) := by
  have h1 := Int.mul_tdiv_add_tmod a b
  have h2 : Int.tmod a b < b := Int.tmod_lt_of_pos a hb
  have h3 : -b < Int.tmod a b := by
    have := Int.tmod_lt_of_pos (-a) hb
    rw [Int.neg_tmod] at this
    omega
  constructor
  · intro h
    have := (Int.ediv_emod_unique (a := a) (b := b) (r := Int.tmod a b + b) (q := Int.tdiv a b - 1) hb).2 ⟨by rw [Int.mul_sub]; omega, by omega, by omega⟩
    exact ⟨this.1.symm, this.2.symm⟩
  · intro h
    have := (Int.ediv_emod_unique (a := a) (b := b) (r := Int.tmod a b) (q := Int.tdiv a b) hb).2 ⟨by omega, by omega, by omega⟩
    exact ⟨this.1.symm, this.2.symm⟩
theorem tmod_pos (a b : Int) (h : 0 ≤ a) : Int.tmod a b = a % b := Int.tmod_eq_emod_of_nonneg h
theorem tdiv_pos (a b : Int) (h : 0 ≤ a) : Int.tdiv a b = a / b := Int.tdiv_eq_ediv_of_nonneg h
theorem tmod_zero (a b : Int) : Int.tmod a b = 0 ↔ a % b = 0 := by
  rw [← Int.dvd_iff_tmod_eq_zero, ← Int.dvd_iff_emod_eq_zero]
theorem i64_and3 (n : Int) : bits .and .i64 n 3 = n % 4 := by
  have h : (BitVec.ofInt 64 3).toNat = 2 ^ 2 - 1 := by decide
  have key : (BitVec.ofInt 64 n &&& BitVec.ofInt 64 3).toNat = (n % ((2 ^ 64 : Nat) : Int)).toNat % 2 ^ 2 := by
    rw [BitVec.toNat_and, BitVec.toNat_ofInt, h, Nat.and_two_pow_sub_one_eq_mod]
  show IntKind.i64.wrap ((BitVec.ofInt 64 n &&& BitVec.ofInt 64 3).toNat : Nat) = n % 4
  rw [key, IntKind.wrap_i64]
  omega
theorem i64_and15 (n : Int) : bits .and .i64 n 15 = n % 16 := by
  have h : (BitVec.ofInt 64 15).toNat = 2 ^ 4 - 1 := by decide
  have key : (BitVec.ofInt 64 n &&& BitVec.ofInt 64 15).toNat = (n % ((2 ^ 64 : Nat) : Int)).toNat % 2 ^ 4 := by
    rw [BitVec.toNat_and, BitVec.toNat_ofInt, h, Nat.and_two_pow_sub_one_eq_mod]
  show IntKind.i64.wrap ((BitVec.ofInt 64 n &&& BitVec.ofInt 64 15).toNat : Nat) = n % 16
  rw [key, IntKind.wrap_i64]
  omega

/-! ### The calendar -/
def leap (y : Int) : Bool := decide (y % 4 = 0 ∧ (y % 100 ≠ 0 ∨ y % 400 = 0))
def lp (y : Int) : Int := if y % 4 = 0 ∧ (y % 100 ≠ 0 ∨ y % 400 = 0) then 1 else 0
theorem lp_leap (y : Int) : lp y = if leap y = true then 1 else 0 := by simp [lp, leap]
/-- How many days are ahead of month m + 1 in a year that is no leap year. -/
def tab (m : Int) : Int :=
  if m ≤ 0 then 0 else if m = 1 then 31 else if m = 2 then 59 else if m = 3 then 90 else if m = 4 then 120 else if m = 5 then 151 else if m = 6 then 181
  else if m = 7 then 212 else if m = 8 then 243 else if m = 9 then 273 else if m = 10 then 304 else if m = 11 then 334 else 365
def upto (y m : Int) : Int := tab m + if 2 ≤ m then lp y else 0
def len (y m : Int) : Int := if 1 ≤ m ∧ m ≤ 12 then upto y m - upto y (m - 1) else 0
def beg (y : Int) : Int := 365 * (y - 1) + (y - 1) / 4 - (y - 1) / 100 + (y - 1) / 400 - 719162
def dn (y m d : Int) : Int := beg y + upto y (m - 1) + d - 1
def Ok (y m d : Int) : Prop := -9999 ≤ y ∧ y ≤ 9999 ∧ 1 ≤ m ∧ m ≤ 12 ∧ 1 ≤ d ∧ d ≤ len y m
instance (y m d : Int) : Decidable (Ok y m d) := by unfold Ok; infer_instance
/-- What Days answers. -/
def daysF (y m d : Int) : Int × Int := if Ok y m d then (dn y m d, 0) else (0, 30)
def yrF (n : Int) : Int :=
  1 + 400 * ((n + 719162) / 146097) + 100 * (min ((n + 719162) % 146097 / 36524) 3)
    + 4 * (((n + 719162) % 146097 - min ((n + 719162) % 146097 / 36524) 3 * 36524) / 1461)
    + min (((n + 719162) % 146097 - min ((n + 719162) % 146097 / 36524) 3 * 36524 - ((n + 719162) % 146097 - min ((n + 719162) % 146097 / 36524) 3 * 36524) / 1461 * 1461) / 365) 3
def monOf (y l : Int) : Int :=
  if l < upto y 1 then 1 else if l < upto y 2 then 2 else if l < upto y 3 then 3 else if l < upto y 4 then 4 else if l < upto y 5 then 5 else if l < upto y 6 then 6
  else if l < upto y 7 then 7 else if l < upto y 8 then 8 else if l < upto y 9 then 9 else if l < upto y 10 then 10 else if l < upto y 11 then 11 else 12
def moF (n : Int) : Int := monOf (yrF n) (n - beg (yrF n))
def dyF (n : Int) : Int := n - beg (yrF n) - upto (yrF n) (moF n - 1) + 1
def In (n : Int) : Prop := -4371587 ≤ n ∧ n ≤ 2932896
instance (n : Int) : Decidable (In n) := by unfold In; infer_instance
/-- What Date answers. -/
def dateF (n : Int) : Int × Int × Int × Int := if In n then (yrF n, moF n, dyF n, 0) else (0, 0, 0, 30)
def wdF (n : Int) : Int := (n + 3) % 7 + 1

theorem lp_bd (y : Int) : 0 ≤ lp y ∧ lp y ≤ 1 := by unfold lp; split <;> omega
theorem beg_succ (y : Int) : beg (y + 1) = beg y + 365 + lp y := by
  unfold beg lp
  split <;> omega
theorem beg_lt_succ (y : Int) : beg y + 365 ≤ beg (y + 1) := by have := beg_succ y; have := lp_bd y; omega
theorem beg_mono' (y : Int) (k : Nat) : beg y + 365 * k ≤ beg (y + k) := by
  induction k with
  | zero => simp
  | succ k ih =>
    have := beg_lt_succ (y + k)
    have e : y + ((k + 1 : Nat) : Int) = y + (k : Int) + 1 := by omega
    rw [e]
    omega
theorem beg_mono {a b : Int} (h : a ≤ b) : beg a + 365 * (b - a) ≤ beg b := by
  have := beg_mono' a (b - a).toNat
  have e : a + ((b - a).toNat : Int) = b := by omega
  rw [e] at this
  omega
theorem beg_lt {a b : Int} (h : a < b) : beg a < beg b := by have := beg_mono (Int.le_of_lt h); omega
theorem beg_400 (y : Int) : beg (y + 400) = beg y + 146097 := by unfold beg; omega
theorem lp_400 (y : Int) : lp (y + 400) = lp y := by unfold lp; split <;> split <;> omega
theorem upto_400 (y m : Int) : upto (y + 400) m = upto y m := by unfold upto; rw [lp_400]
theorem len_400 (y m : Int) : len (y + 400) m = len y m := by unfold len; rw [upto_400, upto_400]
theorem beg_min : beg (-9999) = -4371587 := by decide
theorem beg_max : beg 10000 = 2932897 := by decide

theorem upto_0 (y : Int) : upto y 0 = 0 := by simp [upto, tab]
theorem upto_12 (y : Int) : upto y 12 = 365 + lp y := by simp [upto, tab]
theorem months (m : Int) (h1 : 1 ≤ m) (h2 : m ≤ 12) : m = 1 ∨ m = 2 ∨ m = 3 ∨ m = 4 ∨ m = 5 ∨ m = 6 ∨ m = 7 ∨ m = 8 ∨ m = 9 ∨ m = 10 ∨ m = 11 ∨ m = 12 := by omega
theorem upto_step (y m : Int) (h1 : 1 ≤ m) (h2 : m ≤ 12) : upto y (m - 1) + 28 ≤ upto y m ∧ upto y m ≤ upto y (m - 1) + 31 := by
  have := lp_bd y
  rcases months m h1 h2 with rfl | rfl | rfl | rfl | rfl | rfl | rfl | rfl | rfl | rfl | rfl | rfl <;> simp [upto, tab] <;> omega
theorem tab_bd (m : Int) : 0 ≤ tab m ∧ tab m ≤ 365 := by
  unfold tab
  repeat' split
  all_goals decide
theorem upto_bd (y m : Int) : 0 ≤ upto y m ∧ upto y m ≤ 366 := by
  have := lp_bd y
  have := tab_bd m
  unfold upto
  split <;> omega
theorem upto_mono (y a b : Int) (h0 : 0 ≤ a) (h : a ≤ b) (h2 : b ≤ 12) : upto y a ≤ upto y b := by
  have key : ∀ k : Nat, a + k ≤ 12 → upto y a ≤ upto y (a + k) := by
    intro k
    induction k with
    | zero => intro _; simp
    | succ k ih =>
      intro hk
      have h1 := ih (by omega)
      have h3 := (upto_step y (a + k + 1) (by omega) (by omega)).1
      have e1 : a + (k : Int) + 1 - 1 = a + k := by omega
      have e2 : a + ((k + 1 : Nat) : Int) = a + (k : Int) + 1 := by omega
      rw [e1] at h3
      rw [e2]
      omega
  have := key (b - a).toNat (by omega)
  have e : a + ((b - a).toNat : Int) = b := by omega
  rwa [e] at this
theorem len_eq (y m : Int) (h1 : 1 ≤ m) (h2 : m ≤ 12) : len y m = upto y m - upto y (m - 1) := by unfold len; rw [if_pos ⟨h1, h2⟩]
theorem len_bd (y m : Int) (h1 : 1 ≤ m) (h2 : m ≤ 12) : 28 ≤ len y m ∧ len y m ≤ 31 := by
  rw [len_eq y m h1 h2]
  have := upto_step y m h1 h2
  omega
theorem len_out (y m : Int) (h : ¬ (1 ≤ m ∧ m ≤ 12)) : len y m = 0 := by unfold len; rw [if_neg h]
theorem len_le (y m : Int) : 0 ≤ len y m ∧ len y m ≤ 31 := by
  by_cases h : 1 ≤ m ∧ m ≤ 12
  · have := len_bd y m h.1 h.2; omega
  · rw [len_out y m h]; omega
theorem len_table (y m : Int) : len y m = if m = 2 then 28 + lp y else if m = 4 ∨ m = 6 ∨ m = 9 ∨ m = 11 then 30 else if m = 1 ∨ m = 3 ∨ m = 5 ∨ m = 7 ∨ m = 8 ∨ m = 10 ∨ m = 12 then 31 else 0 := by
  by_cases h : 1 ≤ m ∧ m ≤ 12
  · rw [len_eq y m h.1 h.2]
    rcases months m h.1 h.2 with rfl | rfl | rfl | rfl | rfl | rfl | rfl | rfl | rfl | rfl | rfl | rfl <;> simp [upto, tab] <;> omega
  · rw [len_out y m h]
    repeat' split
    all_goals omega
theorem Ok.month {y m d : Int} (h : Ok y m d) : 1 ≤ m ∧ m ≤ 12 := ⟨h.2.2.1, h.2.2.2.1⟩

/-! ### The date of a number -/
theorem beg_parts (c h f g : Int) (h0 : 0 ≤ h) (h1 : h ≤ 3) (f0 : 0 ≤ f) (f1 : f ≤ 24) (g0 : 0 ≤ g) (g1 : g ≤ 3) : beg (1 + 400 * c + 100 * h + 4 * f + g) = 146097 * c + 36524 * h + 1461 * f + 365 * g - 719162 := by
  have q4 : (1 + 400 * c + 100 * h + 4 * f + g - 1) / 4 = 100 * c + 25 * h + f := by omega
  have q100 : (1 + 400 * c + 100 * h + 4 * f + g - 1) / 100 = 4 * c + h := by omega
  have q400 : (1 + 400 * c + 100 * h + 4 * f + g - 1) / 400 = c := by omega
  unfold beg
  rw [q4, q100, q400]
  omega
theorem lp_parts (c h f g : Int) (hg : g = 3) (hf : f < 24 ∨ h = 3) (h0 : 0 ≤ h) (h1 : h ≤ 3) (f0 : 0 ≤ f) (f1 : f ≤ 24) : lp (1 + 400 * c + 100 * h + 4 * f + g) = 1 := by
  unfold lp
  rw [if_pos]
  subst hg
  refine ⟨by omega, ?_⟩
  rcases hf with hf | hf
  · left; omega
  · by_cases hf24 : f = 24
    · right; subst hf hf24; omega
    · left; omega
theorem yrF_spec (n : Int) : beg (yrF n) ≤ n ∧ n < beg (yrF n + 1) := by
  have e : ∃ a c l h l2 f l3 g : Int, a = n + 719162 ∧ c = a / 146097 ∧ l = a % 146097 ∧ h = min (l / 36524) 3 ∧ l2 = l - h * 36524 ∧ f = l2 / 1461 ∧ l3 = l2 - f * 1461 ∧ g = min (l3 / 365) 3 ∧ yrF n = 1 + 400 * c + 100 * h + 4 * f + g :=
    ⟨_, _, _, _, _, _, _, _, rfl, rfl, rfl, rfl, rfl, rfl, rfl, rfl, rfl⟩
  obtain ⟨a, c, l, h, l2, f, l3, g, ha, hc, hl, hh, hl2, hf, hl3, hg, hy⟩ := e
  rw [hy, beg_succ]
  clear hy
  have b1 : 0 ≤ l ∧ l < 146097 ∧ a = 146097 * c + l := by omega
  clear hc hl
  have b2 : 0 ≤ h ∧ h ≤ 3 ∧ 0 ≤ l2 ∧ (h < 3 → l2 < 36524) ∧ l2 ≤ 36524 := by omega
  clear hh
  have b3 : 0 ≤ f ∧ f ≤ 24 ∧ (f = 24 → l3 < 1460 ∨ h = 3) ∧ 0 ≤ l3 ∧ l3 ≤ 1460 := by omega
  clear hf
  have b4 : 0 ≤ g ∧ g ≤ 3 ∧ 365 * g ≤ l3 ∧ (g < 3 → l3 < 365 * g + 365) ∧ l3 ≤ 365 * g + 365 := by omega
  clear hg
  have hb := beg_parts c h f g b2.1 b2.2.1 b3.1 b3.2.1 b4.1 b4.2.1
  have hlp := lp_bd (1 + 400 * c + 100 * h + 4 * f + g)
  rw [hb]
  refine ⟨by omega, ?_⟩
  by_cases hg3 : g = 3 ∧ l3 = 1460
  · have := lp_parts c h f g hg3.1 (by omega) b2.1 b2.2.1 b3.1 b3.2.1
    omega
  · omega
theorem yr_unique {n a b : Int} (ha : beg a ≤ n) (ha' : n < beg (a + 1)) (hb : beg b ≤ n) (hb' : n < beg (b + 1)) : a = b := by
  by_cases h1 : a < b
  · have := beg_mono (show a + 1 ≤ b by omega); omega
  · by_cases h2 : b < a
    · have := beg_mono (show b + 1 ≤ a by omega); omega
    · omega
theorem yrF_range {n : Int} (h : In n) : -9999 ≤ yrF n ∧ yrF n ≤ 9999 := by
  have := yrF_spec n
  have h1 := beg_min
  have h2 := beg_max
  unfold In at h
  constructor
  · apply Decidable.byContradiction
    intro hn
    have := beg_mono (show yrF n + 1 ≤ -9999 by omega)
    omega
  · apply Decidable.byContradiction
    intro hn
    have := beg_mono (show 10000 ≤ yrF n by omega)
    omega
theorem monOf_spec (y l : Int) (h0 : 0 ≤ l) (h1 : l < upto y 12) : 1 ≤ monOf y l ∧ monOf y l ≤ 12 ∧ upto y (monOf y l - 1) ≤ l ∧ l < upto y (monOf y l) := by
  have e0 := upto_0 y
  unfold monOf
  repeat' split
  all_goals (refine ⟨by omega, by omega, ?_, ?_⟩)
  all_goals first | omega | (simp only [show (1 : Int) - 1 = 0 from rfl, show (2 : Int) - 1 = 1 from rfl, show (3 : Int) - 1 = 2 from rfl, show (4 : Int) - 1 = 3 from rfl, show (5 : Int) - 1 = 4 from rfl, show (6 : Int) - 1 = 5 from rfl, show (7 : Int) - 1 = 6 from rfl, show (8 : Int) - 1 = 7 from rfl, show (9 : Int) - 1 = 8 from rfl, show (10 : Int) - 1 = 9 from rfl, show (11 : Int) - 1 = 10 from rfl, show (12 : Int) - 1 = 11 from rfl]; omega)
theorem mon_unique {y l a b : Int} (ha1 : 1 ≤ a) (ha2 : a ≤ 12) (hb1 : 1 ≤ b) (hb2 : b ≤ 12) (h1 : upto y (a - 1) ≤ l) (h2 : l < upto y a) (h3 : upto y (b - 1) ≤ l) (h4 : l < upto y b) : a = b := by
  by_cases c1 : a < b
  · have := upto_mono y a (b - 1) (by omega) (by omega) (by omega); omega
  · by_cases c2 : b < a
    · have := upto_mono y b (a - 1) (by omega) (by omega) (by omega); omega
    · omega
theorem left_bd (n : Int) : 0 ≤ n - beg (yrF n) ∧ n - beg (yrF n) < upto (yrF n) 12 := by
  have h := yrF_spec n
  rw [beg_succ] at h
  rw [upto_12]
  omega
/-- A number's date is one, and has that number. -/
theorem date_ok {n : Int} (h : In n) : Ok (yrF n) (moF n) (dyF n) ∧ dn (yrF n) (moF n) (dyF n) = n := by
  have hy := yrF_range h
  have hl := left_bd n
  obtain ⟨m1, m2, m3, m4⟩ := monOf_spec (yrF n) (n - beg (yrF n)) hl.1 hl.2
  have m1' : 1 ≤ moF n := m1
  have m2' : moF n ≤ 12 := m2
  have m3' : upto (yrF n) (moF n - 1) ≤ n - beg (yrF n) := m3
  have m4' : n - beg (yrF n) < upto (yrF n) (moF n) := m4
  have hlen := len_eq (yrF n) (moF n) m1' m2'
  unfold Ok dn dyF
  refine ⟨⟨hy.1, hy.2, m1', m2', by omega, by omega⟩, by omega⟩
/-- The number of a date is in the range, and its date is that one. -/
theorem dn_bd {y m d : Int} (h : Ok y m d) : beg y ≤ dn y m d ∧ dn y m d < beg (y + 1) ∧ upto y (m - 1) ≤ dn y m d - beg y ∧ dn y m d - beg y < upto y m := by
  obtain ⟨h1, h2, h3, h4, h5, h6⟩ := h
  rw [len_eq y m h3 h4] at h6
  have a := (upto_bd y (m - 1)).1
  have b := upto_mono y m 12 (by omega) h4 (by omega)
  rw [upto_12] at b
  rw [beg_succ]
  unfold dn
  omega
theorem dn_in {y m d : Int} (h : Ok y m d) : In (dn y m d) := by
  have hb := dn_bd h
  have h1 := beg_mono h.1
  have h2 := beg_mono (show y + 1 ≤ 10000 by have := h.2.1; omega)
  have h3 := beg_min
  have h4 := beg_max
  unfold In
  have := h.1
  have := h.2.1
  omega
theorem date_dn {y m d : Int} (h : Ok y m d) : yrF (dn y m d) = y ∧ moF (dn y m d) = m ∧ dyF (dn y m d) = d := by
  have hb := dn_bd h
  have hs := yrF_spec (dn y m d)
  have hy : yrF (dn y m d) = y := yr_unique hs.1 hs.2 hb.1 hb.2.1
  have hl := left_bd (dn y m d)
  rw [hy] at hl
  obtain ⟨m1, m2, m3, m4⟩ := monOf_spec y (dn y m d - beg y) hl.1 hl.2
  have hm : moF (dn y m d) = m := by
    unfold moF
    rw [hy]
    exact mon_unique m1 m2 h.month.1 h.month.2 m3 m4 hb.2.2.1 hb.2.2.2
  refine ⟨hy, hm, ?_⟩
  unfold dyF
  rw [hm, hy]
  unfold dn
  omega
theorem daysF_ok {y m d : Int} (h : Ok y m d) : daysF y m d = (dn y m d, 0) := by unfold daysF; rw [if_pos h]
theorem daysF_not {y m d : Int} (h : ¬ Ok y m d) : daysF y m d = (0, 30) := by unfold daysF; rw [if_neg h]
theorem dateF_in {n : Int} (h : In n) : dateF n = (yrF n, moF n, dyF n, 0) := by unfold dateF; rw [if_pos h]
theorem dateF_not {n : Int} (h : ¬ In n) : dateF n = (0, 0, 0, 30) := by unfold dateF; rw [if_neg h]
theorem dateF_dn {y m d : Int} (h : Ok y m d) : dateF (dn y m d) = (y, m, d, 0) := by
  rw [dateF_in (dn_in h)]
  obtain ⟨h1, h2, h3⟩ := date_dn h
  rw [h1, h2, h3]
end Go.Proofs.YtnaaagaammimnaaGreatDoor.Civ
