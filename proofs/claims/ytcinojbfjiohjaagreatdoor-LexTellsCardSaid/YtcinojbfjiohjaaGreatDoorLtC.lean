/-
  Part 3 of what the row stands on, put together by a program: CivP, CivC, CivD, DatM, DatW, NameM, Shelf, DatS, DatT, DatR.
-/
import Derived.Lib.AtoiBound
import Derived.Lib.Bytealg
import Derived.Lib.ItoaLen
import Derived.Shelf.Bits.Mul64
import Derived.Shelf.LaysC
import Derived.Shelf.LaysM
import Derived.Shelf.Slices.Turned
import Derived.Shelf.Small.Strs
import Derived.Shelf.Small.Utf8
import Derived.Shelf.Small.Wraps
import Derived.Shelf.Strconv.Atoi
import Derived.Shelf.Strconv.AtoiAll
import Derived.Shelf.Strconv.AtoiErr
import Derived.Shelf.Strconv.AtoiErrFast
import Derived.Shelf.Strconv.AtoiFail
import Derived.Shelf.Strconv.AtoiInnerAll
import Derived.Shelf.Strconv.AtoiLong
import Derived.Shelf.Strconv.Clone
import Derived.Shelf.Strconv.ErrVar
import Derived.Shelf.Strconv.ErrVarAll
import Derived.Shelf.Strconv.ErrVarParseInt
import Derived.Shelf.Strconv.Itoa0
import Derived.Shelf.Strconv.Itoa1
import Derived.Shelf.Strconv.Itoa2
import Derived.Shelf.Strconv.Itoa3
import Derived.Shelf.Strconv.Itoa4
import Derived.Shelf.Strconv.Lower
import Derived.Shelf.Strconv.ParseInt10
import Derived.Shelf.Strconv.ParseInt10All
import Derived.Shelf.Strconv.ParseInt10At16
import Derived.Shelf.Strconv.ParseInt10At32
import Derived.Shelf.Strconv.ParseInt10At64
import Derived.Shelf.Strconv.ParseInt10At8
import Derived.Shelf.Strconv.ParseIntEmpty
import Derived.Shelf.Strconv.ParseIntPublic10
import Derived.Shelf.Strconv.ParseUint10
import Derived.Shelf.Strconv.ParseUint10Any
import Derived.Shelf.Strconv.ParseUint10At
import Derived.Shelf.Strconv.ParseUint10Empty
import Derived.Shelf.Strconv.ParseUint10b16
import Derived.Shelf.Strconv.ParseUint10b32
import Derived.Shelf.Strconv.ParseUint10b64
import Derived.Shelf.Strconv.ParseUint10b8
import Derived.Shelf.Strconv.ParseUintEmpty
import Derived.Shelf.Strconv.RangeError
import Derived.Shelf.Strconv.SyntaxError
import Derived.Shelf.Strconv.ToError
import Derived.Shelf.Strconv.ToErrorRange
import Derived.Shelf.Strings.AsciiSet
import Derived.Shelf.Strings.Builder1
import Derived.Shelf.Strings.Builder2
import Derived.Shelf.Strings.Builder2Cap
import Derived.Shelf.Strings.BuilderCap
import Derived.Shelf.Strings.BuilderF
import Derived.Shelf.Strings.BuilderK
import Derived.Shelf.Strings.BuilderRune
import Derived.Shelf.Strings.Count
import Derived.Shelf.Strings.Cut
import Derived.Shelf.Strings.Explode
import Derived.Shelf.Strings.Fields
import Derived.Shelf.Strings.FieldsAny
import Derived.Shelf.Strings.FieldsFuncAny
import Derived.Shelf.Strings.FieldsFuncGrows
import Derived.Shelf.Strings.OnBuilder
import Derived.Shelf.Strings.Prefix
import Derived.Shelf.Strings.Repeat
import Derived.Shelf.Strings.RuneCount
import Derived.Shelf.Strings.Runes
import Derived.Shelf.Strings.Search1
import Derived.Shelf.Strings.Search2
import Derived.Shelf.Strings.Search3
import Derived.Shelf.Strings.Shaped
import Derived.Shelf.Strings.SlTrimAscii
import Derived.Shelf.Strings.Split
import Derived.Shelf.Strings.SplitShaped
import Derived.Shelf.Strings.Trim
import Derived.Shelf.Unicode.Decode
import Derived.Shelf.Unicode.DecodeAny
import Derived.Shelf.Unicode.DecodeLast
import Derived.Shelf.Unicode.DecodeSlow
import Derived.Shelf.Unicode.ExclAny
import Derived.Shelf.Unicode.Is16Any
import Derived.Shelf.Unicode.Is16White
import Derived.Shelf.Unicode.Is16WhiteD
import Derived.Shelf.Unicode.Is32Any
import Derived.Shelf.Unicode.IsSpaceAny
import Derived.Shelf.Unicode.IsSpaceAnyD
import Derived.Shelf.Unicode.Latin
import Derived.Shelf.Utf8.AppendRune
import Derived.Shelf.Utf8.AppendRunePlain
import Derived.Shelf.Utf8.RuneCount
import Derived.Test.YtcinojbfjiohjaaGreatDoorProg
import Derived.WalkSmall
import Derived.WalkSpells
import Derived.Test.YtcinojbfjiohjaaGreatDoorLtB
section
namespace Go.Proofs.YtcinojbfjiohjaaGreatDoor.Civ
open Go Go.RowKit Go.Proofs.YtcinojbfjiohjaaGreatDoor.PPrintTells Go.Proofs.YtcinojbfjiohjaaGreatDoorW.PrintWords Go.Proofs.YtcinojbfjiohjaaGreatDoorW.PrintLast Go.Proofs.YtcinojbfjiohjaaGreatDoorW.PrintMore
set_option linter.unusedVariables false
set_option linter.unusedSimpArgs false
theorem w64 {x : Int} (h0 : -9223372036854775808 ≤ x) (h1 : x ≤ 9223372036854775807) : wrap64 x = x := by unfold wrap64; omega
theorem Leap_f (y : Int) : civil_Leap.f y = some (leap y) := by
  unfold civil_Leap.f leap
  rw [i64_and3, i64_and15]
  by_cases h4 : y % 4 = 0
  · rw [if_pos h4]
    by_cases h25 : Int.tmod y 25 = 0
    · rw [if_pos h25]
      rw [tmod_zero] at h25
      congr 1
      by_cases h16 : y % 16 = 0
      · rw [h16]
        symm
        simp only [beq_self_eq_true, decide_eq_true_eq]
        exact ⟨h4, by omega⟩
      · have : (y % 16 == 0) = false := beq_eq_false_iff_ne.2 h16
        rw [this]
        symm
        simp only [decide_eq_false_iff_not]
        omega
    · rw [if_neg h25]
      rw [tmod_zero] at h25
      congr 1
      symm
      simp only [decide_eq_true_eq]
      omega
  · rw [if_neg h4]
    congr 1
    symm
    simp only [decide_eq_false_iff_not]
    omega
theorem more_f (y m : Int) : civil_more.f y m = some (if 2 ≤ m then lp y else 0) := by
  unfold civil_more.f
  by_cases h : m ≥ 2
  · rw [if_pos h, if_pos h, Leap_f, lp_leap]
    simp only [Option.bind_some]
    split <;> rfl
  · rw [if_neg h, if_neg h]
theorem floor_f (a b : Int) (hb : 0 < b) (hb' : b < 4611686018427387904) (h0 : -4611686018427387904 ≤ a) (h1 : a ≤ 4611686018427387904) : civil_floor.f a b = some (a / b, a % b) := by
  unfold civil_floor.f
  have ht := tdiv_floor a b hb
  have h2 : Int.tmod a b < b := Int.tmod_lt_of_pos a hb
  have h3 : -b < Int.tmod a b := by
    have := Int.tmod_lt_of_pos (-a) hb
    rw [Int.neg_tmod] at this
    omega
  have hq : -4611686018427387904 ≤ Int.tdiv a b ∧ Int.tdiv a b ≤ 4611686018427387904 := by
    have h := Int.natAbs_tdiv_le_natAbs a b
    omega
  rw [if_neg (by omega)]
  by_cases h : Int.tmod a b < 0
  · rw [if_pos h, w64 (x := Int.tdiv a b) (by omega) (by omega), w64 (x := Int.tdiv a b - 1) (by omega) (by omega), w64 (x := Int.tmod a b + b) (by omega) (by omega), (ht.1 h).1, (ht.1 h).2]
  · rw [if_neg h, w64 (x := Int.tdiv a b) (by omega) (by omega), (ht.2 h).1, (ht.2 h).2]
theorem begins_f (y : Int) (h0 : -100000 ≤ y) (h1 : y ≤ 100000) : civil_begins.f y = some (beg y) := by
  unfold civil_begins.f
  rw [w64 (x := y - 1) (by omega) (by omega), floor_f _ 4 (by omega) (by omega) (by omega) (by omega), floor_f _ 100 (by omega) (by omega) (by omega) (by omega), floor_f _ 400 (by omega) (by omega) (by omega) (by omega)]
  simp only [Option.bind_some]
  rw [w64 (x := 365 * (y - 1)) (by omega) (by omega), w64 (x := 365 * (y - 1) + (y - 1) / 4) (by omega) (by omega), w64 (x := 365 * (y - 1) + (y - 1) / 4 - (y - 1) / 100) (by omega) (by omega), w64 (x := 365 * (y - 1) + (y - 1) / 4 - (y - 1) / 100 + (y - 1) / 400) (by omega) (by omega), w64 (x := 365 * (y - 1) + (y - 1) / 4 - (y - 1) / 100 + (y - 1) / 400 - 719162) (by omega) (by omega)]
  rfl
theorem mn_min (a b : Int) : mn a b = min a b := by unfold mn; omega
theorem year_f (n : Int) (h : In n) : civil_year.f n = some (yrF n) := by
  unfold In at h
  unfold civil_year.f
  have hl : 0 ≤ (n + 719162) % 146097 ∧ (n + 719162) % 146097 < 146097 := by omega
  rw [w64 (x := n + 719162) (by omega) (by omega), floor_f _ 146097 (by omega) (by omega) (by omega) (by omega)]
  simp only [Option.bind_some]
  unfold yrF
  have hc : -30 ≤ (n + 719162) / 146097 ∧ (n + 719162) / 146097 ≤ 30 := by omega
  generalize (n + 719162) % 146097 = l at *
  generalize (n + 719162) / 146097 = c at *
  rw [tdiv_pos l _ hl.1, mn_min, w64 (x := l / 36524) (by omega) (by omega)]
  have hh : 0 ≤ min (l / 36524) 3 ∧ min (l / 36524) 3 ≤ 3 ∧ 0 ≤ l - min (l / 36524) 3 * 36524 ∧ l - min (l / 36524) 3 * 36524 ≤ 36524 := by omega
  generalize min (l / 36524) 3 = h at *
  rw [w64 (x := h * 36524) (by omega) (by omega), w64 (x := l - h * 36524) (by omega) (by omega), tdiv_pos (l - h * 36524) _ hh.2.2.1, w64 (x := (l - h * 36524) / 1461) (by omega) (by omega)]
  have hf : 0 ≤ (l - h * 36524) / 1461 ∧ (l - h * 36524) / 1461 ≤ 25 ∧ 0 ≤ l - h * 36524 - (l - h * 36524) / 1461 * 1461 ∧ l - h * 36524 - (l - h * 36524) / 1461 * 1461 ≤ 1461 := by omega
  generalize (l - h * 36524) / 1461 = f at *
  rw [w64 (x := f * 1461) (by omega) (by omega), w64 (x := l - h * 36524 - f * 1461) (by omega) (by omega), tdiv_pos (l - h * 36524 - f * 1461) _ hf.2.2.1, mn_min, w64 (x := (l - h * 36524 - f * 1461) / 365) (by omega) (by omega)]
  have hg : 0 ≤ min ((l - h * 36524 - f * 1461) / 365) 3 ∧ min ((l - h * 36524 - f * 1461) / 365) 3 ≤ 3 := by omega
  generalize min ((l - h * 36524 - f * 1461) / 365) 3 = g at *
  rw [w64 (x := 400 * c) (by omega) (by omega), w64 (x := 1 + 400 * c) (by omega) (by omega), w64 (x := 100 * h) (by omega) (by omega), w64 (x := 1 + 400 * c + 100 * h) (by omega) (by omega), w64 (x := 4 * f) (by omega) (by omega), w64 (x := 1 + 400 * c + 100 * h + 4 * f) (by omega) (by omega), w64 (x := 1 + 400 * c + 100 * h + 4 * f + g) (by omega) (by omega)]
theorem tmod7 (n : Int) : -7 < Int.tmod n 7 ∧ Int.tmod n 7 < 7 ∧ (Int.tmod n 7 - n) % 7 = 0 := by
  have h1 := Int.mul_tdiv_add_tmod n 7
  have h2 : Int.tmod n 7 < 7 := Int.tmod_lt_of_pos n (by omega)
  have h3 : -7 < Int.tmod n 7 := by
    have := Int.tmod_lt_of_pos (-n) (show (0 : Int) < 7 by omega)
    rw [Int.neg_tmod] at this
    omega
  exact ⟨h3, h2, by omega⟩
theorem Weekday_f (n : Int) : civil_Weekday.f n = some (wdF n) := by
  have h := tmod7 n
  unfold civil_Weekday.f wdF
  generalize Int.tmod n 7 = t at *
  rw [w64 (x := t + 3) (by omega) (by omega), floor_f _ 7 (by omega) (by omega) (by omega) (by omega)]
  simp only [Option.bind_some]
  rw [w64 (x := (t + 3) % 7 + 1) (by omega) (by omega)]
  congr 1
  omega
theorem wdF_bd (n : Int) : 1 ≤ wdF n ∧ wdF n ≤ 7 := by unfold wdF; omega
theorem rLeap_f (y : Int) : epactref03_Leap.f y = some (leap y) := by
  unfold epactref03_Leap.f leap
  by_cases h400 : Int.tmod y 400 = 0
  · rw [if_pos h400]
    rw [tmod_zero] at h400
    congr 1
    symm
    simp only [decide_eq_true_eq]
    omega
  · rw [if_neg h400]
    rw [tmod_zero] at h400
    by_cases h4 : Int.tmod y 4 = 0
    · rw [if_pos h4]
      rw [tmod_zero] at h4
      congr 1
      by_cases h100 : Int.tmod y 100 = 0
      · have : (Int.tmod y 100 != 0) = false := bne_eq_false_iff_eq.2 h100
        rw [this]
        rw [tmod_zero] at h100
        symm
        simp only [decide_eq_false_iff_not]
        omega
      · have : (Int.tmod y 100 != 0) = true := bne_iff_ne.2 h100
        rw [this]
        rw [tmod_zero] at h100
        symm
        simp only [decide_eq_true_eq]
        exact ⟨h4, Or.inl h100⟩
    · rw [if_neg h4]
      rw [tmod_zero] at h4
      congr 1
      symm
      simp only [decide_eq_false_iff_not]
      omega
theorem rLength_f (k : Nat) (y m : Int) (hk : 1 ≤ k) : epactref03_Length.f k y m = some (len y m) := by
  obtain ⟨k, rfl⟩ : ∃ j, k = j + 1 := ⟨k - 1, by omega⟩
  unfold epactref03_Length.f
  simp only [epactref03_Length.j0, rLeap_f, Option.bind_some]
  rw [len_table, lp_leap]
  by_cases h2 : m = 2
  · rw [if_pos h2, if_pos h2]
    split <;> rfl
  · rw [if_neg h2, if_neg h2]
    by_cases h4 : m = 4 ∨ m = 6 ∨ m = 9 ∨ m = 11
    · rw [if_pos h4]
      rcases h4 with rfl | rfl | rfl | rfl <;> rfl
    · rw [if_neg h4]
      rw [if_neg (by omega), if_neg (by omega), if_neg (by omega)]
      have : (m == 11) = false := beq_eq_false_iff_ne.2 (by omega)
      rw [this, if_neg (by decide)]
      by_cases h1 : m = 1 ∨ m = 3 ∨ m = 5 ∨ m = 7 ∨ m = 8 ∨ m = 10 ∨ m = 12
      · rw [if_pos h1]
        rcases h1 with rfl | rfl | rfl | rfl | rfl | rfl | rfl <;> rfl
      · rw [if_neg h1]
        repeat rw [if_neg (by omega)]
theorem whole_f (y : Int) : epactref03_whole.f y = some (365 + lp y) := by
  unfold epactref03_whole.f
  rw [rLeap_f, lp_leap]
  simp only [Option.bind_some]
  split <;> rfl
/-- The loops of the document's begin keep 'the number of year x4 is x3'. -/
theorem begin_l3 (d : Nat) : ∀ (k : Nat) (y n x : Int), x - y = d → -200000 ≤ y → x ≤ 200000 → n = beg x → d < k → epactref03_begin.l3 k y n x = some (beg y) := by
  induction d with
  | zero =>
    intro k y n x hd h0 h1 hn hk
    obtain ⟨k, rfl⟩ : ∃ m, k = m + 1 := ⟨k - 1, by omega⟩
    simp only [epactref03_begin.l3]
    rw [if_neg (by omega), hn, show x = y by omega]
  | succ d ih =>
    intro k y n x hd h0 h1 hn hk
    obtain ⟨k, rfl⟩ : ∃ m, k = m + 1 := ⟨k - 1, by omega⟩
    simp only [epactref03_begin.l3]
    have hs := beg_succ (x - 1)
    have hl := lp_bd (x - 1)
    have hb := beg_mono (show -200000 ≤ x - 1 by omega)
    have hb' := beg_mono (show x - 1 ≤ 200000 by omega)
    have e1 : beg (-200000) = -73768028 := by decide
    have e2 : beg 200000 = 72328972 := by decide
    rw [show x - 1 + 1 = x by omega] at hs
    rw [if_pos (by omega), w64 (x := x - 1) (by omega) (by omega), whole_f]
    simp only [Option.bind_some]
    rw [w64 (x := n - (365 + lp (x - 1))) (by omega) (by omega)]
    exact ih k y _ (x - 1) (by omega) h0 (by omega) (by omega) (by omega)
theorem begin_l2 (d : Nat) : ∀ (k : Nat) (y n x : Int), y - x = d → -200000 ≤ x → y ≤ 200000 → n = beg x → d + 1 < k → epactref03_begin.l2 k y n x = some (beg y) := by
  induction d with
  | zero =>
    intro k y n x hd h0 h1 hn hk
    obtain ⟨k, rfl⟩ : ∃ m, k = m + 1 := ⟨k - 1, by omega⟩
    simp only [epactref03_begin.l2]
    rw [if_neg (by omega)]
    exact begin_l3 0 k y n x (by omega) (by omega) (by omega) hn (by omega)
  | succ d ih =>
    intro k y n x hd h0 h1 hn hk
    obtain ⟨k, rfl⟩ : ∃ m, k = m + 1 := ⟨k - 1, by omega⟩
    simp only [epactref03_begin.l2]
    have hs := beg_succ x
    have hl := lp_bd x
    have hb := beg_mono (show -200000 ≤ x by omega)
    have hb' := beg_mono (show x ≤ 200000 by omega)
    have e1 : beg (-200000) = -73768028 := by decide
    have e2 : beg 200000 = 72328972 := by decide
    rw [if_pos (by omega), w64 (x := x + 1) (by omega) (by omega), whole_f]
    simp only [Option.bind_some]
    rw [w64 (x := n + (365 + lp x)) (by omega) (by omega)]
    exact ih k y _ (x + 1) (by omega) (by omega) h1 (by omega) (by omega)
theorem begin_low (k : Nat) (y n x : Int) (hyx : x - 400 < y) (h0 : -100000 ≤ y) (h1 : y ≤ 100000) (hx : -100000 ≤ x) (hx' : x ≤ 100000) (hn : n = beg x) (hk : 200010 < k) : epactref03_begin.l2 k y n x = some (beg y) := by
  by_cases h : x ≤ y
  · exact begin_l2 (y - x).toNat k y n x (by omega) (by omega) (by omega) hn (by omega)
  · obtain ⟨k, rfl⟩ : ∃ m, k = m + 1 := ⟨k - 1, by omega⟩
    simp only [epactref03_begin.l2]
    rw [if_neg (by omega)]
    exact begin_l3 (x - y).toNat k y n x (by omega) (by omega) (by omega) hn (by omega)
theorem begin_l1 (d : Nat) : ∀ (k : Nat) (y n x : Int), x - y ≤ d → -100000 ≤ y → y ≤ 100000 → -100000 ≤ x → x ≤ 100000 → n = beg x → d + 200020 < k → epactref03_begin.l1 k y n x = some (beg y) := by
  induction d with
  | zero =>
    intro k y n x hd h0 h1 hx hx' hn hk
    obtain ⟨k, rfl⟩ : ∃ m, k = m + 1 := ⟨k - 1, by omega⟩
    simp only [epactref03_begin.l1]
    rw [w64 (x := x - 400) (by omega) (by omega), if_neg (by omega)]
    exact begin_low k y n x (by omega) h0 h1 hx hx' hn (by omega)
  | succ d ih =>
    intro k y n x hd h0 h1 hx hx' hn hk
    obtain ⟨k, rfl⟩ : ∃ m, k = m + 1 := ⟨k - 1, by omega⟩
    simp only [epactref03_begin.l1]
    rw [w64 (x := x - 400) (by omega) (by omega)]
    by_cases h : x - 400 ≥ y
    · have hs := beg_400 (x - 400)
      have hb := beg_mono (show -200000 ≤ x by omega)
      have hb' := beg_mono (show x ≤ 200000 by omega)
      have e1 : beg (-200000) = -73768028 := by decide
      have e2 : beg 200000 = 72328972 := by decide
      rw [show x - 400 + 400 = x by omega] at hs
      rw [if_pos h, w64 (x := n - 146097) (by omega) (by omega)]
      exact ih k y _ (x - 400) (by omega) h0 h1 (by omega) (by omega) (by omega) (by omega)
    · rw [if_neg h]
      exact begin_low k y n x (by omega) h0 h1 hx hx' hn (by omega)
theorem begin_l0 (d : Nat) : ∀ (k : Nat) (y n x : Int), y - x ≤ d → -90000 ≤ y → y ≤ 90000 → -90000 ≤ x → x ≤ 90000 → n = beg x → d + 400040 < k → epactref03_begin.l0 k y n x = some (beg y) := by
  induction d with
  | zero =>
    intro k y n x hd h0 h1 hx hx' hn hk
    obtain ⟨k, rfl⟩ : ∃ m, k = m + 1 := ⟨k - 1, by omega⟩
    simp only [epactref03_begin.l0]
    rw [w64 (x := x + 400) (by omega) (by omega), if_neg (by omega)]
    exact begin_l1 200000 k y n x (by omega) (by omega) (by omega) (by omega) (by omega) hn (by omega)
  | succ d ih =>
    intro k y n x hd h0 h1 hx hx' hn hk
    obtain ⟨k, rfl⟩ : ∃ m, k = m + 1 := ⟨k - 1, by omega⟩
    simp only [epactref03_begin.l0]
    rw [w64 (x := x + 400) (by omega) (by omega)]
    by_cases h : x + 400 ≤ y
    · have hs := beg_400 x
      have hb := beg_mono (show -200000 ≤ x by omega)
      have hb' := beg_mono (show x ≤ 200000 by omega)
      have e1 : beg (-200000) = -73768028 := by decide
      have e2 : beg 200000 = 72328972 := by decide
      rw [if_pos h, w64 (x := n + 146097) (by omega) (by omega)]
      exact ih k y _ (x + 400) (by omega) h0 h1 (by omega) (by omega) (by omega) (by omega)
    · rw [if_neg h]
      exact begin_l1 200000 k y n x (by omega) (by omega) (by omega) (by omega) (by omega) hn (by omega)
theorem begin_f (k : Nat) (y : Int) (h0 : -80000 ≤ y) (h1 : y ≤ 80000) (hk : 600000 < k) : epactref03_begin.f k y = some (beg y) := by
  unfold epactref03_begin.f
  exact begin_l0 100000 k y 0 1970 (by omega) (by omega) (by omega) (by omega) (by omega) (by decide) (by omega)
theorem rDays_l0 (y m d : Int) (hm : m ≤ 12) (hd : -1000 ≤ d) (hd' : d ≤ 1000) (hy : -20000 ≤ y) (hy' : y ≤ 20000) (j : Nat) : ∀ (k : Nat) (x i : Int), m - i = j → 1 ≤ i → x = beg y + upto y (i - 1) → j + 10 < k → epactref03_Days.l0 k y m d x i = some (beg y + upto y (m - 1) + d - 1, 0) := by
  have hb := beg_mono (show -200000 ≤ y by omega)
  have hb' := beg_mono (show y ≤ 200000 by omega)
  have e1 : beg (-200000) = -73768028 := by decide
  have e2 : beg 200000 = 72328972 := by decide
  induction j with
  | zero =>
    intro k x i hj hi hx hk
    obtain ⟨k, rfl⟩ : ∃ m, k = m + 1 := ⟨k - 1, by omega⟩
    simp only [epactref03_Days.l0]
    obtain rfl : i = m := by omega
    have hu := upto_bd y (i - 1)
    rw [if_neg (by omega), hx, w64 (x := beg y + upto y (i - 1) + d) (by omega) (by omega), w64 (x := beg y + upto y (i - 1) + d - 1) (by omega) (by omega)]
  | succ j ih =>
    intro k x i hj hi hx hk
    obtain ⟨k, rfl⟩ : ∃ m, k = m + 1 := ⟨k - 1, by omega⟩
    simp only [epactref03_Days.l0]
    have hu := upto_bd y (i - 1)
    have hu' := upto_bd y i
    have hl := len_eq y i hi (by omega)
    rw [if_pos (by omega), rLength_f k y i (by omega)]
    simp only [Option.bind_some]
    rw [w64 (x := i + 1) (by omega) (by omega), w64 (x := x + len y i) (by omega) (by omega)]
    refine ih k _ (i + 1) (by omega) (by omega) ?_ (by omega)
    rw [show i + 1 - 1 = i by omega]
    omega
theorem rDays_f (k : Nat) (y m d : Int) (hk : 700000 < k) : epactref03_Days.f k y m d = some (daysF y m d) := by
  obtain ⟨k, rfl⟩ : ∃ m, k = m + 1 := ⟨k - 1, by omega⟩
  have hbad : epactref03_Days.j0 (k + 1) y m d true = some (0, 30) := by simp only [epactref03_Days.j0, if_true]
  unfold epactref03_Days.f
  by_cases h1 : y < -9999
  · rw [if_pos h1, hbad, daysF_not (fun h => by have := h.1; omega)]
  rw [if_neg h1]
  by_cases h2 : y > 9999
  · rw [if_pos h2, hbad, daysF_not (fun h => by have := h.2.1; omega)]
  rw [if_neg h2]
  by_cases h3 : d < 1
  · rw [if_pos h3, hbad, daysF_not (fun h => by have := h.2.2.2.2.1; omega)]
  rw [if_neg h3, rLength_f _ y m (by omega)]
  simp only [Option.bind_some]
  by_cases h4 : d > len y m
  · rw [decide_eq_true h4, hbad, daysF_not (fun h => by have := h.2.2.2.2.2; omega)]
  · rw [decide_eq_false h4]
    have hle := len_le y m
    have hm : 1 ≤ m ∧ m ≤ 12 := by
      apply Decidable.byContradiction
      intro hn
      have := len_out y m hn
      omega
    simp only [epactref03_Days.j0]
    rw [if_neg (by decide), begin_f k y (by omega) (by omega) (by omega)]
    simp only [Option.bind_some]
    rw [rDays_l0 y m d hm.2 (by omega) (by omega) (by omega) (by omega) (m - 1).toNat k (beg y) 1 (by omega) (by omega) (by rw [show (1 : Int) - 1 = 0 from rfl, upto_0]; omega) (by omega)]
    rw [daysF_ok ⟨by omega, by omega, hm.1, hm.2, by omega, by omega⟩]
    rfl
theorem rDate_l1 (y l : Int) (h0 : 0 ≤ l) (h1 : l < upto y 12) (j : Nat) : ∀ (k : Nat) (x i : Int), 12 - i = j → 1 ≤ i → x = l - upto y (i - 1) → 0 ≤ x → j + 10 < k → epactref03_Date.l1 k y x i = some (y, monOf y l, l - upto y (monOf y l - 1) + 1, 0) := by
  have hu12 := upto_bd y 12
  obtain ⟨m1, m2, m3, m4⟩ := monOf_spec y l h0 h1
  have fin : ∀ (k : Nat) (x i : Int), 1 ≤ i → i ≤ 12 → x = l - upto y (i - 1) → 0 ≤ x → x < len y i → 10 < k → epactref03_Date.l1 k y x i = some (y, monOf y l, l - upto y (monOf y l - 1) + 1, 0) := by
    intro k x i hi hi' hx hx0 hlt hk
    obtain ⟨k, rfl⟩ : ∃ m, k = m + 1 := ⟨k - 1, by omega⟩
    simp only [epactref03_Date.l1]
    have hl := len_eq y i hi hi'
    have hu := upto_bd y (i - 1)
    have : i = monOf y l := mon_unique hi hi' m1 m2 (by omega) (by omega) m3 m4
    rw [rLength_f k y i (by omega)]
    simp only [Option.bind_some]
    rw [if_neg (by omega), w64 (x := x + 1) (by omega) (by omega), hx, this]
  induction j with
  | zero =>
    intro k x i hj hi hx hx0 hk
    obtain rfl : i = 12 := by omega
    have hl := len_eq y 12 hi (by omega)
    exact fin k x 12 hi (by omega) hx hx0 (by omega) (by omega)
  | succ j ih =>
    intro k x i hj hi hx hx0 hk
    have hl := len_eq y i hi (by omega)
    have hu := upto_bd y (i - 1)
    have hle := len_le y i
    by_cases hlt : x < len y i
    · exact fin k x i hi (by omega) hx hx0 hlt (by omega)
    · obtain ⟨k, rfl⟩ : ∃ m, k = m + 1 := ⟨k - 1, by omega⟩
      simp only [epactref03_Date.l1]
      rw [rLength_f k y i (by omega)]
      simp only [Option.bind_some]
      rw [if_pos (by omega), w64 (x := i + 1) (by omega) (by omega), w64 (x := x - len y i) (by omega) (by omega)]
      refine ih k _ (i + 1) (by omega) (by omega) ?_ (by omega) (by omega)
      rw [show i + 1 - 1 = i by omega]
      omega
theorem rDate_l0 (n : Int) (h : In n) (j : Nat) : ∀ (k : Nat) (lo hi : Int), hi - lo ≤ j → -9999 ≤ lo → lo ≤ hi → hi ≤ 9999 → beg lo ≤ n → n < beg (hi + 1) → j + 700000 < k → epactref03_Date.l0 k n lo hi = some (dateF n) := by
  have fin : ∀ (k : Nat) (lo : Int), -9999 ≤ lo → lo ≤ 9999 → beg lo ≤ n → n < beg (lo + 1) → 700000 < k → epactref03_Date.l0 k n lo lo = some (dateF n) := by
    intro k lo a b h1 h2 hk
    obtain ⟨k, rfl⟩ : ∃ m, k = m + 1 := ⟨k - 1, by omega⟩
    have hs := yrF_spec n
    have hy := yr_unique h1 h2 hs.1 hs.2
    have hl := left_bd n
    have hu := upto_bd (yrF n) 12
    simp only [epactref03_Date.l0]
    rw [if_neg (by omega), begin_f k lo (by omega) (by omega) (by omega)]
    simp only [Option.bind_some]
    subst hy
    rw [w64 (x := n - beg (yrF n)) (by omega) (by omega)]
    rw [rDate_l1 (yrF n) (n - beg (yrF n)) hl.1 hl.2 11 k _ 1 (by omega) (by omega) (by rw [show (1 : Int) - 1 = 0 from rfl, upto_0]; omega) (by omega) (by omega), dateF_in h]
    rfl
  induction j with
  | zero =>
    intro k lo hi hj a b c h1 h2 hk
    obtain rfl : lo = hi := by omega
    exact fin k lo a c h1 h2 (by omega)
  | succ j ih =>
    intro k lo hi hj a b c h1 h2 hk
    by_cases e : lo = hi
    · subst e
      exact fin k lo a c h1 h2 (by omega)
    · obtain ⟨k, rfl⟩ : ∃ m, k = m + 1 := ⟨k - 1, by omega⟩
      simp only [epactref03_Date.l0]
      rw [if_pos (by omega), w64 (x := hi - lo) (by omega) (by omega), w64 (x := hi - lo + 1) (by omega) (by omega), tdiv_pos _ 2 (by omega), w64 (x := (hi - lo + 1) / 2) (by omega) (by omega), w64 (x := lo + (hi - lo + 1) / 2) (by omega) (by omega), begin_f k _ (by omega) (by omega) (by omega)]
      simp only [Option.bind_some]
      by_cases hb : beg (lo + (hi - lo + 1) / 2) ≤ n
      · rw [if_pos hb]
        exact ih k _ hi (by omega) (by omega) (by omega) c hb h2 (by omega)
      · rw [if_neg hb, w64 (x := lo + (hi - lo + 1) / 2 - 1) (by omega) (by omega)]
        refine ih k lo _ (by omega) a (by omega) (by omega) h1 ?_ (by omega)
        rw [show lo + (hi - lo + 1) / 2 - 1 + 1 = lo + (hi - lo + 1) / 2 by omega]
        omega
theorem rDate_f (k : Nat) (n : Int) (hk : 800000 < k) : epactref03_Date.f k n = some (dateF n) := by
  obtain ⟨k, rfl⟩ : ∃ m, k = m + 1 := ⟨k - 1, by omega⟩
  have hbad : epactref03_Date.j0 (k + 1) n true = some (0, 0, 0, 30) := by simp only [epactref03_Date.j0, if_true]
  unfold epactref03_Date.f
  rw [begin_f _ (-9999) (by omega) (by omega) (by omega), begin_f _ 10000 (by omega) (by omega) (by omega)]
  simp only [Option.bind_some]
  have h1 := beg_min
  have h2 := beg_max
  by_cases hlo : n < beg (-9999)
  · rw [if_pos hlo, hbad, dateF_not (fun h => by have := h.1; omega)]
  · rw [if_neg hlo]
    by_cases hhi : n ≥ beg 10000
    · rw [decide_eq_true hhi, hbad, dateF_not (fun h => by have := h.2; omega)]
    · rw [decide_eq_false hhi]
      simp only [epactref03_Date.j0]
      rw [if_neg (by decide)]
      exact rDate_l0 n ⟨by omega, by omega⟩ 20000 k (-9999) 9999 (by omega) (by omega) (by omega) (by omega) (by omega) (by rw [show (9999 : Int) + 1 = 10000 from rfl]; omega) (by omega)
theorem rWeekday_f (n : Int) : epactref03_Weekday.f n = some (wdF n) := by
  have h := tmod7 n
  unfold epactref03_Weekday.f wdF
  generalize Int.tmod n 7 = t at *
  by_cases hneg : t < 0
  · rw [if_pos hneg, w64 (x := t + 7) (by omega) (by omega), w64 (x := t + 7 + 3) (by omega) (by omega), tmod_pos _ 7 (by omega), w64 (x := (t + 7 + 3) % 7 + 1) (by omega) (by omega)]
    congr 1
    omega
  · rw [if_neg hneg, w64 (x := t + 3) (by omega) (by omega), tmod_pos _ 7 (by omega), w64 (x := (t + 3) % 7 + 1) (by omega) (by omega)]
    congr 1
    omega
end Go.Proofs.YtcinojbfjiohjaaGreatDoor.Civ
end

section
namespace Go.Proofs.YtcinojbfjiohjaaGreatDoor.Civ
open Go Go.RowKit Go.Proofs.YtcinojbfjiohjaaGreatDoor.PPrintTells Go.Proofs.YtcinojbfjiohjaaGreatDoorW.PrintWords Go.Proofs.YtcinojbfjiohjaaGreatDoorW.PrintLast Go.Proofs.YtcinojbfjiohjaaGreatDoorW.PrintMore
set_option linter.unusedVariables false
set_option linter.unusedSimpArgs false
/-- The table of months lies in memory as the program's text lays it. -/
structure Months (w : World) : Prop where mk :: (out : ∀ i : Nat, i < 13 → w.cell? ⟨4, i, none⟩ = some (.int .i64 (tab i)))
theorem Months.cell {w : World} (h : Months w) {m : Int} (h0 : 0 ≤ m) (h1 : m ≤ 12) : w.cell? ⟨4, m.toNat, none⟩ = some (.int .i64 (tab m)) := by
  have := h.out m.toNat (by omega)
  rw [show ((m.toNat : Nat) : Int) = m by omega] at this
  exact this
theorem Months.below {w w' : World} (h : Months w) (hb : Below w.heap.size w w') : Months w' :=
  ⟨fun i hi => by
    have hc := h.out i hi
    exact (hb.cell (World.block_lt_of_cell? w _ hc)).trans hc⟩
theorem Months.drawn {w w' : World} (h : Months w) (hb : Drawn0 w w') : Months w' := h.below hb.below
set_option maxHeartbeats 1000000 in
theorem upto_calls (y m : Int) (w : World) (hM : Months w) (h0 : 0 ≤ m) (h1 : m ≤ 12) :
    Calls Tryz.prog 180 #[.int .i64 y, .int .i64 m] w fun e w' => e = .returned (.int .i64 (upto y m)) ∧ Drawn0 w w' := by
  have hc := hM.cell h0 h1
  have ht := tab_bd m
  have hlp := lp_bd y
  have hr : 0 ≤ (if 2 ≤ m then lp y else 0) ∧ (if 2 ≤ m then lp y else 0) ≤ 1 := by split <;> omega
  have hmore := Aside0.mk (more_f y m)
  have hu : upto y m = tab m + (if 2 ≤ m then lp y else 0) := rfl
  rw [hu]
  clear hu
  generalize (if 2 ≤ m then lp y else 0) = r at *
  generalize tab m = t at *
  have hl : m < 13 := by omega
  go_enter Tryz.func180, Tryz.ntmps180
  go_wp2
  go_quiet ((go_at_call 211; exact Calls.quiet_of ((civil_more.calls y m r _ hmore.out).mono fun _ _ ⟨he, hd⟩ => ⟨he, hd.out⟩)))
  go_wp2
  go_ret
  exact ⟨rfl, by repeat (first | exact Drawn0.refl _ | apply Drawn0.step)⟩
theorem cell_new (W : World) (v : Value) (t : TypeId) : (W.alloc (.cells #[v] t)).cell? ⟨W.heap.size, 0, none⟩ = some v := by
  rw [World.cell?_alloc_at _ _ _ _ (by simp)]; rfl
theorem cell_new_at (W : World) (v : Value) (t : TypeId) (k : Nat) (hk : k = W.heap.size) : (W.alloc (.cells #[v] t)).cell? ⟨k, 0, none⟩ = some v := by
  rw [World.cell?_alloc_at _ _ _ _ hk]; rfl
theorem cell_kept {W : World} {a : Addr} {v : Value} (o : Obj) (h : W.cell? a = some v) : (W.alloc o).cell? a = some v := cell_later (Below.alloc (Below.refl _ _) (Nat.le_refl _) _) h
theorem Months.a {w : World} (h : Months w) (o : Obj) : Months (w.alloc o) := h.below (Below.alloc (Below.refl _ _) (Nat.le_refl _) _)
theorem Months.d {w : World} (h : Months w) (n : Nat) : Months (w.drewN n) := ⟨fun i hi => h.out i hi⟩
set_option maxHeartbeats 1000000 in
theorem Length_calls (y m : Int) (w : World) (hM : Months w) :
    Calls Tryz.prog 217 #[.int .i64 y, .int .i64 m] w fun e w' => e = .returned (.int .i64 (len y m)) ∧ Drawn0 w w' := by
  have b1 := upto_bd y m
  have b2 := upto_bd y (m - 1)
  by_cases h1 : m < 1
  · rw [len_out y m (by omega)]
    go_enter Tryz.func217, Tryz.ntmps217
    go_wp2
    go_ret
    exact ⟨rfl, by repeat (first | exact Drawn0.refl _ | apply Drawn0.step)⟩
  by_cases h2 : 12 < m
  · rw [len_out y m (by omega)]
    go_enter Tryz.func217, Tryz.ntmps217
    go_wp2
    go_ret
    exact ⟨rfl, by repeat (first | exact Drawn0.refl _ | apply Drawn0.step)⟩
  rw [len_eq y m (by omega) (by omega)]
  have h0 : 0 ≤ m := by omega
  have c1 := upto_calls y m w hM (by omega) (by omega)
  have c2 : ∀ n, _ := fun n => upto_calls y (m - 1) (w.drewN n) (hM.d n) (by omega) (by omega)
  have C1 := Aside0.mk c1
  have C2 := Aside0.mk c2
  clear c1 c2
  generalize upto y m = u at *
  generalize upto y (m - 1) = v at *
  go_enter Tryz.func217, Tryz.ntmps217
  go_wp2_with fail
  (with_reducible refine C1.out.mono ?_)
  rintro e w' ⟨rfl, ⟨n, rfl⟩⟩
  go_wp2_with fail
  (with_reducible refine (C2.out _).mono ?_)
  rintro e w' ⟨rfl, ⟨n, rfl⟩⟩
  go_wp2
  go_ret
  exact ⟨rfl, by repeat (first | exact Drawn0.refl _ | apply Drawn0.step)⟩
set_option maxHeartbeats 2000000 in
theorem Days_calls (y m d : Int) (w : World) (hM : Months w) (hd : d ≤ 9223372036854775807) (hm : -9223372036854775808 ≤ m) :
    Calls Tryz.prog 192 #[.int .i64 y, .int .i64 m, .int .i64 d] w fun e w' => e = .returned (.tuple #[.int .i64 (daysF y m d).1, .int .i64 (daysF y m d).2]) ∧ Drawn0 w w' := by
  have CL := Aside0.mk (Length_calls y m w hM)
  have hle := len_le y m
  by_cases h1 : y < -9999
  · rw [daysF_not (fun h => by have := h.1; omega)]
    clear hle
    go_enter Tryz.func192, Tryz.ntmps192
    go_wp2
    go_ret2
    exact ⟨rfl, Drawn0.refl _⟩
  by_cases h2 : 9999 < y
  · rw [daysF_not (fun h => by have := h.2.1; omega)]
    clear hle
    go_enter Tryz.func192, Tryz.ntmps192
    go_wp2
    go_ret2
    exact ⟨rfl, Drawn0.refl _⟩
  by_cases h3 : d < 1
  · rw [daysF_not (fun h => by have := h.2.2.2.2.1; omega)]
    clear hle
    go_enter Tryz.func192, Tryz.ntmps192
    go_wp2
    go_ret2
    exact ⟨rfl, Drawn0.refl _⟩
  by_cases h4 : len y m < d
  · rw [daysF_not (fun h => by have := h.2.2.2.2.2; omega)]
    generalize len y m = l at *
    go_enter Tryz.func192, Tryz.ntmps192
    go_wp2_with fail
    (with_reducible refine CL.out.mono ?_)
    rintro e w' ⟨rfl, ⟨n, rfl⟩⟩
    go_wp2
    go_ret2
    exact ⟨rfl, by repeat (first | exact Drawn0.refl _ | apply Drawn0.step)⟩
  have hmm : 1 ≤ m ∧ m ≤ 12 := by
    apply Decidable.byContradiction
    intro hn
    have := len_out y m hn
    omega
  rw [daysF_ok ⟨by omega, by omega, hmm.1, hmm.2, by omega, by omega⟩]
  have hb := beg_mono (show -200000 ≤ y by omega)
  have hb' := beg_mono (show y ≤ 200000 by omega)
  have e1 : beg (-200000) = -73768028 := by decide
  have e2 : beg 200000 = 72328972 := by decide
  have hB : -80000000 ≤ beg y ∧ beg y ≤ 80000000 := by omega
  clear hb hb' e1 e2
  have hU := upto_bd y (m - 1)
  have CB := Aside0.mk (fun n => civil_begins.calls y (beg y) (w.drewN n) (begins_f y (by omega) (by omega)))
  have CU := Aside0.mk (fun n => upto_calls y (m - 1) (w.drewN n) (hM.d n) (by omega) (by omega))
  have hdn : dn y m d = beg y + (upto y (m - 1) + d - 1) := by unfold dn; omega
  rw [hdn]
  clear hdn
  generalize len y m = l at *
  generalize upto y (m - 1) = u at *
  generalize beg y = b at *
  obtain ⟨hm1, hm2⟩ := hmm
  go_enter Tryz.func192, Tryz.ntmps192
  go_wp2_with fail
  (with_reducible refine CL.out.mono ?_)
  rintro e w' ⟨rfl, ⟨n, rfl⟩⟩
  go_wp2_with fail
  (with_reducible refine (CB.out _).mono ?_)
  rintro e w' ⟨rfl, ⟨n, rfl⟩⟩
  go_wp2_with fail
  (with_reducible refine (CU.out _).mono ?_)
  rintro e w' ⟨rfl, ⟨n, rfl⟩⟩
  go_wp2
  go_ret2
  exact ⟨rfl, by repeat (first | exact Drawn0.refl _ | apply Drawn0.step)⟩
/-- The closure of Date: are the months up to m + 1 more days than are left? -/
theorem Date1_calls (y m l : Int) (a b : Addr) (w : World) (hM : Months w) (h0 : 0 ≤ m) (h1 : m ≤ 11) (ha : w.cell? a = some (.int .i64 y)) (hb : w.cell? b = some (.int .i64 l)) :
    Calls Tryz.prog 179 #[.int .i64 m, .pointer (some a), .pointer (some b)] w fun e w' => e = .returned (.bool (decide (l < upto y (m + 1)))) ∧ Drawn0 w w' := by
  have CU := Aside0.mk (fun n => upto_calls y (m + 1) (w.drewN n) (hM.d n) (by omega) (by omega))
  generalize upto y (m + 1) = u at *
  go_enter Tryz.func179, Tryz.ntmps179
  go_wp2
  go_quiet ((go_at_call 180; exact Calls.quiet_of ((CU.out _).mono fun _ _ ⟨he, hd⟩ => ⟨he, hd.out⟩)))
  go_wp2
  go_ret
  exact ⟨rfl, by repeat (first | exact Drawn0.refl _ | apply Drawn0.step)⟩
set_option maxHeartbeats 2000000 in
/-- sort.Search over the months, by that closure. -/
theorem Search_calls (y l : Int) (a b : Addr) (w : World) (hM : Months w) (h0 : 0 ≤ l) (h1 : l < upto y 12) (ha : w.cell? a = some (.int .i64 y)) (hb : w.cell? b = some (.int .i64 l)) :
    Calls Tryz.prog 178 #[.int .i64 12, .func (.func 179) #[] #[.pointer (some a), .pointer (some b)]] w fun e w' => e = .returned (.int .i64 (monOf y l - 1)) ∧ Drawn0 w w' := by
  go_enter Tryz.func178, Tryz.ntmps178
  go_wp2
  go_loopw [5, 6] (fun i j wr => ∃ p q : Int, i = .int .i64 p ∧ j = .int .i64 q ∧ 0 ≤ p ∧ p ≤ q ∧ q ≤ 12 ∧ upto y p ≤ l ∧ (q < 12 → l < upto y (q + 1)) ∧ Drawn0 w wr) (fun i j _ => (intOf j - intOf i).toNat)
  case atStart => exact ⟨0, 12, rfl, rfl, by omega, by omega, by omega, by rw [upto_0]; omega, by omega, Drawn0.refl _⟩
  case round =>
    obtain ⟨p, q, rfl, rfl, h2, h3, h4, h5, h6, hw⟩ := hrel
    obtain ⟨⟨n, rfl⟩⟩ := hw
    by_cases hpq : p < q
    · have CD := Aside0.mk (fun (n : Nat) => Date1_calls y ((p + q) / 2) l a b (w.drewN n) (hM.d n) (by omega) (by omega) ha hb)
      have hm2 : 0 ≤ (p + q) / 2 ∧ p ≤ (p + q) / 2 ∧ (p + q) / 2 < q := by omega
      by_cases ht : l < upto y ((p + q) / 2 + 1)
      · have hd : decide (l < upto y ((p + q) / 2 + 1)) = true := decide_eq_true ht
        rw [hd] at CD
        clear hd
        go_wp2_with fail
        (with_reducible refine (CD.out _).mono ?_)
        rintro e w' ⟨rfl, ⟨n, rfl⟩⟩
        go_wp2
        go_roundw
        case rel => exact ⟨p, (p + q) / 2, rfl, rfl, h2, hm2.2.1, by omega, h5, fun _ => ht, by repeat (first | exact Drawn0.refl _ | apply Drawn0.step)⟩
        case measure => simp [intOf]; omega
      · have hd : decide (l < upto y ((p + q) / 2 + 1)) = false := decide_eq_false ht
        rw [hd] at CD
        clear hd
        go_wp2_with fail
        (with_reducible refine (CD.out _).mono ?_)
        rintro e w' ⟨rfl, ⟨n, rfl⟩⟩
        go_wp2
        go_roundw
        case rel => exact ⟨(p + q) / 2 + 1, q, rfl, rfl, by omega, by omega, h4, by omega, h6, by repeat (first | exact Drawn0.refl _ | apply Drawn0.step)⟩
        case measure => simp [intOf]; omega
    · have hp12 : p < 12 := by
        apply Decidable.byContradiction
        intro hn
        obtain rfl : p = 12 := by omega
        omega
      obtain rfl : p = q := by omega
      have hm := monOf_spec y l h0 h1
      have hl := h6 hp12
      have hfin : monOf y l - 1 = p := by
        have := mon_unique (y := y) (l := l) (a := p + 1) (b := monOf y l) (by omega) (by omega) hm.1 hm.2.1 (by rw [show p + 1 - 1 = p by omega]; exact h5) hl hm.2.2.1 hm.2.2.2
        omega
      have HF := Aside0.mk hfin
      clear hfin hm hl
      go_wp2
      go_ret
      exact ⟨by rw [HF.out]; rfl, by repeat (first | exact Drawn0.refl _ | apply Drawn0.step)⟩
set_option maxHeartbeats 2000000 in
theorem Date_calls (n : Int) (w : World) (hM : Months w) :
    Calls Tryz.prog 147 #[.int .i64 n] w fun e w' => e = .returned (.tuple #[.int .i64 (dateF n).1, .int .i64 (dateF n).2.1, .int .i64 (dateF n).2.2.1, .int .i64 (dateF n).2.2.2]) ∧ Below w.heap.size w w' := by
  by_cases h1 : n < -4371587
  · rw [dateF_not (fun h => by have := h.1; omega)]
    go_enter Tryz.func147, Tryz.ntmps147
    go_wp2
    refine bodyPost_ret (v := .tuple #[.int .i64 0, .int .i64 0, .int .i64 0, .int .i64 30]) (by simp [results, Tryz.results147, go_sem]) rfl ⟨rfl, Below.refl _ _⟩
  by_cases h2 : 2932896 < n
  · rw [dateF_not (fun h => by have := h.2; omega)]
    go_enter Tryz.func147, Tryz.ntmps147
    go_wp2
    refine bodyPost_ret (v := .tuple #[.int .i64 0, .int .i64 0, .int .i64 0, .int .i64 30]) (by simp [results, Tryz.results147, go_sem]) rfl ⟨rfl, Below.refl _ _⟩
  have hin : In n := ⟨by omega, by omega⟩
  rw [dateF_in hin]
  have hy := yrF_range hin
  have hl := left_bd n
  have hm := monOf_spec (yrF n) (n - beg (yrF n)) hl.1 hl.2
  have hb := beg_mono (show -200000 ≤ yrF n by omega)
  have hb' := beg_mono (show yrF n ≤ 200000 by omega)
  have e1 : beg (-200000) = -73768028 := by decide
  have e2 : beg 200000 = 72328972 := by decide
  have hB : -80000000 ≤ beg (yrF n) ∧ beg (yrF n) ≤ 80000000 := by omega
  clear hb hb' e1 e2
  have hL : n - beg (yrF n) ≤ 366 := by have := upto_bd (yrF n) 12; omega
  have CY := Aside0.mk (fun w => civil_year.calls n (yrF n) w (year_f n hin))
  have CB := Aside0.mk (fun w => civil_begins.calls (yrF n) (beg (yrF n)) w (begins_f (yrF n) (by omega) (by omega)))
  have CS := Aside0.mk (fun a b w hM ha hb => Search_calls (yrF n) (n - beg (yrF n)) a b w hM hl.1 hl.2 ha hb)
  have CU := Aside0.mk (fun w hM => upto_calls (yrF n) (moF n - 1) w hM (by unfold moF; omega) (by unfold moF; omega))
  have hu := upto_bd (yrF n) (moF n - 1)
  have hmo : monOf (yrF n) (n - beg (yrF n)) = moF n := rfl
  have hdy : dyF n = n - beg (yrF n) - upto (yrF n) (moF n - 1) + 1 := rfl
  rw [hdy]
  clear hdy
  rw [hmo] at hm CS
  clear hmo
  generalize upto (yrF n) (moF n - 1) = u at *
  generalize moF n = mo at *
  generalize beg (yrF n) = bg at *
  generalize yrF n = yr at *
  obtain ⟨hm1, hm2, hm3, hm4⟩ := hm
  go_enter Tryz.func147, Tryz.ntmps147
  go_wp2_with fail
  (with_reducible refine (CY.out _).mono ?_)
  rintro e w1 ⟨rfl, hb1⟩
  have hM1 := hM.below hb1
  go_wp2_with fail
  (with_reducible refine (CB.out _).mono ?_)
  rintro e w' ⟨rfl, ⟨n1, rfl⟩⟩
  go_wp2_with fail
  (with_reducible refine (CS.out _ _ _ ?hM ?ha ?hb).mono ?_)
  case hM => exact ((hM1.a _).d _).a _
  case ha => exact cell_kept _ (cell_new w1 _ _)
  case hb => exact cell_new_at ((w1.alloc _).drewN n1) _ _ _ (by simp)
  rintro e W ⟨rfl, hd⟩
  have hcy : W.cell? ⟨w1.heap.size, 0, none⟩ = some (.int .i64 yr) := by
    obtain ⟨n2, rfl⟩ := hd
    exact cell_kept _ (cell_new w1 _ _)
  have hcl : W.cell? ⟨w1.heap.size + 1, 0, none⟩ = some (.int .i64 (n - bg)) := by
    obtain ⟨n2, rfl⟩ := hd
    exact cell_new_at ((w1.alloc _).drewN n1) _ _ _ (by simp)
  have hM2 : Months W := (((hM1.a _).d _).a _).drawn hd
  have hbW : Below w.heap.size w W := by
    obtain ⟨n2, rfl⟩ := hd
    exact pw_below_drewN ((pw_below_drewN (hb1.alloc hb1.size _) _).alloc (by have := hb1.size; simp; omega) _) _
  clear hd hM1 CS CY CB hM hb1
  go_wp2
  go_quiet ((go_at_call 180; exact Calls.quiet_of ((CU.out _ (hM2.d _)).mono fun _ _ ⟨he, hd⟩ => ⟨he, hd.out⟩)))
  go_wp2
  exact bodyPost_ret (v := .tuple #[.int .i64 yr, .int .i64 mo, .int .i64 (n - bg - u + 1), .int .i64 0]) (by simp [results, Tryz.results147, go_sem]) rfl ⟨rfl, pw_below_drewN hbW _⟩
end Go.Proofs.YtcinojbfjiohjaaGreatDoor.Civ
end

section
namespace Go.Proofs.YtcinojbfjiohjaaGreatDoor.Civ
open Go Go.RowKit Go.Proofs.YtcinojbfjiohjaaGreatDoor.PPrintTells Go.Proofs.YtcinojbfjiohjaaGreatDoorW.PrintWords Go.Proofs.YtcinojbfjiohjaaGreatDoorW.PrintLast Go.Proofs.YtcinojbfjiohjaaGreatDoorW.PrintMore
set_option linter.unusedVariables false
set_option linter.unusedSimpArgs false
/-- All that was in memory is as it was. -/
structure Lt (w w' : World) : Prop where mk :: (out : Below w.heap.size w w')
theorem Lt.refl (w : World) : Lt w w := ⟨Below.refl _ _⟩
theorem Lt.trans {a b c : World} (h : Lt a b) (k : Lt b c) : Lt a c := ⟨below_then h.out h.out.size k.out⟩
theorem Lt.d {a b : World} (h : Lt a b) (n : Nat) : Lt a (b.drewN n) := ⟨pw_below_drewN h.out n⟩
theorem Lt.d1 {a b : World} (h : Lt a b) : Lt a b.drew := ⟨h.out.drew⟩
theorem Lt.a {a b : World} (h : Lt a b) (o : Obj) : Lt a (b.alloc o) := ⟨h.out.alloc h.out.size o⟩
theorem Drawn0.lt {w w' : World} (h : Drawn0 w w') : Lt w w' := ⟨h.below⟩
theorem Months.l {w w' : World} (h : Months w) (k : Lt w w') : Months w' := h.below k.out
theorem Days_lt (y m d : Int) (w : World) (hM : Months w) (hd : d ≤ 9223372036854775807) (hm : -9223372036854775808 ≤ m) :
    Calls Tryz.prog 192 #[.int .i64 y, .int .i64 m, .int .i64 d] w fun e w' => e = .returned (.tuple #[.int .i64 (daysF y m d).1, .int .i64 (daysF y m d).2]) ∧ Lt w w' ∧ Months w' :=
  (Days_calls y m d w hM hd hm).mono fun _ _ ⟨he, h⟩ => ⟨he, Drawn0.lt h, hM.l (Drawn0.lt h)⟩
theorem Date_lt (n : Int) (w : World) (hM : Months w) :
    Calls Tryz.prog 147 #[.int .i64 n] w fun e w' => e = .returned (.tuple #[.int .i64 (dateF n).1, .int .i64 (dateF n).2.1, .int .i64 (dateF n).2.2.1, .int .i64 (dateF n).2.2.2]) ∧ Lt w w' ∧ Months w' :=
  (Date_calls n w hM).mono fun _ _ ⟨he, h⟩ => ⟨he, ⟨h⟩, hM.l ⟨h⟩⟩
theorem Leap_lt (y : Int) (w : World) (hM : Months w) :
    Calls Tryz.prog 227 #[.int .i64 y] w fun e w' => e = .returned (.bool (leap y)) ∧ Lt w w' ∧ Months w' :=
  (civil_Leap.calls y _ w (Leap_f y)).mono fun _ _ ⟨he, h⟩ => ⟨he, Drawn0.lt h, hM.l (Drawn0.lt h)⟩
theorem Weekday_lt (n : Int) (w : World) (hM : Months w) :
    Calls Tryz.prog 219 #[.int .i64 n] w fun e w' => e = .returned (.int .i64 (wdF n)) ∧ Lt w w' ∧ Months w' :=
  (civil_Weekday.calls n _ w (Weekday_f n)).mono fun _ _ ⟨he, h⟩ => ⟨he, Drawn0.lt h, hM.l (Drawn0.lt h)⟩
end Go.Proofs.YtcinojbfjiohjaaGreatDoor.Civ
end

section
namespace Go.Proofs.YtcinojbfjiohjaaGreatDoor.Civ
open Go
def InY (y : Int) : Prop := -9999 ≤ y ∧ y ≤ 9999
instance (y : Int) : Decidable (InY y) := by unfold InY; infer_instance
/-- The Monday of a year's first week: that of its fourth day. -/
def fst (y : Int) : Int := beg y + 3 - (beg y + 6) % 7
/-- What Weeks answers. -/
def wks (y : Int) : Int := if InY y then (if wdF (beg y) = 4 ∨ (wdF (beg y) = 3 ∧ leap y = true) then 53 else 52) else 0
/-- The year of a day's week. -/
def wyr (n : Int) : Int := if n < fst (yrF n) then yrF n - 1 else if fst (yrF n + 1) ≤ n then yrF n + 1 else yrF n
/-- What Week answers. -/
def weekF (n : Int) : Int × Int × Int × Int := if In n ∧ InY (wyr n) then (wyr n, (n - fst (wyr n)) / 7 + 1, wdF n, 0) else (0, 0, 0, 30)
/-- What OfWeek answers. -/
def ofWeekF (y k d : Int) : Int × Int := if 1 ≤ k ∧ k ≤ wks y ∧ 1 ≤ d ∧ d ≤ 7 ∧ In (fst y + 7 * (k - 1) + d - 1) then (fst y + 7 * (k - 1) + d - 1, 0) else (0, 30)
/-- What Nth answers. -/
def nthF (n : Int) : Int × Int × Int := if In n then (yrF n, n - beg (yrF n) + 1, 0) else (0, 0, 30)
/-- What OfNth answers. -/
def ofNthF (y k : Int) : Int × Int := if InY y ∧ 1 ≤ k ∧ k ≤ 365 + lp y then (beg y + k - 1, 0) else (0, 30)
theorem dn_first (y : Int) : dn y 1 1 = beg y := by unfold dn; rw [show (1 : Int) - 1 = 0 from rfl, upto_0]; omega
theorem dn_fourth (y : Int) : dn y 1 4 = beg y + 3 := by unfold dn; rw [show (1 : Int) - 1 = 0 from rfl, upto_0]; omega
theorem upto_11 (y : Int) : upto y 11 = 334 + lp y := by simp [upto, tab]
theorem dn_last (y : Int) : dn y 12 31 = beg y + 364 + lp y := by unfold dn; rw [show (12 : Int) - 1 = 11 from rfl, upto_11]; omega
theorem len_1 (y : Int) : len y 1 = 31 := by rw [len_table]; simp
theorem len_12 (y : Int) : len y 12 = 31 := by rw [len_table]; simp
theorem ok_1 (y d : Int) (h : 1 ≤ d ∧ d ≤ 31) : Ok y 1 d ↔ InY y := by
  unfold Ok InY
  rw [len_1]
  omega
theorem ok_12 (y d : Int) (h : 1 ≤ d ∧ d ≤ 31) : Ok y 12 d ↔ InY y := by
  unfold Ok InY
  rw [len_12]
  omega
theorem fst_step (y : Int) : (fst (y + 1) - fst y = 364 ∨ fst (y + 1) - fst y = 371) ∧ (fst y + 3) % 7 = 0 ∧ beg y - 3 ≤ fst y ∧ fst y ≤ beg y + 3 := by
  unfold fst
  have h1 := beg_succ y
  have h2 := lp_bd y
  rw [h1]
  generalize beg y = b at *
  generalize lp y = l at *
  omega
theorem wks_eq {y : Int} (h : InY y) : wks y = (fst (y + 1) - fst y) / 7 := by
  unfold wks
  rw [if_pos h]
  unfold fst wdF
  rw [beg_succ, lp_leap]
  generalize beg y = b at *
  cases leap y
  · simp only [Bool.false_eq_true, and_false, or_false, if_false]
    split <;> omega
  · simp only [and_true, if_true]
    split <;> omega
theorem wks_out {y : Int} (h : ¬ InY y) : wks y = 0 := by unfold wks; rw [if_neg h]
theorem wks_bd (y : Int) : 0 ≤ wks y ∧ wks y ≤ 53 := by
  unfold wks
  repeat' split
  all_goals decide
theorem fst_mono {a b : Int} (h : a ≤ b) : fst a ≤ fst b := by
  rcases Int.lt_or_eq_of_le h with h | rfl
  · have h1 := beg_mono (Int.le_of_lt h)
    have h2 := (fst_step a).2.2
    have h3 := (fst_step b).2.2
    omega
  · exact Int.le_refl _
theorem wyr_unique {n a b : Int} (ha : fst a ≤ n) (ha' : n < fst (a + 1)) (hb : fst b ≤ n) (hb' : n < fst (b + 1)) : a = b := by
  rcases Int.lt_trichotomy a b with h | h | h
  · have := fst_mono (show a + 1 ≤ b by omega); omega
  · exact h
  · have := fst_mono (show b + 1 ≤ a by omega); omega
theorem wyr_spec (n : Int) : fst (wyr n) ≤ n ∧ n < fst (wyr n + 1) := by
  have h := yrF_spec n
  have h1 := (fst_step (yrF n)).2.2
  have h2 := (fst_step (yrF n + 1))
  have h3 := (fst_step (yrF n - 1))
  have h4 := beg_lt_succ (yrF n + 1)
  have h5 := beg_lt_succ (yrF n - 1)
  have h6 := (fst_step (yrF n + 1 + 1)).2.2
  rw [show yrF n - 1 + 1 = yrF n by omega] at h3 h5
  unfold wyr
  split
  · rw [show yrF n - 1 + 1 = yrF n by omega]; omega
  · split <;> omega
theorem wyr_of {n y : Int} (h1 : fst y ≤ n) (h2 : n < fst (y + 1)) : wyr n = y := wyr_unique (wyr_spec n).1 (wyr_spec n).2 h1 h2
theorem weekF_in {n : Int} (h : In n) (hy : InY (wyr n)) : weekF n = (wyr n, (n - fst (wyr n)) / 7 + 1, wdF n, 0) := by unfold weekF; rw [if_pos ⟨h, hy⟩]
theorem weekF_not {n : Int} (h : ¬ (In n ∧ InY (wyr n))) : weekF n = (0, 0, 0, 30) := by unfold weekF; rw [if_neg h]
theorem wdF_fst (n : Int) : wdF n = (n - fst (wyr n)) % 7 + 1 := by
  have h := (fst_step (wyr n)).2.1
  unfold wdF
  omega
/-- OfWeek undoes Week. -/
theorem ofWeek_week {n : Int} (h : In n) (hy : InY (wyr n)) : ofWeekF (wyr n) ((n - fst (wyr n)) / 7 + 1) (wdF n) = (n, 0) := by
  have h1 := wyr_spec n
  have h2 := fst_step (wyr n)
  have h3 := wdF_fst n
  have e : fst (wyr n) + 7 * ((n - fst (wyr n)) / 7 + 1 - 1) + wdF n - 1 = n := by omega
  unfold ofWeekF
  rw [e, wks_eq hy, if_pos ⟨by omega, by omega, by omega, by omega, h⟩]
/-- Week undoes OfWeek. -/
theorem week_ofWeek {y k d : Int} (h1 : 1 ≤ k) (h2 : k ≤ wks y) (h3 : 1 ≤ d) (h4 : d ≤ 7) (h5 : In (fst y + 7 * (k - 1) + d - 1)) : weekF (fst y + 7 * (k - 1) + d - 1) = (y, k, d, 0) := by
  have hy : InY y := by
    by_cases h : InY y
    · exact h
    · rw [wks_out h] at h2; omega
  have hs := fst_step y
  rw [wks_eq hy] at h2
  have hw : wyr (fst y + 7 * (k - 1) + d - 1) = y := wyr_of (by omega) (by omega)
  have hd := wdF_fst (fst y + 7 * (k - 1) + d - 1)
  rw [weekF_in h5 (by rw [hw]; exact hy), hd, hw]
  rw [show (fst y + 7 * (k - 1) + d - 1 - fst y) / 7 + 1 = k by omega, show (fst y + 7 * (k - 1) + d - 1 - fst y) % 7 + 1 = d by omega]
theorem nthF_in {n : Int} (h : In n) : nthF n = (yrF n, n - beg (yrF n) + 1, 0) := by unfold nthF; rw [if_pos h]
theorem nthF_not {n : Int} (h : ¬ In n) : nthF n = (0, 0, 30) := by unfold nthF; rw [if_neg h]
/-- OfNth undoes Nth. -/
theorem ofNth_nth {n : Int} (h : In n) : ofNthF (yrF n) (n - beg (yrF n) + 1) = (n, 0) := by
  have h1 := yrF_range h
  have h2 := yrF_spec n
  rw [beg_succ] at h2
  unfold ofNthF
  rw [if_pos ⟨h1, by omega, by omega⟩]
  congr 1
  omega
theorem in_year {y n : Int} (hy : InY y) (h1 : beg y ≤ n) (h2 : n < beg (y + 1)) : In n := by
  have h3 := beg_mono hy.1
  have h4 := beg_mono (show y + 1 ≤ 10000 by have := hy.2; omega)
  rw [beg_min] at h3
  rw [beg_max] at h4
  unfold In
  have := hy.1
  have := hy.2
  omega
/-- Nth undoes OfNth. -/
theorem nth_ofNth {y k : Int} (hy : InY y) (h1 : 1 ≤ k) (h2 : k ≤ 365 + lp y) : nthF (beg y + k - 1) = (y, k, 0) := by
  have hb := beg_succ y
  have hn := in_year hy (show beg y ≤ beg y + k - 1 by omega) (by omega)
  have hs := yrF_spec (beg y + k - 1)
  have he : yrF (beg y + k - 1) = y := yr_unique hs.1 hs.2 (by omega) (by omega)
  rw [nthF_in hn, he]
  congr 2
  omega
end Go.Proofs.YtcinojbfjiohjaaGreatDoor.Civ
end

section
namespace Go.Proofs.YtcinojbfjiohjaaGreatDoor.Civ
open Go Go.RowKit Go.Proofs.YtcinojbfjiohjaaGreatDoor.PPrintTells Go.Proofs.YtcinojbfjiohjaaGreatDoorW.PrintWords Go.Proofs.YtcinojbfjiohjaaGreatDoorW.PrintLast Go.Proofs.YtcinojbfjiohjaaGreatDoorW.PrintMore
set_option linter.unusedVariables false
set_option linter.unusedSimpArgs false
set_option maxHeartbeats 4000000 in
theorem Weeks_lt (y : Int) (w : World) (hM : Months w) :
    Calls Tryz.prog 218 #[.int .i64 y] w fun e w' => e = .returned (.int .i64 (wks y)) ∧ Lt w w' ∧ Months w' := by
  have C1 := Aside0.mk (fun w hM => Days_lt y 1 1 w hM (by omega) (by omega))
  by_cases hy : InY y
  · rw [daysF_ok ((ok_1 y 1 (by omega)).2 hy), dn_first] at C1
    have hw : wks y = if wdF (beg y) = 4 ∨ (wdF (beg y) = 3 ∧ leap y = true) then 53 else 52 := by unfold wks; rw [if_pos hy]
    rw [hw]
    have C2 := Aside0.mk (fun w hM => Weekday_lt (beg y) w hM)
    have C3 := Aside0.mk (fun w hM => Leap_lt y w hM)
    clear hw hy
    generalize wdF (beg y) = d at *
    generalize leap y = l at *
    generalize beg y = b at *
    by_cases h4 : d = 4
    · subst h4
      rw [if_pos (.inl rfl)]
      go_enter Tryz.func218, Tryz.ntmps218
      go_wp2_with fail
      (with_reducible refine (C1.out _ (by assumption)).mono ?_)
      rintro e w1 ⟨rfl, hl1, hM1⟩
      go_wp2_with fail
      (with_reducible refine (C2.out _ (by assumption)).mono ?_)
      rintro e w2 ⟨rfl, hl2, hM2⟩
      go_wp2
      go_ret
      exact ⟨rfl, hl1.trans hl2, hM2⟩
    · have h4' : (d == 4) = false := beq_eq_false_iff_ne.2 h4
      by_cases h3 : d = 3
      · subst h3
        have hr : (if ((3 : Int) = 4 ∨ ((3 : Int) = 3 ∧ l = true)) then (53 : Int) else 52) = if l = true then 53 else 52 := by cases l <;> rfl
        rw [hr]
        clear hr
        cases l
        · rw [if_neg (by decide)]
          go_enter Tryz.func218, Tryz.ntmps218
          go_wp2_with fail
          (with_reducible refine (C1.out _ (by assumption)).mono ?_)
          rintro e w1 ⟨rfl, hl1, hM1⟩
          go_wp2_with fail
          (with_reducible refine (C2.out _ (by assumption)).mono ?_)
          rintro e w2 ⟨rfl, hl2, hM2⟩
          go_wp2_with fail
          (with_reducible refine (C3.out _ (by assumption)).mono ?_)
          rintro e w3 ⟨rfl, hl3, hM3⟩
          go_wp2
          go_ret
          exact ⟨rfl, hl1.trans (hl2.trans hl3), hM3⟩
        · rw [if_pos rfl]
          go_enter Tryz.func218, Tryz.ntmps218
          go_wp2_with fail
          (with_reducible refine (C1.out _ (by assumption)).mono ?_)
          rintro e w1 ⟨rfl, hl1, hM1⟩
          go_wp2_with fail
          (with_reducible refine (C2.out _ (by assumption)).mono ?_)
          rintro e w2 ⟨rfl, hl2, hM2⟩
          go_wp2_with fail
          (with_reducible refine (C3.out _ (by assumption)).mono ?_)
          rintro e w3 ⟨rfl, hl3, hM3⟩
          go_wp2
          go_ret
          exact ⟨rfl, hl1.trans (hl2.trans hl3), hM3⟩
      · have h3' : (d == 3) = false := beq_eq_false_iff_ne.2 h3
        rw [if_neg (by rintro (h | ⟨h, _⟩) <;> contradiction)]
        clear h4 h3
        go_enter Tryz.func218, Tryz.ntmps218
        go_wp2_with fail
        (with_reducible refine (C1.out _ (by assumption)).mono ?_)
        rintro e w1 ⟨rfl, hl1, hM1⟩
        go_wp2_with fail
        (with_reducible refine (C2.out _ (by assumption)).mono ?_)
        rintro e w2 ⟨rfl, hl2, hM2⟩
        go_wp2
        go_ret
        exact ⟨rfl, hl1.trans hl2, hM2⟩
  · rw [daysF_not (fun h => hy ((ok_1 y 1 (by omega)).1 h))] at C1
    rw [wks_out hy]
    clear hy
    go_enter Tryz.func218, Tryz.ntmps218
    go_wp2_with fail
    (with_reducible refine (C1.out _ (by assumption)).mono ?_)
    rintro e w1 ⟨rfl, hl1, hM1⟩
    go_wp2
    go_ret
    exact ⟨rfl, hl1, hM1⟩
set_option maxHeartbeats 4000000 in
theorem OfNth_lt (y n : Int) (w : World) (hM : Months w) (hn0 : -9223372036854775808 ≤ n) (hn1 : n ≤ 9223372036854775807) :
    Calls Tryz.prog 196 #[.int .i64 y, .int .i64 n] w fun e w' => e = .returned (.tuple #[.int .i64 (ofNthF y n).1, .int .i64 (ofNthF y n).2]) ∧ Lt w w' ∧ Months w' := by
  have C1 := Aside0.mk (fun w hM => Days_lt y 1 1 w hM (by omega) (by omega))
  have C2 := Aside0.mk (fun w hM => Days_lt y 12 31 w hM (by omega) (by omega))
  by_cases hy : InY y
  · rw [daysF_ok ((ok_1 y 1 (by omega)).2 hy), dn_first] at C1
    rw [daysF_ok ((ok_12 y 31 (by omega)).2 hy), dn_last] at C2
    have hl := lp_bd y
    have hbb : In (beg y) := in_year hy (Int.le_refl _) (by have := beg_lt_succ y; omega)
    obtain ⟨hb0, hb1⟩ := hbb
    have hr : ofNthF y n = if 1 ≤ n ∧ n ≤ 365 + lp y then (beg y + n - 1, 0) else (0, 30) := by
      unfold ofNthF
      by_cases h : 1 ≤ n ∧ n ≤ 365 + lp y
      · rw [if_pos ⟨hy, h⟩, if_pos h]
      · rw [if_neg (fun k => h k.2), if_neg h]
    rw [hr]
    clear hr hy
    obtain ⟨e, he⟩ : ∃ e, e = beg y + 364 + lp y := ⟨_, rfl⟩
    rw [← he] at C2
    generalize beg y = b at *
    generalize lp y = l at *
    have w1 : wrap64 (e - b) = e - b := w64 (by omega) (by omega)
    have w2 : wrap64 (e - b + 1) = e - b + 1 := w64 (by omega) (by omega)
    by_cases h1 : n < 1
    · have h1' : decide (n < 1) = true := decide_eq_true h1
      rw [if_neg (by omega)]
      clear he hl hb0 hb1
      go_enter Tryz.func196, Tryz.ntmps196
      go_wp2_with fail
      (with_reducible refine (C1.out _ (by assumption)).mono ?_)
      rintro e w1 ⟨rfl, hl1, hM1⟩
      go_wp2_with fail
      (with_reducible refine (C2.out _ (by assumption)).mono ?_)
      rintro e w2 ⟨rfl, hl2, hM2⟩
      go_wp2
      go_ret2
      exact ⟨rfl, hl1.trans hl2, hM2⟩
    have h1' : decide (n < 1) = false := decide_eq_false h1
    by_cases h2 : e - b + 1 < n
    · have h2' : decide (n > e - b + 1) = true := decide_eq_true h2
      have h2'' : decide (e - b + 1 < n) = true := decide_eq_true h2
      rw [if_neg (by omega)]
      clear he hl hb0 hb1
      go_enter Tryz.func196, Tryz.ntmps196
      go_wp2_with fail
      (with_reducible refine (C1.out _ (by assumption)).mono ?_)
      rintro e w1 ⟨rfl, hl1, hM1⟩
      go_wp2_with fail
      (with_reducible refine (C2.out _ (by assumption)).mono ?_)
      rintro e w2 ⟨rfl, hl2, hM2⟩
      go_wp2
      go_ret2
      exact ⟨rfl, hl1.trans hl2, hM2⟩
    · have h2' : decide (n > e - b + 1) = false := decide_eq_false h2
      have h2'' : decide (e - b + 1 < n) = false := decide_eq_false h2
      rw [if_pos ⟨by omega, by omega⟩]
      have w3 : wrap64 (n - 1) = n - 1 := w64 (by omega) (by omega)
      have w4 : wrap64 (b + (n - 1)) = b + (n - 1) := w64 (by omega) (by omega)
      have hres : b + (n - 1) = b + n - 1 := by omega
      have HR := Aside0.mk hres
      clear he hl hb0 hb1 hres
      go_enter Tryz.func196, Tryz.ntmps196
      go_wp2_with fail
      (with_reducible refine (C1.out _ (by assumption)).mono ?_)
      rintro e w1 ⟨rfl, hl1, hM1⟩
      go_wp2_with fail
      (with_reducible refine (C2.out _ (by assumption)).mono ?_)
      rintro e w2 ⟨rfl, hl2, hM2⟩
      go_wp2
      go_ret2
      exact ⟨by rw [HR.out] at w4; simp [HR.out, w3, w4], hl1.trans hl2, hM2⟩
  · rw [daysF_not (fun h => hy ((ok_1 y 1 (by omega)).1 h))] at C1
    rw [daysF_not (fun h => hy ((ok_12 y 31 (by omega)).1 h))] at C2
    have hr : ofNthF y n = (0, 30) := by unfold ofNthF; rw [if_neg (fun h => hy h.1)]
    rw [hr]
    clear hr hy
    go_enter Tryz.func196, Tryz.ntmps196
    go_wp2_with fail
    (with_reducible refine (C1.out _ (by assumption)).mono ?_)
    rintro e w1 ⟨rfl, hl1, hM1⟩
    go_wp2_with fail
    (with_reducible refine (C2.out _ (by assumption)).mono ?_)
    rintro e w2 ⟨rfl, hl2, hM2⟩
    go_wp2
    go_ret2
    exact ⟨rfl, hl1.trans hl2, hM2⟩
set_option maxHeartbeats 8000000 in
theorem OfWeek_lt (y n d : Int) (w : World) (hM : Months w) (hn0 : -9223372036854775808 ≤ n) (hn1 : n ≤ 9223372036854775807) :
    Calls Tryz.prog 194 #[.int .i64 y, .int .i64 n, .int .i64 d] w fun e w' => e = .returned (.tuple #[.int .i64 (ofWeekF y n d).1, .int .i64 (ofWeekF y n d).2]) ∧ Lt w w' ∧ Months w' := by
  have C1 := Aside0.mk (fun w hM => Weeks_lt y w hM)
  have hwb := wks_bd y
  by_cases hall : 1 ≤ n ∧ n ≤ wks y ∧ 1 ≤ d ∧ d ≤ 7
  · obtain ⟨a1, a2, a3, a4⟩ := hall
    have hy : InY y := by
      by_cases h : InY y
      · exact h
      · rw [wks_out h] at a2; omega
    have C2 := Aside0.mk (fun w hM => Days_lt y 1 4 w hM (by omega) (by omega))
    rw [daysF_ok ((ok_1 y 4 (by omega)).2 hy), dn_fourth] at C2
    have hbb : In (beg y) := in_year hy (Int.le_refl _) (by have := beg_lt_succ y; omega)
    obtain ⟨hb0, hb1⟩ := hbb
    have hw4 := wdF_bd (beg y + 3)
    have hf : fst y + 7 * (n - 1) + d - 1 = beg y + 3 + (7 * (n - 1) + d - wdF (beg y + 3)) := by unfold fst wdF; omega
    have hr : ofWeekF y n d = if In (beg y + 3 + (7 * (n - 1) + d - wdF (beg y + 3))) then (beg y + 3 + (7 * (n - 1) + d - wdF (beg y + 3)), 0) else (0, 30) := by
      unfold ofWeekF
      rw [hf]
      by_cases h : In (beg y + 3 + (7 * (n - 1) + d - wdF (beg y + 3)))
      · rw [if_pos ⟨a1, a2, a3, a4, h⟩, if_pos h]
      · rw [if_neg (fun k => h k.2.2.2.2), if_neg h]
    rw [hr]
    clear hr hf hy
    have C3 := Aside0.mk (fun w hM => Weekday_lt (beg y + 3) w hM)
    generalize wdF (beg y + 3) = v at *
    obtain ⟨f, hf⟩ : ∃ f, f = beg y + 3 := ⟨_, rfl⟩
    rw [← hf] at C2 C3 ⊢
    generalize wks y = k at *
    generalize beg y = b at *
    have n1 : decide (n < 1) = false := decide_eq_false (by omega)
    have n2 : decide (n > k) = false := decide_eq_false (by omega)
    have n2' : decide (k < n) = false := n2
    have n3 : decide (d < 1) = false := decide_eq_false (by omega)
    have n4 : decide (d > 7) = false := decide_eq_false (by omega)
    have n4' : decide (7 < d) = false := n4
    have w1 : wrap64 (n - 1) = n - 1 := w64 (by omega) (by omega)
    have w2 : wrap64 (7 * (n - 1)) = 7 * (n - 1) := w64 (by omega) (by omega)
    have w3 : wrap64 (7 * (n - 1) + d) = 7 * (n - 1) + d := w64 (by omega) (by omega)
    have w4 : wrap64 (7 * (n - 1) + d - v) = 7 * (n - 1) + d - v := w64 (by omega) (by omega)
    have w5 : wrap64 (f + (7 * (n - 1) + d - v)) = f + (7 * (n - 1) + d - v) := w64 (by omega) (by omega)
    have C4 := Aside0.mk (fun w hM => Date_lt (f + (7 * (n - 1) + d - v)) w hM)
    clear hwb hf hb0 hb1 hw4 a1 a2 a3 a4
    by_cases hin : In (f + (7 * (n - 1) + d - v))
    · rw [dateF_in hin] at C4
      rw [if_pos hin]
      clear hin
      generalize yrF (f + (7 * (n - 1) + d - v)) = q1 at *
      generalize moF (f + (7 * (n - 1) + d - v)) = q2 at *
      generalize dyF (f + (7 * (n - 1) + d - v)) = q3 at *
      go_enter Tryz.func194, Tryz.ntmps194
      go_wp2_with fail
      (with_reducible refine (C1.out _ (by assumption)).mono ?_)
      rintro e w1 ⟨rfl, hl1, hM1⟩
      go_wp2_with fail
      (with_reducible refine (C2.out _ (by assumption)).mono ?_)
      rintro e w2 ⟨rfl, hl2, hM2⟩
      go_wp2_with fail
      (with_reducible refine (C3.out _ (by assumption)).mono ?_)
      rintro e w3 ⟨rfl, hl3, hM3⟩
      go_wp2_with fail
      (with_reducible refine (C4.out _ (by assumption)).mono ?_)
      rintro e w4 ⟨rfl, hl4, hM4⟩
      go_wp2
      go_ret2
      exact ⟨rfl, hl1.trans (hl2.trans (hl3.trans hl4)), hM4⟩
    · rw [dateF_not hin] at C4
      rw [if_neg hin]
      clear hin
      go_enter Tryz.func194, Tryz.ntmps194
      go_wp2_with fail
      (with_reducible refine (C1.out _ (by assumption)).mono ?_)
      rintro e w1 ⟨rfl, hl1, hM1⟩
      go_wp2_with fail
      (with_reducible refine (C2.out _ (by assumption)).mono ?_)
      rintro e w2 ⟨rfl, hl2, hM2⟩
      go_wp2_with fail
      (with_reducible refine (C3.out _ (by assumption)).mono ?_)
      rintro e w3 ⟨rfl, hl3, hM3⟩
      go_wp2_with fail
      (with_reducible refine (C4.out _ (by assumption)).mono ?_)
      rintro e w4 ⟨rfl, hl4, hM4⟩
      go_wp2
      go_ret2
      exact ⟨rfl, hl1.trans (hl2.trans (hl3.trans hl4)), hM4⟩
  · have hr : ofWeekF y n d = (0, 30) := by
      unfold ofWeekF
      rw [if_neg (fun k => hall ⟨k.1, k.2.1, k.2.2.1, k.2.2.2.1⟩)]
    rw [hr]
    clear hr
    generalize wks y = k at *
    by_cases h1 : n < 1
    · have n1 : decide (n < 1) = true := decide_eq_true h1
      clear hall
      go_enter Tryz.func194, Tryz.ntmps194
      go_wp2
      go_ret2
      exact ⟨rfl, by first | exact Lt.refl _ | exact (Lt.refl _).d1 | exact (Lt.refl _).d _, by first | exact hM | exact hM.d _⟩
    have n1 : decide (n < 1) = false := decide_eq_false h1
    by_cases h2 : k < n
    · have n2 : decide (n > k) = true := decide_eq_true h2
      have n2' : decide (k < n) = true := n2
      clear hall
      go_enter Tryz.func194, Tryz.ntmps194
      go_wp2_with fail
      (with_reducible refine (C1.out _ (by assumption)).mono ?_)
      rintro e w1 ⟨rfl, hl1, hM1⟩
      go_wp2
      go_ret2
      exact ⟨rfl, hl1, hM1⟩
    have n2 : decide (n > k) = false := decide_eq_false h2
    have n2' : decide (k < n) = false := n2
    by_cases h3 : d < 1
    · have n3 : decide (d < 1) = true := decide_eq_true h3
      clear hall
      go_enter Tryz.func194, Tryz.ntmps194
      go_wp2_with fail
      (with_reducible refine (C1.out _ (by assumption)).mono ?_)
      rintro e w1 ⟨rfl, hl1, hM1⟩
      go_wp2
      go_ret2
      exact ⟨rfl, hl1, hM1⟩
    have n3 : decide (d < 1) = false := decide_eq_false h3
    have h4 : 7 < d := by
      rcases Int.lt_or_le 7 d with h | h
      · exact h
      · exact absurd ⟨by omega, by omega, by omega, h⟩ hall
    have n4 : decide (d > 7) = true := decide_eq_true h4
    have n4' : decide (7 < d) = true := n4
    clear hall
    go_enter Tryz.func194, Tryz.ntmps194
    go_wp2_with fail
    (with_reducible refine (C1.out _ (by assumption)).mono ?_)
    rintro e w1 ⟨rfl, hl1, hM1⟩
    go_wp2
    go_ret2
    exact ⟨rfl, hl1, hM1⟩
end Go.Proofs.YtcinojbfjiohjaaGreatDoor.Civ
end

section
namespace Go.Proofs.YtcinojbfjiohjaaGreatDoor.Ex
open Go
def digitB (b : UInt8) : Bool := decide (48 ≤ b.toNat) && decide (b.toNat ≤ 57)
def alphaB (b : UInt8) : Bool := decide (b.toNat = 95) || (decide (97 ≤ b.toNat) && decide (b.toNat ≤ 122)) || (decide (65 ≤ b.toNat) && decide (b.toNat ≤ 90))
def letterB (b : UInt8) : Bool := alphaB b || digitB b
/-- A right name. -/
def nameL : List UInt8 → Bool
  | [] => false
  | b :: l => decide (l.length < 30) && alphaB b && l.all letterB
def nameB (s : ByteArray) : Bool := nameL s.data.toList
def digitsL : List UInt8 := [48, 49, 50, 51, 52, 53, 54, 55, 56, 57]
theorem byte_all (p : UInt8 → Bool) (h : ∀ n : Fin 256, p (UInt8.ofNat n.val) = true) (b : UInt8) : p b = true := by
  have h1 := h ⟨b.toNat, b.toNat_lt⟩
  have h2 : UInt8.ofNat b.toNat = b := by simp
  rw [← h2]
  exact h1
theorem contains_digits (b : UInt8) : digitsL.contains b = digitB b := by
  have := byte_all (fun b => digitsL.contains b == digitB b) (by decide +kernel) b
  exact eq_of_beq this
theorem dropWhile_nil {α : Type} (p : α → Bool) (l : List α) : l.dropWhile p = [] ↔ l.all p = true := by
  induction l with
  | nil => simp
  | cons x l ih =>
    rw [List.dropWhile_cons, List.all_cons]
    by_cases h : p x = true
    · rw [if_pos h, h, Bool.true_and]; exact ih
    · rw [if_neg h]
      simp [h]
theorem trimS_nil (l cs : List UInt8) : Lib.trimS l cs = [] ↔ l.all (cs.contains ·) = true := by
  unfold Lib.trimS Lib.trimLeftS
  rw [dropWhile_nil]
  constructor
  · intro h
    unfold Lib.trimRightS at h
    rw [List.all_reverse] at h
    have hd : l.reverse.dropWhile (cs.contains ·) = [] := by
      cases hr : l.reverse.dropWhile (cs.contains ·) with
      | nil => rfl
      | cons x r =>
        rw [hr, List.all_cons, Bool.and_eq_true] at h
        have := List.head_dropWhile_not (p := (cs.contains ·)) (l := l.reverse) (by rw [hr]; simp)
        simp only [hr, List.head_cons] at this
        rw [h.1] at this
        cases this
    rw [dropWhile_nil, List.all_reverse] at hd
    exact hd
  · intro h
    have hd : l.reverse.dropWhile (cs.contains ·) = [] := by rw [dropWhile_nil, List.all_reverse]; exact h
    unfold Lib.trimRightS
    rw [hd]
    rfl
theorem indexByte_ge (l : List UInt8) (c : UInt8) : (0 ≤ Lib.indexByte l c) ↔ l.contains c = true := by
  have lo : ∀ l : List UInt8, -1 ≤ Lib.indexByte l c := by
    intro l
    induction l with
    | nil => simp [Lib.indexByte]
    | cons b l ih =>
      unfold Lib.indexByte
      split
      · omega
      · split
        · omega
        · omega
  induction l with
  | nil => simp [Lib.indexByte]
  | cons b l ih =>
    unfold Lib.indexByte
    rw [List.contains_cons]
    by_cases h : (b == c) = true
    · have h' : (c == b) = true := by rw [beq_iff_eq] at h ⊢; exact h.symm
      rw [if_pos h, h']
      simp
    · have h' : (c == b) = false := by
        rw [beq_eq_false_iff_ne]
        intro e
        exact h (by rw [e]; exact beq_self_eq_true _)
      rw [if_neg h, h', Bool.false_or]
      refine Iff.trans ?_ ih
      have := lo l
      by_cases h2 : Lib.indexByte l c = -1
      · rw [if_pos (beq_iff_eq.2 h2)]
        omega
      · rw [if_neg (by rw [beq_iff_eq]; exact h2)]
        omega
end Go.Proofs.YtcinojbfjiohjaaGreatDoor.Ex
end

section
namespace Go.Proofs
open Go.Shelf
def Tryz.lays156_ren : Go.Shelf.Ren := ⟨fun | 156 => 121 | 165 => 79 | 166 => 48 | 169 => 39 | 240 => 97 | 241 => 125 | 276 => 136 | 277 => 153 | n => n, fun | 31 => 38 | 9 => 9 | 3 => 3 | 4 => 4 | 0 => 0 | 20 => 20 | 72 => 71 | 76 => 91 | 70 => 68 | 37 => 69 | 75 => 90 | 127 => 123 | 164 => 176 | 5 => 5 | 80 => 75 | n => n, fun | n => n⟩
theorem Tryz.lays156 : Go.Proofs.Lays.n156 Tryz.prog Tryz.lays156_ren := {
  mixed := by kernel_rfl
  f156 := Tryz.func121.trans (congrArg some (by kernel_rfl))
  f165 := Tryz.func79.trans (congrArg some (by kernel_rfl))
  f166 := Tryz.func48.trans (congrArg some (by kernel_rfl))
  f169 := Tryz.func39.trans (congrArg some (by kernel_rfl))
  f240 := Tryz.func97.trans (congrArg some (by kernel_rfl))
  f241 := Tryz.func125.trans (congrArg some (by kernel_rfl))
  f276 := Tryz.func136.trans (congrArg some (by kernel_rfl))
  f277 := Tryz.func153.trans (congrArg some (by kernel_rfl))
  t0 := Tryz.underlying0
  a0 := Tryz.isAgg0
  z0 := Tryz.sizeOf0
  v0 := Tryz.zeroValue0
  t3 := Tryz.underlying3
  a3 := Tryz.isAgg3
  z3 := Tryz.sizeOf3
  v3 := Tryz.zeroValue3
  t4 := Tryz.underlying4
  a4 := Tryz.isAgg4
  z4 := Tryz.sizeOf4
  v4 := Tryz.zeroValue4
  t9 := Tryz.underlying9
  a9 := Tryz.isAgg9
  z9 := Tryz.sizeOf9
  v9 := Tryz.zeroValue9
  t20 := Tryz.underlying20
  a20 := Tryz.isAgg20
  z20 := Tryz.sizeOf20
  v20 := Tryz.zeroValue20
  t31 := Tryz.underlying38
  a31 := Tryz.isAgg38
  z31 := Tryz.sizeOf38
  v31 := Tryz.zeroValue38
  t37 := Tryz.underlying69
  a37 := Tryz.isAgg69
  z37 := Tryz.sizeOf69
  v37 := Tryz.zeroValue69
  t70 := Tryz.underlying68
  a70 := Tryz.isAgg68
  z70 := Tryz.sizeOf68
  v70 := Tryz.zeroValue68
  t72 := Tryz.underlying71
  a72 := Tryz.isAgg71
  z72 := Tryz.sizeOf71
  v72 := Tryz.zeroValue71
  t75 := Tryz.underlying90
  a75 := Tryz.isAgg90
  z75 := Tryz.sizeOf90
  v75 := Tryz.zeroValue90
  t76 := Tryz.underlying91
  a76 := Tryz.isAgg91
  z76 := Tryz.sizeOf91
  v76 := Tryz.zeroValue91
  t127 := Tryz.underlying123
  a127 := Tryz.isAgg123
  z127 := Tryz.sizeOf123
  v127 := Tryz.zeroValue123
  t164 := Tryz.underlying176
  a164 := Tryz.isAgg176
  z164 := Tryz.sizeOf176
  v164 := Tryz.zeroValue176 }
theorem Tryz.Builder_Extra_156 : Builder.Extra Tryz.prog Tryz.lays156_ren := {
  sizeBuilder := by kernel_rfl
  liesBuilder := by kernel_rfl
  t5 := Tryz.underlying5
  a5 := Tryz.isAgg5
  z5 := Tryz.sizeOf5
  v5 := Tryz.zeroValue5
  infoByte := by kernel_rfl
  cellsByte := by kernel_rfl
  sizeByte := by kernel_rfl
  neB5 := by decide }
open Go.RowKit in
/-- No element: the empty string; the world is as it was. (Whatever the slice's address and capacity: a nil slice too.) (LAID: no walk: one application.) -/
theorem Tryz.strings_Join_none (a : Option Addr) (c : Nat) (sep : ByteArray) (w : World) :
    Calls Tryz.prog 121 #[.slice a 0 c, .string sep] w fun e w' => e = .returned (.string ⟨#[]⟩) ∧ w' = w := Any.strings_Join_none Tryz.lays156 Tryz.Builder_Extra_156 a c sep w
open Go.RowKit in
/-- strings.Join: "Join concatenates the elements of its first argument to create a single string. The separator string sep is placed between elements in the resulting string.": HOWEVER MANY ELEMENTS. Below the heap's end the world is as it was. (LAID: no walk: one application.) -/
theorem Tryz.strings_Join (bk o c : Nat) (xs : List ByteArray) (sep : ByteArray) (w : World) (hcells : ∀ (j : Nat) x, xs[j]? = some x → w.cell? ⟨bk, o + j, none⟩ = some (.string x)) (hbk : bk < w.heap.size) (hN : xs.length ≤ 140737488355328) (hcap : xs.length ≤ c) (hlen : (Lib.join (xs.map (·.data.toList)) sep.data.toList).length ≤ 140737488355328) :
    Calls Tryz.prog 121 #[.slice (some ⟨bk, o, none⟩) xs.length c, .string sep] w fun e w' => e = .returned (.string ⟨(Lib.join (xs.map (·.data.toList)) sep.data.toList).toArray⟩) ∧ Below w.heap.size w w' := Any.strings_Join Tryz.lays156 Tryz.Builder_Extra_156 bk o c xs sep w hcells hbk hN hcap hlen
def Tryz.lays160_ren : Go.Shelf.Ren := ⟨fun | 160 => 127 | 232 => 155 | 231 => 154 | 227 => 156 | 234 => 158 | 233 => 157 | 236 => 160 | 235 => 159 | 228 => 184 | 271 => 187 | 151 => 186 | 197 => 185 | 120 => 214 | 152 => 213 | 260 => 212 | 137 => 42 | 119 => 228 | 224 => 174 | 225 => 173 | 217 => 85 | 266 => 128 | n => n, fun | 9 => 9 | 4 => 4 | 3 => 3 | 5 => 5 | 117 => 193 | 116 => 192 | 0 => 0 | 124 => 196 | 21 => 21 | 105 => 222 | 46 => 117 | 119 => 178 | 139 => 264 | 138 => 263 | n => n, fun | 3 => 7 | 4 => 8 | n => n⟩
theorem Tryz.lays160 : Go.Proofs.Lays.n160 Tryz.prog Tryz.lays160_ren := {
  mixed := by kernel_rfl
  f119 := Tryz.func228.trans (congrArg some (by kernel_rfl))
  f120 := Tryz.func214.trans (congrArg some (by kernel_rfl))
  f137 := Tryz.func42.trans (congrArg some (by kernel_rfl))
  f151 := Tryz.func186.trans (congrArg some (by kernel_rfl))
  f152 := Tryz.func213.trans (congrArg some (by kernel_rfl))
  f160 := Tryz.func127.trans (congrArg some (by kernel_rfl))
  f197 := Tryz.func185.trans (congrArg some (by kernel_rfl))
  f217 := Tryz.func85.trans (congrArg some (by kernel_rfl))
  f224 := Tryz.func174.trans (congrArg some (by kernel_rfl))
  f225 := Tryz.func173.trans (congrArg some (by kernel_rfl))
  f227 := Tryz.func156.trans (congrArg some (by kernel_rfl))
  f228 := Tryz.func184.trans (congrArg some (by kernel_rfl))
  f231 := Tryz.func154.trans (congrArg some (by kernel_rfl))
  f232 := Tryz.func155.trans (congrArg some (by kernel_rfl))
  f233 := Tryz.func157.trans (congrArg some (by kernel_rfl))
  f234 := Tryz.func158.trans (congrArg some (by kernel_rfl))
  f235 := Tryz.func159.trans (congrArg some (by kernel_rfl))
  f236 := Tryz.func160.trans (congrArg some (by kernel_rfl))
  f260 := Tryz.func212.trans (congrArg some (by kernel_rfl))
  f266 := Tryz.func128.trans (congrArg some (by kernel_rfl))
  f271 := Tryz.func187.trans (congrArg some (by kernel_rfl))
  t0 := Tryz.underlying0
  a0 := Tryz.isAgg0
  z0 := Tryz.sizeOf0
  v0 := Tryz.zeroValue0
  t3 := Tryz.underlying3
  a3 := Tryz.isAgg3
  z3 := Tryz.sizeOf3
  v3 := Tryz.zeroValue3
  t4 := Tryz.underlying4
  a4 := Tryz.isAgg4
  z4 := Tryz.sizeOf4
  v4 := Tryz.zeroValue4
  t5 := Tryz.underlying5
  a5 := Tryz.isAgg5
  z5 := Tryz.sizeOf5
  v5 := Tryz.zeroValue5
  t9 := Tryz.underlying9
  a9 := Tryz.isAgg9
  z9 := Tryz.sizeOf9
  v9 := Tryz.zeroValue9
  t21 := Tryz.underlying21
  a21 := Tryz.isAgg21
  z21 := Tryz.sizeOf21
  v21 := Tryz.zeroValue21
  t46 := Tryz.underlying117
  a46 := Tryz.isAgg117
  z46 := Tryz.sizeOf117
  v46 := Tryz.zeroValue117
  t105 := Tryz.underlying222
  a105 := Tryz.isAgg222
  z105 := Tryz.sizeOf222
  v105 := Tryz.zeroValue222
  t116 := Tryz.underlying192
  a116 := Tryz.isAgg192
  z116 := Tryz.sizeOf192
  t117 := Tryz.underlying193
  a117 := Tryz.isAgg193
  z117 := Tryz.sizeOf193
  v117 := Tryz.zeroValue193
  t119 := Tryz.underlying178
  a119 := Tryz.isAgg178
  z119 := Tryz.sizeOf178
  t124 := Tryz.underlying196
  a124 := Tryz.isAgg196
  z124 := Tryz.sizeOf196
  v124 := Tryz.zeroValue196
  t138 := Tryz.underlying263
  a138 := Tryz.isAgg263
  z138 := Tryz.sizeOf263
  v138 := Tryz.zeroValue263
  t139 := Tryz.underlying264
  a139 := Tryz.isAgg264
  z139 := Tryz.sizeOf264
  v139 := Tryz.zeroValue264
  g3 := by kernel_rfl
  g4 := by kernel_rfl }
def Tryz.lays137_ren : Go.Shelf.Ren := ⟨fun | 137 => 42 | 217 => 85 | 266 => 128 | n => n, fun | 9 => 9 | 5 => 5 | 3 => 3 | n => n, fun | n => n⟩
theorem Tryz.lays137 : Go.Proofs.Lays.n137 Tryz.prog Tryz.lays137_ren := {
  mixed := by kernel_rfl
  f137 := Tryz.func42.trans (congrArg some (by kernel_rfl))
  f217 := Tryz.func85.trans (congrArg some (by kernel_rfl))
  f266 := Tryz.func128.trans (congrArg some (by kernel_rfl))
  t3 := Tryz.underlying3
  a3 := Tryz.isAgg3
  z3 := Tryz.sizeOf3
  v3 := Tryz.zeroValue3
  t5 := Tryz.underlying5
  a5 := Tryz.isAgg5
  z5 := Tryz.sizeOf5
  v5 := Tryz.zeroValue5
  t9 := Tryz.underlying9
  a9 := Tryz.isAgg9
  z9 := Tryz.sizeOf9
  v9 := Tryz.zeroValue9 }
open Go.RowKit in
/-- strings.IndexByte: "IndexByte returns the index of the first instance of c in s, or -1 if c is not present in s.": IT RETURNS 'Lib.indexByte s c'; the world is as it was. (LAID: no walk: one application.) -/
theorem Tryz.strings_IndexByte (s : ByteArray) (c : Int) (w : World) :
    Calls Tryz.prog 42 #[.string s, .int .u8 c] w fun e w' => e = .returned (.int .i64 (Lib.indexByte s.data.toList c.toNat.toUInt8)) ∧ w' = w := Any.strings_IndexByte Tryz.lays137 s c w
def Tryz.lays103_ren : Go.Shelf.Ren := ⟨fun | 103 => 161 | 210 => 188 | 206 => 124 | n => n, fun | 9 => 9 | 4 => 4 | 24 => 93 | 3 => 3 | n => n, fun | n => n⟩
theorem Tryz.lays103 : Go.Proofs.Lays.n103 Tryz.prog Tryz.lays103_ren := {
  mixed := by kernel_rfl
  f103 := Tryz.func161.trans (congrArg some (by kernel_rfl))
  f206 := Tryz.func124.trans (congrArg some (by kernel_rfl))
  f210 := Tryz.func188.trans (congrArg some (by kernel_rfl))
  t3 := Tryz.underlying3
  a3 := Tryz.isAgg3
  z3 := Tryz.sizeOf3
  v3 := Tryz.zeroValue3
  t4 := Tryz.underlying4
  a4 := Tryz.isAgg4
  z4 := Tryz.sizeOf4
  v4 := Tryz.zeroValue4
  t9 := Tryz.underlying9
  a9 := Tryz.isAgg9
  z9 := Tryz.sizeOf9
  v9 := Tryz.zeroValue9
  t24 := Tryz.underlying93
  a24 := Tryz.isAgg93
  z24 := Tryz.sizeOf93
  v24 := Tryz.zeroValue93 }
open Go.RowKit in
/-- strings.CutPrefix: "CutPrefix returns s without the provided leading prefix string and reports whether it found the prefix. If s doesn't start with prefix, CutPrefix returns s, false. If prefix is the empty string, CutPrefix returns s, true.": IT RETURNS '(Lib.trimPrefix s p, Lib.hasPrefix s p)'; the world is as it was. (LAID: no walk: one application.) -/
theorem Tryz.strings_CutPrefix (s p : ByteArray) (w : World) :
    Calls Tryz.prog 161 #[.string s, .string p] w fun e w' => e = .returned (.tuple #[.string ⟨(Lib.trimPrefix s.data.toList p.data.toList).toArray⟩, .bool (Lib.hasPrefix s.data.toList p.data.toList)]) ∧ w' = w := Any.strings_CutPrefix Tryz.lays103 s p w
def Tryz.lays172_ren : Go.Shelf.Ren := ⟨fun | 172 => 190 | 244 => 216 | 245 => 166 | 247 => 165 | 279 => 198 | 280 => 199 | 281 => 200 | 282 => 201 | 287 => 197 | 316 => 222 | 171 => 224 | 205 => 223 | 321 => 220 | 322 => 221 | 243 => 229 | 246 => 140 | 283 => 169 | 284 => 170 | 285 => 171 | 286 => 172 | 129 => 205 | 317 => 204 | 318 => 206 | 319 => 207 | 320 => 208 | 337 => 225 | 338 => 226 | n => n, fun | 9 => 9 | 3 => 3 | 75 => 90 | 76 => 91 | 4 => 4 | 5 => 5 | 167 => 227 | 37 => 69 | 0 => 0 | 85 => 169 | 2 => 2 | 168 => 230 | 53 => 163 | 175 => 228 | 46 => 117 | 210 => 257 | 127 => 123 | 145 => 267 | 143 => 265 | 21 => 21 | 171 => 213 | 173 => 216 | 212 => 245 | 51 => 160 | 20 => 20 | 213 => 246 | 232 => 268 | 233 => 269 | 80 => 75 | n => n, fun | 15 => 5 | 16 => 6 | 17 => 3 | 18 => 9 | 19 => 10 | n => n⟩
theorem Tryz.lays172 : Go.Proofs.Lays.n172 Tryz.prog Tryz.lays172_ren := {
  mixed := by kernel_rfl
  f129 := Tryz.func205.trans (congrArg some (by kernel_rfl))
  f171 := Tryz.func224.trans (congrArg some (by kernel_rfl))
  f172 := Tryz.func190.trans (congrArg some (by kernel_rfl))
  f205 := Tryz.func223.trans (congrArg some (by kernel_rfl))
  f243 := Tryz.func229.trans (congrArg some (by kernel_rfl))
  f244 := Tryz.func216.trans (congrArg some (by kernel_rfl))
  f245 := Tryz.func166.trans (congrArg some (by kernel_rfl))
  f246 := Tryz.func140.trans (congrArg some (by kernel_rfl))
  f247 := Tryz.func165.trans (congrArg some (by kernel_rfl))
  f279 := Tryz.func198.trans (congrArg some (by kernel_rfl))
  f280 := Tryz.func199.trans (congrArg some (by kernel_rfl))
  f281 := Tryz.func200.trans (congrArg some (by kernel_rfl))
  f282 := Tryz.func201.trans (congrArg some (by kernel_rfl))
  f283 := Tryz.func169.trans (congrArg some (by kernel_rfl))
  f284 := Tryz.func170.trans (congrArg some (by kernel_rfl))
  f285 := Tryz.func171.trans (congrArg some (by kernel_rfl))
  f286 := Tryz.func172.trans (congrArg some (by kernel_rfl))
  f287 := Tryz.func197.trans (congrArg some (by kernel_rfl))
  f316 := Tryz.func222.trans (congrArg some (by kernel_rfl))
  f317 := Tryz.func204.trans (congrArg some (by kernel_rfl))
  f318 := Tryz.func206.trans (congrArg some (by kernel_rfl))
  f319 := Tryz.func207.trans (congrArg some (by kernel_rfl))
  f320 := Tryz.func208.trans (congrArg some (by kernel_rfl))
  f321 := Tryz.func220.trans (congrArg some (by kernel_rfl))
  f322 := Tryz.func221.trans (congrArg some (by kernel_rfl))
  f337 := Tryz.func225.trans (congrArg some (by kernel_rfl))
  f338 := Tryz.func226.trans (congrArg some (by kernel_rfl))
  t0 := Tryz.underlying0
  a0 := Tryz.isAgg0
  z0 := Tryz.sizeOf0
  v0 := Tryz.zeroValue0
  t2 := Tryz.underlying2
  a2 := Tryz.isAgg2
  z2 := Tryz.sizeOf2
  v2 := Tryz.zeroValue2
  t3 := Tryz.underlying3
  a3 := Tryz.isAgg3
  z3 := Tryz.sizeOf3
  v3 := Tryz.zeroValue3
  t4 := Tryz.underlying4
  a4 := Tryz.isAgg4
  z4 := Tryz.sizeOf4
  v4 := Tryz.zeroValue4
  t5 := Tryz.underlying5
  a5 := Tryz.isAgg5
  z5 := Tryz.sizeOf5
  v5 := Tryz.zeroValue5
  t9 := Tryz.underlying9
  a9 := Tryz.isAgg9
  z9 := Tryz.sizeOf9
  v9 := Tryz.zeroValue9
  t20 := Tryz.underlying20
  a20 := Tryz.isAgg20
  z20 := Tryz.sizeOf20
  v20 := Tryz.zeroValue20
  t21 := Tryz.underlying21
  a21 := Tryz.isAgg21
  z21 := Tryz.sizeOf21
  v21 := Tryz.zeroValue21
  t37 := Tryz.underlying69
  a37 := Tryz.isAgg69
  z37 := Tryz.sizeOf69
  v37 := Tryz.zeroValue69
  t46 := Tryz.underlying117
  a46 := Tryz.isAgg117
  z46 := Tryz.sizeOf117
  v46 := Tryz.zeroValue117
  t51 := Tryz.underlying160
  a51 := Tryz.isAgg160
  z51 := Tryz.sizeOf160
  v51 := Tryz.zeroValue160
  t53 := Tryz.underlying163
  a53 := Tryz.isAgg163
  z53 := Tryz.sizeOf163
  v53 := Tryz.zeroValue163
  t75 := Tryz.underlying90
  a75 := Tryz.isAgg90
  z75 := Tryz.sizeOf90
  v75 := Tryz.zeroValue90
  t76 := Tryz.underlying91
  a76 := Tryz.isAgg91
  z76 := Tryz.sizeOf91
  v76 := Tryz.zeroValue91
  t85 := Tryz.underlying169
  a85 := Tryz.isAgg169
  z85 := Tryz.sizeOf169
  v85 := Tryz.zeroValue169
  t127 := Tryz.underlying123
  a127 := Tryz.isAgg123
  z127 := Tryz.sizeOf123
  v127 := Tryz.zeroValue123
  t143 := Tryz.underlying265
  a143 := Tryz.isAgg265
  z143 := Tryz.sizeOf265
  v143 := Tryz.zeroValue265
  t145 := Tryz.underlying267
  a145 := Tryz.isAgg267
  z145 := Tryz.sizeOf267
  v145 := Tryz.zeroValue267
  t167 := Tryz.underlying227
  a167 := Tryz.isAgg227
  z167 := Tryz.sizeOf227
  v167 := Tryz.zeroValue227
  t168 := Tryz.underlying230
  a168 := Tryz.isAgg230
  z168 := Tryz.sizeOf230
  v168 := Tryz.zeroValue230
  t171 := Tryz.underlying213
  a171 := Tryz.isAgg213
  z171 := Tryz.sizeOf213
  v171 := Tryz.zeroValue213
  t173 := Tryz.underlying216
  a173 := Tryz.isAgg216
  z173 := Tryz.sizeOf216
  v173 := Tryz.zeroValue216
  t175 := Tryz.underlying228
  a175 := Tryz.isAgg228
  z175 := Tryz.sizeOf228
  v175 := Tryz.zeroValue228
  t210 := Tryz.underlying257
  a210 := Tryz.isAgg257
  z210 := Tryz.sizeOf257
  v210 := Tryz.zeroValue257
  t212 := Tryz.underlying245
  a212 := Tryz.isAgg245
  z212 := Tryz.sizeOf245
  v212 := Tryz.zeroValue245
  t213 := Tryz.underlying246
  a213 := Tryz.isAgg246
  z213 := Tryz.sizeOf246
  t232 := Tryz.underlying268
  a232 := Tryz.isAgg268
  z232 := Tryz.sizeOf268
  v232 := Tryz.zeroValue268
  t233 := Tryz.underlying269
  a233 := Tryz.isAgg269
  z233 := Tryz.sizeOf269
  v233 := Tryz.zeroValue269
  g15 := by kernel_rfl
  g16 := by kernel_rfl
  g17 := by kernel_rfl
  g18 := by kernel_rfl
  g19 := by kernel_rfl }
open Go.RowKit in
/-- strconv.Atoi: "Atoi is equivalent to ParseInt(s, 10, 0), converted to type int.": AT A DECIMAL NUMERAL OF AT MOST 18 BYTES: its value, and a nil error. The world behind the call: the one new row that the library's '[]byte(s)' lays. (LAID: no walk: one application.) -/
theorem Tryz.strconv_Atoi (s : ByteArray) (n : Int) (hl : s.size ≤ 18) (h : Lib.atoi s.data.toList = some n) (w : World) :
    Calls Tryz.prog 190 #[.string s] w fun e w' => e = .returned (.tuple #[.int .i64 n, .nilIface]) ∧ ∃ t, w' = Lib.bytesWorld w 5 t := Any.strconv_Atoi Tryz.lays172 s n hl h w
def Tryz.laysM173_ren : Go.Shelf.Ren := ⟨fun | 173 => 100 | 246 => 140 | 283 => 169 | 284 => 170 | 285 => 171 | 286 => 172 | 129 => 205 | 317 => 204 | 318 => 206 | 319 => 207 | 320 => 208 | 337 => 225 | 338 => 226 | n => n, fun | 2 => 2 | 3 => 3 | 9 => 9 | 4 => 4 | 171 => 213 | 0 => 0 | 53 => 163 | 37 => 69 | 5 => 5 | 173 => 216 | 212 => 245 | 51 => 160 | 20 => 20 | 213 => 246 | 46 => 117 | 232 => 268 | 233 => 269 | n => n, fun | 17 => 3 | 18 => 9 | 19 => 10 | n => n⟩
theorem Tryz.laysM173 : Go.Proofs.LaysM.n173 Tryz.prog Tryz.laysM173_ren := {
  mixed := by kernel_rfl
  f129 := Tryz.func205.trans (congrArg some (by kernel_rfl))
  f173 := Tryz.func100.trans (congrArg some (by kernel_rfl))
  f246 := Tryz.func140.trans (congrArg some (by kernel_rfl))
  f283 := Tryz.func169.trans (congrArg some (by kernel_rfl))
  f284 := Tryz.func170.trans (congrArg some (by kernel_rfl))
  f285 := Tryz.func171.trans (congrArg some (by kernel_rfl))
  f286 := Tryz.func172.trans (congrArg some (by kernel_rfl))
  f317 := Tryz.func204.trans (congrArg some (by kernel_rfl))
  f318 := Tryz.func206.trans (congrArg some (by kernel_rfl))
  f319 := Tryz.func207.trans (congrArg some (by kernel_rfl))
  f320 := Tryz.func208.trans (congrArg some (by kernel_rfl))
  f337 := Tryz.func225.trans (congrArg some (by kernel_rfl))
  f338 := Tryz.func226.trans (congrArg some (by kernel_rfl))
  t0 := Tryz.underlying0
  a0 := Tryz.isAgg0
  z0 := Tryz.sizeOf0
  v0 := Tryz.zeroValue0
  t2 := Tryz.underlying2
  a2 := Tryz.isAgg2
  z2 := Tryz.sizeOf2
  v2 := Tryz.zeroValue2
  t3 := Tryz.underlying3
  a3 := Tryz.isAgg3
  z3 := Tryz.sizeOf3
  v3 := Tryz.zeroValue3
  t4 := Tryz.underlying4
  a4 := Tryz.isAgg4
  z4 := Tryz.sizeOf4
  v4 := Tryz.zeroValue4
  t5 := Tryz.underlying5
  a5 := Tryz.isAgg5
  z5 := Tryz.sizeOf5
  v5 := Tryz.zeroValue5
  t9 := Tryz.underlying9
  a9 := Tryz.isAgg9
  z9 := Tryz.sizeOf9
  v9 := Tryz.zeroValue9
  t20 := Tryz.underlying20
  a20 := Tryz.isAgg20
  z20 := Tryz.sizeOf20
  v20 := Tryz.zeroValue20
  t37 := Tryz.underlying69
  a37 := Tryz.isAgg69
  z37 := Tryz.sizeOf69
  v37 := Tryz.zeroValue69
  t46 := Tryz.underlying117
  a46 := Tryz.isAgg117
  z46 := Tryz.sizeOf117
  v46 := Tryz.zeroValue117
  t51 := Tryz.underlying160
  a51 := Tryz.isAgg160
  z51 := Tryz.sizeOf160
  v51 := Tryz.zeroValue160
  t53 := Tryz.underlying163
  a53 := Tryz.isAgg163
  z53 := Tryz.sizeOf163
  v53 := Tryz.zeroValue163
  t171 := Tryz.underlying213
  a171 := Tryz.isAgg213
  z171 := Tryz.sizeOf213
  v171 := Tryz.zeroValue213
  t173 := Tryz.underlying216
  a173 := Tryz.isAgg216
  z173 := Tryz.sizeOf216
  v173 := Tryz.zeroValue216
  t212 := Tryz.underlying245
  a212 := Tryz.isAgg245
  z212 := Tryz.sizeOf245
  v212 := Tryz.zeroValue245
  t213 := Tryz.underlying246
  a213 := Tryz.isAgg246
  z213 := Tryz.sizeOf246
  t232 := Tryz.underlying268
  a232 := Tryz.isAgg268
  z232 := Tryz.sizeOf268
  v232 := Tryz.zeroValue268
  t233 := Tryz.underlying269
  a233 := Tryz.isAgg269
  z233 := Tryz.sizeOf269
  v233 := Tryz.zeroValue269
  g17 := by kernel_rfl
  g18 := by kernel_rfl
  g19 := by kernel_rfl
  i0 := by kernel_rfl
  i2 := by kernel_rfl
  i3 := by kernel_rfl
  i4 := by kernel_rfl
  i5 := by kernel_rfl
  i9 := by kernel_rfl
  i20 := by kernel_rfl
  i37 := by kernel_rfl
  i46 := by kernel_rfl
  i51 := by kernel_rfl
  i53 := by kernel_rfl
  i171 := by kernel_rfl
  i173 := by kernel_rfl
  i212 := by kernel_rfl
  i232 := by kernel_rfl
  i233 := by kernel_rfl
  m17 := by kernel_rfl
  m18 := by kernel_rfl
  m19 := by kernel_rfl }
open Go.RowKit Go.Sort Go.Lib in
/-- strconv.FormatInt: "FormatInt returns the string representation of i in the given base": AT BASE 10: i's decimal numeral, for every int64. (LAID: no walk: one application.) -/
theorem Tryz.strconv_FormatInt_10 (n : Int) (h0 : -9223372036854775808 ≤ n) (h1 : n ≤ 9223372036854775807) (w : World) (htab : Lib.TabIs Tryz.prog w "internal/strconv.uint64pow10" .u64 Lib.pow10Tab) :
    Calls Tryz.prog 100 #[.int .i64 n, .int .i64 10] w fun e w' => e = .returned (.string ⟨(Lib.itoa n).toArray⟩) ∧ ∃ k os, w' = grow (w.drewN k) os := Any.strconv_FormatInt_10 Tryz.laysM173 n h0 h1 w htab
def Tryz.laysC174_ren : Go.Shelf.Ren := ⟨fun | 174 => 130 | 247 => 165 | 245 => 166 | 287 => 197 | 279 => 198 | 280 => 199 | 281 => 200 | 282 => 201 | 321 => 220 | 322 => 221 | 316 => 222 | 171 => 224 | 205 => 223 | 243 => 229 | 246 => 140 | 283 => 169 | 284 => 170 | 285 => 171 | 286 => 172 | 129 => 205 | 317 => 204 | 318 => 206 | 319 => 207 | 320 => 208 | 337 => 225 | 338 => 226 | n => n, fun | 9 => 9 | 3 => 3 | 2 => 2 | 75 => 90 | 85 => 169 | 4 => 4 | 167 => 227 | 5 => 5 | 53 => 163 | 175 => 228 | 46 => 117 | 168 => 230 | 37 => 69 | 0 => 0 | 210 => 257 | 21 => 21 | 127 => 123 | 145 => 267 | 143 => 265 | 171 => 213 | 173 => 216 | 212 => 245 | 51 => 160 | 20 => 20 | 213 => 246 | 232 => 268 | 233 => 269 | 80 => 75 | n => n, fun | 15 => 5 | 16 => 6 | 17 => 3 | 18 => 9 | 19 => 10 | n => n⟩
theorem Tryz.laysC174 : Go.Proofs.LaysC.n174 Tryz.prog Tryz.laysC174_ren := {
  mixed := by kernel_rfl
  f129 := Tryz.func205.trans (congrArg some (by kernel_rfl))
  f171 := Tryz.func224.trans (congrArg some (by kernel_rfl))
  f174 := Tryz.func130.trans (congrArg some (by kernel_rfl))
  f205 := Tryz.func223.trans (congrArg some (by kernel_rfl))
  f243 := Tryz.func229.trans (congrArg some (by kernel_rfl))
  f245 := Tryz.func166.trans (congrArg some (by kernel_rfl))
  f246 := Tryz.func140.trans (congrArg some (by kernel_rfl))
  f247 := Tryz.func165.trans (congrArg some (by kernel_rfl))
  f279 := Tryz.func198.trans (congrArg some (by kernel_rfl))
  f280 := Tryz.func199.trans (congrArg some (by kernel_rfl))
  f281 := Tryz.func200.trans (congrArg some (by kernel_rfl))
  f282 := Tryz.func201.trans (congrArg some (by kernel_rfl))
  f283 := Tryz.func169.trans (congrArg some (by kernel_rfl))
  f284 := Tryz.func170.trans (congrArg some (by kernel_rfl))
  f285 := Tryz.func171.trans (congrArg some (by kernel_rfl))
  f286 := Tryz.func172.trans (congrArg some (by kernel_rfl))
  f287 := Tryz.func197.trans (congrArg some (by kernel_rfl))
  f316 := Tryz.func222.trans (congrArg some (by kernel_rfl))
  f317 := Tryz.func204.trans (congrArg some (by kernel_rfl))
  f318 := Tryz.func206.trans (congrArg some (by kernel_rfl))
  f319 := Tryz.func207.trans (congrArg some (by kernel_rfl))
  f320 := Tryz.func208.trans (congrArg some (by kernel_rfl))
  f321 := Tryz.func220.trans (congrArg some (by kernel_rfl))
  f322 := Tryz.func221.trans (congrArg some (by kernel_rfl))
  f337 := Tryz.func225.trans (congrArg some (by kernel_rfl))
  f338 := Tryz.func226.trans (congrArg some (by kernel_rfl))
  t0 := Tryz.underlying0
  a0 := Tryz.isAgg0
  z0 := Tryz.sizeOf0
  v0 := Tryz.zeroValue0
  t2 := Tryz.underlying2
  a2 := Tryz.isAgg2
  z2 := Tryz.sizeOf2
  v2 := Tryz.zeroValue2
  t3 := Tryz.underlying3
  a3 := Tryz.isAgg3
  z3 := Tryz.sizeOf3
  v3 := Tryz.zeroValue3
  t4 := Tryz.underlying4
  a4 := Tryz.isAgg4
  z4 := Tryz.sizeOf4
  v4 := Tryz.zeroValue4
  t5 := Tryz.underlying5
  a5 := Tryz.isAgg5
  z5 := Tryz.sizeOf5
  v5 := Tryz.zeroValue5
  t9 := Tryz.underlying9
  a9 := Tryz.isAgg9
  z9 := Tryz.sizeOf9
  v9 := Tryz.zeroValue9
  t20 := Tryz.underlying20
  a20 := Tryz.isAgg20
  z20 := Tryz.sizeOf20
  v20 := Tryz.zeroValue20
  t21 := Tryz.underlying21
  a21 := Tryz.isAgg21
  z21 := Tryz.sizeOf21
  v21 := Tryz.zeroValue21
  t37 := Tryz.underlying69
  a37 := Tryz.isAgg69
  z37 := Tryz.sizeOf69
  v37 := Tryz.zeroValue69
  t46 := Tryz.underlying117
  a46 := Tryz.isAgg117
  z46 := Tryz.sizeOf117
  v46 := Tryz.zeroValue117
  t51 := Tryz.underlying160
  a51 := Tryz.isAgg160
  z51 := Tryz.sizeOf160
  v51 := Tryz.zeroValue160
  t53 := Tryz.underlying163
  a53 := Tryz.isAgg163
  z53 := Tryz.sizeOf163
  v53 := Tryz.zeroValue163
  t75 := Tryz.underlying90
  a75 := Tryz.isAgg90
  z75 := Tryz.sizeOf90
  v75 := Tryz.zeroValue90
  t85 := Tryz.underlying169
  a85 := Tryz.isAgg169
  z85 := Tryz.sizeOf169
  v85 := Tryz.zeroValue169
  t127 := Tryz.underlying123
  a127 := Tryz.isAgg123
  z127 := Tryz.sizeOf123
  v127 := Tryz.zeroValue123
  t143 := Tryz.underlying265
  a143 := Tryz.isAgg265
  z143 := Tryz.sizeOf265
  v143 := Tryz.zeroValue265
  t145 := Tryz.underlying267
  a145 := Tryz.isAgg267
  z145 := Tryz.sizeOf267
  v145 := Tryz.zeroValue267
  t167 := Tryz.underlying227
  a167 := Tryz.isAgg227
  z167 := Tryz.sizeOf227
  v167 := Tryz.zeroValue227
  t168 := Tryz.underlying230
  a168 := Tryz.isAgg230
  z168 := Tryz.sizeOf230
  v168 := Tryz.zeroValue230
  t171 := Tryz.underlying213
  a171 := Tryz.isAgg213
  z171 := Tryz.sizeOf213
  v171 := Tryz.zeroValue213
  t173 := Tryz.underlying216
  a173 := Tryz.isAgg216
  z173 := Tryz.sizeOf216
  v173 := Tryz.zeroValue216
  t175 := Tryz.underlying228
  a175 := Tryz.isAgg228
  z175 := Tryz.sizeOf228
  v175 := Tryz.zeroValue228
  t210 := Tryz.underlying257
  a210 := Tryz.isAgg257
  z210 := Tryz.sizeOf257
  v210 := Tryz.zeroValue257
  t212 := Tryz.underlying245
  a212 := Tryz.isAgg245
  z212 := Tryz.sizeOf245
  v212 := Tryz.zeroValue245
  t213 := Tryz.underlying246
  a213 := Tryz.isAgg246
  z213 := Tryz.sizeOf246
  t232 := Tryz.underlying268
  a232 := Tryz.isAgg268
  z232 := Tryz.sizeOf268
  v232 := Tryz.zeroValue268
  t233 := Tryz.underlying269
  a233 := Tryz.isAgg269
  z233 := Tryz.sizeOf269
  v233 := Tryz.zeroValue269
  g15 := by kernel_rfl
  g16 := by kernel_rfl
  g17 := by kernel_rfl
  g18 := by kernel_rfl
  g19 := by kernel_rfl
  t80 := Tryz.underlying75
  a80 := Tryz.isAgg75
  z80 := Tryz.sizeOf75
  v80 := Tryz.zeroValue75
  i0 := by kernel_rfl
  i2 := by kernel_rfl
  i3 := by kernel_rfl
  i4 := by kernel_rfl
  i5 := by kernel_rfl
  i9 := by kernel_rfl
  i20 := by kernel_rfl
  i21 := by kernel_rfl
  i37 := by kernel_rfl
  i46 := by kernel_rfl
  i51 := by kernel_rfl
  i53 := by kernel_rfl
  i75 := by kernel_rfl
  i80 := by kernel_rfl
  i85 := by kernel_rfl
  i127 := by kernel_rfl
  i143 := by kernel_rfl
  i145 := by kernel_rfl
  i167 := by kernel_rfl
  i168 := by kernel_rfl
  i171 := by kernel_rfl
  i173 := by kernel_rfl
  i175 := by kernel_rfl
  i210 := by kernel_rfl
  i212 := by kernel_rfl
  i232 := by kernel_rfl
  i233 := by kernel_rfl
  m15 := by kernel_rfl
  m16 := by kernel_rfl
  m17 := by kernel_rfl
  m18 := by kernel_rfl
  m19 := by kernel_rfl
  c0 := by kernel_rfl
  c2 := by kernel_rfl
  c3 := by kernel_rfl
  c4 := by kernel_rfl
  c5 := by kernel_rfl
  c9 := by kernel_rfl
  c20 := by kernel_rfl
  c21 := by kernel_rfl
  c37 := by kernel_rfl
  c46 := by kernel_rfl
  c51 := by kernel_rfl
  c53 := by kernel_rfl
  c75 := by kernel_rfl
  c80 := by kernel_rfl
  c85 := by kernel_rfl
  c127 := by kernel_rfl
  c143 := by kernel_rfl
  c145 := by kernel_rfl
  c167 := by kernel_rfl
  c168 := by kernel_rfl
  c171 := by kernel_rfl
  c173 := by kernel_rfl
  c175 := by kernel_rfl
  c210 := by kernel_rfl
  c212 := by kernel_rfl
  c213 := by kernel_rfl
  c232 := by kernel_rfl
  c233 := by kernel_rfl }
open Go.RowKit in
/-- strconv.ParseInt(s, 10, 64), AT EVERY STRING THAT SPELLS AN int64 ('Lib.parseIntB 64 s.data.toList = .ok v'): v, AND NO ERROR. (LAID: no walk: one application.) -/
theorem Tryz.strconv_ParseInt_10_at64_ok (s : ByteArray) (hmax : s.size ≤ 9223372036854775806) (v : Int) (h : Lib.parseIntB 64 s.data.toList = .ok v) (w : World) :
    Calls Tryz.prog 130 #[.string s, .int .i64 10, .int .i64 64] w fun e w' => e = .returned (.tuple #[.int .i64 v, .nilIface]) ∧ (w' = w ∨ ∃ t, w' = Lib.bytesWorld w 5 t) := Any.strconv_ParseInt_10_at64_ok Tryz.laysC174 s hmax v h w
open Go.RowKit in
/-- strconv.ParseInt(s, 10, 64), AT EVERY NUMERAL THAT NO int64 HOLDS: THE GREATEST OR THE LEAST int64, BY THE SIGN ('Lib.intSat 64'), AND AN ERROR THAT IS NOT nil: a *NumError in a new block N: {Func: "ParseInt", Num: s's bytes, Err: what the variable ErrRange holds}. Of what was there nothing has turned. (LAID: no walk: one application.) -/
theorem Tryz.strconv_ParseInt_10_at64_range (s : ByteArray) (hlim : s.size ≤ 281474976710656) (h : Lib.parseIntB 64 s.data.toList = .range) (ev : Value) (w : World) (hv : w.cell? ⟨6, 0, none⟩ = some ev) (hev : ev = .nilIface ∨ ∃ te pe, ev = .iface te pe) :
    Calls Tryz.prog 130 #[.string s, .int .i64 10, .int .i64 64] w fun e w' => ∃ N, e = .returned (.tuple #[.int .i64 (Lib.intSat 64 s.data.toList), .iface 230 (.pointer (some ⟨N, 0, none⟩))]) ∧ w.heap.size ≤ N ∧ w'.heap[N]? = some (.cells #[.string ⟨#[80, 97, 114, 115, 101, 73, 110, 116]⟩, .string s, ev] 257 (0, 0)) ∧ Below w.heap.size w w' := Any.strconv_ParseInt_10_at64_range Tryz.laysC174 s hlim h ev w hv hev
def Tryz.lays144_ren : Go.Shelf.Ren := ⟨fun | 144 => 56 | 143 => 104 | 219 => 142 | 217 => 85 | 225 => 173 | 224 => 174 | 267 => 175 | 266 => 128 | 314 => 209 | n => n, fun | 9 => 9 | 4 => 4 | 3 => 3 | 5 => 5 | 46 => 117 | 146 => 161 | 51 => 160 | n => n, fun | 1 => 1 | n => n⟩
theorem Tryz.lays144 : Go.Proofs.Lays.n144 Tryz.prog Tryz.lays144_ren := {
  mixed := by kernel_rfl
  f143 := Tryz.func104.trans (congrArg some (by kernel_rfl))
  f144 := Tryz.func56.trans (congrArg some (by kernel_rfl))
  f217 := Tryz.func85.trans (congrArg some (by kernel_rfl))
  f219 := Tryz.func142.trans (congrArg some (by kernel_rfl))
  f224 := Tryz.func174.trans (congrArg some (by kernel_rfl))
  f225 := Tryz.func173.trans (congrArg some (by kernel_rfl))
  f266 := Tryz.func128.trans (congrArg some (by kernel_rfl))
  f267 := Tryz.func175.trans (congrArg some (by kernel_rfl))
  f314 := Tryz.func209.trans (congrArg some (by kernel_rfl))
  t3 := Tryz.underlying3
  a3 := Tryz.isAgg3
  z3 := Tryz.sizeOf3
  v3 := Tryz.zeroValue3
  t4 := Tryz.underlying4
  a4 := Tryz.isAgg4
  z4 := Tryz.sizeOf4
  v4 := Tryz.zeroValue4
  t5 := Tryz.underlying5
  a5 := Tryz.isAgg5
  z5 := Tryz.sizeOf5
  v5 := Tryz.zeroValue5
  t9 := Tryz.underlying9
  a9 := Tryz.isAgg9
  z9 := Tryz.sizeOf9
  v9 := Tryz.zeroValue9
  t46 := Tryz.underlying117
  a46 := Tryz.isAgg117
  z46 := Tryz.sizeOf117
  v46 := Tryz.zeroValue117
  t51 := Tryz.underlying160
  a51 := Tryz.isAgg160
  z51 := Tryz.sizeOf160
  v51 := Tryz.zeroValue160
  t146 := Tryz.underlying161
  a146 := Tryz.isAgg161
  z146 := Tryz.sizeOf161
  v146 := Tryz.zeroValue161
  g1 := by kernel_rfl }
open Go.RowKit Go.Lib in
/-- strings.Contains: "Contains reports whether substr is within s.": AT A substr OF ONE BYTE c: IT RETURNS 'decide (0 ≤ Lib.indexByte s c)'; the world is as it was. (LAID: no walk: one application.) -/
theorem Tryz.strings_Contains_one (s : ByteArray) (c : UInt8) (w : World) :
    Calls Tryz.prog 56 #[.string s, .string ⟨#[c]⟩] w fun e w' => e = .returned (.bool (decide (0 ≤ Lib.indexByte s.data.toList c))) ∧ w' = w := Any.strings_Contains_one Tryz.lays144 s c w
def Tryz.lays146_ren : Go.Shelf.Ren := ⟨fun | 146 => 162 | 221 => 189 | 268 => 215 | 138 => 54 | 143 => 104 | 195 => 102 | 197 => 185 | 218 => 103 | 219 => 142 | 260 => 212 | 217 => 85 | 225 => 173 | 224 => 174 | 267 => 175 | 266 => 128 | 314 => 209 | n => n, fun | 9 => 9 | 31 => 38 | 3 => 3 | 4 => 4 | 0 => 0 | 105 => 222 | 21 => 21 | 5 => 5 | 46 => 117 | 119 => 178 | 139 => 264 | 138 => 263 | 146 => 161 | 51 => 160 | n => n, fun | 1 => 1 | 3 => 7 | 4 => 8 | n => n⟩
theorem Tryz.lays146 : Go.Proofs.Lays.n146 Tryz.prog Tryz.lays146_ren := {
  mixed := by kernel_rfl
  f138 := Tryz.func54.trans (congrArg some (by kernel_rfl))
  f143 := Tryz.func104.trans (congrArg some (by kernel_rfl))
  f146 := Tryz.func162.trans (congrArg some (by kernel_rfl))
  f195 := Tryz.func102.trans (congrArg some (by kernel_rfl))
  f197 := Tryz.func185.trans (congrArg some (by kernel_rfl))
  f217 := Tryz.func85.trans (congrArg some (by kernel_rfl))
  f218 := Tryz.func103.trans (congrArg some (by kernel_rfl))
  f219 := Tryz.func142.trans (congrArg some (by kernel_rfl))
  f221 := Tryz.func189.trans (congrArg some (by kernel_rfl))
  f224 := Tryz.func174.trans (congrArg some (by kernel_rfl))
  f225 := Tryz.func173.trans (congrArg some (by kernel_rfl))
  f260 := Tryz.func212.trans (congrArg some (by kernel_rfl))
  f266 := Tryz.func128.trans (congrArg some (by kernel_rfl))
  f267 := Tryz.func175.trans (congrArg some (by kernel_rfl))
  f268 := Tryz.func215.trans (congrArg some (by kernel_rfl))
  f314 := Tryz.func209.trans (congrArg some (by kernel_rfl))
  t0 := Tryz.underlying0
  a0 := Tryz.isAgg0
  z0 := Tryz.sizeOf0
  v0 := Tryz.zeroValue0
  t3 := Tryz.underlying3
  a3 := Tryz.isAgg3
  z3 := Tryz.sizeOf3
  v3 := Tryz.zeroValue3
  t4 := Tryz.underlying4
  a4 := Tryz.isAgg4
  z4 := Tryz.sizeOf4
  v4 := Tryz.zeroValue4
  t5 := Tryz.underlying5
  a5 := Tryz.isAgg5
  z5 := Tryz.sizeOf5
  v5 := Tryz.zeroValue5
  t9 := Tryz.underlying9
  a9 := Tryz.isAgg9
  z9 := Tryz.sizeOf9
  v9 := Tryz.zeroValue9
  t21 := Tryz.underlying21
  a21 := Tryz.isAgg21
  z21 := Tryz.sizeOf21
  v21 := Tryz.zeroValue21
  t31 := Tryz.underlying38
  a31 := Tryz.isAgg38
  z31 := Tryz.sizeOf38
  v31 := Tryz.zeroValue38
  t46 := Tryz.underlying117
  a46 := Tryz.isAgg117
  z46 := Tryz.sizeOf117
  v46 := Tryz.zeroValue117
  t51 := Tryz.underlying160
  a51 := Tryz.isAgg160
  z51 := Tryz.sizeOf160
  v51 := Tryz.zeroValue160
  t105 := Tryz.underlying222
  a105 := Tryz.isAgg222
  z105 := Tryz.sizeOf222
  v105 := Tryz.zeroValue222
  t119 := Tryz.underlying178
  a119 := Tryz.isAgg178
  z119 := Tryz.sizeOf178
  t138 := Tryz.underlying263
  a138 := Tryz.isAgg263
  z138 := Tryz.sizeOf263
  v138 := Tryz.zeroValue263
  t139 := Tryz.underlying264
  a139 := Tryz.isAgg264
  z139 := Tryz.sizeOf264
  v139 := Tryz.zeroValue264
  t146 := Tryz.underlying161
  a146 := Tryz.isAgg161
  z146 := Tryz.sizeOf161
  v146 := Tryz.zeroValue161
  g1 := by kernel_rfl
  g3 := by kernel_rfl
  g4 := by kernel_rfl }
open Go.RowKit Go.Lib in
/-- strings.Split. (LAID: no walk: one application.) -/
theorem Tryz.strings_Split (s sep : ByteArray) (m : Int) (w : World) (hs : s.size < 4294967281) (hm : w.cell? ⟨1, 0, none⟩ = some (.int .i64 m)) (h1 : 1 ≤ sep.size) :
    Calls Tryz.prog 162 #[.string s, .string sep] w fun e w' =>
      e = .returned (.slice (some ⟨w.heap.size, 0, none⟩) (Lib.countB s sep + 1) (Lib.countB s sep + 1)) ∧ w' = w.alloc (.cells ((Lib.splitB sep 0 (Lib.countB s sep) s).map Value.string).toArray 9) := Any.strings_Split Tryz.lays146 (by kernel_rfl) s sep m w hs hm h1
def Tryz.lays105_ren : Go.Shelf.Ren := ⟨fun | 105 => 32 | 212 => 77 | 99 => 78 | 165 => 79 | 166 => 48 | 170 => 80 | 169 => 39 | 263 => 122 | 264 => 123 | 206 => 124 | 240 => 97 | 241 => 125 | 276 => 136 | 277 => 153 | n => n, fun | 9 => 9 | 3 => 3 | 4 => 4 | 20 => 20 | 0 => 0 | 46 => 117 | 109 => 118 | 5 => 5 | 72 => 71 | 76 => 91 | 51 => 160 | 146 => 161 | 53 => 163 | 148 => 164 | 70 => 68 | 37 => 69 | 75 => 90 | 127 => 123 | 164 => 176 | 80 => 75 | n => n, fun | n => n⟩
theorem Tryz.lays105 : Go.Proofs.Lays.n105 Tryz.prog Tryz.lays105_ren := {
  mixed := by kernel_rfl
  f99 := Tryz.func78.trans (congrArg some (by kernel_rfl))
  f105 := Tryz.func32.trans (congrArg some (by kernel_rfl))
  f165 := Tryz.func79.trans (congrArg some (by kernel_rfl))
  f166 := Tryz.func48.trans (congrArg some (by kernel_rfl))
  f169 := Tryz.func39.trans (congrArg some (by kernel_rfl))
  f170 := Tryz.func80.trans (congrArg some (by kernel_rfl))
  f206 := Tryz.func124.trans (congrArg some (by kernel_rfl))
  f212 := Tryz.func77.trans (congrArg some (by kernel_rfl))
  f240 := Tryz.func97.trans (congrArg some (by kernel_rfl))
  f241 := Tryz.func125.trans (congrArg some (by kernel_rfl))
  f263 := Tryz.func122.trans (congrArg some (by kernel_rfl))
  f264 := Tryz.func123.trans (congrArg some (by kernel_rfl))
  f276 := Tryz.func136.trans (congrArg some (by kernel_rfl))
  f277 := Tryz.func153.trans (congrArg some (by kernel_rfl))
  t0 := Tryz.underlying0
  a0 := Tryz.isAgg0
  z0 := Tryz.sizeOf0
  v0 := Tryz.zeroValue0
  t3 := Tryz.underlying3
  a3 := Tryz.isAgg3
  z3 := Tryz.sizeOf3
  v3 := Tryz.zeroValue3
  t4 := Tryz.underlying4
  a4 := Tryz.isAgg4
  z4 := Tryz.sizeOf4
  v4 := Tryz.zeroValue4
  t5 := Tryz.underlying5
  a5 := Tryz.isAgg5
  z5 := Tryz.sizeOf5
  v5 := Tryz.zeroValue5
  t9 := Tryz.underlying9
  a9 := Tryz.isAgg9
  z9 := Tryz.sizeOf9
  v9 := Tryz.zeroValue9
  t20 := Tryz.underlying20
  a20 := Tryz.isAgg20
  z20 := Tryz.sizeOf20
  v20 := Tryz.zeroValue20
  t37 := Tryz.underlying69
  a37 := Tryz.isAgg69
  z37 := Tryz.sizeOf69
  v37 := Tryz.zeroValue69
  t46 := Tryz.underlying117
  a46 := Tryz.isAgg117
  z46 := Tryz.sizeOf117
  v46 := Tryz.zeroValue117
  t51 := Tryz.underlying160
  a51 := Tryz.isAgg160
  z51 := Tryz.sizeOf160
  v51 := Tryz.zeroValue160
  t53 := Tryz.underlying163
  a53 := Tryz.isAgg163
  z53 := Tryz.sizeOf163
  v53 := Tryz.zeroValue163
  t70 := Tryz.underlying68
  a70 := Tryz.isAgg68
  z70 := Tryz.sizeOf68
  v70 := Tryz.zeroValue68
  t72 := Tryz.underlying71
  a72 := Tryz.isAgg71
  z72 := Tryz.sizeOf71
  v72 := Tryz.zeroValue71
  t75 := Tryz.underlying90
  a75 := Tryz.isAgg90
  z75 := Tryz.sizeOf90
  v75 := Tryz.zeroValue90
  t76 := Tryz.underlying91
  a76 := Tryz.isAgg91
  z76 := Tryz.sizeOf91
  v76 := Tryz.zeroValue91
  t109 := Tryz.underlying118
  a109 := Tryz.isAgg118
  z109 := Tryz.sizeOf118
  v109 := Tryz.zeroValue118
  t127 := Tryz.underlying123
  a127 := Tryz.isAgg123
  z127 := Tryz.sizeOf123
  v127 := Tryz.zeroValue123
  t146 := Tryz.underlying161
  a146 := Tryz.isAgg161
  z146 := Tryz.sizeOf161
  v146 := Tryz.zeroValue161
  t148 := Tryz.underlying164
  a148 := Tryz.isAgg164
  z148 := Tryz.sizeOf164
  v148 := Tryz.zeroValue164
  t164 := Tryz.underlying176
  a164 := Tryz.isAgg176
  z164 := Tryz.sizeOf176
  v164 := Tryz.zeroValue176 }
theorem Tryz.Builder_Extra_105 : Builder.Extra Tryz.prog Tryz.lays105_ren := {
  sizeBuilder := by kernel_rfl
  liesBuilder := by kernel_rfl
  t5 := Tryz.underlying5
  a5 := Tryz.isAgg5
  z5 := Tryz.sizeOf5
  v5 := Tryz.zeroValue5
  infoByte := by kernel_rfl
  cellsByte := by kernel_rfl
  sizeByte := by kernel_rfl
  neB5 := by decide }
open Go.RowKit Go.Lib in
/-- **strings.Repeat: count ≥ 0, the result within one allocation: count copies of s.** (LAID: no walk: one application.) -/
theorem Tryz.strings_Repeat (s : ByteArray) (c : Nat) (w : World) (hc : c ≤ 9223372036854775807) (hlen : s.size * c ≤ 140737488355328) :
    Calls Tryz.prog 32 #[.string s, .int .i64 c] w fun e w' => e = .returned (.string ⟨(Lib.repeatL s.data.toList c).toArray⟩) ∧ Below w.heap.size w w' := Any.strings_Repeat Tryz.lays105 Tryz.Builder_Extra_105 s c w hc hlen
end Go.Proofs
end

section
namespace Go.Proofs.YtcinojbfjiohjaaGreatDoor.Civ
open Go Go.RowKit Go.Proofs.YtcinojbfjiohjaaGreatDoor.PPrintTells Go.Proofs.YtcinojbfjiohjaaGreatDoorW.PrintWords Go.Proofs.YtcinojbfjiohjaaGreatDoorW.PrintLast Go.Proofs.YtcinojbfjiohjaaGreatDoorW.PrintMore Go.Proofs.YtcinojbfjiohjaaGreatDoor.Ex Go.Sort
attribute [local go_sem] max2_int min2_int max_two min_two
set_option linter.unusedVariables false
set_option linter.unusedSimpArgs false
/-- What the date's functions want of the library's variables. -/
structure Cal (w : World) : Prop where
  months : Months w
  pow : Lib.TabIs Tryz.prog w "internal/strconv.uint64pow10" .u64 Lib.pow10Tab
  maxl : ∃ m, w.cell? ⟨1, 0, none⟩ = some (.int .i64 m)
theorem gPow : Tryz.prog.globalNamed "internal/strconv.uint64pow10" = some 3 := by kernel_rfl
theorem Cal.l {w w' : World} (h : Cal w) (k : Lt w w') : Cal w' := by
  obtain ⟨m, hm⟩ := h.maxl
  refine ⟨h.months.l k, ?_, m, (k.out.cell (World.block_lt_of_cell? w _ hm)).trans hm⟩
  have hp := h.pow
  have h0 : w.cell? ⟨3, 0, none⟩ = some (.int .u64 1) := hp.cell gPow 0 (by decide)
  exact var?_below k.out gPow (World.block_lt_of_cell? w _ h0) hp
theorem lt_grow (w : World) (k : Nat) (os : Array Obj) : Lt w (grow (w.drewN k) os) :=
  ⟨⟨rfl, rfl, rfl, by rw [size_grow]; exact Nat.le_add_right _ _, fun i hi => heap_grow_old (w.drewN k) os hi⟩⟩
theorem lt_bytes (w : World) (e : TypeId) (s : ByteArray) : Lt w (Lib.bytesWorld w e s) := ⟨bytes_below (Below.refl _ _) (Nat.le_refl _) e s⟩
theorem toList_data' (s : ByteArray) : s.toList = s.data.toList := Lib.toList_data s
/-- The number that digits spell. -/
def natv (l : List UInt8) : Int := ((Lib.decNat l).getD 0 : Nat)
/-- What number answers. -/
def numF (s : ByteArray) (d : Int) : Int × Bool := if (s.size : Int) = d ∧ s.data.toList.all digitB = true then (natv s.data.toList, true) else (0, false)
theorem decFrom_all (l : List UInt8) : ∀ acc, l.all digitB = true → ∃ n, Lib.decFrom acc l = some n := by
  induction l with
  | nil => intro acc _; exact ⟨acc, rfl⟩
  | cons b l ih =>
    intro acc h
    rw [List.all_cons, Bool.and_eq_true] at h
    have hb := h.1
    unfold digitB at hb
    rw [Bool.and_eq_true, decide_eq_true_eq, decide_eq_true_eq] at hb
    obtain ⟨n, hn⟩ := ih (acc * 10 + (b.toNat - 48)) h.2
    refine ⟨n, ?_⟩
    rw [Lib.decFrom, Lib.digitVal, if_pos hb]
    exact hn
theorem atoi_all {l : List UInt8} (h : l.all digitB = true) (h0 : l ≠ []) : Lib.atoi l = some (natv l) := by
  cases l with
  | nil => exact absurd rfl h0
  | cons b l =>
    have hb := h
    rw [List.all_cons, Bool.and_eq_true] at hb
    have hb := hb.1
    unfold digitB at hb
    rw [Bool.and_eq_true, decide_eq_true_eq, decide_eq_true_eq] at hb
    obtain ⟨n, hn⟩ := decFrom_all (b :: l) 0 h
    have h45 : (b == 45) = false := beq_eq_false_iff_ne.2 (fun he => by rw [he] at hb; exact absurd hb.1 (by decide))
    have h43 : (b == 43) = false := beq_eq_false_iff_ne.2 (fun he => by rw [he] at hb; exact absurd hb.1 (by decide))
    have hd : Lib.decNat (b :: l) = some n := by unfold Lib.decNat; rw [if_neg (by simp)]; exact hn
    rw [Lib.atoi, h45, h43]
    unfold natv
    rw [hd]
    rfl
abbrev digitsS : ByteArray := { data := #[48, 49, 50, 51, 52, 53, 54, 55, 56, 57] }
theorem TrimD_calls (s : ByteArray) (w : World) (hs : s.size ≤ 9223372036854775807) :
    Calls Tryz.prog 127 #[.string s, .string digitsS] w fun e w' => e = .returned (.string ⟨(Lib.trimS s.data.toList digitsL).toArray⟩) ∧ Below w.heap.size w w' :=
  Any.strings_Trim_laid Tryz.lays160 (by kernel_rfl) s digitsS w hs (by decide) (ascii_of_all (by decide))
theorem natv_bd {l : List UInt8} (h : l.all digitB = true) (h0 : l ≠ []) (hl : l.length ≤ 18) : 0 ≤ natv l ∧ natv l < 1000000000000000000 := ⟨by unfold natv; omega, (Lib.atoi_bound (atoi_all h h0) hl).2⟩
theorem numF_bd (s : ByteArray) (d : Int) (h1 : 1 ≤ d) (h2 : d ≤ 18) : 0 ≤ (numF s d).1 ∧ (numF s d).1 < 1000000000000000000 := by
  unfold numF
  split
  · rename_i h
    have hl : s.size = s.data.toList.length := (Array.length_toList).symm
    exact natv_bd h.2 (fun he => by rw [he] at hl; have h0 : s.size = 0 := hl; omega) (by omega)
  · exact ⟨Int.le_refl _, by decide⟩
set_option maxHeartbeats 4000000 in
theorem number_lt (s : ByteArray) (d : Int) (w : World) (hd : 1 ≤ d) (hd2 : d ≤ 18) :
    Calls Tryz.prog 163 #[.string s, .int .i64 d] w fun e w' => e = .returned (.tuple #[.int .i64 (numF s d).1, .bool (numF s d).2]) ∧ Lt w w' := by
  have hsz : s.size = s.data.toList.length := (Array.length_toList).symm
  by_cases h1 : (s.size : Int) = d
  · have CT := Aside0.mk (TrimD_calls s w (by omega))
    have h1' : ((s.size : Int) == d) = true := beq_iff_eq.2 h1
    by_cases h2 : s.data.toList.all digitB = true
    · have hr : numF s d = (natv s.data.toList, true) := by unfold numF; rw [if_pos ⟨h1, h2⟩]
      rw [hr]
      have hne : s.data.toList ≠ [] := fun he => by rw [he] at hsz; have h0 : s.size = 0 := hsz; omega
      have CA := Aside0.mk (fun w => Tryz.strconv_Atoi s (natv s.data.toList) (by omega) (atoi_all h2 hne) w)
      have he : ((⟨(Lib.trimS s.data.toList digitsL).toArray⟩ : ByteArray)).toList.isEmpty = true := by
        rw [toList_data', List.isEmpty_iff]
        show Lib.trimS s.data.toList digitsL = []
        rw [trimS_nil]
        have hfun : (digitsL.contains ·) = digitB := by funext x; exact contains_digits x
        rw [hfun]
        exact h2
      generalize natv s.data.toList = v at *
      generalize (⟨(Lib.trimS s.data.toList digitsL).toArray⟩ : ByteArray) = t at *
      clear hr h2 hne hsz hd hd2
      go_enter Tryz.func163, Tryz.ntmps163
      go_wp2_with fail
      (with_reducible refine CT.out.mono ?_)
      rintro e w1 ⟨rfl, hb1⟩
      have HB1 := Aside0.mk hb1
      clear hb1
      go_wp2_with fail
      (with_reducible refine (CA.out _).mono ?_)
      rintro e w2 ⟨rfl, t2, rfl⟩
      go_wp2
      go_ret2
      exact ⟨rfl, (Lt.mk HB1.out).trans (lt_bytes _ _ _)⟩
    · have hr : numF s d = (0, false) := by unfold numF; rw [if_neg (fun h => h2 h.2)]
      rw [hr]
      have he : ((⟨(Lib.trimS s.data.toList digitsL).toArray⟩ : ByteArray)).toList.isEmpty = false := by
        rw [toList_data', Bool.eq_false_iff]
        intro hh
        rw [List.isEmpty_iff] at hh
        have hh : Lib.trimS s.data.toList digitsL = [] := hh
        rw [trimS_nil] at hh
        have hfun : (digitsL.contains ·) = digitB := by funext x; exact contains_digits x
        rw [hfun] at hh
        exact h2 hh
      generalize (⟨(Lib.trimS s.data.toList digitsL).toArray⟩ : ByteArray) = t at *
      clear hr h2 hsz hd hd2
      go_enter Tryz.func163, Tryz.ntmps163
      go_wp2_with fail
      (with_reducible refine CT.out.mono ?_)
      rintro e w1 ⟨rfl, hb1⟩
      have HB1 := Aside0.mk hb1
      clear hb1
      go_wp2
      go_ret2
      exact ⟨rfl, Lt.mk HB1.out⟩
  · have hr : numF s d = (0, false) := by unfold numF; rw [if_neg (fun h => h1 h.1)]
    rw [hr]
    have h1' : ((s.size : Int) == d) = false := beq_eq_false_iff_ne.2 h1
    clear hr hsz hd hd2
    go_enter Tryz.func163, Tryz.ntmps163
    go_wp2
    go_ret2
    exact ⟨rfl, Lt.refl _⟩
/-- What padded answers. -/
def padF (n : Int) (k : Nat) : List UInt8 := List.replicate (k - (Lib.itoa n).length) 48 ++ Lib.itoa n
set_option maxHeartbeats 4000000 in
theorem padded_lt (n : Int) (k : Nat) (w : World) (hC : Cal w) (h0 : -9223372036854775808 ≤ n) (h1 : n ≤ 9223372036854775807) (hk : k ≤ 100) :
    Calls Tryz.prog 148 #[.int .i64 n, .int .i64 (k : Nat)] w fun e w' => e = .returned (.string ⟨(padF n k).toArray⟩) ∧ Lt w w' := by
  have CF := Aside0.mk (Tryz.strconv_FormatInt_10 n h0 h1 w hC.pow)
  have hl := Lib.itoa_length_le n h0 h1
  obtain ⟨s, hs⟩ : ∃ s : ByteArray, s = ⟨(Lib.itoa n).toArray⟩ := ⟨_, rfl⟩
  have hss : s.size = (Lib.itoa n).length := by rw [hs]; show (Lib.itoa n).toArray.size = _; simp
  have CR := Aside0.mk (fun w => Tryz.strings_Repeat ⟨#[48]⟩ (k - s.size) w (by omega) (by show 1 * _ ≤ _; omega))
  have hres : (⟨(padF n k).toArray⟩ : ByteArray) = ⟨(Lib.repeatL [48] (k - s.size)).toArray⟩ ++ s := by
    have e1 : Lib.repeatL [48] (k - s.size) = List.replicate (k - s.size) 48 := by
      have := Lib.repeatL_replicate 48 1 (k - s.size)
      rw [Nat.mul_one] at this
      exact this
    rw [e1, hs]
    apply ByteArray.ext
    rw [ByteArray.data_append]
    unfold padF
    rw [← hss, hs]
    simp
  have hrl : (⟨(Lib.repeatL [48] (k - s.size)).toArray⟩ : ByteArray).size = k - s.size := by
    show (Lib.repeatL [48] (k - s.size)).toArray.size = _
    simp [Lib.repeatL_length]
  rw [hres]
  rw [← hs] at CF
  clear hres hs
  generalize (⟨(Lib.repeatL [48] (k - s.size)).toArray⟩ : ByteArray) = r at *
  have w1 : wrap64 ((k : Int) - (s.size : Int)) = (k : Int) - (s.size : Int) := w64 (by omega) (by omega)
  have hsz : s.size ≤ 21 := by omega
  have hsum : ¬ (9223372036854775807 < r.size + s.size) := by omega
  by_cases hks : s.size ≤ k
  · have e1 : ((k - s.size : Nat) : Int) = (k : Int) - (s.size : Int) := by omega
    rw [e1] at CR
    have e2 : ¬ ((k : Int) - (s.size : Int) < 0) := by omega
    have e3 : decide ((k : Int) - (s.size : Int) < 0) = false := decide_eq_false e2
    have e4 : ¬ ((k : Int) < (s.size : Int)) := by omega
    have e5 : (0 : Int) ≤ (k : Int) - (s.size : Int) := by omega
    have e6 : max ((k : Int) - (s.size : Int)) 0 = (k : Int) - (s.size : Int) := by omega
    clear hl hrl e1 hss
    go_enter Tryz.func148, Tryz.ntmps148
    go_wp2_with fail
    (with_reducible refine CF.out.mono ?_)
    rintro e w1 ⟨rfl, q, os, hw1⟩
    have hl1 : Lt w w1 := by rw [hw1]; exact lt_grow w q os
    clear hw1
    go_wp2_with fail
    (with_reducible refine (CR.out _).mono ?_)
    rintro e w2 ⟨rfl, hb2⟩
    go_wp2
    go_ret
    exact ⟨rfl, hl1.trans ⟨hb2⟩⟩
  · have e1 : ((k - s.size : Nat) : Int) = 0 := by omega
    rw [e1] at CR
    have e2 : (k : Int) - (s.size : Int) < 0 := by omega
    have e3 : decide ((k : Int) - (s.size : Int) < 0) = true := decide_eq_true e2
    have e4 : (k : Int) < (s.size : Int) := by omega
    have e5 : ¬ ((0 : Int) ≤ (k : Int) - (s.size : Int)) := by omega
    have e6 : max ((k : Int) - (s.size : Int)) 0 = 0 := by omega
    clear hl hrl e1 hss
    go_enter Tryz.func148, Tryz.ntmps148
    go_wp2_with fail
    (with_reducible refine CF.out.mono ?_)
    rintro e w1 ⟨rfl, q, os, hw1⟩
    have hl1 : Lt w w1 := by rw [hw1]; exact lt_grow w q os
    clear hw1
    go_wp2_with fail
    (with_reducible refine (CR.out _).mono ?_)
    rintro e w2 ⟨rfl, hb2⟩
    go_wp2
    go_ret
    exact ⟨rfl, hl1.trans ⟨hb2⟩⟩
end Go.Proofs.YtcinojbfjiohjaaGreatDoor.Civ
end

section
namespace Go.Proofs.YtcinojbfjiohjaaGreatDoor.Civ
open Go Go.RowKit Go.Proofs.YtcinojbfjiohjaaGreatDoor.PPrintTells Go.Proofs.YtcinojbfjiohjaaGreatDoorW.PrintWords Go.Proofs.YtcinojbfjiohjaaGreatDoorW.PrintLast Go.Proofs.YtcinojbfjiohjaaGreatDoorW.PrintMore Go.Proofs.YtcinojbfjiohjaaGreatDoor.Ex Go.Sort
set_option linter.unusedVariables false
set_option linter.unusedSimpArgs false
/-- The text's bytes behind the sign: year, month and day. -/
def partsL (y m d : Int) : List UInt8 := Lib.join [padF y 4, padF m 2, padF d 2] [45]
def ymdL (y m d : Int) : List UInt8 := if y < 0 then 45 :: partsL (-y) m d else partsL y m d
/-- What Text answers. -/
def textF (n : Int) : ByteArray × Int := if In n then (⟨(ymdL (yrF n) (moF n) (dyF n)).toArray⟩, 0) else (⟨#[]⟩, 30)
theorem padF_len (n : Int) (k : Nat) (h0 : -9223372036854775808 ≤ n) (h1 : n ≤ 9223372036854775807) : (padF n k).length ≤ k + 21 := by
  have := Lib.itoa_length_le n h0 h1
  unfold padF
  rw [List.length_append, List.length_replicate]
  omega
theorem partsL_eq (y m d : Int) : partsL y m d = padF y 4 ++ 45 :: (padF m 2 ++ 45 :: padF d 2) := by
  unfold partsL Lib.join
  simp [List.intercalate, List.intersperse]
theorem partsL_len (y m d : Int) (hy : 0 ≤ y ∧ y ≤ 9999) (hm : 1 ≤ m ∧ m ≤ 12) (hd : 1 ≤ d ∧ d ≤ 31) : (partsL y m d).length ≤ 100 := by
  have h1 := padF_len y 4 (by omega) (by omega)
  have h2 := padF_len m 2 (by omega) (by omega)
  have h3 := padF_len d 2 (by omega) (by omega)
  rw [partsL_eq]
  simp only [List.length_append, List.length_cons]
  omega
theorem cells3_new (W : World) (a b c : ByteArray) (t : TypeId) : ∀ (j : Nat) x, [a, b, c][j]? = some x → (W.alloc (.cells #[.string a, .string b, .string c] t)).cell? ⟨W.heap.size, 0 + j, none⟩ = some (.string x) := by
  intro j x hx
  rw [Nat.zero_add, World.cell?_alloc_at _ _ _ _ (by simp)]
  match j, hx with
  | 0, hx => simp at hx; subst hx; rfl
  | 1, hx => simp at hx; subst hx; rfl
  | 2, hx => simp at hx; subst hx; rfl
theorem join3_calls (y m d : Int) (W : World) (hy : 0 ≤ y ∧ y ≤ 9999) (hm : 1 ≤ m ∧ m ≤ 12) (hd : 1 ≤ d ∧ d ≤ 31) :
    Calls Tryz.prog 121 #[.slice (some ⟨W.heap.size, 0, none⟩) 3 3, .string ⟨#[45]⟩] (W.alloc (.cells #[.string ⟨(padF y 4).toArray⟩, .string ⟨(padF m 2).toArray⟩, .string ⟨(padF d 2).toArray⟩] 9)) fun e w' =>
      e = .returned (.string ⟨(partsL y m d).toArray⟩) ∧ Lt (W.alloc (.cells #[.string ⟨(padF y 4).toArray⟩, .string ⟨(padF m 2).toArray⟩, .string ⟨(padF d 2).toArray⟩] 9)) w' := by
  have hl := partsL_len y m d hy hm hd
  refine (Tryz.strings_Join W.heap.size 0 3 [⟨(padF y 4).toArray⟩, ⟨(padF m 2).toArray⟩, ⟨(padF d 2).toArray⟩] ⟨#[45]⟩ _ (cells3_new W _ _ _ _) (by simp) (by simp) (by simp) ?_).mono ?_
  · have : ([(⟨(padF y 4).toArray⟩ : ByteArray), ⟨(padF m 2).toArray⟩, ⟨(padF d 2).toArray⟩].map (·.data.toList)) = [padF y 4, padF m 2, padF d 2] := by simp
    rw [this]
    exact Nat.le_trans hl (by decide)
  · rintro e w' ⟨rfl, hb⟩
    refine ⟨?_, ⟨hb⟩⟩
    have : ([(⟨(padF y 4).toArray⟩ : ByteArray), ⟨(padF m 2).toArray⟩, ⟨(padF d 2).toArray⟩].map (·.data.toList)) = [padF y 4, padF m 2, padF d 2] := by simp
    rw [this]
    rfl
set_option maxHeartbeats 4000000 in
theorem Text_lt (n : Int) (w : World) (hC : Cal w) :
    Calls Tryz.prog 114 #[.int .i64 n] w fun e w' => e = .returned (.tuple #[.string (textF n).1, .int .i64 (textF n).2]) ∧ Lt w w' := by
  have C1 := Aside0.mk (Date_lt n w hC.months)
  by_cases hn : In n
  · rw [dateF_in hn] at C1
    have hr : textF n = (⟨(ymdL (yrF n) (moF n) (dyF n)).toArray⟩, 0) := by unfold textF; rw [if_pos hn]
    rw [hr]
    have ho := (date_ok hn).1
    have hm := ho.month
    have hd : 1 ≤ dyF n ∧ dyF n ≤ 31 := ⟨ho.2.2.2.2.1, by have := ho.2.2.2.2.2; have := len_le (yrF n) (moF n); omega⟩
    have hy0 : -9999 ≤ yrF n := ho.1
    have hy1 : yrF n ≤ 9999 := ho.2.1
    clear hr ho hn
    generalize yrF n = y at *
    generalize moF n = m at *
    generalize dyF n = d at *
    have HC := Aside0.mk hC
    have P2 := Aside0.mk (show ∀ w, Cal w → Calls Tryz.prog 148 #[.int .i64 m, .int .i64 2] w fun e w' => e = .returned (.string ⟨(padF m 2).toArray⟩) ∧ Lt w w' from fun w hC => padded_lt m 2 w hC (by omega) (by omega) (by omega))
    have P3 := Aside0.mk (show ∀ w, Cal w → Calls Tryz.prog 148 #[.int .i64 d, .int .i64 2] w fun e w' => e = .returned (.string ⟨(padF d 2).toArray⟩) ∧ Lt w w' from fun w hC => padded_lt d 2 w hC (by omega) (by omega) (by omega))
    by_cases hy : y < 0
    · have hy' : decide (y < 0) = true := decide_eq_true hy
      have hr : (⟨(ymdL y m d).toArray⟩ : ByteArray) = ⟨#[45]⟩ ++ ⟨(partsL (-y) m d).toArray⟩ := by
        unfold ymdL
        rw [if_pos hy]
        apply ByteArray.ext
        rw [ByteArray.data_append]
        simp
      rw [hr]
      have hneg : wrap64 (-y) = -y := w64 (by omega) (by omega)
      have hz1 : 0 ≤ -y := by omega
      have hz2 : -y ≤ 9999 := by omega
      have hl : (⟨(partsL (-y) m d).toArray⟩ : ByteArray).size ≤ 100 := by
        show (partsL (-y) m d).toArray.size ≤ 100
        rw [List.size_toArray]
        exact partsL_len (-y) m d ⟨hz1, hz2⟩ hm hd
      have PJ := Aside0.mk (fun W => join3_calls (-y) m d W ⟨hz1, hz2⟩ hm hd)
      obtain ⟨z, hneg', hz⟩ : ∃ z, wrap64 (-y) = z ∧ -y = z := ⟨_, hneg, rfl⟩
      rw [hz] at PJ hl hz1 hz2 ⊢
      have P1 := Aside0.mk (show ∀ w, Cal w → Calls Tryz.prog 148 #[.int .i64 z, .int .i64 4] w fun e w' => e = .returned (.string ⟨(padF z 4).toArray⟩) ∧ Lt w w' from fun w hC => padded_lt z 4 w hC (by omega) (by omega) (by omega))
      generalize (⟨(partsL z m d).toArray⟩ : ByteArray) = t at *
      generalize (⟨(padF z 4).toArray⟩ : ByteArray) = p1 at *
      generalize (⟨(padF m 2).toArray⟩ : ByteArray) = p2 at *
      generalize (⟨(padF d 2).toArray⟩ : ByteArray) = p3 at *
      have hs1 : ¬ (9223372036854775807 < (ByteArray.mk #[45]).size + t.size) := by show ¬ (9223372036854775807 < 1 + t.size); omega
      have hs2 : ¬ (9223372036854775807 < 1 + t.size) := hs1
      clear hr hy0 hy1 hm hd hz1 hz2 hl hz hneg
      go_enter Tryz.func114, Tryz.ntmps114
      go_wp2_with fail
      (with_reducible refine C1.out.mono ?_)
      rintro e w1 ⟨rfl, hl1, hM1⟩
      have hC1 := HC.out.l hl1
      go_wp2_with fail
      (with_reducible refine (P1.out _ (by assumption)).mono ?_)
      rintro e w2 ⟨rfl, hl2⟩
      have hC2 := hC1.l hl2
      go_wp2_with fail
      (with_reducible refine (P2.out _ (by assumption)).mono ?_)
      rintro e w3 ⟨rfl, hl3⟩
      have hC3 := hC2.l hl3
      go_wp2_with fail
      (with_reducible refine (P3.out _ (by assumption)).mono ?_)
      rintro e w4 ⟨rfl, hl4⟩
      have hC4 := hC3.l hl4
      go_wp2_with fail
      (with_reducible refine (PJ.out _).mono ?_)
      rintro e w5 ⟨rfl, hl5⟩
      go_wp2
      go_ret2
      exact ⟨rfl, hl1.trans (hl2.trans (hl3.trans (hl4.trans ((Lt.refl _).a _ |>.trans hl5))))⟩
    · have hy' : decide (y < 0) = false := decide_eq_false hy
      have hr : (⟨(ymdL y m d).toArray⟩ : ByteArray) = ⟨#[]⟩ ++ ⟨(partsL y m d).toArray⟩ := by
        unfold ymdL
        rw [if_neg hy]
        apply ByteArray.ext
        rw [ByteArray.data_append]
        simp
      rw [hr]
      have hz1 : 0 ≤ y := by omega
      have hl : (⟨(partsL y m d).toArray⟩ : ByteArray).size ≤ 100 := by
        show (partsL y m d).toArray.size ≤ 100
        rw [List.size_toArray]
        exact partsL_len y m d ⟨hz1, hy1⟩ hm hd
      have PJ := Aside0.mk (fun W => join3_calls y m d W ⟨hz1, hy1⟩ hm hd)
      have P1 := Aside0.mk (show ∀ w, Cal w → Calls Tryz.prog 148 #[.int .i64 y, .int .i64 4] w fun e w' => e = .returned (.string ⟨(padF y 4).toArray⟩) ∧ Lt w w' from fun w hC => padded_lt y 4 w hC (by omega) (by omega) (by omega))
      generalize (⟨(partsL y m d).toArray⟩ : ByteArray) = t at *
      generalize (⟨(padF y 4).toArray⟩ : ByteArray) = p1 at *
      generalize (⟨(padF m 2).toArray⟩ : ByteArray) = p2 at *
      generalize (⟨(padF d 2).toArray⟩ : ByteArray) = p3 at *
      have hs1 : ¬ (9223372036854775807 < (ByteArray.mk #[]).size + t.size) := by show ¬ (9223372036854775807 < 0 + t.size); omega
      have hs2 : ¬ (9223372036854775807 < 0 + t.size) := hs1
      have hs3 : ¬ (9223372036854775807 < t.size) := by omega
      clear hr hy0 hy1 hm hd hz1 hl
      go_enter Tryz.func114, Tryz.ntmps114
      go_wp2_with fail
      (with_reducible refine C1.out.mono ?_)
      rintro e w1 ⟨rfl, hl1, hM1⟩
      have hC1 := HC.out.l hl1
      go_wp2_with fail
      (with_reducible refine (P1.out _ (by assumption)).mono ?_)
      rintro e w2 ⟨rfl, hl2⟩
      have hC2 := hC1.l hl2
      go_wp2_with fail
      (with_reducible refine (P2.out _ (by assumption)).mono ?_)
      rintro e w3 ⟨rfl, hl3⟩
      have hC3 := hC2.l hl3
      go_wp2_with fail
      (with_reducible refine (P3.out _ (by assumption)).mono ?_)
      rintro e w4 ⟨rfl, hl4⟩
      have hC4 := hC3.l hl4
      go_wp2_with fail
      (with_reducible refine (PJ.out _).mono ?_)
      rintro e w5 ⟨rfl, hl5⟩
      go_wp2
      go_ret2
      exact ⟨rfl, hl1.trans (hl2.trans (hl3.trans (hl4.trans ((Lt.refl _).a _ |>.trans hl5))))⟩
  · rw [dateF_not hn] at C1
    have hr : textF n = (⟨#[]⟩, 30) := by unfold textF; rw [if_neg hn]
    rw [hr]
    clear hr hn
    go_enter Tryz.func114, Tryz.ntmps114
    go_wp2_with fail
    (with_reducible refine C1.out.mono ?_)
    rintro e w1 ⟨rfl, hl1, hM1⟩
    go_wp2
    go_ret2
    exact ⟨rfl, hl1⟩
end Go.Proofs.YtcinojbfjiohjaaGreatDoor.Civ
end

section
namespace Go.Proofs.YtcinojbfjiohjaaGreatDoor.Civ
open Go Go.RowKit Go.Proofs.YtcinojbfjiohjaaGreatDoor.PPrintTells Go.Proofs.YtcinojbfjiohjaaGreatDoorW.PrintWords Go.Proofs.YtcinojbfjiohjaaGreatDoorW.PrintLast Go.Proofs.YtcinojbfjiohjaaGreatDoorW.PrintMore Go.Proofs.YtcinojbfjiohjaaGreatDoor.Ex Go.Sort
set_option linter.unusedVariables false
set_option linter.unusedSimpArgs false
def monthsF (y : Int) (p q : ByteArray) : Int × Int := if (numF p 2).2 = true ∧ (numF q 2).2 = true then daysF y (numF p 2).1 (numF q 2).1 else (0, 30)
theorem cell_lt {w w' : World} {a : Addr} {v : Value} (h : Lt w w') (hc : w.cell? a = some v) : w'.cell? a = some v := (h.out.cell (World.block_lt_of_cell? w _ hc)).trans hc
set_option maxHeartbeats 4000000 in
theorem months_lt (y : Int) (a : Addr) (c : Nat) (p q : ByteArray) (w : World) (hC : Cal w) (h0 : w.cell? a = some (.string p)) (h1 : w.cell? ⟨a.block, a.off + 1, none⟩ = some (.string q)) :
    Calls Tryz.prog 191 #[.int .i64 y, .slice (some a) 2 c] w fun e w' => e = .returned (.tuple #[.int .i64 (monthsF y p q).1, .int .i64 (monthsF y p q).2]) ∧ Lt w w' := by
  have N1 := Aside0.mk (fun w => number_lt p 2 w (by omega) (by omega))
  have N2 := Aside0.mk (fun w => number_lt q 2 w (by omega) (by omega))
  have HC := Aside0.mk hC
  have H1 := Aside0.mk h1
  have b1 := numF_bd p 2 (by omega) (by omega)
  have b2 := numF_bd q 2 (by omega) (by omega)
  have hr : monthsF y p q = if (numF p 2).2 = true ∧ (numF q 2).2 = true then daysF y (numF p 2).1 (numF q 2).1 else (0, 30) := rfl
  rw [hr]
  clear hr h1
  generalize (numF p 2).1 = m at *
  generalize (numF p 2).2 = f at *
  generalize (numF q 2).1 = d at *
  generalize (numF q 2).2 = g at *
  have CD := Aside0.mk (fun w hM => Days_lt y m d w hM (by omega) (by omega))
  generalize daysF y m d = r at *
  obtain ⟨r1, r2⟩ := r
  clear b1 b2
  cases f
  · rw [if_neg (by simp)]
    go_enter Tryz.func191, Tryz.ntmps191
    go_wp2_with fail
    (with_reducible refine (N1.out _).mono ?_)
    rintro e w1 ⟨rfl, hl1⟩
    have h1 := cell_lt hl1 H1.out
    go_wp2_with fail
    (with_reducible refine (N2.out _).mono ?_)
    rintro e w2 ⟨rfl, hl2⟩
    go_wp2
    go_ret2
    exact ⟨rfl, hl1.trans hl2⟩
  · cases g
    · rw [if_neg (by simp)]
      go_enter Tryz.func191, Tryz.ntmps191
      go_wp2_with fail
      (with_reducible refine (N1.out _).mono ?_)
      rintro e w1 ⟨rfl, hl1⟩
      have h1 := cell_lt hl1 H1.out
      go_wp2_with fail
      (with_reducible refine (N2.out _).mono ?_)
      rintro e w2 ⟨rfl, hl2⟩
      go_wp2
      go_ret2
      exact ⟨rfl, hl1.trans hl2⟩
    · rw [if_pos ⟨rfl, rfl⟩]
      go_enter Tryz.func191, Tryz.ntmps191
      go_wp2_with fail
      (with_reducible refine (N1.out _).mono ?_)
      rintro e w1 ⟨rfl, hl1⟩
      have h1 := cell_lt hl1 H1.out
      go_wp2_with fail
      (with_reducible refine (N2.out _).mono ?_)
      rintro e w2 ⟨rfl, hl2⟩
      have hM2 := ((HC.out.l hl1).l hl2).months
      go_wp2_with fail
      (with_reducible refine (CD.out _ (by assumption)).mono ?_)
      rintro e w3 ⟨rfl, hl3, hM3⟩
      go_wp2
      go_ret2
      exact ⟨rfl, hl1.trans (hl2.trans hl3)⟩
def weeksF (y : Int) (p q : ByteArray) : Int × Int :=
  if Lib.hasPrefix p.data.toList [87] = true ∧ (numF ⟨(Lib.trimPrefix p.data.toList [87]).toArray⟩ 2).2 = true ∧ (numF q 1).2 = true then ofWeekF y (numF ⟨(Lib.trimPrefix p.data.toList [87]).toArray⟩ 2).1 (numF q 1).1 else (0, 30)
set_option maxHeartbeats 4000000 in
theorem weeks_lt (y : Int) (a : Addr) (c : Nat) (p q : ByteArray) (w : World) (hC : Cal w) (h0 : w.cell? a = some (.string p)) (h1 : w.cell? ⟨a.block, a.off + 1, none⟩ = some (.string q)) :
    Calls Tryz.prog 193 #[.int .i64 y, .slice (some a) 2 c] w fun e w' => e = .returned (.tuple #[.int .i64 (weeksF y p q).1, .int .i64 (weeksF y p q).2]) ∧ Lt w w' := by
  have CP := Aside0.mk (Tryz.strings_CutPrefix p ⟨#[87]⟩ w)
  have hr : weeksF y p q = if Lib.hasPrefix p.data.toList [87] = true ∧ (numF ⟨(Lib.trimPrefix p.data.toList [87]).toArray⟩ 2).2 = true ∧ (numF q 1).2 = true then ofWeekF y (numF ⟨(Lib.trimPrefix p.data.toList [87]).toArray⟩ 2).1 (numF q 1).1 else (0, 30) := rfl
  rw [hr]
  have e1 : (ByteArray.mk #[87]).data.toList = [87] := rfl
  rw [e1] at CP
  clear hr e1
  generalize Lib.hasPrefix p.data.toList [87] = pre at *
  generalize (⟨(Lib.trimPrefix p.data.toList [87]).toArray⟩ : ByteArray) = t at *
  have N1 := Aside0.mk (fun w => number_lt t 2 w (by omega) (by omega))
  have N2 := Aside0.mk (fun w => number_lt q 1 w (by omega) (by omega))
  have HC := Aside0.mk hC
  have H1 := Aside0.mk h1
  have b1 := numF_bd t 2 (by omega) (by omega)
  clear h1
  generalize (numF t 2).1 = m at *
  generalize (numF t 2).2 = f at *
  generalize (numF q 1).1 = d at *
  generalize (numF q 1).2 = g at *
  have CD := Aside0.mk (fun w hM => OfWeek_lt y m d w hM (by omega) (by omega))
  generalize ofWeekF y m d = r at *
  obtain ⟨r1, r2⟩ := r
  clear b1
  cases pre
  · rw [if_neg (by simp)]
    go_enter Tryz.func193, Tryz.ntmps193
    go_wp2_with fail
    (with_reducible refine CP.out.mono ?_)
    rintro e w0 ⟨rfl, rfl⟩
    go_wp2_with fail
    (with_reducible refine (N1.out _).mono ?_)
    rintro e w1 ⟨rfl, hl1⟩
    have h1 := cell_lt hl1 H1.out
    go_wp2_with fail
    (with_reducible refine (N2.out _).mono ?_)
    rintro e w2 ⟨rfl, hl2⟩
    go_wp2
    go_ret2
    exact ⟨rfl, hl1.trans hl2⟩
  · cases f
    · rw [if_neg (by simp)]
      go_enter Tryz.func193, Tryz.ntmps193
      go_wp2_with fail
      (with_reducible refine CP.out.mono ?_)
      rintro e w0 ⟨rfl, rfl⟩
      go_wp2_with fail
      (with_reducible refine (N1.out _).mono ?_)
      rintro e w1 ⟨rfl, hl1⟩
      have h1 := cell_lt hl1 H1.out
      go_wp2_with fail
      (with_reducible refine (N2.out _).mono ?_)
      rintro e w2 ⟨rfl, hl2⟩
      go_wp2
      go_ret2
      exact ⟨rfl, hl1.trans hl2⟩
    · cases g
      · rw [if_neg (by simp)]
        go_enter Tryz.func193, Tryz.ntmps193
        go_wp2_with fail
        (with_reducible refine CP.out.mono ?_)
        rintro e w0 ⟨rfl, rfl⟩
        go_wp2_with fail
        (with_reducible refine (N1.out _).mono ?_)
        rintro e w1 ⟨rfl, hl1⟩
        have h1 := cell_lt hl1 H1.out
        go_wp2_with fail
        (with_reducible refine (N2.out _).mono ?_)
        rintro e w2 ⟨rfl, hl2⟩
        go_wp2
        go_ret2
        exact ⟨rfl, hl1.trans hl2⟩
      · rw [if_pos ⟨rfl, rfl, rfl⟩]
        go_enter Tryz.func193, Tryz.ntmps193
        go_wp2_with fail
        (with_reducible refine CP.out.mono ?_)
        rintro e w0 ⟨rfl, rfl⟩
        go_wp2_with fail
        (with_reducible refine (N1.out _).mono ?_)
        rintro e w1 ⟨rfl, hl1⟩
        have h1 := cell_lt hl1 H1.out
        go_wp2_with fail
        (with_reducible refine (N2.out _).mono ?_)
        rintro e w2 ⟨rfl, hl2⟩
        have hM2 := ((HC.out.l hl1).l hl2).months
        go_wp2_with fail
        (with_reducible refine (CD.out _ (by assumption)).mono ?_)
        rintro e w3 ⟨rfl, hl3, hM3⟩
        go_wp2
        go_ret2
        exact ⟨rfl, hl1.trans (hl2.trans hl3)⟩
def daysOfF (y : Int) (p : ByteArray) : Int × Int := if (numF p 3).2 = true then ofNthF y (numF p 3).1 else (0, 30)
set_option maxHeartbeats 4000000 in
theorem daysOf_lt (y : Int) (a : Addr) (c : Nat) (p : ByteArray) (w : World) (hC : Cal w) (h0 : w.cell? a = some (.string p)) :
    Calls Tryz.prog 195 #[.int .i64 y, .slice (some a) 1 c] w fun e w' => e = .returned (.tuple #[.int .i64 (daysOfF y p).1, .int .i64 (daysOfF y p).2]) ∧ Lt w w' := by
  have N1 := Aside0.mk (fun w => number_lt p 3 w (by omega) (by omega))
  have HC := Aside0.mk hC
  have b1 := numF_bd p 3 (by omega) (by omega)
  have hr : daysOfF y p = if (numF p 3).2 = true then ofNthF y (numF p 3).1 else (0, 30) := rfl
  rw [hr]
  clear hr
  generalize (numF p 3).1 = m at *
  generalize (numF p 3).2 = f at *
  have CD := Aside0.mk (fun w hM => OfNth_lt y m w hM (by omega) (by omega))
  generalize ofNthF y m = r at *
  obtain ⟨r1, r2⟩ := r
  clear b1
  cases f
  · rw [if_neg (by simp)]
    go_enter Tryz.func195, Tryz.ntmps195
    go_wp2_with fail
    (with_reducible refine (N1.out _).mono ?_)
    rintro e w1 ⟨rfl, hl1⟩
    go_wp2
    go_ret2
    exact ⟨rfl, hl1⟩
  · rw [if_pos rfl]
    go_enter Tryz.func195, Tryz.ntmps195
    go_wp2_with fail
    (with_reducible refine (N1.out _).mono ?_)
    rintro e w1 ⟨rfl, hl1⟩
    have hM1 := (HC.out.l hl1).months
    go_wp2_with fail
    (with_reducible refine (CD.out _ (by assumption)).mono ?_)
    rintro e w2 ⟨rfl, hl2, hM2⟩
    go_wp2
    go_ret2
    exact ⟨rfl, hl1.trans hl2⟩
set_option maxHeartbeats 4000000 in
theorem shapes_calls (w : World) :
    Calls Tryz.prog 164 #[] w fun e w' => e = .returned (.slice (some ⟨w.heap.size, 0, none⟩) 3 3) ∧ w' = w.alloc (.cells #[.int .i64 2, .func (.func 191) #[] #[], .int .i64 2, .func (.func 193) #[] #[], .int .i64 1, .func (.func 195) #[] #[]] 204) := by
  go_enter Tryz.func164, Tryz.ntmps164
  go_wp2
  go_ret
  exact ⟨rfl, rfl⟩
end Go.Proofs.YtcinojbfjiohjaaGreatDoor.Civ
end
