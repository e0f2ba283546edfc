/-
  What the document's functions of digits compute (the printed forms): digits, year, Texts, number; and that each of a day's texts is read as the day.
-/
import Derived.Test.YtnaaagaammimnaaGreatDoorDatE
import Derived.Test.YtnaaagaammimnaaGreatDoorDatH
import Derived.Test.YtnaaagaammimnaaGreatDoorPDateTxt
namespace Go.Proofs.YtnaaagaammimnaaGreatDoor.Civ
open Go Go.RowKit Go.Proofs.YtnaaagaammimnaaGreatDoor.PDateTells Go.Proofs.YtnaaagaammimnaaGreatDoorW.PrintWords Go.Proofs.YtnaaagaammimnaaGreatDoorW.PrintLast Go.Proofs.YtnaaagaammimnaaGreatDoorW.PrintMore Go.Proofs.YtnaaagaammimnaaGreatDoor.Ex
set_option linter.unusedVariables false
set_option linter.unusedSimpArgs false

theorem toB_app (a b : List UInt8) : toB a ++ toB b = toB (a ++ b) := by
  apply ByteArray.ext
  rw [ByteArray.data_append]
  show a.toArray ++ b.toArray = (a ++ b).toArray
  simp
theorem texts_bytes (L : List UInt8) : (toB L).size = L.length := by show L.toArray.size = _; simp
/-- The last so many digits. -/
def digs : Nat → Nat → List UInt8
  | 0, _ => []
  | m + 1, x => digs m (x / 10) ++ [UInt8.ofNat (48 + x % 10)]
theorem digs_spec (m : Nat) : ∀ x, (digs m x).length = m ∧ (digs m x).all digitB = true ∧ ∀ acc, Lib.decFrom acc (digs m x) = some (acc * 10 ^ m + x % 10 ^ m) := by
  induction m with
  | zero => intro x; exact ⟨rfl, rfl, fun acc => by simp [digs, Lib.decFrom, Nat.mod_one]⟩
  | succ m ih =>
    intro x
    obtain ⟨a, b, c⟩ := ih (x / 10)
    have hd := digit_of (x % 10) (by omega)
    refine ⟨by rw [digs, List.length_append, a]; rfl, by rw [digs, List.all_append, b, List.all_cons, hd.1]; rfl, fun acc => ?_⟩
    rw [digs, decFrom_append, c]
    show Lib.decFrom _ [UInt8.ofNat (48 + x % 10)] = _
    rw [Lib.decFrom, hd.2.1]
    show some _ = _
    congr 1
    rw [Nat.pow_succ, Nat.add_mul, Nat.mul_assoc, show x % (10 ^ m * 10) = x % (10 * 10 ^ m) by rw [Nat.mul_comm], Nat.mod_mul]
    rw [Nat.mul_comm (x / 10 % 10 ^ m) 10]
    omega
theorem digs_pad (m : Nat) (n : Int) (hm : 1 ≤ m) (h0 : 0 ≤ n) (h1 : n < 10 ^ m) : digs m n.toNat = padF n m := by
  obtain ⟨a, b, c⟩ := digs_spec m n.toNat
  have hne : digs m n.toNat ≠ [] := fun he => by rw [he] at a; simp at a; omega
  have hv : natv (digs m n.toNat) = n := by
    rw [natv_val hne]
    unfold val
    rw [c]
    have h2 : n.toNat < 10 ^ m := by
      have : (n.toNat : Int) = n := by omega
      have h3 : ((n.toNat : Nat) : Int) < ((10 ^ m : Nat) : Int) := by rw [this]; push_cast; exact h1
      exact_mod_cast h3
    rw [Nat.mod_eq_of_lt h2]
    show (((0 * 10 ^ m + n.toNat : Nat)) : Int) = n
    rw [Nat.zero_mul, Nat.zero_add]
    omega
  have hp := (pad_of hm a b).1
  rw [hv] at hp
  exact hp.symm
theorem digits_l0 (j : Nat) : ∀ (k : Nat) (x : Int) (many i : Int) (acc : List UInt8), j < k → 0 ≤ x → x ≤ 100000 → many = i + j → 0 ≤ i → many ≤ 100 → (acc.length : Int) ≤ i →
    epactref04_digits.l0 k x many (toB acc) i = some (toB (digs j x.toNat ++ acc)) := by
  induction j with
  | zero =>
    intro k x many i acc hk h0 h1 hm hi hm2 ha
    obtain ⟨k, rfl⟩ : ∃ m, k = m + 1 := ⟨k - 1, by omega⟩
    rw [epactref04_digits.l0, if_neg (by omega)]
    rfl
  | succ j ih =>
    intro k x many i acc hk h0 h1 hm hi hm2 ha
    obtain ⟨k, rfl⟩ : ∃ m, k = m + 1 := ⟨k - 1, by omega⟩
    have hmod := Int.emod_nonneg x (show (10 : Int) ≠ 0 by omega)
    have hmod2 := Int.emod_lt_of_pos x (show (0 : Int) < 10 by omega)
    have e1 : Int.tmod x 10 = x % 10 := tmod_pos _ _ h0
    have e2 : Int.tdiv x 10 = x / 10 := tdiv_pos _ _ h0
    have hs : strOfNums [(48 + ((Int.tmod x 10) % 256)) % 256] = toB [UInt8.ofNat (48 + x.toNat % 10)] := by
      rw [e1]
      unfold strOfNums toB
      have : ((48 + x % 10 % 256) % 256).toNat = 48 + x.toNat % 10 := by omega
      simp only [List.map_cons, List.map_nil, this]
    rw [epactref04_digits.l0, if_pos (by omega), Option.bind_some, hs, texts_bytes, texts_bytes, if_pos (by simp; omega), toB_app, e2, w64 (x := x / 10) (by omega) (by omega), w64 (x := i + 1) (by omega) (by omega)]
    rw [ih k (x / 10) many (i + 1) _ (by omega) (by omega) (by omega) (by omega) (by omega) hm2 (by simp; omega)]
    have : (x / 10).toNat = x.toNat / 10 := by omega
    rw [this, digs, List.append_assoc]
theorem digits_r (k : Nat) (n : Int) (m : Nat) (hk : 100 ≤ k) (hm : 1 ≤ m) (hm2 : m ≤ 4) (h0 : 0 ≤ n) (h1 : n < 10 ^ m) : epactref04_digits.f k n (m : Nat) = some (toB (padF n m)) := by
  unfold epactref04_digits.f
  have hb : n ≤ 100000 := by
    rcases (show m = 1 ∨ m = 2 ∨ m = 3 ∨ m = 4 by omega) with rfl | rfl | rfl | rfl <;> omega
  have := digits_l0 m k n m 0 [] (by omega) h0 hb (by omega) (by omega) (by omega) (by simp)
  rw [List.append_nil, digs_pad m n hm h0 h1] at this
  exact this
theorem year_r (k : Nat) (y : Int) (hk : 100 ≤ k) (hy : InY y) : epactref04_year.f k y = some (toB (yearL y)) := by
  obtain ⟨h0, h1⟩ := hy
  unfold epactref04_year.f yearL
  by_cases h : y < 0
  · have hp := padF_spec (-y) 4 (by omega) (by omega) (by omega)
    rw [if_pos h, if_pos h, w64 (x := -y) (by omega) (by omega)]
    have := digits_r k (-y) 4 hk (by omega) (by omega) (by omega) (by omega)
    rw [show ((4 : Nat) : Int) = 4 from rfl] at this
    rw [this, Option.bind_some, texts_bytes, if_pos (by omega)]
    show some (toB [45] ++ toB (padF (-y) 4)) = _
    rw [toB_app]
    rfl
  · rw [if_neg h, if_neg h]
    have := digits_r k y 4 hk (by omega) (by omega) (by omega) (by omega)
    rw [show ((4 : Nat) : Int) = 4 from rfl] at this
    rw [this]
    rfl
theorem yearL_len {y : Int} (h : InY y) : (yearL y).length ≤ 5 := by
  obtain ⟨a, b, c, d, e, _⟩ := yearL_shape h
  rw [e, List.length_append]
  rcases sgn_len y with ⟨l, _⟩ | ⟨l, _⟩ <;> rw [l] <;> simp
theorem Texts_r (k : Nat) (n : Int) (hk : 1000010 ≤ k) : epactref04_Texts.f k n = some ((textsL n).map toB) := by
  unfold epactref04_Texts.f textsL
  rw [rDate_f k n (by omega), Option.bind_some]
  by_cases hn : In n
  · rw [dateF_in hn, if_pos hn]
    have hok := (date_ok hn).1
    have hm := hok.month
    have hd : 1 ≤ dyF n ∧ dyF n ≤ 31 := ⟨hok.2.2.2.2.1, by have := hok.2.2.2.2.2; have := len_le (yrF n) (moF n); omega⟩
    have hy : InY (yrF n) := yrF_range hn
    have hs := yrF_spec n
    have hbs := beg_succ (yrF n)
    have hlp := lp_bd (yrF n)
    have D1 := digits_r k (moF n) 2 (by omega) (by omega) (by omega) (by omega) (by omega)
    have D2 := digits_r k (dyF n) 2 (by omega) (by omega) (by omega) (by omega) (by omega)
    have D3 := digits_r k (n - beg (yrF n) + 1) 3 (by omega) (by omega) (by omega) (by omega) (by omega)
    have l0 := yearL_len hy
    have l1 := (padF_spec (moF n) 2 (by omega) (by omega) (by omega)).1
    have l2 := (padF_spec (dyF n) 2 (by omega) (by omega) (by omega)).1
    have l3 := (padF_spec (n - beg (yrF n) + 1) 3 (by omega) (by omega) (by omega)).1
    rw [show ((2 : Nat) : Int) = 2 from rfl] at D1 D2
    rw [show ((3 : Nat) : Int) = 3 from rfl] at D3
    have c1 : (⟨#[45]⟩ : ByteArray) = toB [45] := rfl
    have c2 : (⟨#[45, 87]⟩ : ByteArray) = toB [45, 87] := rfl
    simp only [c1, c2]
    simp only [if_true, year_r k (yrF n) (by omega) hy, Option.bind_some, D1, D2, toB_app, texts_bytes, Nth_r k n (by omega), nthF_in hn, D3, Week_r k n (by omega)]
    rw [if_pos (by omega), if_pos (by simp [l1]; omega), if_pos (by simp [l1]; omega), if_pos (by simp [l1, l2]; omega), if_pos (by omega), if_pos (by simp [l3]; omega), if_pos (by simp)]
    by_cases hi : InY (wyr n)
    · rw [weekF_in hn hi, if_pos rfl]
      have hsp := wyr_spec n
      have hst := fst_step (wyr n)
      have hwd := wdF_bd n
      have D4 := digits_r k ((n - fst (wyr n)) / 7 + 1) 2 (by omega) (by omega) (by omega) (by omega) (by omega)
      have D5 := digits_r k (wdF n) 1 (by omega) (by omega) (by omega) (by omega) (by omega)
      have l4 := (padF_spec ((n - fst (wyr n)) / 7 + 1) 2 (by omega) (by omega) (by omega)).1
      have l5 := (padF_spec (wdF n) 1 (by omega) (by omega) (by omega)).1
      have l6 := yearL_len hi
      rw [show ((2 : Nat) : Int) = 2 from rfl] at D4
      rw [show ((1 : Nat) : Int) = 1 from rfl] at D5
      simp only [year_r k (wyr n) (by omega) hi, Option.bind_some, D4, D5, toB_app, texts_bytes]
      rw [if_pos (by omega), if_pos (by simp [l4]; omega), if_pos (by simp [l4]; omega), if_pos (by simp [l4, l5]; omega), if_pos (by simp), if_pos hi]
      unfold form1 form2 form3
      simp [List.append_assoc]
    · rw [weekF_not (fun h => hi h.2), if_neg (by decide), if_neg hi]
      unfold form1 form2
      simp [List.append_assoc]
  · rw [dateF_not hn, if_neg hn]
    rfl
end Go.Proofs.YtnaaagaammimnaaGreatDoor.Civ
