/-
  Texts of dates in plain Lean: digits and what they spell, pieces between dashes; a date's text says the date.
-/
import Derived.Test.YtnaaagaammimnaaGreatDoorDatQ
import Derived.Lib.IndexBytes
namespace Go.Proofs.YtnaaagaammimnaaGreatDoor.Civ
open Go Go.Proofs.YtnaaagaammimnaaGreatDoor.Ex
set_option linter.unusedVariables false
set_option linter.unusedSimpArgs false

/-! ### Pieces -/
/-- The pieces between dashes. -/
def cut : List UInt8 → List (List UInt8)
  | [] => [[]]
  | b :: l => if b = 45 then [] :: cut l else match cut l with
    | [] => [[b]]
    | p :: r => (b :: p) :: r
theorem cut_none : ∀ l : List UInt8, 45 ∉ l → cut l = [l] := by
  intro l
  induction l with
  | nil => intro _; rfl
  | cons b l ih =>
    intro h
    rw [cut, if_neg (fun he => h (by rw [he]; simp)), ih (fun hh => h (by simp [hh]))]
theorem cut_dash (b : List UInt8) : ∀ a : List UInt8, 45 ∉ a → cut (a ++ 45 :: b) = a :: cut b := by
  intro a
  induction a with
  | nil => intro _; rw [List.nil_append, cut, if_pos rfl]
  | cons x a ih =>
    intro h
    rw [List.cons_append, cut, if_neg (fun he => h (by rw [he]; simp)), ih (fun hh => h (by simp [hh]))]
theorem first_dash (l : List UInt8) : 45 ∉ l ∨ ∃ a b, l = a ++ 45 :: b ∧ 45 ∉ a := by
  induction l with
  | nil => exact .inl (by simp)
  | cons x l ih =>
    by_cases hx : x = 45
    · exact .inr ⟨[], l, by rw [hx]; rfl, by simp⟩
    · rcases ih with h | ⟨a, b, rfl, h⟩
      · refine .inl ?_
        intro hm
        rcases List.mem_cons.1 hm with h1 | h1
        · exact hx h1.symm
        · exact h h1
      · refine .inr ⟨x :: a, b, rfl, ?_⟩
        intro hm
        rcases List.mem_cons.1 hm with h1 | h1
        · exact hx h1.symm
        · exact h h1
theorem index_dash (b : List UInt8) : ∀ a : List UInt8, 45 ∉ a → Lib.index (a ++ 45 :: b) [45] = a.length := by
  intro a
  induction a with
  | nil => intro _; rw [List.nil_append, Lib.index, if_pos (by simp [List.isPrefixOf])]; rfl
  | cons x a ih =>
    intro h
    have hx : x ≠ 45 := fun he => h (by rw [he]; simp)
    have hi := ih (fun hh => h (by simp [hh]))
    have h1 : ¬ ((Lib.index (a ++ 45 :: b) [45] == -1) = true) := by rw [hi]; simp
    rw [List.cons_append, Lib.index, if_neg (by simp [List.isPrefixOf, Ne.symm hx]), if_neg h1, hi, List.length_cons]
    omega
theorem splitK_cut : ∀ (k : Nat) (l : List UInt8), l.count 45 = k → Lib.splitK [45] 0 k l = cut l := by
  intro k
  induction k with
  | zero =>
    intro l h
    rw [cut_none l (List.count_eq_zero.1 h)]
    rfl
  | succ k ih =>
    intro l h
    rcases first_dash l with hn | ⟨a, b, rfl, ha⟩
    · rw [List.count_eq_zero.2 hn] at h; cases h
    · have hc : b.count 45 = k := by
        rw [List.count_append, List.count_eq_zero.2 ha, List.count_cons_self] at h
        omega
      have hix := index_dash b a ha
      have h1 : ¬ ((Lib.index (a ++ 45 :: b) [45] == -1) = true) := by rw [hix]; simp
      rw [Lib.splitK, if_neg h1, hix, cut_dash b a ha]
      have e1 : (a ++ 45 :: b).take ((a.length : Int).toNat + 0) = a := by simp
      have e2 : (a ++ 45 :: b).drop ((a.length : Int).toNat + ([45] : List UInt8).length) = b := by
        show (a ++ 45 :: b).drop (a.length + 1) = b
        rw [List.drop_append]
        simp
      rw [e1, e2, ih b hc]
theorem pieces_cut (t : ByteArray) : pieces t = (cut t.data.toList).map (fun l => ⟨l.toArray⟩) := by
  have h := Lib.splitB_data dash 0 (Lib.countB t dash) t
  have hc : Lib.countB t dash = t.data.toList.count 45 := Lib.count_one 45 t.data.toList
  have hd : dash.data.toList = [45] := rfl
  rw [hd, hc, splitK_cut _ _ rfl, ← hc] at h
  rw [← h, List.map_map]
  unfold pieces
  conv => lhs; rw [← List.map_id (Lib.splitB dash 0 (Lib.countB t dash) t)]
  apply List.map_congr_left
  intro x _
  rfl
/-! ### Numbers -/
def numL (l : List UInt8) (d : Nat) : Int × Bool := if l.length = d ∧ l.all digitB = true then (natv l, true) else (0, false)
theorem numF_L (l : List UInt8) (d : Nat) : numF ⟨l.toArray⟩ d = numL l d := by
  unfold numF numL
  have h1 : (⟨l.toArray⟩ : ByteArray).size = l.length := by show l.toArray.size = _; simp
  rw [h1]
  by_cases h : l.length = d ∧ l.all digitB = true
  · rw [if_pos h, if_pos ⟨by omega, h.2⟩]
  · rw [if_neg h, if_neg (fun k => h ⟨by omega, k.2⟩)]
theorem digit_of (d : Nat) (h : d < 10) : digitB (UInt8.ofNat (48 + d)) = true ∧ Lib.digitVal (UInt8.ofNat (48 + d)) = some d ∧ UInt8.ofNat (48 + d) ≠ 45 := by
  have : ∀ d : Fin 10, digitB (UInt8.ofNat (48 + d.val)) = true ∧ Lib.digitVal (UInt8.ofNat (48 + d.val)) = some d.val ∧ UInt8.ofNat (48 + d.val) ≠ 45 := by decide
  exact this ⟨d, h⟩
theorem digit_ne {b : UInt8} (h : digitB b = true) : b ≠ 45 ∧ b ≠ 87 := by
  have := byte_all (fun b => !digitB b || (decide (b ≠ 45) && decide (b ≠ 87))) (by decide +kernel) b
  rw [h] at this
  simpa using this
theorem decFrom_append (l r : List UInt8) : ∀ acc, Lib.decFrom acc (l ++ r) = (Lib.decFrom acc l).bind (fun n => Lib.decFrom n r) := by
  induction l with
  | nil => intro acc; rfl
  | cons b l ih =>
    intro acc
    rw [List.cons_append, Lib.decFrom, Lib.decFrom]
    cases Lib.digitVal b with
    | none => rfl
    | some d => exact ih _
theorem decDigits_spec (u : Nat) : (Lib.decDigits u).all digitB = true ∧ ∀ acc, Lib.decFrom acc (Lib.decDigits u) = some (acc * 10 ^ (Lib.decDigits u).length + u) := by
  induction u using Nat.strongRecOn with
  | ind u ih =>
    by_cases h : u < 10
    · have hd := digit_of u h
      rw [Lib.decDigits_one h]
      refine ⟨by rw [List.all_cons, hd.1]; rfl, fun acc => ?_⟩
      rw [Lib.decFrom, hd.2.1]
      simp [Lib.decFrom]
    · obtain ⟨h1, h2⟩ := ih (u / 10) (by omega)
      have hd := digit_of (u % 10) (by omega)
      rw [Lib.decDigits, dif_neg h]
      refine ⟨by rw [List.all_append, h1, List.all_cons, hd.1]; rfl, fun acc => ?_⟩
      rw [decFrom_append, h2]
      show Lib.decFrom _ [UInt8.ofNat (48 + u % 10)] = _
      rw [Lib.decFrom, hd.2.1, List.length_append, List.length_singleton, Nat.pow_succ]
      show some _ = _
      congr 1
      have := Nat.div_add_mod u 10
      rw [Nat.add_mul, Nat.mul_assoc]
      omega
theorem decDigits_len (k : Nat) : ∀ u, u < 10 ^ k → 1 ≤ k → (Lib.decDigits u).length ≤ k := by
  induction k with
  | zero => intro u _ h; omega
  | succ k ih =>
    intro u hu _
    by_cases h : u < 10
    · rw [Lib.decDigits_one h]; simp
    · rw [Lib.decDigits, dif_neg h, List.length_append, List.length_singleton]
      have hk : 1 ≤ k := by
        rcases Nat.eq_zero_or_pos k with rfl | hk
        · simp at hu; omega
        · exact hk
      have := ih (u / 10) (by rw [Nat.pow_succ] at hu; omega) hk
      omega
theorem zeros_dec (j : Nat) : Lib.decFrom 0 (List.replicate j 48) = some 0 := by
  induction j with
  | zero => rfl
  | succ j ih =>
    rw [List.replicate_succ, Lib.decFrom]
    exact ih
/-- What padded makes of a number that has so many digits at most. -/
theorem padF_spec (n : Int) (k : Nat) (h0 : 0 ≤ n) (h1 : n < 10 ^ k) (hk : 1 ≤ k) : (padF n k).length = k ∧ (padF n k).all digitB = true ∧ natv (padF n k) = n := by
  obtain ⟨u, rfl⟩ : ∃ u : Nat, n = u := ⟨n.toNat, by omega⟩
  have hu : u < 10 ^ k := by exact_mod_cast h1
  have hi : Lib.itoa (u : Int) = Lib.decDigits u := by unfold Lib.itoa; rw [if_neg (by omega)]; simp
  have hl := decDigits_len k u hu hk
  obtain ⟨s1, s2⟩ := decDigits_spec u
  unfold padF
  rw [hi]
  refine ⟨by rw [List.length_append, List.length_replicate]; omega, ?_, ?_⟩
  · rw [List.all_append, s1, Bool.and_true, List.all_eq_true]
    intro b hb
    rw [(List.mem_replicate.1 hb).2]
    decide
  · unfold natv Lib.decNat
    have hne : (List.replicate (k - (Lib.decDigits u).length) 48 ++ Lib.decDigits u).isEmpty = false := by
      cases h : (List.replicate (k - (Lib.decDigits u).length) 48 ++ Lib.decDigits u) with
      | nil =>
        have := congrArg List.length h
        rw [List.length_append, List.length_replicate, List.length_nil] at this
        omega
      | cons a l => rfl
    rw [hne]
    show (((Lib.decFrom 0 _).getD 0 : Nat) : Int) = _
    rw [decFrom_append, zeros_dec]
    show (((Lib.decFrom 0 (Lib.decDigits u)).getD 0 : Nat) : Int) = _
    rw [s2]
    simp
theorem padF_num (n : Int) (k : Nat) (h0 : 0 ≤ n) (h1 : n < 10 ^ k) (hk : 1 ≤ k) : numL (padF n k) k = (n, true) := by
  obtain ⟨a, b, c⟩ := padF_spec n k h0 h1 hk
  unfold numL
  rw [if_pos ⟨a, b⟩, c]
theorem no_dash {l : List UInt8} (h : l.all digitB = true) : 45 ∉ l := fun hm => (digit_ne (List.all_eq_true.1 h _ hm)).1 rfl
/-! ### A date's text says the date -/
theorem text_read {n : Int} (hn : In n) : readF (textF n).1 = (n, 0) := by
  have hok := (date_ok hn).1
  have hdn := (date_ok hn).2
  have ht : (textF n).1 = ⟨(ymdL (yrF n) (moF n) (dyF n)).toArray⟩ := by unfold textF; rw [if_pos hn]
  rw [ht]
  have hm := hok.month
  have hd : 1 ≤ dyF n ∧ dyF n ≤ 31 := ⟨hok.2.2.2.2.1, by have := hok.2.2.2.2.2; have := len_le (yrF n) (moF n); omega⟩
  have hy0 := hok.1
  have hy1 := hok.2.1
  have hday := daysF_ok hok
  rw [hdn] at hday
  generalize yrF n = y at *
  generalize moF n = m at *
  generalize dyF n = d at *
  have key : ∀ z : Int, 0 ≤ z → z ≤ 9999 → pieces ⟨(partsL z m d).toArray⟩ = [⟨(padF z 4).toArray⟩, ⟨(padF m 2).toArray⟩, ⟨(padF d 2).toArray⟩] := by
    intro z hz0 hz1
    have p1 := padF_spec z 4 hz0 (by omega) (by omega)
    have p2 := padF_spec m 2 (by omega) (by omega) (by omega)
    have p3 := padF_spec d 2 (by omega) (by omega) (by omega)
    rw [pieces_cut]
    show (cut (partsL z m d).toArray.toList).map _ = _
    rw [List.toList_toArray, partsL_eq, cut_dash _ _ (no_dash p1.2.1), cut_dash _ _ (no_dash p2.2.1), cut_none _ (no_dash p3.2.1)]
    rfl
  have tl : ∀ z : Int, 0 ≤ z → z ≤ 9999 → ∀ yy : Int, yy = y → tailF yy [⟨(padF z 4).toArray⟩, ⟨(padF m 2).toArray⟩, ⟨(padF d 2).toArray⟩] = (n, 0) := by
    intro z _ _ yy hyy
    subst hyy
    have h0 : shapeF yy [⟨(padF z 4).toArray⟩, ⟨(padF m 2).toArray⟩, ⟨(padF d 2).toArray⟩] 0 = (n, 0) := by
      show monthsF yy ⟨(padF m 2).toArray⟩ ⟨(padF d 2).toArray⟩ = _
      have e1 : numF ⟨(padF m 2).toArray⟩ 2 = (m, true) := (numF_L _ 2).trans (padF_num m 2 (by omega) (by omega) (by omega))
      have e2 : numF ⟨(padF d 2).toArray⟩ 2 = (d, true) := (numF_L _ 2).trans (padF_num d 2 (by omega) (by omega) (by omega))
      unfold monthsF
      rw [e1, e2, if_pos ⟨rfl, rfl⟩]
      exact hday
    unfold tailF
    rw [h0, if_pos rfl]
  by_cases hy : y < 0
  · have hs : ymdL y m d = 45 :: partsL (-y) m d := by unfold ymdL; rw [if_pos hy]
    rw [hs]
    have hpre : Lib.hasPrefix (45 :: partsL (-y) m d) [45] = true := by simp [Lib.hasPrefix, List.isPrefixOf]
    have htr : Lib.trimPrefix (45 :: partsL (-y) m d) [45] = partsL (-y) m d := by unfold Lib.trimPrefix; rw [if_pos hpre]; rfl
    unfold readF
    show readL (Lib.hasPrefix (45 :: partsL (-y) m d) [45]) (pieces ⟨(Lib.trimPrefix (45 :: partsL (-y) m d) [45]).toArray⟩) = _
    rw [hpre, htr, key (-y) (by omega) (by omega)]
    have e0 : numF ⟨(padF (-y) 4).toArray⟩ 4 = (-y, true) := (numF_L _ 4).trans (padF_num (-y) 4 (by omega) (by omega) (by omega))
    unfold readL
    show (if (numF ⟨(padF (-y) 4).toArray⟩ 4).2 = false ∨ (true = true ∧ (numF ⟨(padF (-y) 4).toArray⟩ 4).1 = 0) then ((0 : Int), (30 : Int)) else tailF (if true = true then -(numF ⟨(padF (-y) 4).toArray⟩ 4).1 else (numF ⟨(padF (-y) 4).toArray⟩ 4).1) _) = _
    rw [e0, if_neg (by intro h; rcases h with h | ⟨_, h⟩ <;> simp at h; omega), if_pos rfl]
    exact tl (-y) (by omega) (by omega) _ (by omega)
  · have hs : ymdL y m d = partsL y m d := by unfold ymdL; rw [if_neg hy]
    rw [hs]
    have hp1 := padF_spec y 4 (by omega) (by omega) (by omega)
    have hpre : Lib.hasPrefix (partsL y m d) [45] = false := by
      rw [partsL_eq]
      cases hq : padF y 4 with
      | nil => rw [hq] at hp1; simp at hp1
      | cons b l =>
        have hb : digitB b = true := by
          have := hp1.2.1
          rw [hq, List.all_cons, Bool.and_eq_true] at this
          exact this.1
        have := (digit_ne hb).1
        simp [Lib.hasPrefix, List.isPrefixOf, Ne.symm this]
    have htr : Lib.trimPrefix (partsL y m d) [45] = partsL y m d := by unfold Lib.trimPrefix; rw [if_neg (by rw [hpre]; simp)]
    unfold readF
    show readL (Lib.hasPrefix (partsL y m d) [45]) (pieces ⟨(Lib.trimPrefix (partsL y m d) [45]).toArray⟩) = _
    rw [hpre, htr, key y (by omega) (by omega)]
    have e0 : numF ⟨(padF y 4).toArray⟩ 4 = (y, true) := (numF_L _ 4).trans (padF_num y 4 (by omega) (by omega) (by omega))
    unfold readL
    show (if (numF ⟨(padF y 4).toArray⟩ 4).2 = false ∨ (false = true ∧ (numF ⟨(padF y 4).toArray⟩ 4).1 = 0) then ((0 : Int), (30 : Int)) else tailF (if false = true then -(numF ⟨(padF y 4).toArray⟩ 4).1 else (numF ⟨(padF y 4).toArray⟩ 4).1) _) = _
    rw [e0, if_neg (by simp), if_neg (by simp)]
    exact tl y (by omega) (by omega) _ rfl
end Go.Proofs.YtnaaagaammimnaaGreatDoor.Civ
