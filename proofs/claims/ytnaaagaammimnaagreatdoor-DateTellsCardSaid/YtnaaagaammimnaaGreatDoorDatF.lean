/-
  The three forms of a day's text: what is read as a day is one of them, and each of them is read as the day. Plain Lean.
-/
import Derived.Test.YtnaaagaammimnaaGreatDoorDatB
namespace Go.Proofs.YtnaaagaammimnaaGreatDoor.Civ
open Go Go.Proofs.YtnaaagaammimnaaGreatDoor.Ex
set_option linter.unusedVariables false
set_option linter.unusedSimpArgs false

/-! ### Digits and their number -/
def val (l : List UInt8) : Nat := (Lib.decFrom 0 l).getD 0
theorem digit_val {b : UInt8} (h : digitB b = true) : ∃ d, d < 10 ∧ Lib.digitVal b = some d ∧ b = UInt8.ofNat (48 + d) := by
  have := byte_all (fun b => !digitB b || ((Lib.digitVal b).any fun d => decide (d < 10) && decide (b = UInt8.ofNat (48 + d)))) (by decide +kernel) b
  rw [h] at this
  simp only [Bool.not_true, Bool.false_or] at this
  cases hd : Lib.digitVal b with
  | none => rw [hd] at this; cases this
  | some d =>
    rw [hd] at this
    simp only [Option.any_some, Bool.and_eq_true, decide_eq_true_eq] at this
    exact ⟨d, this.1, rfl, this.2⟩
theorem val_acc (l : List UInt8) : l.all digitB = true → val l < 10 ^ l.length ∧ ∀ acc, Lib.decFrom acc l = some (acc * 10 ^ l.length + val l) := by
  induction l with
  | nil => intro _; exact ⟨by decide, fun acc => by simp [Lib.decFrom, val]⟩
  | cons b l ih =>
    intro h
    rw [List.all_cons, Bool.and_eq_true] at h
    obtain ⟨i1, i2⟩ := ih h.2
    obtain ⟨d, d1, d2, _⟩ := digit_val h.1
    have hv : val (b :: l) = d * 10 ^ l.length + val l := by
      unfold val
      rw [Lib.decFrom, d2]
      show (Lib.decFrom (0 * 10 + d) l).getD 0 = _
      rw [i2]
      simp [val]
    refine ⟨?_, fun acc => ?_⟩
    · rw [hv, List.length_cons, Nat.pow_succ]
      have : (d + 1) * 10 ^ l.length ≤ 10 * 10 ^ l.length := Nat.mul_le_mul_right _ (by omega)
      rw [Nat.add_mul] at this
      omega
    · rw [Lib.decFrom, d2]
      show Lib.decFrom (acc * 10 + d) l = _
      rw [i2, hv, List.length_cons, Nat.pow_succ]
      congr 1
      rw [Nat.add_mul, Nat.mul_assoc, Nat.mul_comm 10]
      omega
theorem val_inj (l : List UInt8) : ∀ r : List UInt8, l.length = r.length → l.all digitB = true → r.all digitB = true → val l = val r → l = r := by
  induction l with
  | nil => intro r h _ _ _; cases r with
    | nil => rfl
    | cons b r => cases h
  | cons a l ih =>
    intro r hl ha hr hv
    cases r with
    | nil => cases hl
    | cons b r =>
      have hl' : l.length = r.length := by simpa using hl
      rw [List.all_cons, Bool.and_eq_true] at ha hr
      obtain ⟨d, d1, d2, d3⟩ := digit_val ha.1
      obtain ⟨e, e1, e2, e3⟩ := digit_val hr.1
      have h1 : val (a :: l) = d * 10 ^ l.length + val l := by
        unfold val
        rw [Lib.decFrom, d2]
        show (Lib.decFrom (0 * 10 + d) l).getD 0 = _
        rw [(val_acc l ha.2).2]
        simp [val]
      have h2 : val (b :: r) = e * 10 ^ l.length + val r := by
        unfold val
        rw [Lib.decFrom, e2]
        show (Lib.decFrom (0 * 10 + e) r).getD 0 = _
        rw [(val_acc r hr.2).2, hl']
        simp [val]
      rw [h1, h2] at hv
      have b1 := (val_acc l ha.2).1
      have b2 := (val_acc r hr.2).1
      rw [← hl'] at b2
      have hde : d = e := by
        rcases Nat.lt_trichotomy d e with h | h | h
        · have : (d + 1) * 10 ^ l.length ≤ e * 10 ^ l.length := Nat.mul_le_mul_right _ h
          rw [Nat.add_mul] at this
          omega
        · exact h
        · have : (e + 1) * 10 ^ l.length ≤ d * 10 ^ l.length := Nat.mul_le_mul_right _ h
          rw [Nat.add_mul] at this
          omega
      subst hde
      rw [d3, e3, ih r hl' ha.2 hr.2 (by omega)]
theorem natv_val {l : List UInt8} (h : l ≠ []) : natv l = (val l : Nat) := by
  unfold natv val Lib.decNat
  cases l with
  | nil => exact absurd rfl h
  | cons b l => rfl
/-- So many digits are what padded makes of their number. -/
theorem pad_of {l : List UInt8} {k : Nat} (hk : 1 ≤ k) (hl : l.length = k) (ha : l.all digitB = true) : padF (natv l) k = l ∧ 0 ≤ natv l ∧ natv l < 10 ^ k := by
  have hne : l ≠ [] := fun he => by rw [he] at hl; simp at hl; omega
  have hv := natv_val hne
  have hb := (val_acc l ha).1
  rw [hl] at hb
  have h0 : 0 ≤ natv l := by rw [hv]; omega
  have h1 : natv l < 10 ^ k := by rw [hv]; exact_mod_cast hb
  obtain ⟨p1, p2, p3⟩ := padF_spec (natv l) k h0 h1 hk
  refine ⟨val_inj _ _ (by rw [p1, hl]) p2 ha ?_, h0, h1⟩
  have hpne : padF (natv l) k ≠ [] := fun he => by rw [he] at p1; simp at p1; omega
  have hq := natv_val hpne
  have hq' : ((val (padF (natv l) k) : Nat) : Int) = (val l : Nat) := by rw [← hq, p3, hv]
  exact_mod_cast hq'
theorem numL_true {l : List UInt8} {d : Nat} {v : Int} (hd : 1 ≤ d) (h : numL l d = (v, true)) : l = padF v d ∧ 0 ≤ v ∧ v < 10 ^ d ∧ l.length = d ∧ l.all digitB = true := by
  unfold numL at h
  split at h
  · rename_i hc
    have hv : natv l = v := (Prod.mk.inj h).1
    obtain ⟨a, b, c⟩ := pad_of hd hc.1 hc.2
    rw [hv] at a b c
    exact ⟨a.symm, b, c, hc⟩
  · have := (Prod.mk.inj h).2
    cases this
/-! ### Pieces and the whole -/
theorem cut_cons {l a : List UInt8} {r : List (List UInt8)} (h : cut l = a :: r) : (r = [] ∧ l = a) ∨ ∃ b, l = a ++ 45 :: b ∧ cut b = r := by
  rcases first_dash l with hn | ⟨x, b, rfl, hx⟩
  · rw [cut_none l hn] at h
    obtain ⟨h1, h2⟩ := List.cons.inj h
    exact .inl ⟨h2.symm, h1⟩
  · rw [cut_dash b x hx] at h
    obtain ⟨h1, h2⟩ := List.cons.inj h
    exact .inr ⟨b, by rw [h1], h2⟩
theorem cut_ne (l : List UInt8) : cut l ≠ [] := by
  rcases first_dash l with hn | ⟨x, b, rfl, hx⟩
  · rw [cut_none l hn]; simp
  · rw [cut_dash b x hx]; simp
/-! ### The forms -/
def yearL (y : Int) : List UInt8 := if y < 0 then 45 :: padF (-y) 4 else padF y 4
def form1 (n : Int) : List UInt8 := yearL (yrF n) ++ 45 :: (padF (moF n) 2 ++ 45 :: padF (dyF n) 2)
def form2 (n : Int) : List UInt8 := yearL (yrF n) ++ 45 :: padF (n - beg (yrF n) + 1) 3
def form3 (n : Int) : List UInt8 := yearL (wyr n) ++ 45 :: (87 :: padF ((n - fst (wyr n)) / 7 + 1) 2 ++ 45 :: padF (wdF n) 1)
theorem ymdL_form (y m d : Int) : ymdL y m d = yearL y ++ 45 :: (padF m 2 ++ 45 :: padF d 2) := by
  unfold ymdL yearL
  rw [partsL_eq, partsL_eq]
  split <;> simp
/-- What Read answers, over lists. -/
def shapeL (y : Int) (L : List (List UInt8)) : Nat → Int × Int
  | 0 => if L.length = 3 then (if (numL (L.getD 1 []) 2).2 = true ∧ (numL (L.getD 2 []) 2).2 = true then daysF y (numL (L.getD 1 []) 2).1 (numL (L.getD 2 []) 2).1 else (0, 30)) else (0, 30)
  | 1 => if L.length = 3 then (if Lib.hasPrefix (L.getD 1 []) [87] = true ∧ (numL (Lib.trimPrefix (L.getD 1 []) [87]) 2).2 = true ∧ (numL (L.getD 2 []) 1).2 = true then ofWeekF y (numL (Lib.trimPrefix (L.getD 1 []) [87]) 2).1 (numL (L.getD 2 []) 1).1 else (0, 30)) else (0, 30)
  | _ => if L.length = 2 then (if (numL (L.getD 1 []) 3).2 = true then ofNthF y (numL (L.getD 1 []) 3).1 else (0, 30)) else (0, 30)
def toB (l : List UInt8) : ByteArray := ⟨l.toArray⟩
theorem getD_map (L : List (List UInt8)) (i : Nat) : (L.map toB).getD i ⟨#[]⟩ = toB (L.getD i []) := by
  rw [List.getD_eq_getElem?_getD, List.getD_eq_getElem?_getD, List.getElem?_map]
  cases L[i]? <;> rfl
theorem shape_L (y : Int) (L : List (List UInt8)) (k : Nat) : shapeF y (L.map toB) k = shapeL y L k := by
  have n2 : ∀ l, numF (toB l) 2 = numL l 2 := fun l => numF_L l 2
  have n1 : ∀ l, numF (toB l) 1 = numL l 1 := fun l => numF_L l 1
  have n3 : ∀ l, numF (toB l) 3 = numL l 3 := fun l => numF_L l 3
  match k with
  | 0 =>
    show (if (L.map toB).length = 3 then monthsF y ((L.map toB).getD 1 ⟨#[]⟩) ((L.map toB).getD 2 ⟨#[]⟩) else (0, 30)) = _
    rw [List.length_map, getD_map, getD_map]
    unfold monthsF
    rw [n2, n2]
    rfl
  | 1 =>
    show (if (L.map toB).length = 3 then weeksF y ((L.map toB).getD 1 ⟨#[]⟩) ((L.map toB).getD 2 ⟨#[]⟩) else (0, 30)) = _
    rw [List.length_map, getD_map, getD_map]
    unfold weeksF
    have e : ∀ l : List UInt8, (toB l).data.toList = l := fun l => by show l.toArray.toList = l; simp
    rw [e]
    have e2 : numF ⟨(Lib.trimPrefix (L.getD 1 []) [87]).toArray⟩ 2 = numL (Lib.trimPrefix (L.getD 1 []) [87]) 2 := n2 _
    rw [e2, n1]
    rfl
  | k + 2 =>
    show (if (L.map toB).length = 2 then daysOfF y ((L.map toB).getD 1 ⟨#[]⟩) else (0, 30)) = _
    rw [List.length_map, getD_map]
    unfold daysOfF
    rw [n3]
    rfl
theorem tail_some {y n : Int} {L : List ByteArray} (h : tailF y L = (n, 0)) : ∃ k, k < 3 ∧ shapeF y L k = (n, 0) := by
  unfold tailF at h
  split at h
  · rename_i h0
    exact ⟨0, by omega, Prod.ext (Prod.mk.inj h).1 h0⟩
  · split at h
    · rename_i h0
      exact ⟨1, by omega, Prod.ext (Prod.mk.inj h).1 h0⟩
    · split at h
      · rename_i h0
        exact ⟨2, by omega, Prod.ext (Prod.mk.inj h).1 h0⟩
      · have := (Prod.mk.inj h).2
        cases this
/-- What stands behind the year, and the day that it says. -/
theorem shape_form {y n : Int} {x0 : List UInt8} {r : List (List UInt8)} {k : Nat} (hk : k < 3) (h : shapeL y (x0 :: r) k = (n, 0)) :
    In n ∧ ((yrF n = y ∧ r = [padF (moF n) 2, padF (dyF n) 2]) ∨ (yrF n = y ∧ r = [padF (n - beg (yrF n) + 1) 3]) ∨ (wyr n = y ∧ InY y ∧ r = [87 :: padF ((n - fst (wyr n)) / 7 + 1) 2, padF (wdF n) 1])) := by
  match k, hk, h with
  | 0, _, h =>
    have h : (if (x0 :: r).length = 3 then (if (numL ((x0 :: r).getD 1 []) 2).2 = true ∧ (numL ((x0 :: r).getD 2 []) 2).2 = true then daysF y (numL ((x0 :: r).getD 1 []) 2).1 (numL ((x0 :: r).getD 2 []) 2).1 else (0, 30)) else (0, 30)) = (n, 0) := h
    split at h
    · rename_i hl
      split at h
      · rename_i hc
        obtain ⟨p, q, rfl⟩ : ∃ p q, r = [p, q] := by
          match r, hl with
          | [p, q], _ => exact ⟨p, q, rfl⟩
        have hp : numL p 2 = ((numL p 2).1, true) := Prod.ext rfl hc.1
        have hq : numL q 2 = ((numL q 2).1, true) := Prod.ext rfl hc.2
        obtain ⟨p1, _⟩ := numL_true (by omega) hp
        obtain ⟨q1, _⟩ := numL_true (by omega) hq
        have h : daysF y (numL p 2).1 (numL q 2).1 = (n, 0) := h
        by_cases hok : Ok y (numL p 2).1 (numL q 2).1
        · rw [daysF_ok hok] at h
          have hn : dn y (numL p 2).1 (numL q 2).1 = n := (Prod.mk.inj h).1
          have hin := dn_in hok
          obtain ⟨d1, d2, d3⟩ := date_dn hok
          rw [hn] at hin d1 d2 d3
          refine ⟨hin, .inl ⟨d1, ?_⟩⟩
          rw [d2, d3, ← p1, ← q1]
        · rw [daysF_not hok] at h
          have := (Prod.mk.inj h).2
          cases this
      · have := (Prod.mk.inj h).2
        cases this
    · have := (Prod.mk.inj h).2
      cases this
  | 1, _, h =>
    have h : (if (x0 :: r).length = 3 then (if Lib.hasPrefix ((x0 :: r).getD 1 []) [87] = true ∧ (numL (Lib.trimPrefix ((x0 :: r).getD 1 []) [87]) 2).2 = true ∧ (numL ((x0 :: r).getD 2 []) 1).2 = true then ofWeekF y (numL (Lib.trimPrefix ((x0 :: r).getD 1 []) [87]) 2).1 (numL ((x0 :: r).getD 2 []) 1).1 else (0, 30)) else (0, 30)) = (n, 0) := h
    split at h
    · rename_i hl
      split at h
      · rename_i hc
        obtain ⟨p, q, rfl⟩ : ∃ p q, r = [p, q] := by
          match r, hl with
          | [p, q], _ => exact ⟨p, q, rfl⟩
        obtain ⟨c1, c2, c3⟩ := hc
        have c1 : Lib.hasPrefix p [87] = true := c1
        obtain ⟨p', rfl⟩ : ∃ p', p = 87 :: p' := by
          cases p with
          | nil => simp [Lib.hasPrefix, List.isPrefixOf] at c1
          | cons b p' =>
            simp [Lib.hasPrefix, List.isPrefixOf] at c1
            exact ⟨p', by rw [← c1]⟩
        have ht : Lib.trimPrefix (87 :: p') [87] = p' := by unfold Lib.trimPrefix; rw [if_pos c1]; rfl
        have c2 : (numL (Lib.trimPrefix (87 :: p') [87]) 2).2 = true := c2
        have c3 : (numL q 1).2 = true := c3
        have h : ofWeekF y (numL (Lib.trimPrefix (87 :: p') [87]) 2).1 (numL q 1).1 = (n, 0) := h
        rw [ht] at c2 h
        obtain ⟨p1, _⟩ := numL_true (by omega) (show numL p' 2 = ((numL p' 2).1, true) from Prod.ext rfl c2)
        obtain ⟨q1, _⟩ := numL_true (by omega) (show numL q 1 = ((numL q 1).1, true) from Prod.ext rfl c3)
        generalize (numL p' 2).1 = a at *
        generalize (numL q 1).1 = b at *
        unfold ofWeekF at h
        split at h
        · rename_i hw
          have hn : fst y + 7 * (a - 1) + b - 1 = n := (Prod.mk.inj h).1
          have hww := week_ofWeek hw.1 hw.2.1 hw.2.2.1 hw.2.2.2.1 hw.2.2.2.2
          have hin := hw.2.2.2.2
          rw [hn] at hww hin
          by_cases hi : InY (wyr n)
          · rw [weekF_in hin hi] at hww
            simp only [Prod.mk.injEq] at hww
            obtain ⟨e1, e2, e3, _⟩ := hww
            refine ⟨hin, .inr (.inr ⟨e1, by rw [← e1]; exact hi, ?_⟩)⟩
            rw [e2, e3, ← p1, ← q1]
          · rw [weekF_not (fun h => hi h.2)] at hww
            simp only [Prod.mk.injEq] at hww
            have := hww.2.2.2
            omega
        · have := (Prod.mk.inj h).2
          cases this
      · have := (Prod.mk.inj h).2
        cases this
    · have := (Prod.mk.inj h).2
      cases this
  | 2, _, h =>
    have h : (if (x0 :: r).length = 2 then (if (numL ((x0 :: r).getD 1 []) 3).2 = true then ofNthF y (numL ((x0 :: r).getD 1 []) 3).1 else (0, 30)) else (0, 30)) = (n, 0) := h
    split at h
    · rename_i hl
      split at h
      · rename_i hc
        obtain ⟨p, rfl⟩ : ∃ p, r = [p] := by
          match r, hl with
          | [p], _ => exact ⟨p, rfl⟩
        obtain ⟨p1, _⟩ := numL_true (by omega) (show numL p 3 = ((numL p 3).1, true) from Prod.ext rfl hc)
        have h : ofNthF y (numL p 3).1 = (n, 0) := h
        generalize (numL p 3).1 = a at *
        unfold ofNthF at h
        split at h
        · rename_i hw
          have hn : beg y + a - 1 = n := (Prod.mk.inj h).1
          have hq := nth_ofNth hw.1 hw.2.1 hw.2.2
          rw [hn] at hq
          have hin : In n := by
            rw [← hn]
            exact in_year hw.1 (by omega) (by have := beg_succ y; omega)
          rw [nthF_in hin] at hq
          simp only [Prod.mk.injEq] at hq
          refine ⟨hin, .inr (.inl ⟨hq.1, ?_⟩)⟩
          rw [hq.2.1, ← p1]
        · have := (Prod.mk.inj h).2
          cases this
      · have := (Prod.mk.inj h).2
        cases this
    · have := (Prod.mk.inj h).2
      cases this
/-- What is read as a day is one of its three texts. -/
theorem read_form {l : List UInt8} {n : Int} (h : readF (toB l) = (n, 0)) : In n ∧ (l = form1 n ∨ l = form2 n ∨ (InY (wyr n) ∧ l = form3 n)) := by
  have e : (toB l).data.toList = l := by show l.toArray.toList = l; simp
  unfold readF at h
  rw [e] at h
  have hpc := pieces_cut (toB (Lib.trimPrefix l [45]))
  have e2 : (toB (Lib.trimPrefix l [45])).data.toList = Lib.trimPrefix l [45] := by show (Lib.trimPrefix l [45]).toArray.toList = _; simp
  rw [e2] at hpc
  have hpc : pieces ⟨(Lib.trimPrefix l [45]).toArray⟩ = (cut (Lib.trimPrefix l [45])).map toB := hpc
  rw [hpc] at h
  obtain ⟨x0, r, hcut⟩ : ∃ x0 r, cut (Lib.trimPrefix l [45]) = x0 :: r := by
    cases hc : cut (Lib.trimPrefix l [45]) with
    | nil => exact absurd hc (cut_ne _)
    | cons a b => exact ⟨a, b, rfl⟩
  rw [hcut] at h
  unfold readL at h
  rw [getD_map] at h
  have e3 : (x0 :: r).getD 0 [] = x0 := rfl
  have e4 : numF (toB x0) 4 = numL x0 4 := numF_L x0 4
  rw [e3, e4] at h
  split at h
  · have := (Prod.mk.inj h).2
    cases this
  · rename_i hc
    have hok : (numL x0 4).2 = true := by
      cases hv : (numL x0 4).2 with
      | true => rfl
      | false => exact absurd (.inl hv) hc
    obtain ⟨a1, a2, a3, _⟩ := numL_true (by omega) (show numL x0 4 = ((numL x0 4).1, true) from Prod.ext rfl hok)
    obtain ⟨k, hk, hs⟩ := tail_some h
    rw [shape_L] at hs
    have hf := shape_form hk hs
    -- the year
    have hyear : ∀ y : Int, y = (if Lib.hasPrefix l [45] = true then -(numL x0 4).1 else (numL x0 4).1) → l = yearL y ++ (Lib.trimPrefix l [45]).drop x0.length ∨ ¬ (x0 <+: Lib.trimPrefix l [45]) := by
      intro y hy
      by_cases hpx : x0 <+: Lib.trimPrefix l [45]
      · refine .inl ?_
        obtain ⟨t, ht⟩ := hpx
        have hd : (Lib.trimPrefix l [45]).drop x0.length = t := by rw [← ht]; simp
        rw [hd]
        by_cases hm : Lib.hasPrefix l [45] = true
        · rw [if_pos hm] at hy
          obtain ⟨l', rfl⟩ : ∃ l', l = 45 :: l' := by
            cases l with
            | nil => simp [Lib.hasPrefix, List.isPrefixOf] at hm
            | cons b l' =>
              simp [Lib.hasPrefix, List.isPrefixOf] at hm
              exact ⟨l', by rw [← hm]⟩
          have htr : Lib.trimPrefix (45 :: l') [45] = l' := by unfold Lib.trimPrefix; rw [if_pos hm]; rfl
          rw [htr] at ht
          have hne : (numL x0 4).1 ≠ 0 := fun h0 => hc (.inr ⟨hm, h0⟩)
          unfold yearL
          rw [if_pos (by omega), hy, Int.neg_neg, ← a1, List.cons_append, ht]
        · rw [if_neg hm] at hy
          have htr : Lib.trimPrefix l [45] = l := by unfold Lib.trimPrefix; rw [if_neg hm]
          rw [htr] at ht
          unfold yearL
          rw [if_neg (by omega), hy, ← a1, ht]
      · exact .inr hpx
    have hjoin : ∀ y : Int, y = (if Lib.hasPrefix l [45] = true then -(numL x0 4).1 else (numL x0 4).1) → (∀ b, Lib.trimPrefix l [45] = x0 ++ b → l = yearL y ++ b) := by
      intro y hy b hb
      rcases hyear y hy with h1 | h1
      · rw [hb] at h1
        have : (x0 ++ b).drop x0.length = b := by simp
        rw [this] at h1
        exact h1
      · exact absurd ⟨b, hb.symm⟩ h1
    refine ⟨hf.1, ?_⟩
    rcases hf.2 with ⟨f1, f2⟩ | ⟨f1, f2⟩ | ⟨f1, f2, f3⟩
    · refine .inl ?_
      rw [f2] at hcut
      rcases cut_cons hcut with ⟨h1, _⟩ | ⟨b, h1, h2⟩
      · cases h1
      rcases cut_cons h2 with ⟨h3, _⟩ | ⟨b', h3, h4⟩
      · cases h3
      rcases cut_cons h4 with ⟨_, h5⟩ | ⟨b'', h5, h6⟩
      · rw [hjoin _ f1 _ h1, h3, h5]
        rfl
      · exact absurd h6 (cut_ne _)
    · refine .inr (.inl ?_)
      rw [f2] at hcut
      rcases cut_cons hcut with ⟨h1, _⟩ | ⟨b, h1, h2⟩
      · cases h1
      rcases cut_cons h2 with ⟨_, h3⟩ | ⟨b', h3, h4⟩
      · rw [hjoin _ f1 _ h1, h3]
        rfl
      · exact absurd h4 (cut_ne _)
    · refine .inr (.inr ⟨by rw [f1]; exact f2, ?_⟩)
      rw [f3] at hcut
      rcases cut_cons hcut with ⟨h1, _⟩ | ⟨b, h1, h2⟩
      · cases h1
      rcases cut_cons h2 with ⟨h3, _⟩ | ⟨b', h3, h4⟩
      · cases h3
      rcases cut_cons h4 with ⟨_, h5⟩ | ⟨b'', h5, h6⟩
      · rw [hjoin _ f1 _ h1, h3, h5]
        rfl
      · exact absurd h6 (cut_ne _)
end Go.Proofs.YtnaaagaammimnaaGreatDoor.Civ
