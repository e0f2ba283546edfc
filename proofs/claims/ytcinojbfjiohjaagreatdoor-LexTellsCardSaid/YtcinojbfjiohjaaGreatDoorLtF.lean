/-
  Part 6 of what the row stands on, put together by a program: LxN, LxU, NameR, PLx11, PLx12, LxO, PLxE, PLxS.
-/
import Derived.IntWalk
import Derived.Test.YtcinojbfjiohjaaGreatDoorLtE
section
namespace Go.Proofs.YtcinojbfjiohjaaGreatDoor.Lx
open Go Go.RowKit Go.Proofs.YtcinojbfjiohjaaGreatDoor.PPrintTells Go.Proofs.YtcinojbfjiohjaaGreatDoor.Ex Go.Proofs.YtcinojbfjiohjaaGreatDoor.Civ Go.Proofs.YtcinojbfjiohjaaGreatDoorW.PrintWords Go.Proofs.YtcinojbfjiohjaaGreatDoorW.PrintLast Go.Proofs.YtcinojbfjiohjaaGreatDoorW.PrintMore
set_option linter.unusedVariables false
set_option linter.unusedSimpArgs false
def numK : Nat → List UInt8 → Option Nat
  | n, [] => some n
  | n, b :: l => if digitB b = true ∧ n ≤ 922337203685477580 then numK (n * 10 + (b.toNat - 48)) l else none
def finK (m : Bool) (n : Nat) : Int × Bool :=
  if m = true then (if (n : Int) ≤ 9223372036854775808 then (wrap64 (IntKind.u64.wrap (-(n : Int))), true) else (wrap64 n, false)) else (wrap64 n, decide ((n : Int) ≤ 9223372036854775807))
def numA (m : Bool) : Option Nat → Int × Bool
  | none => (0, false)
  | some u => finK m u
theorem digit_iff (b : UInt8) : digitB b = true ↔ 48 ≤ b.toNat ∧ b.toNat ≤ 57 := by
  unfold digitB
  rw [Bool.and_eq_true, decide_eq_true_eq, decide_eq_true_eq]
theorem digit_r (b : UInt8) : epactref10_digit.f (b.toNat : Int) = some (digitB b) := by
  unfold epactref10_digit.f
  by_cases h : 48 ≤ b.toNat
  · rw [if_pos (by omega)]
    congr 1
    rw [Bool.eq_iff_iff, digit_iff, decide_eq_true_eq]
    omega
  · rw [if_neg (by omega)]
    congr 1
    rw [Bool.eq_iff_iff, digit_iff]
    simp
    omega
theorem num_l0 (m : Bool) (q : List UInt8) : ∀ (k : Nat) (p : List UInt8) (a : Nat), q.length < k → p.length + q.length ≤ 100000 → a ≤ 9223372036854775809 →
    epactref10_number.l0 k m (toB (p ++ q)) (a : Nat) (p.length : Nat) = some (numA m (numK a q)) := by
  induction q with
  | nil =>
    intro k p a hk _ _
    obtain ⟨k, rfl⟩ : ∃ m, k = m + 1 := ⟨k - 1, by omega⟩
    rw [epactref10_number.l0, texts_bytes, if_neg (by simp)]
    show _ = some (finK m a)
    unfold finK
    cases m
    · rfl
    · by_cases h : (a : Int) ≤ 9223372036854775808
      · rw [if_pos rfl, if_pos h, if_pos rfl, if_pos h]
      · rw [if_pos rfl, if_neg h, if_pos rfl, if_neg h]
  | cons b q ih =>
    intro k p a hk hl ha
    obtain ⟨k, rfl⟩ : ∃ m, k = m + 1 := ⟨k - 1, by omega⟩
    have hb : bt (toB (p ++ b :: q)) (p.length : Nat) = (b.toNat : Int) := by
      rw [bt_toB _ _ (by simp)]
      simp
    have hbl := b.toNat_lt
    rw [epactref10_number.l0, texts_bytes, if_pos (by simp; omega), if_pos (by omega), hb, digit_r, Option.bind_some]
    by_cases hd : digitB b = true
    · have hd' := (digit_iff b).1 hd
      rw [if_pos hd]
      by_cases hn : a ≤ 922337203685477580
      · have e0 : numK a (b :: q) = numK (a * 10 + (b.toNat - 48)) q := if_pos ⟨hd, hn⟩
        have e1 : IntKind.u64.wrap (IntKind.u64.wrap ((a : Int) * 10) + ((b.toNat : Int) - 48) % 256) = ((a * 10 + (b.toNat - 48) : Nat) : Int) := by
          rw [IntWalk.u64_in ((a : Int) * 10) (by omega), IntWalk.u64_in _ (by omega)]
          omega
        have e2 : wrap64 ((p.length : Int) + 1) = (((p ++ [b]).length : Nat) : Int) := by
          rw [w64 (by simp at hl; omega) (by simp at hl; omega)]
          simp
        have e3 : p ++ b :: q = (p ++ [b]) ++ q := by simp
        rw [if_neg (by omega), e1, e2, e3, ih k (p ++ [b]) _ (by simp at hk; omega) (by simp at hl ⊢; omega) (by omega), e0]
      · have e0 : numK a (b :: q) = none := if_neg (fun h => hn h.2)
        rw [if_pos (by omega), e0]
        rfl
    · have e0 : numK a (b :: q) = none := if_neg (fun h => hd h.1)
      rw [if_neg hd, e0]
      rfl
theorem numK_app : ∀ (l : List UInt8) (a u : Nat) (b : UInt8), numK a l = some u → digitB b = true → u ≤ 922337203685477580 → numK a (l ++ [b]) = some (u * 10 + (b.toNat - 48))
  | [], a, u, b, h, hb, hu => by
    have h : some a = some u := h
    injection h with h
    subst h
    exact if_pos ⟨hb, hu⟩
  | c :: l, a, u, b, h, hb, hu => by
    have h0 : numK a (c :: l) = if digitB c = true ∧ a ≤ 922337203685477580 then numK (a * 10 + (c.toNat - 48)) l else none := rfl
    rw [h0] at h
    have h1 : numK a (c :: l ++ [b]) = if digitB c = true ∧ a ≤ 922337203685477580 then numK (a * 10 + (c.toNat - 48)) (l ++ [b]) else none := rfl
    rw [h1]
    by_cases hc : digitB c = true ∧ a ≤ 922337203685477580
    · rw [if_pos hc] at h ⊢
      exact numK_app l _ u b h hb hu
    · rw [if_neg hc] at h; cases h
theorem numK_cut : ∀ (l : List UInt8) (a u : Nat) (b : UInt8), numK a (l ++ [b]) = some u → ∃ v, numK a l = some v ∧ digitB b = true ∧ v ≤ 922337203685477580 ∧ u = v * 10 + (b.toNat - 48)
  | [], a, u, b, h => by
    have h : (if digitB b = true ∧ a ≤ 922337203685477580 then some (a * 10 + (b.toNat - 48)) else none) = some u := h
    by_cases hc : digitB b = true ∧ a ≤ 922337203685477580
    · rw [if_pos hc] at h
      injection h with h
      exact ⟨a, rfl, hc.1, hc.2, h.symm⟩
    · rw [if_neg hc] at h; cases h
  | c :: l, a, u, b, h => by
    have h1 : numK a (c :: l ++ [b]) = if digitB c = true ∧ a ≤ 922337203685477580 then numK (a * 10 + (c.toNat - 48)) (l ++ [b]) else none := rfl
    rw [h1] at h
    have h0 : numK a (c :: l) = if digitB c = true ∧ a ≤ 922337203685477580 then numK (a * 10 + (c.toNat - 48)) l else none := rfl
    rw [h0]
    by_cases hc : digitB c = true ∧ a ≤ 922337203685477580
    · rw [if_pos hc] at h ⊢
      exact numK_cut l _ u b h
    · rw [if_neg hc] at h; cases h
theorem digit_byte (x : Nat) (h : x < 10) : digitB (UInt8.ofNat (48 + x)) = true ∧ (UInt8.ofNat (48 + x)).toNat = 48 + x := by
  have e : (UInt8.ofNat (48 + x)).toNat = 48 + x := by
    rw [UInt8.toNat_ofNat']
    omega
  exact ⟨(digit_iff _).2 (by omega), e⟩
theorem dec_one {u : Nat} (h : u < 10) : Lib.decDigits u = [UInt8.ofNat (48 + u)] := by rw [Lib.decDigits, dif_pos h]
theorem dec_more {u : Nat} (h : ¬ u < 10) : Lib.decDigits u = Lib.decDigits (u / 10) ++ [UInt8.ofNat (48 + u % 10)] := by rw [Lib.decDigits, dif_neg h]
theorem numK_dec (u : Nat) (hu : u ≤ 9223372036854775809) : numK 0 (Lib.decDigits u) = some u := by
  induction u using Nat.strongRecOn with
  | ind u ih =>
    by_cases h : u < 10
    · obtain ⟨h1, h2⟩ := digit_byte u h
      rw [dec_one h]
      show (if digitB (UInt8.ofNat (48 + u)) = true ∧ 0 ≤ 922337203685477580 then some (0 * 10 + ((UInt8.ofNat (48 + u)).toNat - 48)) else none) = _
      rw [if_pos ⟨h1, by omega⟩, h2]
      congr 1
      omega
    · obtain ⟨h1, h2⟩ := digit_byte (u % 10) (by omega)
      rw [dec_more h, numK_app _ 0 (u / 10) _ (ih (u / 10) (by omega) (by omega)) h1 (by omega), h2]
      congr 1
      omega
/-- No nought stands ahead. -/
def leadL : List UInt8 → Prop
  | [] => False
  | b :: l => b.toNat = 48 → l = []
theorem lead_dec (u : Nat) : leadL (Lib.decDigits u) := by
  induction u using Nat.strongRecOn with
  | ind u ih =>
    by_cases h : u < 10
    · rw [dec_one h]
      intro _
      rfl
    · have h1 := ih (u / 10) (by omega)
      rw [dec_more h]
      by_cases h10 : u / 10 < 10
      · obtain ⟨_, h2⟩ := digit_byte (u / 10) h10
        rw [dec_one h10]
        intro h3
        exfalso
        rw [h2] at h3
        omega
      · rw [dec_more h10] at h1 ⊢
        cases hd : Lib.decDigits (u / 10 / 10) with
        | nil =>
          obtain ⟨c, r, hcr, _⟩ := dec_first (u / 10 / 10)
          rw [hd] at hcr; cases hcr
        | cons c r =>
          rw [hd] at h1
          intro h3
          have h4 := h1 h3
          simp at h4
theorem numK_lead (N : Nat) : ∀ (l : List UInt8), l.length ≤ N → ∀ (u : Nat), leadL l → numK 0 l = some u → l = Lib.decDigits u := by
  induction N with
  | zero =>
    intro l hl u h
    rw [List.eq_nil_of_length_eq_zero (Nat.le_zero.1 hl)] at h
    exact h.elim
  | succ N ih =>
    intro l0 hl0 u h hn
    obtain rfl | ⟨l, b, rfl⟩ := List.eq_nil_or_concat l0
    · exact h.elim
    rw [List.concat_eq_append] at hl0 h hn ⊢
    have ih := ih l (by simp at hl0; omega)
    obtain ⟨v, h1, h2, h3, h4⟩ := numK_cut l 0 u b hn
    have hb := (digit_iff b).1 h2
    cases hl : l with
    | nil =>
      subst hl
      have h1 : some 0 = some v := h1
      injection h1 with h1
      subst h1
      rw [h4, dec_one (by omega), List.nil_append]
      congr 1
      apply UInt8.toNat_inj.1
      rw [(digit_byte (0 * 10 + (b.toNat - 48)) (by omega)).2]
      omega
    | cons c r =>
      rw [hl] at h h1 ih
      have hc : c.toNat ≠ 48 := fun hc => by have := h hc; simp at this
      have h5 := ih v (fun hh => absurd hh hc) h1
      have hv : ¬ v = 0 := by
        intro hv
        rw [hv, dec_one (by omega)] at h5
        injection h5 with h5 _
        apply hc
        rw [h5]
        rfl
      rw [h4, dec_more (by omega), show (v * 10 + (b.toNat - 48)) / 10 = v by omega, show (v * 10 + (b.toNat - 48)) % 10 = b.toNat - 48 by omega, ← h5]
      congr 2
      apply UInt8.toNat_inj.1
      rw [(digit_byte (b.toNat - 48) (by omega)).2]
      omega
theorem numT_itoa (v : Int) (h0 : -9223372036854775808 ≤ v) (h1 : v ≤ 9223372036854775807) : numT (Lib.itoa v) = (v, true) := by
  unfold numT
  rw [parse_itoa v h0 h1]
  show (v, decide (Lib.itoa v = Lib.itoa v)) = _
  rw [decide_eq_true rfl]
theorem numT_yes {l : List UInt8} (h : (numT l).2 = true) : ∃ v : Int, -9223372036854775808 ≤ v ∧ v ≤ 9223372036854775807 ∧ l = Lib.itoa v := by
  unfold numT at h
  cases hp : Lib.parseIntB 64 l
  case ok v =>
    rw [hp] at h
    have hb := Lib.parseIntB_bounds hp
    have h : decide (Lib.itoa v = l) = true := h
    rw [decide_eq_true_eq] at h
    exact ⟨v, by omega, by omega, h.symm⟩
  all_goals (rw [hp] at h; cases h)
/-- What the document's number answers, and numbered: the same. -/
def NumOk (l : List UInt8) (r : Int × Bool) : Prop := r.2 = (numT l).2 ∧ (r.2 = true → r.1 = (numT l).1)
theorem numOk_yes {l : List UInt8} {v : Int} (h0 : -9223372036854775808 ≤ v) (h1 : v ≤ 9223372036854775807) (h : l = Lib.itoa v) : NumOk l (v, true) := by
  rw [h]
  unfold NumOk
  rw [numT_itoa v h0 h1]
  exact ⟨rfl, fun _ => rfl⟩
theorem numOk_no {l : List UInt8} (x : Int) (h : ∀ v : Int, -9223372036854775808 ≤ v → v ≤ 9223372036854775807 → l ≠ Lib.itoa v) : NumOk l (x, false) := by
  refine ⟨?_, fun h => by cases h⟩
  cases hb : (numT l).2 with
  | false => rfl
  | true =>
    obtain ⟨v, h0, h1, h2⟩ := numT_yes hb
    exact absurd h2 (h v h0 h1)
theorem numJ2 (m : Bool) (d : List UInt8) (hd : d.length ≤ 100000) (hlead : leadL d) (hm : m = true → d.head? ≠ some 48) (hp : m = false → d.head? ≠ some 45) (k : Nat) (hk : d.length + 2 ≤ k) :
    ∃ r, epactref10_number.j2 k m (toB d) false = some r ∧ NumOk (if m = true then 45 :: d else d) r := by
  obtain ⟨k, rfl⟩ : ∃ j, k = j + 1 := ⟨k - 1, by omega⟩
  have h0 := num_l0 m d k [] 0 (by omega) (by simp; omega) (by omega)
  rw [List.nil_append] at h0
  rw [epactref10_number.j2, if_neg (by decide)]
  refine ⟨_, h0, ?_⟩
  have hsm : ∀ v : Int, -9223372036854775808 ≤ v → v ≤ 9223372036854775807 → (if m = true then 45 :: d else d) = Lib.itoa v → numK 0 d = some v.natAbs ∧ (m = true ↔ v < 0) := by
    intro v v0 v1 hv
    by_cases hn : v < 0
    · obtain ⟨u, rfl⟩ : ∃ u : Nat, v = -(u : Int) := ⟨v.natAbs, by omega⟩
      rw [Lib.itoa_neg u (by omega)] at hv
      cases m
      · rw [if_neg (by decide)] at hv
        exfalso
        apply hp rfl
        rw [hv]
        rfl
      · rw [if_pos rfl] at hv
        injection hv with _ hv
        rw [hv, numK_dec u (by omega)]
        exact ⟨by congr 1; omega, by simp; omega⟩
    · obtain ⟨u, rfl⟩ : ∃ u : Nat, v = (u : Int) := ⟨v.natAbs, by omega⟩
      rw [Lib.itoa_nonneg u] at hv
      cases m
      · rw [if_neg (by decide)] at hv
        rw [hv, numK_dec u (by omega)]
        exact ⟨rfl, by simp⟩
      · rw [if_pos rfl] at hv
        exfalso
        obtain ⟨c, r, hc, hd, _⟩ := dec_first u
        rw [hc] at hv
        injection hv with hv _
        rw [← hv] at hd
        revert hd
        decide
  cases hK : numK 0 d with
  | none =>
    refine numOk_no _ fun v v0 v1 hv => ?_
    have := (hsm v v0 v1 hv).1
    rw [hK] at this
    cases this
  | some u =>
    have hdec := numK_lead d.length d (Nat.le_refl _) u hlead hK
    show NumOk _ (finK m u)
    unfold finK
    cases m
    · rw [if_neg (by decide)]
      by_cases hu : (u : Int) ≤ 9223372036854775807
      · rw [decide_eq_true hu, w64 (x := (u : Int)) (by omega) (by omega)]
        refine numOk_yes (by omega) hu ?_
        rw [hdec, Lib.itoa_nonneg u]
      · rw [decide_eq_false hu]
        refine numOk_no _ fun v v0 v1 hv => ?_
        have := hsm v v0 v1 hv
        rw [hK] at this
        have h1 := Option.some.inj this.1
        have h2 := this.2
        simp at h2
        omega
    · rw [if_pos rfl]
      have hu0 : u ≠ 0 := by
        intro h
        apply hm rfl
        rw [hdec, h, dec_one (by omega)]
        rfl
      by_cases hu : (u : Int) ≤ 9223372036854775808
      · rw [if_pos hu]
        have e : wrap64 (IntKind.u64.wrap (-(u : Int))) = -(u : Int) := by
          have e1 : IntKind.u64.wrap (-(u : Int)) = 18446744073709551616 - (u : Int) := by
            show (-(u : Int)) % (2 ^ 64 : Int) = _
            omega
          rw [e1]
          unfold wrap64
          omega
        rw [e]
        refine numOk_yes (by omega) (by omega) ?_
        rw [hdec, Lib.itoa_neg u (by omega)]
      · rw [if_neg hu]
        refine numOk_no _ fun v v0 v1 hv => ?_
        have := hsm v v0 v1 hv
        rw [hK] at this
        have h1 := Option.some.inj this.1
        omega
theorem numJ1 (m : Bool) (d : List UInt8) (hd : d.length ≤ 100000) (hp : m = false → d.head? ≠ some 45) (k : Nat) (hk : d.length + 3 ≤ k) :
    ∃ r, epactref10_number.j1 k m (toB d) = some r ∧ NumOk (if m = true then 45 :: d else d) r := by
  obtain ⟨k, rfl⟩ : ∃ j, k = j + 1 := ⟨k - 1, by omega⟩
  obtain ⟨k', rfl⟩ : ∃ j, k = j + 1 := ⟨k - 1, by omega⟩
  have hno : ∀ v : Int, (if m = true then 45 :: d else d) = Lib.itoa v → leadL d ∧ (m = true → d.head? ≠ some 48) := by
    intro v hv
    by_cases hn : v < 0
    · obtain ⟨u, rfl⟩ : ∃ u : Nat, v = -(u : Int) := ⟨v.natAbs, by omega⟩
      rw [Lib.itoa_neg u (by omega)] at hv
      cases m
      · rw [if_neg (by decide)] at hv
        exfalso
        apply hp rfl
        rw [hv]
        rfl
      · rw [if_pos rfl] at hv
        injection hv with _ hv
        refine ⟨hv ▸ lead_dec u, fun _ h => ?_⟩
        have hl := lead_dec u
        rw [← hv] at hl
        cases hd : d with
        | nil => rw [hd] at h; cases h
        | cons c r =>
          rw [hd] at h hl hv
          have hc48 : c = 48 := by
            have h : some c = some 48 := h
            exact Option.some.inj h
          have hr := hl (by rw [hc48]; rfl)
          subst hr
          by_cases hu : u < 10
          · rw [dec_one hu, hc48] at hv
            injection hv with hv _
            have := (digit_byte u hu).2
            rw [← hv] at this
            have h48 : (48 : UInt8).toNat = 48 := rfl
            omega
          · rw [dec_more hu] at hv
            obtain ⟨c', r', hc', _⟩ := dec_first (u / 10)
            rw [hc'] at hv
            have := congrArg List.length hv
            simp at this
    · obtain ⟨u, rfl⟩ : ∃ u : Nat, v = (u : Int) := ⟨v.natAbs, by omega⟩
      rw [Lib.itoa_nonneg u] at hv
      cases m
      · rw [if_neg (by decide)] at hv
        exact ⟨hv ▸ lead_dec u, fun h => by cases h⟩
      · rw [if_pos rfl] at hv
        exfalso
        obtain ⟨c, r, hc, hd, _⟩ := dec_first u
        rw [hc] at hv
        injection hv with hv _
        rw [← hv] at hd
        revert hd
        decide
  have hfall : (¬ (leadL d ∧ (m = true → d.head? ≠ some 48))) → ∃ r, epactref10_number.j2 (k' + 1) m (toB d) true = some r ∧ NumOk (if m = true then 45 :: d else d) r := fun hn => by
    rw [epactref10_number.j2, if_pos rfl]
    exact ⟨_, rfl, numOk_no _ fun v v0 v1 hv => hn (hno v hv)⟩
  cases hdd : d with
  | nil =>
    subst hdd
    rw [epactref10_number.j1, if_pos (toList_toB [])]
    exact hfall fun h => h.1
  | cons b l =>
    rw [← hdd]
    have hb : bt (toB d) 0 = (b.toNat : Int) := by
      have := bt_toB d 0 (by rw [hdd]; simp)
      rw [show ((0 : Nat) : Int) = 0 from rfl] at this
      rw [this]
      simp [hdd]
    rw [epactref10_number.j1, if_neg (by rw [toList_toB, hdd]; exact List.cons_ne_nil _ _), texts_bytes, if_pos (by rw [hdd]; simp), hb]
    by_cases h48 : b.toNat = 48
    · rw [if_pos (by omega)]
      have hb48 : b = 48 := UInt8.toNat_inj.1 h48
      by_cases hl : (d.length : Int) > 1
      · rw [if_pos hl]
        refine hfall fun h => ?_
        have h1 := h.1
        rw [hdd] at h1 hl
        have := h1 h48
        rw [this] at hl
        simp at hl
      · rw [if_neg hl]
        cases m
        · refine numJ2 false d hd ?_ (fun h => by cases h) hp _ (by omega)
          rw [hdd]
          intro _
          rw [hdd] at hl
          simp at hl
          exact List.eq_nil_of_length_eq_zero (by omega)
        · refine hfall fun h => h.2 rfl ?_
          rw [hdd, hb48]
          rfl
    · rw [if_neg (by omega)]
      refine numJ2 m d hd ?_ ?_ hp _ (by omega)
      · rw [hdd]
        intro h
        exact absurd h h48
      · intro _ h
        rw [hdd] at h
        have h : some b = some 48 := h
        injection h with h
        rw [h] at h48
        exact h48 rfl
/-- The document's number. -/
theorem ref_number (l : List UInt8) (hl : l.length ≤ 100000) (k : Nat) (hk : l.length + 4 ≤ k) : ∃ r, epactref10_number.f k (toB l) = some r ∧ NumOk l r := by
  obtain ⟨k, rfl⟩ : ∃ j, k = j + 1 := ⟨k - 1, by omega⟩
  unfold epactref10_number.f
  rw [texts_bytes]
  cases hll : l with
  | nil =>
    rw [if_neg (by simp), epactref10_number.j0, if_neg (by decide)]
    have h := numJ1 false [] (by simp) (fun _ h => by cases h) k (by rw [hll] at hk; simp at hk ⊢; omega)
    rwa [if_neg (by decide)] at h
  | cons b t =>
    rw [← hll]
    have hb : bt (toB l) 0 = (b.toNat : Int) := by
      have := bt_toB l 0 (by rw [hll]; simp)
      rw [show ((0 : Nat) : Int) = 0 from rfl] at this
      rw [this]
      simp [hll]
    have hlen : l.length = t.length + 1 := by rw [hll]; rfl
    rw [if_pos (by omega), if_pos (by omega), hb, epactref10_number.j0]
    by_cases h45 : b.toNat = 45
    · rw [if_pos (beq_iff_eq.2 (by omega)), texts_bytes, if_pos (by omega), beq_iff_eq.2 (by omega : (b.toNat : Int) = 45)]
      have hx : (toB l).extract 1 l.length = toB t := by
        rw [ext_toB', hll, List.drop_one, List.tail_cons, List.take_of_length_le (by rw [List.length_cons]; omega)]
      rw [hx]
      have h := numJ1 true t (by omega) (fun h => by cases h) k (by omega)
      rw [if_pos rfl] at h
      have hb45 : b = 45 := UInt8.toNat_inj.1 h45
      rw [hll, hb45]
      exact h
    · have hf : ((b.toNat : Int) == 45) = false := beq_eq_false_iff_ne.2 (by omega)
      rw [hf, if_neg (by decide)]
      have h := numJ1 false l hl (fun _ h => by
        rw [hll] at h
        have h : some b = some 45 := h
        injection h with h
        rw [h] at h45
        exact h45 rfl) k (by omega)
      rwa [if_neg (by decide)] at h
end Go.Proofs.YtcinojbfjiohjaaGreatDoor.Lx
end

section
namespace Go.Proofs.YtcinojbfjiohjaaGreatDoor.Lx
open Go Go.RowKit Go.Proofs.YtcinojbfjiohjaaGreatDoor.PPrintTells Go.Proofs.YtcinojbfjiohjaaGreatDoor.Ex Go.Proofs.YtcinojbfjiohjaaGreatDoor.Civ
set_option linter.unusedVariables false
set_option linter.unusedSimpArgs false
/-- As many words as bytes, at most. -/
theorem lex_len (n : Nat) : ∀ l : List UInt8, l.length ≤ n → (lexL l).1.length ≤ l.length := by
  have hcons : ∀ (u : List Tok) (k : Nat) (r : List Tok × Int), (consE u k r).1.length ≤ u.length + r.1.length := fun u k r => by
    unfold consE
    split
    · rw [List.length_append]
      exact Nat.le_refl _
    · exact Nat.zero_le _
  induction n with
  | zero =>
    intro l h
    obtain rfl : l = [] := List.eq_nil_of_length_eq_zero (by omega)
    exact Nat.zero_le _
  | succ n ih =>
    intro l h
    cases l with
    | nil => exact Nat.zero_le _
    | cons b l =>
      rw [List.length_cons] at h
      rw [lexL_cons, List.length_cons]
      split
      · have := hcons [] 1 (lexL l)
        have := ih l (by omega)
        simp only [List.length_nil] at *
        omega
      · split
        · have h1 := hcons [(nextL (b :: l)).1] (nextL (b :: l)).2.1 (lexL (l.drop ((nextL (b :: l)).2.1 - 1)))
          have h2 := ih (l.drop ((nextL (b :: l)).2.1 - 1)) (by rw [List.length_drop]; omega)
          rw [List.length_drop] at h2
          rw [List.length_singleton] at h1
          omega
        · exact Nat.zero_le _
end Go.Proofs.YtcinojbfjiohjaaGreatDoor.Lx
end

section
namespace Go.Proofs.YtcinojbfjiohjaaGreatDoor.Ex
open Go Go.RowKit Go.Proofs.YtcinojbfjiohjaaGreatDoor.PPrintTells Go.Proofs.YtcinojbfjiohjaaGreatDoorW.PrintWords Go.Proofs.YtcinojbfjiohjaaGreatDoorW.PrintLast Go.Proofs.YtcinojbfjiohjaaGreatDoorW.PrintMore
open Go.Proofs.YtcinojbfjiohjaaGreatDoor.Civ (w64)
set_option linter.unusedVariables false
set_option linter.unusedSimpArgs false
theorem bt_data (s : ByteArray) (i : Nat) (hi : i < s.data.toList.length) : bt s i = (s.data.toList[i].toNat : Int) := by
  have hs : i < s.size := by simpa using hi
  unfold bt
  rw [Int.toNat_natCast, dif_pos hs]
  rfl
theorem letter_iff (b : UInt8) : letterB b = true ↔ ((b.toNat : Int) = 95 ∨ (48 ≤ (b.toNat : Int) ∧ (b.toNat : Int) ≤ 57) ∨ (97 ≤ (b.toNat : Int) ∧ (b.toNat : Int) ≤ 122) ∨ (65 ≤ (b.toNat : Int) ∧ (b.toNat : Int) ≤ 90)) := by
  unfold letterB alphaB digitB
  simp only [Bool.or_eq_true, Bool.and_eq_true, decide_eq_true_eq]
  omega
theorem refName_l0 (s : ByteArray) (hs : s.size ≤ 1000) : ∀ (n i : Nat), i + n = s.data.toList.length → ∀ k : Nat, n + 1 ≤ k → epactref09_Name.l0 k s i = some ((s.data.toList.drop i).all letterB) := by
  have hsz : s.size = s.data.toList.length := by simp
  intro n
  induction n with
  | zero =>
    intro i hi k hk
    obtain ⟨k, rfl⟩ : ∃ m, k = m + 1 := ⟨k - 1, by omega⟩
    simp only [epactref09_Name.l0]
    rw [if_neg (by omega), List.drop_eq_nil_of_le (by omega)]
    rfl
  | succ n ih =>
    intro i hi k hk
    obtain ⟨k, rfl⟩ : ∃ m, k = m + 1 := ⟨k - 1, by omega⟩
    have hil : i < s.data.toList.length := by omega
    rw [List.drop_eq_getElem_cons hil, List.all_cons]
    have hn := ih (i + 1) (by omega) k (by omega)
    rw [show ((i + 1 : Nat) : Int) = (i : Int) + 1 by omega] at hn
    have hL := letter_iff s.data.toList[i]
    simp only [epactref09_Name.l0]
    rw [w64 (by omega) (by omega), bt_data s i hil, hn, if_pos (by omega), if_pos (by omega)]
    generalize (s.data.toList[i].toNat : Int) = c at *
    by_cases hl : letterB s.data.toList[i] = true
    · have hc := hL.1 hl
      rw [hl, Bool.true_and]
      repeat' split
      all_goals first | rfl | (exfalso; omega)
    · have hc : ¬ _ := fun h => hl (hL.2 h)
      rw [Bool.eq_false_iff.2 hl, Bool.false_and]
      repeat' split
      all_goals first | rfl | (exfalso; omega)
theorem refName_f (s : ByteArray) (k : Nat) (hk : 40 ≤ k) : epactref09_Name.f k s = some (nameB s) := by
  have hsz : s.size = s.data.toList.length := by simp
  obtain ⟨k, rfl⟩ : ∃ m, k = m + 1 := ⟨k - 1, by omega⟩
  unfold epactref09_Name.f nameB
  cases hd : s.data.toList with
  | nil =>
    rw [hd] at hsz
    rw [if_pos (by rw [hsz]; decide)]
    simp only [epactref09_Name.j0]
    rfl
  | cons b l =>
    have hl : s.size = l.length + 1 := by rw [hsz, hd]; rfl
    rw [if_neg (by omega)]
    have h0 : bt s 0 = (b.toNat : Int) := by
      have := bt_data s 0 (by rw [hd]; simp)
      rw [show ((0 : Nat) : Int) = 0 from rfl] at this
      rw [this]
      simp [hd]
    have ha : alphaB b = true ↔ (letterB b = true ∧ ¬ (48 ≤ (b.toNat : Int) ∧ (b.toNat : Int) ≤ 57)) := by
      rw [letter_iff]
      unfold alphaB
      simp only [Bool.or_eq_true, Bool.and_eq_true, decide_eq_true_eq]
      omega
    rw [show nameL (b :: l) = (decide (l.length < 30) && alphaB b && l.all letterB) from rfl]
    by_cases hg : (s.size : Int) > 30
    · rw [if_pos hg]
      simp only [epactref09_Name.j0]
      rw [decide_eq_false (by omega)]
      rfl
    · rw [if_neg hg, if_pos (by omega), h0]
      rw [decide_eq_true (show l.length < 30 by omega), Bool.true_and]
      have hrun := refName_l0 s (by omega) s.data.toList.length 0 (by omega) k (by omega)
      rw [List.drop_zero, hd, List.all_cons, show ((0 : Nat) : Int) = 0 from rfl] at hrun
      by_cases hdg : 48 ≤ (b.toNat : Int) ∧ (b.toNat : Int) ≤ 57
      · rw [if_pos (by omega)]
        simp only [epactref09_Name.j0]
        rw [if_pos (decide_eq_true hdg.2)]
        have : alphaB b = false := Bool.eq_false_iff.2 (fun h => (ha.1 h).2 hdg)
        rw [this]
        rfl
      · have hal : alphaB b = letterB b := by
          by_cases hb : letterB b = true
          · rw [hb, ha]; exact ⟨hb, hdg⟩
          · rw [Bool.eq_false_iff.2 hb, Bool.eq_false_iff]; exact fun h => hb (ha.1 h).1
        rw [hal]
        split
        · simp only [epactref09_Name.j0]
          rw [if_neg (by rw [decide_eq_true_eq]; omega)]
          exact hrun
        · simp only [epactref09_Name.j0]
          rw [if_neg (by simp)]
          exact hrun
end Go.Proofs.YtcinojbfjiohjaaGreatDoor.Ex
end

section
namespace Go.Proofs.YtcinojbfjiohjaaGreatDoor.PPrintTells
open Go.RowKit Go.Proofs.YtcinojbfjiohjaaGreatDoorW.PrintWords Go.Proofs.YtcinojbfjiohjaaGreatDoorW.PrintLast Go.Proofs.YtcinojbfjiohjaaGreatDoorW.PrintMore
attribute [local go_sem] max2_int min2_int max_two min_two max_three min_three max_four min_four   -- for this text's walks alone
set_option linter.unusedVariables false
set_option linter.unusedSimpArgs false
mutual
def epactref10_one.l0 : Nat → ByteArray → Int → Option (Int × ByteArray × Int × Int)
  | 0, _, _ => none
  | k + 1, x0, x4 => if x4 < (x0.size : Int) then (if 0 ≤ x4 then ((epactref10_letter.f (bt x0 x4)).bind fun t245 => (if t245 = true then (epactref10_one.l0 k x0 (wrap64 (x4 + 1))) else (if (bt x0 x4) = 45 then (epactref10_one.l0 k x0 (wrap64 (x4 + 1))) else (if 1 ≤ x4 then (if x4 ≤ (x0.size : Int) then ((epactref04_Read.f k (x0.extract 1 (x4 : Int).toNat)).bind fun bt246 => (if bt246.2 = 0 then (some (3, (⟨#[]⟩ : ByteArray), bt246.1, x4)) else (some (0, (⟨#[]⟩ : ByteArray), 0, 0)))) else (none)) else (none))))) else (none)) else (if 1 ≤ x4 then (if x4 ≤ (x0.size : Int) then ((epactref04_Read.f k (x0.extract 1 (x4 : Int).toNat)).bind fun bt248 => (if bt248.2 = 0 then (some (3, (⟨#[]⟩ : ByteArray), bt248.1, x4)) else (some (0, (⟨#[]⟩ : ByteArray), 0, 0)))) else (none)) else (none))
def epactref10_one.j1 : Nat → ByteArray → Int → Option (Int × ByteArray × Int × Int)
  | 0, _, _ => none
  | k + 1, x0, x4 => epactref10_one.l1 k x0 x4
def epactref10_one.j3 : Nat → ByteArray → Int → Option (Int × ByteArray × Int × Int)
  | 0, _, _ => none
  | k + 1, x0, x4 => if 0 < (x0.size : Int) then (if (bt x0 0) = 45 then (epactref10_one.j4 k x0 x4 true) else ((epactref10_digit.f (bt x0 0)).bind fun t251 => (epactref10_one.j4 k x0 x4 t251))) else (none)
def epactref10_one.j4 : Nat → ByteArray → Int → Bool → Option (Int × ByteArray × Int × Int)
  | 0, _, _, _ => none
  | k + 1, x0, x4, x71 => if x71 = true then (if 0 ≤ x4 then (if x4 ≤ (x0.size : Int) then ((epactref10_number.f k (x0.extract 0 (x4 : Int).toNat)).bind fun bt252 => (if bt252.2 = true then (some (2, (⟨#[]⟩ : ByteArray), bt252.1, x4)) else (some (0, (⟨#[]⟩ : ByteArray), 0, 0)))) else (none)) else (none)) else (if 0 ≤ x4 then (if x4 ≤ (x0.size : Int) then ((epactref09_Name.f k (x0.extract 0 (x4 : Int).toNat)).bind fun t254 => (if t254 = true then (some (1, x0.extract 0 (x4 : Int).toNat, 0, x4)) else (some (0, (⟨#[]⟩ : ByteArray), 0, 0)))) else (none)) else (none))
def epactref10_one.l1 : Nat → ByteArray → Int → Option (Int × ByteArray × Int × Int)
  | 0, _, _ => none
  | k + 1, x0, x4 => if x4 < (x0.size : Int) then (if 0 ≤ x4 then ((epactref10_letter.f (bt x0 x4)).bind fun t250 => (if t250 = true then (epactref10_one.l1 k x0 (wrap64 (x4 + 1))) else (epactref10_one.j3 k x0 x4))) else (none)) else (epactref10_one.j3 k x0 x4)
end
def epactref10_one.f (k : Nat) (a0 : ByteArray) : Option (Int × ByteArray × Int × Int) := if 0 < (a0.size : Int) then ((epactref10_mark.f (bt a0 0)).bind fun t244 => (if t244 = true then (if 0 ≤ 1 then (if 1 ≤ (a0.size : Int) then (some (4, a0.extract 0 1, 0, 1)) else (none)) else (none)) else (if (bt a0 0) = 64 then (epactref10_one.l0 k a0 1) else (if (bt a0 0) = 45 then (epactref10_one.j1 k a0 1) else (epactref10_one.j1 k a0 0))))) else (none)
set_option maxHeartbeats 8000000 in
set_option maxRecDepth 100000 in
theorem epactref10_one.calls (k : Nat) (a0 : ByteArray) (r1 : Int) (r2 : ByteArray) (r3 : Int) (r4 : Int) (w : World) (h : epactref10_one.f k a0 = some (r1, r2, r3, r4)) :
    Calls Tryz.prog 68 #[.string a0] w fun e w' => e = .returned (.tuple #[.agg #[.int .u8 r1, .string r2, .int .i64 r3], .int .i64 r4]) ∧ Below w.heap.size w w' := by
  have hu51 := Tryz.underlying51
  have HB := Aside0.mk (Below.refl w.heap.size w)
  have H : (if 0 < (a0.size : Int) then ((epactref10_mark.f (bt a0 0)).bind fun t244 => (if t244 = true then (if 0 ≤ 1 then (if 1 ≤ (a0.size : Int) then (some (4, a0.extract 0 1, 0, 1)) else (none)) else (none)) else (if (bt a0 0) = 64 then (epactref10_one.l0 k a0 1) else (if (bt a0 0) = 45 then (epactref10_one.j1 k a0 1) else (epactref10_one.j1 k a0 0))))) else (none)) = some (r1, r2, r3, r4) := h
  clear h
  by_cases c2 : 0 < (a0.size : Int)
  · rw [if_pos c2] at H
    have c2b0 : decide (0 < (a0.size : Int)) = true := decide_eq_true c2
    have c2b1 : decide (0 < a0.size) = true := decide_eq_true (by omega)
    clear c2
    replace H := Option.bind_eq_some_iff.mp H
    obtain ⟨t244, A40, H⟩ := H
    replace H : (if t244 = true then (if 0 ≤ 1 then (if 1 ≤ (a0.size : Int) then (some (4, a0.extract 0 1, 0, 1)) else (none)) else (none)) else (if (bt a0 0) = 64 then (epactref10_one.l0 k a0 1) else (if (bt a0 0) = 45 then (epactref10_one.j1 k a0 1) else (epactref10_one.j1 k a0 0)))) = some (r1, r2, r3, r4) := H
    have A4 := Aside0.mk A40
    clear A40
    by_cases c5 : t244 = true
    · subst c5
      have H1 : (if 0 ≤ 1 then (if 1 ≤ (a0.size : Int) then (some (4, a0.extract 0 1, 0, 1)) else (none)) else (none)) = some (r1, r2, r3, r4) := by rw [if_pos rfl] at H; exact H
      clear H
      have H := H1
      clear H1
      by_cases c6 : 0 ≤ 1
      · rw [if_pos c6] at H
        have c6b0 := eq_true c6
        have c6b1 : decide (0 ≤ 1) = true := decide_eq_true c6
        clear c6
        by_cases c7 : 1 ≤ (a0.size : Int)
        · rw [if_pos c7] at H
          have c7b0 := eq_true c7
          have c7b1 : decide (1 ≤ (a0.size : Int)) = true := decide_eq_true c7
          clear c7
          simp only [Option.some.injEq, Prod.mk.injEq] at H
          obtain ⟨rfl, rfl, rfl, rfl⟩ := H
          go_enter Tryz.func68, Tryz.ntmps68
          go_wp2_with (first | ((with_reducible refine gate_dst (N := 2) rfl ?_); refine box_event ?hg (N := 2) ?hd (cs := #[.int .u8 0, .string (⟨#[]⟩ : ByteArray), .int .i64 0]) (t := 51) ?hr ?_; (case hd => rfl); (case hg => rfl); (case hr => first | (go_simp; done) | (go_simp; rfl)); intro gb243 hg w8 hbox hb; have n0_ := Aside0.mk (below_step (by repeat (first | (with_reducible first | exact HB.out | apply below_alloc | apply pw_below_drewN | apply below_drew1) | exact HB.out)) hb); have n1_ := Aside0.mk (hbox); have n2_ := Aside0.mk ((by rw [hg]; exact (below_size (by repeat (first | (with_reducible first | exact HB.out | apply below_alloc | apply pw_below_drewN | apply below_drew1) | exact HB.out))) : w.heap.size ≤ gb243)); have n3_ := Aside0.mk ((by rw [hg]; exact (below_size (by repeat (first | (with_reducible first | exact HB.out | apply below_alloc | apply pw_below_drewN | apply below_drew1) | exact HB.out))) : w.heap.size ≤ gb243)); clear HB; have HB := n0_; have BK243 := n1_; have GW243 := n2_; have GE243 := n3_; clear n0_ n1_ n2_ n3_; clear hb hbox hg; have p3 : 0 ≤ (0 : Int) := (by omega); have q3 : 0 < a0.size := (by have : (0 : Int) < (a0.size : Int) := of_decide_eq_true (by first | (with_reducible assumption) | assumption); omega); have hx3 : ∀ h : 0 < a0.size, ((a0[0]'h).toNat : Int) = bt a0 0 := bt_at a0 0; clear p3; have qi3 : (0 < (a0.size : Int)) = True := eq_true (of_decide_eq_true (by first | (with_reducible assumption) | assumption)); replace q3 := eq_true q3) | ((with_reducible refine gate_callee (f := 71) rfl ?_); refine goesL_ (some 11) rfl rfl Tryz.func71 (by kernel_rfl) rfl #[.int .u8 (bt a0 0)] rfl (by (try simp only [List.map_toArray, List.map_cons, List.map_nil]); first | done | rfl | (simp only [List.length_drop, List.length_take]; rfl)) ?_; (with_reducible refine (epactref10_mark.calls (bt a0 0) true _ A4.out).mono ?_); rintro e w' ⟨rfl, ⟨nd, rfl⟩⟩; refine ⟨_, rfl, ?_⟩; (try (rw [drewN_self w8]; generalize hq_ : World.drewN w8 _ = w8; have n0_ : Aside0 (w8.heap[gb243]? = some (.cells #[.int .u8 0, .string (⟨#[]⟩ : ByteArray), .int .i64 0] 51 (0, 0))) := ⟨by rw [← hq_]; exact (by (with_reducible repeat (first | refine blk_drewN ?_ _ | refine blk_drew ?_ | refine blk_alloc ?_ _)); exact BK243.out)⟩; have n1_ : Aside0 (Below w.heap.size w w8) := ⟨by rw [← hq_]; exact (by repeat (first | (with_reducible first | exact HB.out | apply below_alloc | apply pw_below_drewN | apply below_drew1 | refine below_set ?_ GE243.out) | exact HB.out))⟩; clear BK243 HB hq_; have BK243 := n0_; have HB := n1_; clear n0_ n1_)); have hcz9_0 : w8.cell? ⟨gb243, 0, none⟩ = some (.int .u8 0) := (blk_cell BK243.out 0).trans rfl; have hcz9_1 : w8.cell? ⟨gb243, 1, none⟩ = some (.string (⟨#[]⟩ : ByteArray)) := (blk_cell BK243.out 1).trans rfl; have hcz9_2 : w8.cell? ⟨gb243, 2, none⟩ = some (.int .i64 0) := (blk_cell BK243.out 2).trans rfl; have hfz9_0 := blk_frozen BK243.out 0; have hfz9_1 := blk_frozen BK243.out 1; have hfz9_2 := blk_frozen BK243.out 2))
          refine bodyPost_ret (results_ct rfl _ _ gb243 51 #[.int .u8 4, .string (a0.extract 0 1), .int .i64 0] (0, 0) _ rfl (by (with_reducible repeat (first | refine blk_drewN ?_ _ | refine blk_drew ?_ | refine blk_alloc ?_ _)); refine blk_put (cs := #[.int .u8 4, .string (a0.extract 0 1), .int .i64 0]) ?_ 2 _ rfl; (with_reducible repeat (first | refine blk_drewN ?_ _ | refine blk_drew ?_ | refine blk_alloc ?_ _)); refine blk_put (cs := #[.int .u8 4, .string (⟨#[]⟩ : ByteArray), .int .i64 0]) ?_ 1 _ rfl; (with_reducible repeat (first | refine blk_drewN ?_ _ | refine blk_drew ?_ | refine blk_alloc ?_ _)); refine blk_put (cs := #[.int .u8 0, .string (⟨#[]⟩ : ByteArray), .int .i64 0]) ?_ 0 _ rfl; (with_reducible repeat (first | refine blk_drewN ?_ _ | refine blk_drew ?_ | refine blk_alloc ?_ _)); exact BK243.out) Tryz.underlying51 rfl (by kernel_rfl)) rfl ?_
          exact ⟨by first | rfl | (simp [errW_none, errW_some] <;> rfl) | (simp [*, errW_none, errW_some] <;> rfl), by repeat (first | (with_reducible first | exact HB.out | apply below_alloc | apply pw_below_drewN | apply below_drew1 | refine below_set ?_ GE243.out) | exact HB.out)⟩
        · rw [if_neg c7] at H
          exact absurd H (by simp)
      · rw [if_neg c6] at H
        exact absurd H (by simp)
    · replace c5 := Bool.eq_false_iff.mpr c5
      subst c5
      have H1 : (if (bt a0 0) = 64 then (epactref10_one.l0 k a0 1) else (if (bt a0 0) = 45 then (epactref10_one.j1 k a0 1) else (epactref10_one.j1 k a0 0))) = some (r1, r2, r3, r4) := by rw [if_neg (show ¬ (false = true) by decide)] at H; exact H
      clear H
      have H := H1
      clear H1
      by_cases c11 : (bt a0 0) = 64
      · rw [if_pos c11] at H
        have c11b0 : ((bt a0 0) == 64) = true := beq_iff_eq.mpr c11
        have c11b1 : ((bt a0 0) != 64) = false := bne_eq_false_iff_eq.mpr c11
        clear c11
        have H' := Aside0.mk H
        clear H
        go_enter Tryz.func68, Tryz.ntmps68
        go_wp2_with (first | ((with_reducible refine gate_dst (N := 2) rfl ?_); refine box_event ?hg (N := 2) ?hd (cs := #[.int .u8 0, .string (⟨#[]⟩ : ByteArray), .int .i64 0]) (t := 51) ?hr ?_; (case hd => rfl); (case hg => rfl); (case hr => first | (go_simp; done) | (go_simp; rfl)); intro gb243 hg w12 hbox hb; have n0_ := Aside0.mk (below_step (by repeat (first | (with_reducible first | exact HB.out | apply below_alloc | apply pw_below_drewN | apply below_drew1) | exact HB.out)) hb); have n1_ := Aside0.mk (hbox); have n2_ := Aside0.mk ((by rw [hg]; exact (below_size (by repeat (first | (with_reducible first | exact HB.out | apply below_alloc | apply pw_below_drewN | apply below_drew1) | exact HB.out))) : w.heap.size ≤ gb243)); have n3_ := Aside0.mk ((by rw [hg]; exact (below_size (by repeat (first | (with_reducible first | exact HB.out | apply below_alloc | apply pw_below_drewN | apply below_drew1) | exact HB.out))) : w.heap.size ≤ gb243)); clear HB; have HB := n0_; have BK243 := n1_; have GW243 := n2_; have GE243 := n3_; clear n0_ n1_ n2_ n3_; clear hb hbox hg; have p3 : 0 ≤ (0 : Int) := (by omega); have q3 : 0 < a0.size := (by have : (0 : Int) < (a0.size : Int) := of_decide_eq_true (by first | (with_reducible assumption) | assumption); omega); have hx3 : ∀ h : 0 < a0.size, ((a0[0]'h).toNat : Int) = bt a0 0 := bt_at a0 0; clear p3; have qi3 : (0 < (a0.size : Int)) = True := eq_true (of_decide_eq_true (by first | (with_reducible assumption) | assumption)); replace q3 := eq_true q3) | ((with_reducible refine gate_callee (f := 71) rfl ?_); refine goesL_ (some 11) rfl rfl Tryz.func71 (by kernel_rfl) rfl #[.int .u8 (bt a0 0)] rfl (by (try simp only [List.map_toArray, List.map_cons, List.map_nil]); first | done | rfl | (simp only [List.length_drop, List.length_take]; rfl)) ?_; (with_reducible refine (epactref10_mark.calls (bt a0 0) false _ A4.out).mono ?_); rintro e w' ⟨rfl, ⟨nd, rfl⟩⟩; refine ⟨_, rfl, ?_⟩; have p10 : 0 ≤ (0 : Int) := (by omega); have q10 : 0 < a0.size := (by have : (0 : Int) < (a0.size : Int) := of_decide_eq_true (by first | (with_reducible assumption) | assumption); omega); have hx10 : ∀ h : 0 < a0.size, ((a0[0]'h).toNat : Int) = bt a0 0 := bt_at a0 0; clear p10; have qi10 : (0 < (a0.size : Int)) = True := eq_true (of_decide_eq_true (by first | (with_reducible assumption) | assumption)); replace q10 := eq_true q10))
        go_loopg [4] k (fun kq v4 w' => ∃ (x4_1 : Int), v4 = .int .i64 x4_1 ∧ Aside0 (epactref10_one.l0 kq a0 x4_1 = some (r1, r2, r3, r4)) ∧ Aside0 (kq ≤ k) ∧ Aside0 (w'.heap[gb243]? = some (.cells #[.int .u8 0, .string (⟨#[]⟩ : ByteArray), .int .i64 0] 51 (0, 0))) ∧ Aside0 (Below w.heap.size w w'))
        case atStart => exact ⟨(1), (by first | rfl | (simp; done) | (simp [*]; done)), H', ⟨Nat.le_refl _⟩, ⟨by (with_reducible repeat (first | refine blk_drewN ?_ _ | refine blk_drew ?_ | refine blk_alloc ?_ _)); exact BK243.out⟩, ⟨by repeat (first | (with_reducible first | exact HB.out | apply below_alloc | apply pw_below_drewN | apply below_drew1 | refine below_set ?_ GE243.out) | exact HB.out)⟩⟩
        case round =>
          clear H'
          try clear c1
          try clear p1
          try clear q1
          try clear hx1
          try clear qi1
          try clear c2
          try clear c2b0
          try clear c2b1
          try clear p2
          try clear p3
          try clear q3
          try clear hx3
          try clear qi3
          try clear c5
          try clear c6
          try clear c6b0
          try clear c6b1
          try clear c7
          try clear c7b0
          try clear c7b1
          try clear p10
          try clear q10
          try clear hx10
          try clear qi10
          try clear c11
          try clear c11b0
          try clear c11b1
          try clear hcz9_0
          try clear hcz9_1
          try clear hcz9_2
          try clear hfz9_0
          try clear hfz9_1
          try clear hfz9_2
          try clear p10
          try clear p3
          try clear q10
          try clear q3
          obtain ⟨x4_1, rfl, HA, HK1, BK243, HB⟩ := hrel
          cases gk with
          | zero => exact absurd HA.out (by simp [epactref10_one.l0])
          | succ k1 =>
            have H := HA.out
            clear HA
            simp only [epactref10_one.l0] at H
            by_cases c13 : x4_1 < (a0.size : Int)
            · rw [if_pos c13] at H
              have c13b0 : decide (x4_1 < (a0.size : Int)) = true := decide_eq_true c13
              clear c13
              by_cases c14 : 0 ≤ x4_1
              · rw [if_pos c14] at H
                have c14b0 : decide (0 ≤ x4_1) = true := decide_eq_true c14
                clear c14
                replace H := Option.bind_eq_some_iff.mp H
                obtain ⟨t245, A160, H⟩ := H
                replace H : (if t245 = true then (epactref10_one.l0 k1 a0 (wrap64 (x4_1 + 1))) else (if (bt a0 x4_1) = 45 then (epactref10_one.l0 k1 a0 (wrap64 (x4_1 + 1))) else (if 1 ≤ x4_1 then (if x4_1 ≤ (a0.size : Int) then ((epactref04_Read.f k1 (a0.extract 1 (x4_1 : Int).toNat)).bind fun bt246 => (if bt246.2 = 0 then (some (3, (⟨#[]⟩ : ByteArray), bt246.1, x4_1)) else (some (0, (⟨#[]⟩ : ByteArray), 0, 0)))) else (none)) else (none)))) = some (r1, r2, r3, r4) := H
                have A16 := Aside0.mk A160
                clear A160
                by_cases c17 : t245 = true
                · subst c17
                  have H1 : (epactref10_one.l0 k1 a0 (wrap64 (x4_1 + 1))) = some (r1, r2, r3, r4) := by rw [if_pos rfl] at H; exact H
                  clear H
                  have H := H1
                  clear H1
                  have H' := Aside0.mk H
                  clear H
                  have p15 : 0 ≤ (x4_1 : Int) := of_decide_eq_true (by first | (with_reducible assumption) | assumption)
                  have q15 : x4_1 < (a0.size : Int) := of_decide_eq_true (by first | (with_reducible assumption) | assumption)
                  have hx15 := bt_at a0 x4_1
                  replace p15 := eq_true p15
                  replace q15 := eq_true q15
                  go_wp2_with (first | (go_at_call 110; (with_reducible refine (epactref10_letter.calls (bt a0 x4_1) true _ A16.out).mono ?_); rintro e w' ⟨rfl, ⟨nd, rfl⟩⟩))
                  go_roundg k1
                  case measure => have := HK1.out; omega
                  case rel => exact ⟨(wrap64 (x4_1 + 1)), (by first | rfl | (simp; done) | (simp [*]; done)), H', ⟨by have := HK1.out; omega⟩, ⟨by (with_reducible repeat (first | refine blk_drewN ?_ _ | refine blk_drew ?_ | refine blk_alloc ?_ _)); exact BK243.out⟩, ⟨by repeat (first | (with_reducible first | exact HB.out | apply below_alloc | apply pw_below_drewN | apply below_drew1 | refine below_set ?_ GE243.out) | exact HB.out)⟩⟩
                · replace c17 := Bool.eq_false_iff.mpr c17
                  subst c17
                  have H1 : (if (bt a0 x4_1) = 45 then (epactref10_one.l0 k1 a0 (wrap64 (x4_1 + 1))) else (if 1 ≤ x4_1 then (if x4_1 ≤ (a0.size : Int) then ((epactref04_Read.f k1 (a0.extract 1 (x4_1 : Int).toNat)).bind fun bt246 => (if bt246.2 = 0 then (some (3, (⟨#[]⟩ : ByteArray), bt246.1, x4_1)) else (some (0, (⟨#[]⟩ : ByteArray), 0, 0)))) else (none)) else (none))) = some (r1, r2, r3, r4) := by rw [if_neg (show ¬ (false = true) by decide)] at H; exact H
                  clear H
                  have H := H1
                  clear H1
                  by_cases c19 : (bt a0 x4_1) = 45
                  · rw [if_pos c19] at H
                    have c19b0 : ((bt a0 x4_1) == 45) = true := beq_iff_eq.mpr c19
                    have c19b1 : ((bt a0 x4_1) != 45) = false := bne_eq_false_iff_eq.mpr c19
                    clear c19
                    have H' := Aside0.mk H
                    clear H
                    have p15 : 0 ≤ (x4_1 : Int) := of_decide_eq_true (by first | (with_reducible assumption) | assumption)
                    have q15 : x4_1 < (a0.size : Int) := of_decide_eq_true (by first | (with_reducible assumption) | assumption)
                    have hx15 := bt_at a0 x4_1
                    replace p15 := eq_true p15
                    replace q15 := eq_true q15
                    go_wp2_with (first | (go_at_call 110; (with_reducible refine (epactref10_letter.calls (bt a0 x4_1) false _ A16.out).mono ?_); rintro e w' ⟨rfl, ⟨nd, rfl⟩⟩; have p18 : 0 ≤ (x4_1 : Int) := of_decide_eq_true (by first | (with_reducible assumption) | assumption); have q18 : x4_1 < (a0.size : Int) := of_decide_eq_true (by first | (with_reducible assumption) | assumption); have hx18 := bt_at a0 x4_1; replace p18 := eq_true p18; replace q18 := eq_true q18))
                    go_roundg k1
                    case measure => have := HK1.out; omega
                    case rel => exact ⟨(wrap64 (x4_1 + 1)), (by first | rfl | (simp; done) | (simp [*]; done)), H', ⟨by have := HK1.out; omega⟩, ⟨by (with_reducible repeat (first | refine blk_drewN ?_ _ | refine blk_drew ?_ | refine blk_alloc ?_ _)); exact BK243.out⟩, ⟨by repeat (first | (with_reducible first | exact HB.out | apply below_alloc | apply pw_below_drewN | apply below_drew1 | refine below_set ?_ GE243.out) | exact HB.out)⟩⟩
                  · rw [if_neg c19] at H
                    have c19b0 : ((bt a0 x4_1) == 45) = false := beq_eq_false_iff_ne.mpr c19
                    have c19b1 : ((bt a0 x4_1) != 45) = true := bne_iff_ne.mpr c19
                    by_cases c20 : 1 ≤ x4_1
                    · rw [if_pos c20] at H
                      have c20b0 := eq_true c20
                      have c20b1 : decide (1 ≤ x4_1) = true := decide_eq_true c20
                      clear c20
                      by_cases c21 : x4_1 ≤ (a0.size : Int)
                      · rw [if_pos c21] at H
                        have c21b0 := eq_true c21
                        have c21b1 : decide (x4_1 ≤ (a0.size : Int)) = true := decide_eq_true c21
                        clear c21
                        replace H := Option.bind_eq_some_iff.mp H
                        obtain ⟨⟨t246, t247⟩, A220, H⟩ := H
                        replace H : (if t247 = 0 then (some (3, (⟨#[]⟩ : ByteArray), t246, x4_1)) else (some (0, (⟨#[]⟩ : ByteArray), 0, 0))) = some (r1, r2, r3, r4) := H
                        have A22 := Aside0.mk A220
                        clear A220
                        by_cases c23 : t247 = 0
                        · rw [if_pos c23] at H
                          have c23b0 : (t247 == 0) = true := beq_iff_eq.mpr c23
                          have c23b1 : (t247 != 0) = false := bne_eq_false_iff_eq.mpr c23
                          clear c23
                          simp only [Option.some.injEq, Prod.mk.injEq] at H
                          obtain ⟨rfl, rfl, rfl, rfl⟩ := H
                          have p15 : 0 ≤ (x4_1 : Int) := of_decide_eq_true (by first | (with_reducible assumption) | assumption)
                          have q15 : x4_1 < (a0.size : Int) := of_decide_eq_true (by first | (with_reducible assumption) | assumption)
                          have hx15 := bt_at a0 x4_1
                          replace p15 := eq_true p15
                          replace q15 := eq_true q15
                          go_wp2_with (first | (go_at_call 110; (with_reducible refine (epactref10_letter.calls (bt a0 x4_1) false _ A16.out).mono ?_); rintro e w' ⟨rfl, ⟨nd, rfl⟩⟩; (try (rw [drewN_self wr]; generalize hq_ : World.drewN wr _ = wr; have n0_ : Aside0 (wr.heap[gb243]? = some (.cells #[.int .u8 0, .string (⟨#[]⟩ : ByteArray), .int .i64 0] 51 (0, 0))) := ⟨by rw [← hq_]; exact (by (with_reducible repeat (first | refine blk_drewN ?_ _ | refine blk_drew ?_ | refine blk_alloc ?_ _)); exact BK243.out)⟩; have n1_ : Aside0 (Below w.heap.size w wr) := ⟨by rw [← hq_]; exact (by repeat (first | (with_reducible first | exact HB.out | apply below_alloc | apply pw_below_drewN | apply below_drew1 | refine below_set ?_ GE243.out) | exact HB.out))⟩; clear BK243 HB hq_; have BK243 := n0_; have HB := n1_; clear n0_ n1_)); have p18 : 0 ≤ (x4_1 : Int) := of_decide_eq_true (by first | (with_reducible assumption) | assumption); have q18 : x4_1 < (a0.size : Int) := of_decide_eq_true (by first | (with_reducible assumption) | assumption); have hx18 := bt_at a0 x4_1; replace p18 := eq_true p18; replace q18 := eq_true q18) | ((with_reducible refine gate_callee (f := 111) rfl ?_); refine goesL_ (some 40) rfl rfl Tryz.func111 (by kernel_rfl) rfl #[.string (a0.extract 1 (x4_1 : Int).toNat)] rfl (by (try simp only [List.map_toArray, List.map_cons, List.map_nil]); first | done | rfl | (simp only [List.length_drop, List.length_take]; rfl)) ?_; (with_reducible refine (epactref04_Read.calls k1 (a0.extract 1 (x4_1 : Int).toNat) t246 t247 _ A22.out).mono ?_); rintro e w24 ⟨rfl, hb⟩; refine ⟨_, rfl, ?_⟩; have n0_ := Aside0.mk (blk_below (g := gb243) (o := .cells #[.int .u8 0, .string (⟨#[]⟩ : ByteArray), .int .i64 0] 51 (0, 0)) (by (with_reducible repeat (first | refine blk_drewN ?_ _ | refine blk_drew ?_ | refine blk_alloc ?_ _)); exact BK243.out) hb); have n1_ := Aside0.mk (below_step (by repeat (first | (with_reducible first | exact HB.out | apply below_alloc | apply pw_below_drewN | apply below_drew1 | refine below_set ?_ GE243.out) | exact HB.out)) hb); clear BK243; clear HB; have BK243 := n0_; have HB := n1_; clear n0_ n1_; (try clear hb); (try clear hb2); (try clear hk); (try clear hi); have hcz25_0 : w24.cell? ⟨gb243, 0, none⟩ = some (.int .u8 0) := (blk_cell BK243.out 0).trans rfl; have hcz25_1 : w24.cell? ⟨gb243, 1, none⟩ = some (.string (⟨#[]⟩ : ByteArray)) := (blk_cell BK243.out 1).trans rfl; have hcz25_2 : w24.cell? ⟨gb243, 2, none⟩ = some (.int .i64 0) := (blk_cell BK243.out 2).trans rfl; have hfz25_0 := blk_frozen BK243.out 0; have hfz25_1 := blk_frozen BK243.out 1; have hfz25_2 := blk_frozen BK243.out 2))
                          refine bodyPost_ret (results_ct rfl _ _ gb243 51 #[.int .u8 3, .string (⟨#[]⟩ : ByteArray), .int .i64 t246] (0, 0) _ rfl (by (with_reducible repeat (first | refine blk_drewN ?_ _ | refine blk_drew ?_ | refine blk_alloc ?_ _)); refine blk_put (cs := #[.int .u8 3, .string (⟨#[]⟩ : ByteArray), .int .i64 0]) ?_ 2 _ rfl; (with_reducible repeat (first | refine blk_drewN ?_ _ | refine blk_drew ?_ | refine blk_alloc ?_ _)); refine blk_put (cs := #[.int .u8 3, .string (⟨#[]⟩ : ByteArray), .int .i64 0]) ?_ 1 _ rfl; (with_reducible repeat (first | refine blk_drewN ?_ _ | refine blk_drew ?_ | refine blk_alloc ?_ _)); refine blk_put (cs := #[.int .u8 0, .string (⟨#[]⟩ : ByteArray), .int .i64 0]) ?_ 0 _ rfl; (with_reducible repeat (first | refine blk_drewN ?_ _ | refine blk_drew ?_ | refine blk_alloc ?_ _)); exact BK243.out) Tryz.underlying51 rfl (by kernel_rfl)) rfl ?_
                          exact ⟨by first | rfl | (simp [errW_none, errW_some] <;> rfl) | (simp [*, errW_none, errW_some] <;> rfl), by repeat (first | (with_reducible first | exact HB.out | apply below_alloc | apply pw_below_drewN | apply below_drew1 | refine below_set ?_ GE243.out) | exact HB.out)⟩
                        · rw [if_neg c23] at H
                          have c23b0 : (t247 == 0) = false := beq_eq_false_iff_ne.mpr c23
                          have c23b1 : (t247 != 0) = true := bne_iff_ne.mpr c23
                          simp only [Option.some.injEq, Prod.mk.injEq] at H
                          obtain ⟨rfl, rfl, rfl, rfl⟩ := H
                          have p15 : 0 ≤ (x4_1 : Int) := of_decide_eq_true (by first | (with_reducible assumption) | assumption)
                          have q15 : x4_1 < (a0.size : Int) := of_decide_eq_true (by first | (with_reducible assumption) | assumption)
                          have hx15 := bt_at a0 x4_1
                          replace p15 := eq_true p15
                          replace q15 := eq_true q15
                          go_wp2_with (first | (go_at_call 110; (with_reducible refine (epactref10_letter.calls (bt a0 x4_1) false _ A16.out).mono ?_); rintro e w' ⟨rfl, ⟨nd, rfl⟩⟩; (try (rw [drewN_self wr]; generalize hq_ : World.drewN wr _ = wr; have n0_ : Aside0 (wr.heap[gb243]? = some (.cells #[.int .u8 0, .string (⟨#[]⟩ : ByteArray), .int .i64 0] 51 (0, 0))) := ⟨by rw [← hq_]; exact (by (with_reducible repeat (first | refine blk_drewN ?_ _ | refine blk_drew ?_ | refine blk_alloc ?_ _)); exact BK243.out)⟩; have n1_ : Aside0 (Below w.heap.size w wr) := ⟨by rw [← hq_]; exact (by repeat (first | (with_reducible first | exact HB.out | apply below_alloc | apply pw_below_drewN | apply below_drew1 | refine below_set ?_ GE243.out) | exact HB.out))⟩; clear BK243 HB hq_; have BK243 := n0_; have HB := n1_; clear n0_ n1_)); have p18 : 0 ≤ (x4_1 : Int) := of_decide_eq_true (by first | (with_reducible assumption) | assumption); have q18 : x4_1 < (a0.size : Int) := of_decide_eq_true (by first | (with_reducible assumption) | assumption); have hx18 := bt_at a0 x4_1; replace p18 := eq_true p18; replace q18 := eq_true q18) | ((with_reducible refine gate_callee (f := 111) rfl ?_); refine goesL_ (some 40) rfl rfl Tryz.func111 (by kernel_rfl) rfl #[.string (a0.extract 1 (x4_1 : Int).toNat)] rfl (by (try simp only [List.map_toArray, List.map_cons, List.map_nil]); first | done | rfl | (simp only [List.length_drop, List.length_take]; rfl)) ?_; (with_reducible refine (epactref04_Read.calls k1 (a0.extract 1 (x4_1 : Int).toNat) t246 t247 _ A22.out).mono ?_); rintro e w26 ⟨rfl, hb⟩; refine ⟨_, rfl, ?_⟩; have n0_ := Aside0.mk (blk_below (g := gb243) (o := .cells #[.int .u8 0, .string (⟨#[]⟩ : ByteArray), .int .i64 0] 51 (0, 0)) (by (with_reducible repeat (first | refine blk_drewN ?_ _ | refine blk_drew ?_ | refine blk_alloc ?_ _)); exact BK243.out) hb); have n1_ := Aside0.mk (below_step (by repeat (first | (with_reducible first | exact HB.out | apply below_alloc | apply pw_below_drewN | apply below_drew1 | refine below_set ?_ GE243.out) | exact HB.out)) hb); clear BK243; clear HB; have BK243 := n0_; have HB := n1_; clear n0_ n1_; (try clear hb); (try clear hb2); (try clear hk); (try clear hi); have hcz27_0 : w26.cell? ⟨gb243, 0, none⟩ = some (.int .u8 0) := (blk_cell BK243.out 0).trans rfl; have hcz27_1 : w26.cell? ⟨gb243, 1, none⟩ = some (.string (⟨#[]⟩ : ByteArray)) := (blk_cell BK243.out 1).trans rfl; have hcz27_2 : w26.cell? ⟨gb243, 2, none⟩ = some (.int .i64 0) := (blk_cell BK243.out 2).trans rfl; have hfz27_0 := blk_frozen BK243.out 0; have hfz27_1 := blk_frozen BK243.out 1; have hfz27_2 := blk_frozen BK243.out 2))
                          refine bodyPost_ret (results_ct rfl _ _ gb243 51 #[.int .u8 0, .string (⟨#[]⟩ : ByteArray), .int .i64 0] (0, 0) _ rfl (by (with_reducible repeat (first | refine blk_drewN ?_ _ | refine blk_drew ?_ | refine blk_alloc ?_ _)); refine blk_put (cs := #[.int .u8 0, .string (⟨#[]⟩ : ByteArray), .int .i64 0]) ?_ 2 _ rfl; (with_reducible repeat (first | refine blk_drewN ?_ _ | refine blk_drew ?_ | refine blk_alloc ?_ _)); refine blk_put (cs := #[.int .u8 0, .string (⟨#[]⟩ : ByteArray), .int .i64 0]) ?_ 1 _ rfl; (with_reducible repeat (first | refine blk_drewN ?_ _ | refine blk_drew ?_ | refine blk_alloc ?_ _)); refine blk_put (cs := #[.int .u8 0, .string (⟨#[]⟩ : ByteArray), .int .i64 0]) ?_ 0 _ rfl; (with_reducible repeat (first | refine blk_drewN ?_ _ | refine blk_drew ?_ | refine blk_alloc ?_ _)); exact BK243.out) Tryz.underlying51 rfl (by kernel_rfl)) rfl ?_
                          exact ⟨by first | rfl | (simp [errW_none, errW_some] <;> rfl) | (simp [*, errW_none, errW_some] <;> rfl), by repeat (first | (with_reducible first | exact HB.out | apply below_alloc | apply pw_below_drewN | apply below_drew1 | refine below_set ?_ GE243.out) | exact HB.out)⟩
                      · rw [if_neg c21] at H
                        exact absurd H (by simp)
                    · rw [if_neg c20] at H
                      exact absurd H (by simp)
              · rw [if_neg c14] at H
                exact absurd H (by simp)
            · rw [if_neg c13] at H
              have c13b0 : decide (x4_1 < (a0.size : Int)) = false := decide_eq_false c13
              clear c13
              by_cases c28 : 1 ≤ x4_1
              · rw [if_pos c28] at H
                have c28b0 := eq_true c28
                have c28b1 : decide (1 ≤ x4_1) = true := decide_eq_true c28
                clear c28
                by_cases c29 : x4_1 ≤ (a0.size : Int)
                · rw [if_pos c29] at H
                  have c29b0 := eq_true c29
                  have c29b1 : decide (x4_1 ≤ (a0.size : Int)) = true := decide_eq_true c29
                  clear c29
                  replace H := Option.bind_eq_some_iff.mp H
                  obtain ⟨⟨t248, t249⟩, A300, H⟩ := H
                  replace H : (if t249 = 0 then (some (3, (⟨#[]⟩ : ByteArray), t248, x4_1)) else (some (0, (⟨#[]⟩ : ByteArray), 0, 0))) = some (r1, r2, r3, r4) := H
                  have A30 := Aside0.mk A300
                  clear A300
                  by_cases c31 : t249 = 0
                  · rw [if_pos c31] at H
                    have c31b0 : (t249 == 0) = true := beq_iff_eq.mpr c31
                    have c31b1 : (t249 != 0) = false := bne_eq_false_iff_eq.mpr c31
                    clear c31
                    simp only [Option.some.injEq, Prod.mk.injEq] at H
                    obtain ⟨rfl, rfl, rfl, rfl⟩ := H
                    go_wp2_with (first | ((with_reducible refine gate_callee (f := 111) rfl ?_); refine goesL_ (some 40) rfl rfl Tryz.func111 (by kernel_rfl) rfl #[.string (a0.extract 1 (x4_1 : Int).toNat)] rfl (by (try simp only [List.map_toArray, List.map_cons, List.map_nil]); first | done | rfl | (simp only [List.length_drop, List.length_take]; rfl)) ?_; (with_reducible refine (epactref04_Read.calls k1 (a0.extract 1 (x4_1 : Int).toNat) t248 t249 _ A30.out).mono ?_); rintro e w32 ⟨rfl, hb⟩; refine ⟨_, rfl, ?_⟩; have n0_ := Aside0.mk (blk_below (g := gb243) (o := .cells #[.int .u8 0, .string (⟨#[]⟩ : ByteArray), .int .i64 0] 51 (0, 0)) (by (with_reducible repeat (first | refine blk_drewN ?_ _ | refine blk_drew ?_ | refine blk_alloc ?_ _)); exact BK243.out) hb); have n1_ := Aside0.mk (below_step (by repeat (first | (with_reducible first | exact HB.out | apply below_alloc | apply pw_below_drewN | apply below_drew1 | refine below_set ?_ GE243.out) | exact HB.out)) hb); clear BK243; clear HB; have BK243 := n0_; have HB := n1_; clear n0_ n1_; (try clear hb); (try clear hb2); (try clear hk); (try clear hi); have hcz33_0 : w32.cell? ⟨gb243, 0, none⟩ = some (.int .u8 0) := (blk_cell BK243.out 0).trans rfl; have hcz33_1 : w32.cell? ⟨gb243, 1, none⟩ = some (.string (⟨#[]⟩ : ByteArray)) := (blk_cell BK243.out 1).trans rfl; have hcz33_2 : w32.cell? ⟨gb243, 2, none⟩ = some (.int .i64 0) := (blk_cell BK243.out 2).trans rfl; have hfz33_0 := blk_frozen BK243.out 0; have hfz33_1 := blk_frozen BK243.out 1; have hfz33_2 := blk_frozen BK243.out 2))
                    refine bodyPost_ret (results_ct rfl _ _ gb243 51 #[.int .u8 3, .string (⟨#[]⟩ : ByteArray), .int .i64 t248] (0, 0) _ rfl (by (with_reducible repeat (first | refine blk_drewN ?_ _ | refine blk_drew ?_ | refine blk_alloc ?_ _)); refine blk_put (cs := #[.int .u8 3, .string (⟨#[]⟩ : ByteArray), .int .i64 0]) ?_ 2 _ rfl; (with_reducible repeat (first | refine blk_drewN ?_ _ | refine blk_drew ?_ | refine blk_alloc ?_ _)); refine blk_put (cs := #[.int .u8 3, .string (⟨#[]⟩ : ByteArray), .int .i64 0]) ?_ 1 _ rfl; (with_reducible repeat (first | refine blk_drewN ?_ _ | refine blk_drew ?_ | refine blk_alloc ?_ _)); refine blk_put (cs := #[.int .u8 0, .string (⟨#[]⟩ : ByteArray), .int .i64 0]) ?_ 0 _ rfl; (with_reducible repeat (first | refine blk_drewN ?_ _ | refine blk_drew ?_ | refine blk_alloc ?_ _)); exact BK243.out) Tryz.underlying51 rfl (by kernel_rfl)) rfl ?_
                    exact ⟨by first | rfl | (simp [errW_none, errW_some] <;> rfl) | (simp [*, errW_none, errW_some] <;> rfl), by repeat (first | (with_reducible first | exact HB.out | apply below_alloc | apply pw_below_drewN | apply below_drew1 | refine below_set ?_ GE243.out) | exact HB.out)⟩
                  · rw [if_neg c31] at H
                    have c31b0 : (t249 == 0) = false := beq_eq_false_iff_ne.mpr c31
                    have c31b1 : (t249 != 0) = true := bne_iff_ne.mpr c31
                    simp only [Option.some.injEq, Prod.mk.injEq] at H
                    obtain ⟨rfl, rfl, rfl, rfl⟩ := H
                    go_wp2_with (first | ((with_reducible refine gate_callee (f := 111) rfl ?_); refine goesL_ (some 40) rfl rfl Tryz.func111 (by kernel_rfl) rfl #[.string (a0.extract 1 (x4_1 : Int).toNat)] rfl (by (try simp only [List.map_toArray, List.map_cons, List.map_nil]); first | done | rfl | (simp only [List.length_drop, List.length_take]; rfl)) ?_; (with_reducible refine (epactref04_Read.calls k1 (a0.extract 1 (x4_1 : Int).toNat) t248 t249 _ A30.out).mono ?_); rintro e w34 ⟨rfl, hb⟩; refine ⟨_, rfl, ?_⟩; have n0_ := Aside0.mk (blk_below (g := gb243) (o := .cells #[.int .u8 0, .string (⟨#[]⟩ : ByteArray), .int .i64 0] 51 (0, 0)) (by (with_reducible repeat (first | refine blk_drewN ?_ _ | refine blk_drew ?_ | refine blk_alloc ?_ _)); exact BK243.out) hb); have n1_ := Aside0.mk (below_step (by repeat (first | (with_reducible first | exact HB.out | apply below_alloc | apply pw_below_drewN | apply below_drew1 | refine below_set ?_ GE243.out) | exact HB.out)) hb); clear BK243; clear HB; have BK243 := n0_; have HB := n1_; clear n0_ n1_; (try clear hb); (try clear hb2); (try clear hk); (try clear hi); have hcz35_0 : w34.cell? ⟨gb243, 0, none⟩ = some (.int .u8 0) := (blk_cell BK243.out 0).trans rfl; have hcz35_1 : w34.cell? ⟨gb243, 1, none⟩ = some (.string (⟨#[]⟩ : ByteArray)) := (blk_cell BK243.out 1).trans rfl; have hcz35_2 : w34.cell? ⟨gb243, 2, none⟩ = some (.int .i64 0) := (blk_cell BK243.out 2).trans rfl; have hfz35_0 := blk_frozen BK243.out 0; have hfz35_1 := blk_frozen BK243.out 1; have hfz35_2 := blk_frozen BK243.out 2))
                    refine bodyPost_ret (results_ct rfl _ _ gb243 51 #[.int .u8 0, .string (⟨#[]⟩ : ByteArray), .int .i64 0] (0, 0) _ rfl (by (with_reducible repeat (first | refine blk_drewN ?_ _ | refine blk_drew ?_ | refine blk_alloc ?_ _)); refine blk_put (cs := #[.int .u8 0, .string (⟨#[]⟩ : ByteArray), .int .i64 0]) ?_ 2 _ rfl; (with_reducible repeat (first | refine blk_drewN ?_ _ | refine blk_drew ?_ | refine blk_alloc ?_ _)); refine blk_put (cs := #[.int .u8 0, .string (⟨#[]⟩ : ByteArray), .int .i64 0]) ?_ 1 _ rfl; (with_reducible repeat (first | refine blk_drewN ?_ _ | refine blk_drew ?_ | refine blk_alloc ?_ _)); refine blk_put (cs := #[.int .u8 0, .string (⟨#[]⟩ : ByteArray), .int .i64 0]) ?_ 0 _ rfl; (with_reducible repeat (first | refine blk_drewN ?_ _ | refine blk_drew ?_ | refine blk_alloc ?_ _)); exact BK243.out) Tryz.underlying51 rfl (by kernel_rfl)) rfl ?_
                    exact ⟨by first | rfl | (simp [errW_none, errW_some] <;> rfl) | (simp [*, errW_none, errW_some] <;> rfl), by repeat (first | (with_reducible first | exact HB.out | apply below_alloc | apply pw_below_drewN | apply below_drew1 | refine below_set ?_ GE243.out) | exact HB.out)⟩
                · rw [if_neg c29] at H
                  exact absurd H (by simp)
              · rw [if_neg c28] at H
                exact absurd H (by simp)
      · rw [if_neg c11] at H
        have c11b0 : ((bt a0 0) == 64) = false := beq_eq_false_iff_ne.mpr c11
        have c11b1 : ((bt a0 0) != 64) = true := bne_iff_ne.mpr c11
        have HC37 := Aside0.mk H
        clear H
        go_enter Tryz.func68, Tryz.ntmps68
        go_upto_if 51 with (first | ((with_reducible refine gate_dst (N := 2) rfl ?_); refine box_event ?hg (N := 2) ?hd (cs := #[.int .u8 0, .string (⟨#[]⟩ : ByteArray), .int .i64 0]) (t := 51) ?hr ?_; (case hd => rfl); (case hg => rfl); (case hr => first | (go_simp; done) | (go_simp; rfl)); intro gb243 hg w38 hbox hb; have n0_ := Aside0.mk (below_step (by repeat (first | (with_reducible first | exact HB.out | apply below_alloc | apply pw_below_drewN | apply below_drew1) | exact HB.out)) hb); have n1_ := Aside0.mk (hbox); have n2_ := Aside0.mk ((by rw [hg]; exact (below_size (by repeat (first | (with_reducible first | exact HB.out | apply below_alloc | apply pw_below_drewN | apply below_drew1) | exact HB.out))) : w.heap.size ≤ gb243)); have n3_ := Aside0.mk ((by rw [hg]; exact (below_size (by repeat (first | (with_reducible first | exact HB.out | apply below_alloc | apply pw_below_drewN | apply below_drew1) | exact HB.out))) : w.heap.size ≤ gb243)); clear HB; have HB := n0_; have BK243 := n1_; have GW243 := n2_; have GE243 := n3_; clear n0_ n1_ n2_ n3_; clear hb hbox hg; have p3 : 0 ≤ (0 : Int) := (by omega); have q3 : 0 < a0.size := (by have : (0 : Int) < (a0.size : Int) := of_decide_eq_true (by first | (with_reducible assumption) | assumption); omega); have hx3 : ∀ h : 0 < a0.size, ((a0[0]'h).toNat : Int) = bt a0 0 := bt_at a0 0; clear p3; have qi3 : (0 < (a0.size : Int)) = True := eq_true (of_decide_eq_true (by first | (with_reducible assumption) | assumption)); replace q3 := eq_true q3) | ((with_reducible refine gate_callee (f := 71) rfl ?_); refine goesL_ (some 11) rfl rfl Tryz.func71 (by kernel_rfl) rfl #[.int .u8 (bt a0 0)] rfl (by (try simp only [List.map_toArray, List.map_cons, List.map_nil]); first | done | rfl | (simp only [List.length_drop, List.length_take]; rfl)) ?_; (with_reducible refine (epactref10_mark.calls (bt a0 0) false _ A4.out).mono ?_); rintro e w' ⟨rfl, ⟨nd, rfl⟩⟩; refine ⟨_, rfl, ?_⟩; have p10 : 0 ≤ (0 : Int) := (by omega); have q10 : 0 < a0.size := (by have : (0 : Int) < (a0.size : Int) := of_decide_eq_true (by first | (with_reducible assumption) | assumption); omega); have hx10 : ∀ h : 0 < a0.size, ((a0[0]'h).toNat : Int) = bt a0 0 := bt_at a0 0; clear p10; have qi10 : (0 < (a0.size : Int)) = True := eq_true (of_decide_eq_true (by first | (with_reducible assumption) | assumption)); replace q10 := eq_true q10; have p36 : 0 ≤ (0 : Int) := (by omega); have q36 : 0 < a0.size := (by have : (0 : Int) < (a0.size : Int) := of_decide_eq_true (by first | (with_reducible assumption) | assumption); omega); have hx36 : ∀ h : 0 < a0.size, ((a0[0]'h).toNat : Int) = bt a0 0 := bt_at a0 0; clear p36; have qi36 : (0 < (a0.size : Int)) = True := eq_true (of_decide_eq_true (by first | (with_reducible assumption) | assumption)); replace q36 := eq_true q36))
        (try simp only [Act.put, List.setIfInBounds_toArray, List.set_cons_zero, List.set_cons_succ])
        go_cut [4] (fun v4 wc => ∃ (kq : Nat) (x4_36 : Int), v4 = .int .i64 x4_36 ∧ Aside0 (epactref10_one.j1 kq a0 x4_36 = some (r1, r2, r3, r4)) ∧ Aside0 (kq ≤ k) ∧ Aside0 (wc.heap[gb243]? = some (.cells #[.int .u8 0, .string (⟨#[]⟩ : ByteArray), .int .i64 0] 51 (0, 0))) ∧ Aside0 (Below w.heap.size w wc))
        case first =>
          have H := HC37.out
          clear HC37
          by_cases c39 : (bt a0 0) = 45
          · rw [if_pos c39] at H
            have c39b0 : ((bt a0 0) == 45) = true := beq_iff_eq.mpr c39
            have c39b1 : ((bt a0 0) != 45) = false := bne_eq_false_iff_eq.mpr c39
            clear c39
            (first | rw [c39b0] | (simp only [i64_w, i32_w]; rw [c39b0]) | skip)
            have H' := Aside0.mk H
            clear H
            go_wp2
            go_meet
            case rel => exact ⟨_, (1), (by first | rfl | (simp; done) | (simp [*]; done)), H', ⟨by first | omega | exact Nat.le_refl _⟩, ⟨by (with_reducible repeat (first | refine blk_drewN ?_ _ | refine blk_drew ?_ | refine blk_alloc ?_ _)); exact BK243.out⟩, ⟨by repeat (first | (with_reducible first | exact HB.out | apply below_alloc | apply pw_below_drewN | apply below_drew1 | refine below_set ?_ GE243.out) | exact HB.out)⟩⟩
          · rw [if_neg c39] at H
            have c39b0 : ((bt a0 0) == 45) = false := beq_eq_false_iff_ne.mpr c39
            have c39b1 : ((bt a0 0) != 45) = true := bne_iff_ne.mpr c39
            (first | rw [c39b0] | (simp only [i64_w, i32_w]; rw [c39b0]) | skip)
            have H' := Aside0.mk H
            clear H
            go_wp2
            go_meet
            case rel => exact ⟨_, (0), (by first | rfl | (simp; done) | (simp [*]; done)), H', ⟨by first | omega | exact Nat.le_refl _⟩, ⟨by (with_reducible repeat (first | refine blk_drewN ?_ _ | refine blk_drew ?_ | refine blk_alloc ?_ _)); exact BK243.out⟩, ⟨by repeat (first | (with_reducible first | exact HB.out | apply below_alloc | apply pw_below_drewN | apply below_drew1 | refine below_set ?_ GE243.out) | exact HB.out)⟩⟩
        case rest =>
          clear HC37
          try clear c1
          try clear p1
          try clear q1
          try clear hx1
          try clear qi1
          try clear c2
          try clear c2b0
          try clear c2b1
          try clear p2
          try clear c3
          try clear p3
          try clear q3
          try clear hx3
          try clear qi3
          try clear c5
          try clear c6
          try clear c6b0
          try clear c6b1
          try clear p6
          try clear c7
          try clear c7b0
          try clear c7b1
          try clear p10
          try clear q10
          try clear hx10
          try clear qi10
          try clear c11
          try clear c11b0
          try clear c11b1
          try clear c13
          try clear c13b0
          try clear c14
          try clear c14b0
          try clear p15
          try clear q15
          try clear hx15
          try clear c17
          try clear p18
          try clear q18
          try clear hx18
          try clear c19
          try clear c19b0
          try clear c19b1
          try clear c20
          try clear c20b0
          try clear c20b1
          try clear c21
          try clear c21b0
          try clear c21b1
          try clear c23
          try clear c23b0
          try clear c23b1
          try clear c28
          try clear c28b0
          try clear c28b1
          try clear c29
          try clear c29b0
          try clear c29b1
          try clear c31
          try clear c31b0
          try clear c31b1
          try clear p36
          try clear q36
          try clear hx36
          try clear qi36
          try clear c39
          try clear c39b0
          try clear c39b1
          try clear hcz25_0
          try clear hcz25_1
          try clear hcz25_2
          try clear hcz27_0
          try clear hcz27_1
          try clear hcz27_2
          try clear hcz33_0
          try clear hcz33_1
          try clear hcz33_2
          try clear hcz35_0
          try clear hcz35_1
          try clear hcz35_2
          try clear hcz9_0
          try clear hcz9_1
          try clear hcz9_2
          try clear hfz25_0
          try clear hfz25_1
          try clear hfz25_2
          try clear hfz27_0
          try clear hfz27_1
          try clear hfz27_2
          try clear hfz33_0
          try clear hfz33_1
          try clear hfz33_2
          try clear hfz35_0
          try clear hfz35_1
          try clear hfz35_2
          try clear hfz9_0
          try clear hfz9_1
          try clear hfz9_2
          try clear p1
          try clear p10
          try clear p15
          try clear p18
          try clear p2
          try clear p3
          try clear p36
          try clear q1
          try clear q10
          try clear q15
          try clear q18
          try clear q3
          try clear q36
          obtain ⟨kq, x4_36, rfl, HA, HJ36, BK243, HB⟩ := hcut
          cases kq with
          | zero => exact absurd HA.out (by simp [epactref10_one.j1])
          | succ kj36 =>
            have H := HA.out
            clear HA
            simp only [epactref10_one.j1] at H
            have HC40 := Aside0.mk H
            clear H
            go_upto_block 2 with (fail)
            go_cut [4] (fun v4 wc => ∃ (kq : Nat) (x4_39 : Int), v4 = .int .i64 x4_39 ∧ Aside0 (epactref10_one.j3 kq a0 x4_39 = some (r1, r2, r3, r4)) ∧ Aside0 (kq ≤ kj36) ∧ Aside0 (wc.heap[gb243]? = some (.cells #[.int .u8 0, .string (⟨#[]⟩ : ByteArray), .int .i64 0] 51 (0, 0))) ∧ Aside0 (Below w.heap.size w wc))
            case first =>
              have H := HC40.out
              clear HC40
              have H' := Aside0.mk H
              clear H
              go_wp2
              go_loopg [4] kj36 (fun kq v4 w' => ∃ (x4_2 : Int), v4 = .int .i64 x4_2 ∧ Aside0 (epactref10_one.l1 kq a0 x4_2 = some (r1, r2, r3, r4)) ∧ Aside0 (kq ≤ kj36) ∧ Aside0 (w'.heap[gb243]? = some (.cells #[.int .u8 0, .string (⟨#[]⟩ : ByteArray), .int .i64 0] 51 (0, 0))) ∧ Aside0 (Below w.heap.size w w'))
              case atStart => exact ⟨(x4_36), (by first | rfl | (simp; done) | (simp [*]; done)), H', ⟨Nat.le_refl _⟩, ⟨by (with_reducible repeat (first | refine blk_drewN ?_ _ | refine blk_drew ?_ | refine blk_alloc ?_ _)); exact BK243.out⟩, ⟨by repeat (first | (with_reducible first | exact HB.out | apply below_alloc | apply pw_below_drewN | apply below_drew1 | refine below_set ?_ GE243.out) | exact HB.out)⟩⟩
              case round =>
                clear H'
                try clear c1
                try clear p1
                try clear q1
                try clear hx1
                try clear qi1
                try clear c2
                try clear c2b0
                try clear c2b1
                try clear p2
                try clear c3
                try clear p3
                try clear q3
                try clear hx3
                try clear qi3
                try clear c5
                try clear c6
                try clear c6b0
                try clear c6b1
                try clear p6
                try clear c7
                try clear c7b0
                try clear c7b1
                try clear p10
                try clear q10
                try clear hx10
                try clear qi10
                try clear c11
                try clear c11b0
                try clear c11b1
                try clear c13
                try clear c13b0
                try clear c14
                try clear c14b0
                try clear p15
                try clear q15
                try clear hx15
                try clear c17
                try clear p18
                try clear q18
                try clear hx18
                try clear c19
                try clear c19b0
                try clear c19b1
                try clear c20
                try clear c20b0
                try clear c20b1
                try clear c21
                try clear c21b0
                try clear c21b1
                try clear c23
                try clear c23b0
                try clear c23b1
                try clear c28
                try clear c28b0
                try clear c28b1
                try clear c29
                try clear c29b0
                try clear c29b1
                try clear c31
                try clear c31b0
                try clear c31b1
                try clear p36
                try clear q36
                try clear hx36
                try clear qi36
                try clear c39
                try clear c39b0
                try clear c39b1
                try clear hcz25_0
                try clear hcz25_1
                try clear hcz25_2
                try clear hcz27_0
                try clear hcz27_1
                try clear hcz27_2
                try clear hcz33_0
                try clear hcz33_1
                try clear hcz33_2
                try clear hcz35_0
                try clear hcz35_1
                try clear hcz35_2
                try clear hcz9_0
                try clear hcz9_1
                try clear hcz9_2
                try clear hfz25_0
                try clear hfz25_1
                try clear hfz25_2
                try clear hfz27_0
                try clear hfz27_1
                try clear hfz27_2
                try clear hfz33_0
                try clear hfz33_1
                try clear hfz33_2
                try clear hfz35_0
                try clear hfz35_1
                try clear hfz35_2
                try clear hfz9_0
                try clear hfz9_1
                try clear hfz9_2
                try clear p1
                try clear p10
                try clear p15
                try clear p18
                try clear p2
                try clear p3
                try clear p36
                try clear p6
                try clear q1
                try clear q10
                try clear q15
                try clear q18
                try clear q3
                try clear q36
                obtain ⟨x4_2, rfl, HA, HK2, BK243, HB⟩ := hrel
                cases gk with
                | zero => exact absurd HA.out (by simp [epactref10_one.l1])
                | succ k2 =>
                  have H := HA.out
                  clear HA
                  simp only [epactref10_one.l1] at H
                  by_cases c41 : x4_2 < (a0.size : Int)
                  · rw [if_pos c41] at H
                    have c41b0 : decide (x4_2 < (a0.size : Int)) = true := decide_eq_true c41
                    clear c41
                    (first | rw [c41b0] | (simp only [i64_w, i32_w]; rw [c41b0]) | skip)
                    by_cases c42 : 0 ≤ x4_2
                    · rw [if_pos c42] at H
                      have c42b0 : decide (0 ≤ x4_2) = true := decide_eq_true c42
                      clear c42
                      replace H := Option.bind_eq_some_iff.mp H
                      obtain ⟨t250, A440, H⟩ := H
                      replace H : (if t250 = true then (epactref10_one.l1 k2 a0 (wrap64 (x4_2 + 1))) else (epactref10_one.j3 k2 a0 x4_2)) = some (r1, r2, r3, r4) := H
                      have A44 := Aside0.mk A440
                      clear A440
                      by_cases c45 : t250 = true
                      · subst c45
                        have H1 : (epactref10_one.l1 k2 a0 (wrap64 (x4_2 + 1))) = some (r1, r2, r3, r4) := by rw [if_pos rfl] at H; exact H
                        clear H
                        have H := H1
                        clear H1
                        have H' := Aside0.mk H
                        clear H
                        have p43 : 0 ≤ (x4_2 : Int) := of_decide_eq_true (by first | (with_reducible assumption) | assumption)
                        have q43 : x4_2 < (a0.size : Int) := of_decide_eq_true (by first | (with_reducible assumption) | assumption)
                        have hx43 := bt_at a0 x4_2
                        replace p43 := eq_true p43
                        replace q43 := eq_true q43
                        go_wp2_with (first | (go_at_call 110; (with_reducible refine (epactref10_letter.calls (bt a0 x4_2) true _ A44.out).mono ?_); rintro e w' ⟨rfl, ⟨nd, rfl⟩⟩))
                        go_roundg k2
                        case measure => have := HJ36.out; have := HK2.out; omega
                        case rel => exact ⟨(wrap64 (x4_2 + 1)), (by first | rfl | (simp; done) | (simp [*]; done)), H', ⟨by have := HJ36.out; have := HK2.out; omega⟩, ⟨by (with_reducible repeat (first | refine blk_drewN ?_ _ | refine blk_drew ?_ | refine blk_alloc ?_ _)); exact BK243.out⟩, ⟨by repeat (first | (with_reducible first | exact HB.out | apply below_alloc | apply pw_below_drewN | apply below_drew1 | refine below_set ?_ GE243.out) | exact HB.out)⟩⟩
                      · replace c45 := Bool.eq_false_iff.mpr c45
                        subst c45
                        have H1 : (epactref10_one.j3 k2 a0 x4_2) = some (r1, r2, r3, r4) := by rw [if_neg (show ¬ (false = true) by decide)] at H; exact H
                        clear H
                        have H := H1
                        clear H1
                        have H' := Aside0.mk H
                        clear H
                        have p43 : 0 ≤ (x4_2 : Int) := of_decide_eq_true (by first | (with_reducible assumption) | assumption)
                        have q43 : x4_2 < (a0.size : Int) := of_decide_eq_true (by first | (with_reducible assumption) | assumption)
                        have hx43 := bt_at a0 x4_2
                        replace p43 := eq_true p43
                        replace q43 := eq_true q43
                        go_wp2_with (first | (go_at_call 110; (with_reducible refine (epactref10_letter.calls (bt a0 x4_2) false _ A44.out).mono ?_); rintro e w' ⟨rfl, ⟨nd, rfl⟩⟩))
                        go_meet
                        case rel => exact ⟨_, (x4_2), (by first | rfl | (simp; done) | (simp [*]; done)), H', ⟨by have := HJ36.out; have := HK2.out; first | omega | exact Nat.le_refl _⟩, ⟨by (with_reducible repeat (first | refine blk_drewN ?_ _ | refine blk_drew ?_ | refine blk_alloc ?_ _)); exact BK243.out⟩, ⟨by repeat (first | (with_reducible first | exact HB.out | apply below_alloc | apply pw_below_drewN | apply below_drew1 | refine below_set ?_ GE243.out) | exact HB.out)⟩⟩
                    · rw [if_neg c42] at H
                      exact absurd H (by simp)
                  · rw [if_neg c41] at H
                    have c41b0 : decide (x4_2 < (a0.size : Int)) = false := decide_eq_false c41
                    clear c41
                    (first | rw [c41b0] | (simp only [i64_w, i32_w]; rw [c41b0]) | skip)
                    have H' := Aside0.mk H
                    clear H
                    go_wp2
                    go_meet
                    case rel => exact ⟨_, (x4_2), (by first | rfl | (simp; done) | (simp [*]; done)), H', ⟨by have := HJ36.out; have := HK2.out; first | omega | exact Nat.le_refl _⟩, ⟨by (with_reducible repeat (first | refine blk_drewN ?_ _ | refine blk_drew ?_ | refine blk_alloc ?_ _)); exact BK243.out⟩, ⟨by repeat (first | (with_reducible first | exact HB.out | apply below_alloc | apply pw_below_drewN | apply below_drew1 | refine below_set ?_ GE243.out) | exact HB.out)⟩⟩
            case rest =>
              clear HC40
              try clear c1
              try clear p1
              try clear q1
              try clear hx1
              try clear qi1
              try clear c2
              try clear c2b0
              try clear c2b1
              try clear p2
              try clear c3
              try clear p3
              try clear q3
              try clear hx3
              try clear qi3
              try clear c4
              try clear p4
              try clear q4
              try clear hx4
              try clear c5
              try clear c6
              try clear c6b0
              try clear c6b1
              try clear p6
              try clear c7
              try clear c7b0
              try clear c7b1
              try clear p10
              try clear q10
              try clear hx10
              try clear qi10
              try clear c11
              try clear c11b0
              try clear c11b1
              try clear c13
              try clear c13b0
              try clear c14
              try clear c14b0
              try clear p15
              try clear q15
              try clear hx15
              try clear c17
              try clear p18
              try clear q18
              try clear hx18
              try clear c19
              try clear c19b0
              try clear c19b1
              try clear c20
              try clear c20b0
              try clear c20b1
              try clear c21
              try clear c21b0
              try clear c21b1
              try clear c23
              try clear c23b0
              try clear c23b1
              try clear c28
              try clear c28b0
              try clear c28b1
              try clear c29
              try clear c29b0
              try clear c29b1
              try clear c31
              try clear c31b0
              try clear c31b1
              try clear p36
              try clear q36
              try clear hx36
              try clear qi36
              try clear c39
              try clear c39b0
              try clear c39b1
              try clear c41
              try clear c41b0
              try clear c42
              try clear c42b0
              try clear p43
              try clear q43
              try clear hx43
              try clear c45
              try clear hcz25_0
              try clear hcz25_1
              try clear hcz25_2
              try clear hcz27_0
              try clear hcz27_1
              try clear hcz27_2
              try clear hcz33_0
              try clear hcz33_1
              try clear hcz33_2
              try clear hcz35_0
              try clear hcz35_1
              try clear hcz35_2
              try clear hcz9_0
              try clear hcz9_1
              try clear hcz9_2
              try clear hfz25_0
              try clear hfz25_1
              try clear hfz25_2
              try clear hfz27_0
              try clear hfz27_1
              try clear hfz27_2
              try clear hfz33_0
              try clear hfz33_1
              try clear hfz33_2
              try clear hfz35_0
              try clear hfz35_1
              try clear hfz35_2
              try clear hfz9_0
              try clear hfz9_1
              try clear hfz9_2
              try clear p1
              try clear p10
              try clear p15
              try clear p18
              try clear p2
              try clear p3
              try clear p36
              try clear p43
              try clear p6
              try clear q1
              try clear q10
              try clear q15
              try clear q18
              try clear q3
              try clear q36
              try clear q43
              obtain ⟨kq, x4_39, rfl, HA, HJ39, BK243, HB⟩ := hcut
              cases kq with
              | zero => exact absurd HA.out (by simp [epactref10_one.j3])
              | succ kj39 =>
                have H := HA.out
                clear HA
                simp only [epactref10_one.j3] at H
                have HC46 := Aside0.mk H
                clear H
                go_upto_region 16 with (fail)
                go_cut [71] (fun v71 wc => ∃ (kq : Nat) (x71_45 : Bool), v71 = .bool x71_45 ∧ Aside0 (epactref10_one.j4 kq a0 x4_39 x71_45 = some (r1, r2, r3, r4)) ∧ Aside0 (kq ≤ kj39) ∧ Aside0 (wc.heap[gb243]? = some (.cells #[.int .u8 0, .string (⟨#[]⟩ : ByteArray), .int .i64 0] 51 (0, 0))) ∧ Aside0 (Below w.heap.size w wc))
                case first =>
                  have H := HC46.out
                  clear HC46
                  by_cases c47 : 0 < (a0.size : Int)
                  · rw [if_pos c47] at H
                    have c47b0 : decide (0 < (a0.size : Int)) = true := decide_eq_true c47
                    have c47b1 : decide (0 < a0.size) = true := decide_eq_true (by omega)
                    clear c47
                    (first | rw [c47b0] | (simp only [i64_w, i32_w]; rw [c47b0]) | skip)
                    by_cases c49 : (bt a0 0) = 45
                    · rw [if_pos c49] at H
                      have c49b0 : ((bt a0 0) == 45) = true := beq_iff_eq.mpr c49
                      have c49b1 : ((bt a0 0) != 45) = false := bne_eq_false_iff_eq.mpr c49
                      clear c49
                      have H' := Aside0.mk H
                      clear H
                      have p48 : 0 ≤ (0 : Int) := (by omega)
                      have q48 : 0 < a0.size := (by have : (0 : Int) < (a0.size : Int) := of_decide_eq_true (by first | (with_reducible assumption) | assumption); omega)
                      have hx48 : ∀ h : 0 < a0.size, ((a0[0]'h).toNat : Int) = bt a0 0 := bt_at a0 0
                      clear p48
                      have qi48 : (0 < (a0.size : Int)) = True := eq_true (of_decide_eq_true (by first | (with_reducible assumption) | assumption))
                      replace q48 := eq_true q48
                      go_wp2
                      go_meet
                      case rel => exact ⟨_, (true), (by first | rfl | (simp; done) | (simp [*]; done)), H', ⟨by have := HJ36.out; have := HJ39.out; first | omega | exact Nat.le_refl _⟩, ⟨by (with_reducible repeat (first | refine blk_drewN ?_ _ | refine blk_drew ?_ | refine blk_alloc ?_ _)); exact BK243.out⟩, ⟨by repeat (first | (with_reducible first | exact HB.out | apply below_alloc | apply pw_below_drewN | apply below_drew1 | refine below_set ?_ GE243.out) | exact HB.out)⟩⟩
                    · rw [if_neg c49] at H
                      have c49b0 : ((bt a0 0) == 45) = false := beq_eq_false_iff_ne.mpr c49
                      have c49b1 : ((bt a0 0) != 45) = true := bne_iff_ne.mpr c49
                      replace H := Option.bind_eq_some_iff.mp H
                      obtain ⟨t251, A510, H⟩ := H
                      replace H : (epactref10_one.j4 kj39 a0 x4_39 t251) = some (r1, r2, r3, r4) := H
                      have A51 := Aside0.mk A510
                      clear A510
                      have H' := Aside0.mk H
                      clear H
                      have p48 : 0 ≤ (0 : Int) := (by omega)
                      have q48 : 0 < a0.size := (by have : (0 : Int) < (a0.size : Int) := of_decide_eq_true (by first | (with_reducible assumption) | assumption); omega)
                      have hx48 : ∀ h : 0 < a0.size, ((a0[0]'h).toNat : Int) = bt a0 0 := bt_at a0 0
                      clear p48
                      have qi48 : (0 < (a0.size : Int)) = True := eq_true (of_decide_eq_true (by first | (with_reducible assumption) | assumption))
                      replace q48 := eq_true q48
                      have p50 : 0 ≤ (0 : Int) := (by omega)
                      have q50 : 0 < a0.size := (by have : (0 : Int) < (a0.size : Int) := of_decide_eq_true (by first | (with_reducible assumption) | assumption); omega)
                      have hx50 : ∀ h : 0 < a0.size, ((a0[0]'h).toNat : Int) = bt a0 0 := bt_at a0 0
                      clear p50
                      have qi50 : (0 < (a0.size : Int)) = True := eq_true (of_decide_eq_true (by first | (with_reducible assumption) | assumption))
                      replace q50 := eq_true q50
                      go_wp2_with (first | (go_at_call 112; (with_reducible refine (epactref10_digit.calls (bt a0 0) t251 _ A51.out).mono ?_); rintro e w' ⟨rfl, ⟨nd, rfl⟩⟩))
                      go_meet
                      case rel => exact ⟨_, (t251), (by first | rfl | (simp; done) | (simp [*]; done)), H', ⟨by have := HJ36.out; have := HJ39.out; first | omega | exact Nat.le_refl _⟩, ⟨by (with_reducible repeat (first | refine blk_drewN ?_ _ | refine blk_drew ?_ | refine blk_alloc ?_ _)); exact BK243.out⟩, ⟨by repeat (first | (with_reducible first | exact HB.out | apply below_alloc | apply pw_below_drewN | apply below_drew1 | refine below_set ?_ GE243.out) | exact HB.out)⟩⟩
                  · rw [if_neg c47] at H
                    exact absurd H (by simp)
                case rest =>
                  clear HC46
                  try clear c1
                  try clear p1
                  try clear q1
                  try clear hx1
                  try clear qi1
                  try clear c2
                  try clear c2b0
                  try clear c2b1
                  try clear p2
                  try clear c3
                  try clear p3
                  try clear q3
                  try clear hx3
                  try clear qi3
                  try clear c4
                  try clear p4
                  try clear q4
                  try clear hx4
                  try clear qi4
                  try clear c5
                  try clear p5
                  try clear q5
                  try clear hx5
                  try clear qi5
                  try clear c6
                  try clear c6b0
                  try clear c6b1
                  try clear p6
                  try clear c7
                  try clear c7b0
                  try clear c7b1
                  try clear p10
                  try clear q10
                  try clear hx10
                  try clear qi10
                  try clear c11
                  try clear c11b0
                  try clear c11b1
                  try clear c13
                  try clear c13b0
                  try clear c14
                  try clear c14b0
                  try clear p15
                  try clear q15
                  try clear hx15
                  try clear c17
                  try clear p18
                  try clear q18
                  try clear hx18
                  try clear c19
                  try clear c19b0
                  try clear c19b1
                  try clear c20
                  try clear c20b0
                  try clear c20b1
                  try clear c21
                  try clear c21b0
                  try clear c21b1
                  try clear c23
                  try clear c23b0
                  try clear c23b1
                  try clear c28
                  try clear c28b0
                  try clear c28b1
                  try clear c29
                  try clear c29b0
                  try clear c29b1
                  try clear c31
                  try clear c31b0
                  try clear c31b1
                  try clear p36
                  try clear q36
                  try clear hx36
                  try clear qi36
                  try clear c39
                  try clear c39b0
                  try clear c39b1
                  try clear c41
                  try clear c41b0
                  try clear c42
                  try clear c42b0
                  try clear p43
                  try clear q43
                  try clear hx43
                  try clear c45
                  try clear c47
                  try clear c47b0
                  try clear c47b1
                  try clear p48
                  try clear q48
                  try clear hx48
                  try clear qi48
                  try clear c49
                  try clear c49b0
                  try clear c49b1
                  try clear p50
                  try clear q50
                  try clear hx50
                  try clear qi50
                  try clear hcz25_0
                  try clear hcz25_1
                  try clear hcz25_2
                  try clear hcz27_0
                  try clear hcz27_1
                  try clear hcz27_2
                  try clear hcz33_0
                  try clear hcz33_1
                  try clear hcz33_2
                  try clear hcz35_0
                  try clear hcz35_1
                  try clear hcz35_2
                  try clear hcz9_0
                  try clear hcz9_1
                  try clear hcz9_2
                  try clear hfz25_0
                  try clear hfz25_1
                  try clear hfz25_2
                  try clear hfz27_0
                  try clear hfz27_1
                  try clear hfz27_2
                  try clear hfz33_0
                  try clear hfz33_1
                  try clear hfz33_2
                  try clear hfz35_0
                  try clear hfz35_1
                  try clear hfz35_2
                  try clear hfz9_0
                  try clear hfz9_1
                  try clear hfz9_2
                  try clear p1
                  try clear p10
                  try clear p15
                  try clear p18
                  try clear p2
                  try clear p3
                  try clear p36
                  try clear p4
                  try clear p43
                  try clear p48
                  try clear p50
                  try clear p6
                  try clear q1
                  try clear q10
                  try clear q15
                  try clear q18
                  try clear q3
                  try clear q36
                  try clear q4
                  try clear q43
                  try clear q48
                  try clear q50
                  obtain ⟨kq, x71_45, rfl, HA, HJ45, BK243, HB⟩ := hcut
                  cases kq with
                  | zero => exact absurd HA.out (by simp [epactref10_one.j4])
                  | succ kj45 =>
                    have H := HA.out
                    clear HA
                    simp only [epactref10_one.j4] at H
                    by_cases c52 : x71_45 = true
                    · subst c52
                      have H1 : (if 0 ≤ x4_39 then (if x4_39 ≤ (a0.size : Int) then ((epactref10_number.f kj45 (a0.extract 0 (x4_39 : Int).toNat)).bind fun bt252 => (if bt252.2 = true then (some (2, (⟨#[]⟩ : ByteArray), bt252.1, x4_39)) else (some (0, (⟨#[]⟩ : ByteArray), 0, 0)))) else (none)) else (none)) = some (r1, r2, r3, r4) := by rw [if_pos rfl] at H; exact H
                      clear H
                      have H := H1
                      clear H1
                      by_cases c53 : 0 ≤ x4_39
                      · rw [if_pos c53] at H
                        have c53b0 := eq_true c53
                        have c53b1 : decide (0 ≤ x4_39) = true := decide_eq_true c53
                        clear c53
                        by_cases c54 : x4_39 ≤ (a0.size : Int)
                        · rw [if_pos c54] at H
                          have c54b0 := eq_true c54
                          have c54b1 : decide (x4_39 ≤ (a0.size : Int)) = true := decide_eq_true c54
                          clear c54
                          replace H := Option.bind_eq_some_iff.mp H
                          obtain ⟨⟨t252, t253⟩, A550, H⟩ := H
                          replace H : (if t253 = true then (some (2, (⟨#[]⟩ : ByteArray), t252, x4_39)) else (some (0, (⟨#[]⟩ : ByteArray), 0, 0))) = some (r1, r2, r3, r4) := H
                          have A55 := Aside0.mk A550
                          clear A550
                          by_cases c56 : t253 = true
                          · subst c56
                            have H1 : (some (2, (⟨#[]⟩ : ByteArray), t252, x4_39)) = some (r1, r2, r3, r4) := by rw [if_pos rfl] at H; exact H
                            clear H
                            have H := H1
                            clear H1
                            simp only [Option.some.injEq, Prod.mk.injEq] at H
                            obtain ⟨rfl, rfl, rfl, rfl⟩ := H
                            go_wp2_with (first | ((with_reducible refine gate_callee (f := 113) rfl ?_); refine goesL_ (some 76) rfl rfl Tryz.func113 (by kernel_rfl) rfl #[.string (a0.extract 0 (x4_39 : Int).toNat)] rfl (by (try simp only [List.map_toArray, List.map_cons, List.map_nil]); first | done | rfl | (simp only [List.length_drop, List.length_take]; rfl)) ?_; (with_reducible refine (epactref10_number.calls kj45 (a0.extract 0 (x4_39 : Int).toNat) t252 true _ A55.out).mono ?_); rintro e w' ⟨rfl, ⟨nd, rfl⟩⟩; refine ⟨_, rfl, ?_⟩; (try (rw [drewN_self wc]; generalize hq_ : World.drewN wc _ = wc; have n0_ : Aside0 (wc.heap[gb243]? = some (.cells #[.int .u8 0, .string (⟨#[]⟩ : ByteArray), .int .i64 0] 51 (0, 0))) := ⟨by rw [← hq_]; exact (by (with_reducible repeat (first | refine blk_drewN ?_ _ | refine blk_drew ?_ | refine blk_alloc ?_ _)); exact BK243.out)⟩; have n1_ : Aside0 (Below w.heap.size w wc) := ⟨by rw [← hq_]; exact (by repeat (first | (with_reducible first | exact HB.out | apply below_alloc | apply pw_below_drewN | apply below_drew1 | refine below_set ?_ GE243.out) | exact HB.out))⟩; clear BK243 HB hq_; have BK243 := n0_; have HB := n1_; clear n0_ n1_)); have hcz57_0 : wc.cell? ⟨gb243, 0, none⟩ = some (.int .u8 0) := (blk_cell BK243.out 0).trans rfl; have hcz57_1 : wc.cell? ⟨gb243, 1, none⟩ = some (.string (⟨#[]⟩ : ByteArray)) := (blk_cell BK243.out 1).trans rfl; have hcz57_2 : wc.cell? ⟨gb243, 2, none⟩ = some (.int .i64 0) := (blk_cell BK243.out 2).trans rfl; have hfz57_0 := blk_frozen BK243.out 0; have hfz57_1 := blk_frozen BK243.out 1; have hfz57_2 := blk_frozen BK243.out 2))
                            refine bodyPost_ret (results_ct rfl _ _ gb243 51 #[.int .u8 2, .string (⟨#[]⟩ : ByteArray), .int .i64 t252] (0, 0) _ rfl (by (with_reducible repeat (first | refine blk_drewN ?_ _ | refine blk_drew ?_ | refine blk_alloc ?_ _)); refine blk_put (cs := #[.int .u8 2, .string (⟨#[]⟩ : ByteArray), .int .i64 0]) ?_ 2 _ rfl; (with_reducible repeat (first | refine blk_drewN ?_ _ | refine blk_drew ?_ | refine blk_alloc ?_ _)); refine blk_put (cs := #[.int .u8 2, .string (⟨#[]⟩ : ByteArray), .int .i64 0]) ?_ 1 _ rfl; (with_reducible repeat (first | refine blk_drewN ?_ _ | refine blk_drew ?_ | refine blk_alloc ?_ _)); refine blk_put (cs := #[.int .u8 0, .string (⟨#[]⟩ : ByteArray), .int .i64 0]) ?_ 0 _ rfl; (with_reducible repeat (first | refine blk_drewN ?_ _ | refine blk_drew ?_ | refine blk_alloc ?_ _)); exact BK243.out) Tryz.underlying51 rfl (by kernel_rfl)) rfl ?_
                            exact ⟨by first | rfl | (simp [errW_none, errW_some] <;> rfl) | (simp [*, errW_none, errW_some] <;> rfl), by repeat (first | (with_reducible first | exact HB.out | apply below_alloc | apply pw_below_drewN | apply below_drew1 | refine below_set ?_ GE243.out) | exact HB.out)⟩
                          · replace c56 := Bool.eq_false_iff.mpr c56
                            subst c56
                            have H1 : (some (0, (⟨#[]⟩ : ByteArray), 0, 0)) = some (r1, r2, r3, r4) := by rw [if_neg (show ¬ (false = true) by decide)] at H; exact H
                            clear H
                            have H := H1
                            clear H1
                            simp only [Option.some.injEq, Prod.mk.injEq] at H
                            obtain ⟨rfl, rfl, rfl, rfl⟩ := H
                            go_wp2_with (first | ((with_reducible refine gate_callee (f := 113) rfl ?_); refine goesL_ (some 76) rfl rfl Tryz.func113 (by kernel_rfl) rfl #[.string (a0.extract 0 (x4_39 : Int).toNat)] rfl (by (try simp only [List.map_toArray, List.map_cons, List.map_nil]); first | done | rfl | (simp only [List.length_drop, List.length_take]; rfl)) ?_; (with_reducible refine (epactref10_number.calls kj45 (a0.extract 0 (x4_39 : Int).toNat) t252 false _ A55.out).mono ?_); rintro e w' ⟨rfl, ⟨nd, rfl⟩⟩; refine ⟨_, rfl, ?_⟩; (try (rw [drewN_self wc]; generalize hq_ : World.drewN wc _ = wc; have n0_ : Aside0 (wc.heap[gb243]? = some (.cells #[.int .u8 0, .string (⟨#[]⟩ : ByteArray), .int .i64 0] 51 (0, 0))) := ⟨by rw [← hq_]; exact (by (with_reducible repeat (first | refine blk_drewN ?_ _ | refine blk_drew ?_ | refine blk_alloc ?_ _)); exact BK243.out)⟩; have n1_ : Aside0 (Below w.heap.size w wc) := ⟨by rw [← hq_]; exact (by repeat (first | (with_reducible first | exact HB.out | apply below_alloc | apply pw_below_drewN | apply below_drew1 | refine below_set ?_ GE243.out) | exact HB.out))⟩; clear BK243 HB hq_; have BK243 := n0_; have HB := n1_; clear n0_ n1_)); have hcz58_0 : wc.cell? ⟨gb243, 0, none⟩ = some (.int .u8 0) := (blk_cell BK243.out 0).trans rfl; have hcz58_1 : wc.cell? ⟨gb243, 1, none⟩ = some (.string (⟨#[]⟩ : ByteArray)) := (blk_cell BK243.out 1).trans rfl; have hcz58_2 : wc.cell? ⟨gb243, 2, none⟩ = some (.int .i64 0) := (blk_cell BK243.out 2).trans rfl; have hfz58_0 := blk_frozen BK243.out 0; have hfz58_1 := blk_frozen BK243.out 1; have hfz58_2 := blk_frozen BK243.out 2))
                            refine bodyPost_ret (results_ct rfl _ _ gb243 51 #[.int .u8 0, .string (⟨#[]⟩ : ByteArray), .int .i64 0] (0, 0) _ rfl (by (with_reducible repeat (first | refine blk_drewN ?_ _ | refine blk_drew ?_ | refine blk_alloc ?_ _)); refine blk_put (cs := #[.int .u8 0, .string (⟨#[]⟩ : ByteArray), .int .i64 0]) ?_ 2 _ rfl; (with_reducible repeat (first | refine blk_drewN ?_ _ | refine blk_drew ?_ | refine blk_alloc ?_ _)); refine blk_put (cs := #[.int .u8 0, .string (⟨#[]⟩ : ByteArray), .int .i64 0]) ?_ 1 _ rfl; (with_reducible repeat (first | refine blk_drewN ?_ _ | refine blk_drew ?_ | refine blk_alloc ?_ _)); refine blk_put (cs := #[.int .u8 0, .string (⟨#[]⟩ : ByteArray), .int .i64 0]) ?_ 0 _ rfl; (with_reducible repeat (first | refine blk_drewN ?_ _ | refine blk_drew ?_ | refine blk_alloc ?_ _)); exact BK243.out) Tryz.underlying51 rfl (by kernel_rfl)) rfl ?_
                            exact ⟨by first | rfl | (simp [errW_none, errW_some] <;> rfl) | (simp [*, errW_none, errW_some] <;> rfl), by repeat (first | (with_reducible first | exact HB.out | apply below_alloc | apply pw_below_drewN | apply below_drew1 | refine below_set ?_ GE243.out) | exact HB.out)⟩
                        · rw [if_neg c54] at H
                          exact absurd H (by simp)
                      · rw [if_neg c53] at H
                        exact absurd H (by simp)
                    · replace c52 := Bool.eq_false_iff.mpr c52
                      subst c52
                      have H1 : (if 0 ≤ x4_39 then (if x4_39 ≤ (a0.size : Int) then ((epactref09_Name.f kj45 (a0.extract 0 (x4_39 : Int).toNat)).bind fun t254 => (if t254 = true then (some (1, a0.extract 0 (x4_39 : Int).toNat, 0, x4_39)) else (some (0, (⟨#[]⟩ : ByteArray), 0, 0)))) else (none)) else (none)) = some (r1, r2, r3, r4) := by rw [if_neg (show ¬ (false = true) by decide)] at H; exact H
                      clear H
                      have H := H1
                      clear H1
                      by_cases c59 : 0 ≤ x4_39
                      · rw [if_pos c59] at H
                        have c59b0 := eq_true c59
                        have c59b1 : decide (0 ≤ x4_39) = true := decide_eq_true c59
                        clear c59
                        by_cases c60 : x4_39 ≤ (a0.size : Int)
                        · rw [if_pos c60] at H
                          have c60b0 := eq_true c60
                          have c60b1 : decide (x4_39 ≤ (a0.size : Int)) = true := decide_eq_true c60
                          clear c60
                          replace H := Option.bind_eq_some_iff.mp H
                          obtain ⟨t254, A610, H⟩ := H
                          replace H : (if t254 = true then (some (1, a0.extract 0 (x4_39 : Int).toNat, 0, x4_39)) else (some (0, (⟨#[]⟩ : ByteArray), 0, 0))) = some (r1, r2, r3, r4) := H
                          have A61 := Aside0.mk A610
                          clear A610
                          by_cases c62 : t254 = true
                          · subst c62
                            have H1 : (some (1, a0.extract 0 (x4_39 : Int).toNat, 0, x4_39)) = some (r1, r2, r3, r4) := by rw [if_pos rfl] at H; exact H
                            clear H
                            have H := H1
                            clear H1
                            have c63b0 := eq_true (of_decide_eq_true (by first | (with_reducible assumption) | assumption) : 0 ≤ x4_39)
                            have c64b0 := eq_true (of_decide_eq_true (by first | (with_reducible assumption) | assumption) : x4_39 ≤ (a0.size : Int))
                            simp only [Option.some.injEq, Prod.mk.injEq] at H
                            obtain ⟨rfl, rfl, rfl, rfl⟩ := H
                            go_wp2_with (first | ((with_reducible refine gate_callee (f := 63) rfl ?_); refine goesL_ (some 88) rfl rfl Tryz.func63 (by kernel_rfl) rfl #[.string (a0.extract 0 (x4_39 : Int).toNat)] rfl (by (try simp only [List.map_toArray, List.map_cons, List.map_nil]); first | done | rfl | (simp only [List.length_drop, List.length_take]; rfl)) ?_; (with_reducible refine (epactref09_Name.calls kj45 (a0.extract 0 (x4_39 : Int).toNat) true _ A61.out).mono ?_); rintro e w' ⟨rfl, ⟨nd, rfl⟩⟩; refine ⟨_, rfl, ?_⟩; (try (rw [drewN_self wc]; generalize hq_ : World.drewN wc _ = wc; have n0_ : Aside0 (wc.heap[gb243]? = some (.cells #[.int .u8 0, .string (⟨#[]⟩ : ByteArray), .int .i64 0] 51 (0, 0))) := ⟨by rw [← hq_]; exact (by (with_reducible repeat (first | refine blk_drewN ?_ _ | refine blk_drew ?_ | refine blk_alloc ?_ _)); exact BK243.out)⟩; have n1_ : Aside0 (Below w.heap.size w wc) := ⟨by rw [← hq_]; exact (by repeat (first | (with_reducible first | exact HB.out | apply below_alloc | apply pw_below_drewN | apply below_drew1 | refine below_set ?_ GE243.out) | exact HB.out))⟩; clear BK243 HB hq_; have BK243 := n0_; have HB := n1_; clear n0_ n1_)); have hcz65_0 : wc.cell? ⟨gb243, 0, none⟩ = some (.int .u8 0) := (blk_cell BK243.out 0).trans rfl; have hcz65_1 : wc.cell? ⟨gb243, 1, none⟩ = some (.string (⟨#[]⟩ : ByteArray)) := (blk_cell BK243.out 1).trans rfl; have hcz65_2 : wc.cell? ⟨gb243, 2, none⟩ = some (.int .i64 0) := (blk_cell BK243.out 2).trans rfl; have hfz65_0 := blk_frozen BK243.out 0; have hfz65_1 := blk_frozen BK243.out 1; have hfz65_2 := blk_frozen BK243.out 2))
                            refine bodyPost_ret (results_ct rfl _ _ gb243 51 #[.int .u8 1, .string (a0.extract 0 (x4_39 : Int).toNat), .int .i64 0] (0, 0) _ rfl (by (with_reducible repeat (first | refine blk_drewN ?_ _ | refine blk_drew ?_ | refine blk_alloc ?_ _)); refine blk_put (cs := #[.int .u8 1, .string (a0.extract 0 (x4_39 : Int).toNat), .int .i64 0]) ?_ 2 _ rfl; (with_reducible repeat (first | refine blk_drewN ?_ _ | refine blk_drew ?_ | refine blk_alloc ?_ _)); refine blk_put (cs := #[.int .u8 1, .string (⟨#[]⟩ : ByteArray), .int .i64 0]) ?_ 1 _ rfl; (with_reducible repeat (first | refine blk_drewN ?_ _ | refine blk_drew ?_ | refine blk_alloc ?_ _)); refine blk_put (cs := #[.int .u8 0, .string (⟨#[]⟩ : ByteArray), .int .i64 0]) ?_ 0 _ rfl; (with_reducible repeat (first | refine blk_drewN ?_ _ | refine blk_drew ?_ | refine blk_alloc ?_ _)); exact BK243.out) Tryz.underlying51 rfl (by kernel_rfl)) rfl ?_
                            exact ⟨by first | rfl | (simp [errW_none, errW_some] <;> rfl) | (simp [*, errW_none, errW_some] <;> rfl), by repeat (first | (with_reducible first | exact HB.out | apply below_alloc | apply pw_below_drewN | apply below_drew1 | refine below_set ?_ GE243.out) | exact HB.out)⟩
                          · replace c62 := Bool.eq_false_iff.mpr c62
                            subst c62
                            have H1 : (some (0, (⟨#[]⟩ : ByteArray), 0, 0)) = some (r1, r2, r3, r4) := by rw [if_neg (show ¬ (false = true) by decide)] at H; exact H
                            clear H
                            have H := H1
                            clear H1
                            simp only [Option.some.injEq, Prod.mk.injEq] at H
                            obtain ⟨rfl, rfl, rfl, rfl⟩ := H
                            go_wp2_with (first | ((with_reducible refine gate_callee (f := 63) rfl ?_); refine goesL_ (some 88) rfl rfl Tryz.func63 (by kernel_rfl) rfl #[.string (a0.extract 0 (x4_39 : Int).toNat)] rfl (by (try simp only [List.map_toArray, List.map_cons, List.map_nil]); first | done | rfl | (simp only [List.length_drop, List.length_take]; rfl)) ?_; (with_reducible refine (epactref09_Name.calls kj45 (a0.extract 0 (x4_39 : Int).toNat) false _ A61.out).mono ?_); rintro e w' ⟨rfl, ⟨nd, rfl⟩⟩; refine ⟨_, rfl, ?_⟩; (try (rw [drewN_self wc]; generalize hq_ : World.drewN wc _ = wc; have n0_ : Aside0 (wc.heap[gb243]? = some (.cells #[.int .u8 0, .string (⟨#[]⟩ : ByteArray), .int .i64 0] 51 (0, 0))) := ⟨by rw [← hq_]; exact (by (with_reducible repeat (first | refine blk_drewN ?_ _ | refine blk_drew ?_ | refine blk_alloc ?_ _)); exact BK243.out)⟩; have n1_ : Aside0 (Below w.heap.size w wc) := ⟨by rw [← hq_]; exact (by repeat (first | (with_reducible first | exact HB.out | apply below_alloc | apply pw_below_drewN | apply below_drew1 | refine below_set ?_ GE243.out) | exact HB.out))⟩; clear BK243 HB hq_; have BK243 := n0_; have HB := n1_; clear n0_ n1_)); have hcz66_0 : wc.cell? ⟨gb243, 0, none⟩ = some (.int .u8 0) := (blk_cell BK243.out 0).trans rfl; have hcz66_1 : wc.cell? ⟨gb243, 1, none⟩ = some (.string (⟨#[]⟩ : ByteArray)) := (blk_cell BK243.out 1).trans rfl; have hcz66_2 : wc.cell? ⟨gb243, 2, none⟩ = some (.int .i64 0) := (blk_cell BK243.out 2).trans rfl; have hfz66_0 := blk_frozen BK243.out 0; have hfz66_1 := blk_frozen BK243.out 1; have hfz66_2 := blk_frozen BK243.out 2))
                            refine bodyPost_ret (results_ct rfl _ _ gb243 51 #[.int .u8 0, .string (⟨#[]⟩ : ByteArray), .int .i64 0] (0, 0) _ rfl (by (with_reducible repeat (first | refine blk_drewN ?_ _ | refine blk_drew ?_ | refine blk_alloc ?_ _)); refine blk_put (cs := #[.int .u8 0, .string (⟨#[]⟩ : ByteArray), .int .i64 0]) ?_ 2 _ rfl; (with_reducible repeat (first | refine blk_drewN ?_ _ | refine blk_drew ?_ | refine blk_alloc ?_ _)); refine blk_put (cs := #[.int .u8 0, .string (⟨#[]⟩ : ByteArray), .int .i64 0]) ?_ 1 _ rfl; (with_reducible repeat (first | refine blk_drewN ?_ _ | refine blk_drew ?_ | refine blk_alloc ?_ _)); refine blk_put (cs := #[.int .u8 0, .string (⟨#[]⟩ : ByteArray), .int .i64 0]) ?_ 0 _ rfl; (with_reducible repeat (first | refine blk_drewN ?_ _ | refine blk_drew ?_ | refine blk_alloc ?_ _)); exact BK243.out) Tryz.underlying51 rfl (by kernel_rfl)) rfl ?_
                            exact ⟨by first | rfl | (simp [errW_none, errW_some] <;> rfl) | (simp [*, errW_none, errW_some] <;> rfl), by repeat (first | (with_reducible first | exact HB.out | apply below_alloc | apply pw_below_drewN | apply below_drew1 | refine below_set ?_ GE243.out) | exact HB.out)⟩
                        · rw [if_neg c60] at H
                          exact absurd H (by simp)
                      · rw [if_neg c59] at H
                        exact absurd H (by simp)
  · rw [if_neg c2] at H
    exact absurd H (by simp)
end Go.Proofs.YtcinojbfjiohjaaGreatDoor.PPrintTells
end

section
namespace Go.Proofs.YtcinojbfjiohjaaGreatDoor.PPrintTells
open Go.RowKit Go.Proofs.YtcinojbfjiohjaaGreatDoorW.PrintWords Go.Proofs.YtcinojbfjiohjaaGreatDoorW.PrintLast Go.Proofs.YtcinojbfjiohjaaGreatDoorW.PrintMore
attribute [local go_sem] max2_int min2_int max_two min_two max_three min_three max_four min_four   -- for this text's walks alone
set_option linter.unusedVariables false
set_option linter.unusedSimpArgs false
mutual
def epactref10_Words.l0 : Nat → ByteArray → List (S51) → Int → Option ((List (S51)) × Int)
  | 0, _, _, _ => none
  | k + 1, x0, x4, x5 => if x5 < (x0.size : Int) then (if 0 ≤ x5 then (if (bt x0 x5) = 32 then (epactref10_Words.j1 k x0 x4 x5 true) else (epactref10_Words.j1 k x0 x4 x5 ((bt x0 x5) == 9))) else (none)) else (some (x4, (-1)))
def epactref10_Words.j1 : Nat → ByteArray → List (S51) → Int → Bool → Option ((List (S51)) × Int)
  | 0, _, _, _, _ => none
  | k + 1, x0, x4, x5, x21 => if x21 = true then (epactref10_Words.l0 k x0 x4 (wrap64 (x5 + 1))) else (if 0 ≤ x5 then (if x5 ≤ (x0.size : Int) then ((epactref10_one.f k (x0.extract (x5 : Int).toNat x0.size)).bind fun bt255 => (if bt255.2.2.2 = 0 then (some (([] : List (S51)), x5)) else (if x4.length < 4398046511104 then (epactref10_Words.l0 k x0 (x4 ++ [(⟨bt255.1, bt255.2.1, bt255.2.2.1⟩ : S51)]) (wrap64 (x5 + bt255.2.2.2))) else (none)))) else (none)) else (none))
end
def epactref10_Words.f (k : Nat) (a0 : ByteArray) : Option ((List (S51)) × Int) := epactref10_Words.l0 k a0 ([] : List (S51)) 0
set_option maxHeartbeats 8000000 in
set_option maxRecDepth 100000 in
theorem epactref10_Words.calls (k : Nat) (a0 : ByteArray) (r1 : List (S51)) (r2 : Int) (w : World) (h : epactref10_Words.f k a0 = some (r1, r2)) :
    Calls Tryz.prog 26 #[.string a0] w fun e w' => ∃ v0_ : Value, e = .returned (.tuple #[v0_, .int .i64 r2]) ∧ Kd.R k51 51 w' w.heap.size (fun _ => True) v0_ r1 ∧ Below w.heap.size w w' := by
  have hu51 := Tryz.underlying51
  have HB := Aside0.mk (Below.refl w.heap.size w)
  have H : (epactref10_Words.l0 k a0 ([] : List (S51)) 0) = some (r1, r2) := h
  clear h
  have H' := Aside0.mk H
  clear H
  go_enter Tryz.func26, Tryz.ntmps26
  go_wp2
  go_loopg [4, 5] k (fun kq v4 v5 w' => ∃ (x4_1 : List (S51)) (x5_1 : Int), v5 = .int .i64 x5_1 ∧ Aside0 (epactref10_Words.l0 kq a0 x4_1 x5_1 = some (r1, r2)) ∧ Aside0 (kq ≤ k) ∧ Aside0 (Kd.R k51 51 w' w.heap.size (fun _ => True) v4 x4_1) ∧ Aside0 (Below w.heap.size w w'))
  case atStart => exact ⟨(([] : List (S51))), (0), (by first | rfl | (simp; done) | (simp [*]; done)), H', ⟨Nat.le_refl _⟩, ⟨by first | exact Kd.R_nil _ _ _ _ _ | exact Kd.N_nil _ _ _ _ _ | exact Kd.V_nil _ _ _ _ _ | exact Kd.Q_nil _ _ _ _ _ | exact Kd.S_nil _ _ _ _ _⟩, ⟨by repeat (first | (with_reducible first | exact HB.out | apply below_alloc | apply pw_below_drewN | apply below_drew1) | exact HB.out)⟩⟩
  case round =>
    clear H'
    obtain ⟨x4_1, x5_1, rfl, HA, HK1, HO_4, HB⟩ := hrel
    cases gk with
    | zero => exact absurd HA.out (by simp [epactref10_Words.l0])
    | succ k1 =>
      have H := HA.out
      clear HA
      simp only [epactref10_Words.l0] at H
      by_cases c2 : x5_1 < (a0.size : Int)
      · rw [if_pos c2] at H
        have c2b0 : decide (x5_1 < (a0.size : Int)) = true := decide_eq_true c2
        clear c2
        have HC3 := Aside0.mk H
        clear H
        go_upto_region 4 with (fail)
        go_cut [21] (fun v21 wc => ∃ (kq : Nat) (x21_2 : Bool), v21 = .bool x21_2 ∧ Aside0 (epactref10_Words.j1 kq a0 x4_1 x5_1 x21_2 = some (r1, r2)) ∧ Aside0 (kq ≤ k1) ∧ Aside0 (Kd.R k51 51 wc w.heap.size (fun _ => True) u4 x4_1) ∧ Aside0 (Below w.heap.size w wc))
        case first =>
          have H := HC3.out
          clear HC3
          by_cases c4 : 0 ≤ x5_1
          · rw [if_pos c4] at H
            have c4b0 : decide (0 ≤ x5_1) = true := decide_eq_true c4
            clear c4
            (first | rw [c4b0] | (simp only [i64_w, i32_w]; rw [c4b0]) | skip)
            by_cases c6 : (bt a0 x5_1) = 32
            · rw [if_pos c6] at H
              have c6b0 : ((bt a0 x5_1) == 32) = true := beq_iff_eq.mpr c6
              have c6b1 : ((bt a0 x5_1) != 32) = false := bne_eq_false_iff_eq.mpr c6
              clear c6
              have H' := Aside0.mk H
              clear H
              have p5 : 0 ≤ (x5_1 : Int) := of_decide_eq_true (by first | (with_reducible assumption) | assumption)
              have q5 : x5_1 < (a0.size : Int) := of_decide_eq_true (by first | (with_reducible assumption) | assumption)
              have hx5 := bt_at a0 x5_1
              replace p5 := eq_true p5
              replace q5 := eq_true q5
              go_wp2
              go_meet
              case rel => exact ⟨_, (true), (by first | rfl | (simp; done) | (simp [*]; done)), H', ⟨by have := HK1.out; first | omega | exact Nat.le_refl _⟩, ⟨by (with_reducible repeat (first | apply Kd.R_alloc | apply Kd.R_drewN | apply Kd.R_drew)); exact HO_4.out⟩, ⟨by repeat (first | (with_reducible first | exact HB.out | apply below_alloc | apply pw_below_drewN | apply below_drew1) | exact HB.out)⟩⟩
            · rw [if_neg c6] at H
              have c6b0 : ((bt a0 x5_1) == 32) = false := beq_eq_false_iff_ne.mpr c6
              have c6b1 : ((bt a0 x5_1) != 32) = true := bne_iff_ne.mpr c6
              have H' := Aside0.mk H
              clear H
              have p5 : 0 ≤ (x5_1 : Int) := of_decide_eq_true (by first | (with_reducible assumption) | assumption)
              have q5 : x5_1 < (a0.size : Int) := of_decide_eq_true (by first | (with_reducible assumption) | assumption)
              have hx5 := bt_at a0 x5_1
              replace p5 := eq_true p5
              replace q5 := eq_true q5
              have p7 : 0 ≤ (x5_1 : Int) := of_decide_eq_true (by first | (with_reducible assumption) | assumption)
              have q7 : x5_1 < (a0.size : Int) := of_decide_eq_true (by first | (with_reducible assumption) | assumption)
              have hx7 := bt_at a0 x5_1
              replace p7 := eq_true p7
              replace q7 := eq_true q7
              go_wp2
              go_meet
              case rel => exact ⟨_, (((bt a0 x5_1) == 9)), (by first | rfl | (simp; done) | (simp [*]; done)), H', ⟨by have := HK1.out; first | omega | exact Nat.le_refl _⟩, ⟨by (with_reducible repeat (first | apply Kd.R_alloc | apply Kd.R_drewN | apply Kd.R_drew)); exact HO_4.out⟩, ⟨by repeat (first | (with_reducible first | exact HB.out | apply below_alloc | apply pw_below_drewN | apply below_drew1) | exact HB.out)⟩⟩
          · rw [if_neg c4] at H
            exact absurd H (by simp)
        case rest =>
          clear HC3
          try clear c2
          try clear c2b0
          try clear p2
          try clear c4
          try clear c4b0
          try clear p5
          try clear q5
          try clear hx5
          try clear c6
          try clear c6b0
          try clear c6b1
          try clear p7
          try clear q7
          try clear hx7
          try clear p5
          try clear p7
          try clear q5
          try clear q7
          obtain ⟨kq, x21_2, rfl, HA, HJ2, HO_4, HB⟩ := hcut
          cases kq with
          | zero => exact absurd HA.out (by simp [epactref10_Words.j1])
          | succ kj2 =>
            have H := HA.out
            clear HA
            simp only [epactref10_Words.j1] at H
            by_cases c8 : x21_2 = true
            · subst c8
              have H1 : (epactref10_Words.l0 kj2 a0 x4_1 (wrap64 (x5_1 + 1))) = some (r1, r2) := by rw [if_pos rfl] at H; exact H
              clear H
              have H := H1
              clear H1
              have H' := Aside0.mk H
              clear H
              go_wp2
              go_roundg kj2
              case measure => have := HK1.out; have := HJ2.out; omega
              case rel => exact ⟨(x4_1), (wrap64 (x5_1 + 1)), (by first | rfl | (simp; done) | (simp [*]; done)), H', ⟨by have := HK1.out; have := HJ2.out; omega⟩, ⟨by (with_reducible repeat (first | apply Kd.R_alloc | apply Kd.R_drewN | apply Kd.R_drew)); exact HO_4.out⟩, ⟨by repeat (first | (with_reducible first | exact HB.out | apply below_alloc | apply pw_below_drewN | apply below_drew1) | exact HB.out)⟩⟩
            · replace c8 := Bool.eq_false_iff.mpr c8
              subst c8
              have H1 : (if 0 ≤ x5_1 then (if x5_1 ≤ (a0.size : Int) then ((epactref10_one.f kj2 (a0.extract (x5_1 : Int).toNat a0.size)).bind fun bt255 => (if bt255.2.2.2 = 0 then (some (([] : List (S51)), x5_1)) else (if x4_1.length < 4398046511104 then (epactref10_Words.l0 kj2 a0 (x4_1 ++ [(⟨bt255.1, bt255.2.1, bt255.2.2.1⟩ : S51)]) (wrap64 (x5_1 + bt255.2.2.2))) else (none)))) else (none)) else (none)) = some (r1, r2) := by rw [if_neg (show ¬ (false = true) by decide)] at H; exact H
              clear H
              have H := H1
              clear H1
              by_cases c9 : 0 ≤ x5_1
              · rw [if_pos c9] at H
                have c9b0 := eq_true c9
                have c9b1 : decide (0 ≤ x5_1) = true := decide_eq_true c9
                clear c9
                by_cases c10 : x5_1 ≤ (a0.size : Int)
                · rw [if_pos c10] at H
                  have c10b0 := eq_true c10
                  have c10b1 : decide (x5_1 ≤ (a0.size : Int)) = true := decide_eq_true c10
                  clear c10
                  replace H := Option.bind_eq_some_iff.mp H
                  obtain ⟨⟨t255, t256, t257, t258⟩, A110, H⟩ := H
                  replace H : (if t258 = 0 then (some (([] : List (S51)), x5_1)) else (if x4_1.length < 4398046511104 then (epactref10_Words.l0 kj2 a0 (x4_1 ++ [(⟨t255, t256, t257⟩ : S51)]) (wrap64 (x5_1 + t258))) else (none))) = some (r1, r2) := H
                  have A11 := Aside0.mk A110
                  clear A110
                  by_cases c12 : t258 = 0
                  · rw [if_pos c12] at H
                    have c12b0 : (t258 == 0) = true := beq_iff_eq.mpr c12
                    have c12b1 : (t258 != 0) = false := bne_eq_false_iff_eq.mpr c12
                    clear c12
                    simp only [Option.some.injEq, Prod.mk.injEq] at H
                    obtain ⟨rfl, rfl⟩ := H
                    go_wp2_with (first | ((with_reducible refine gate_callee (f := 68) rfl ?_); refine goesL_ (some 28) rfl rfl Tryz.func68 (by kernel_rfl) rfl #[.string (a0.extract (x5_1 : Int).toNat a0.size)] rfl (by (try simp only [List.map_toArray, List.map_cons, List.map_nil]); first | done | rfl | (simp only [List.length_drop, List.length_take]; rfl)) ?_; (with_reducible refine (epactref10_one.calls kj2 (a0.extract (x5_1 : Int).toNat a0.size) t255 t256 t257 t258 _ A11.out).mono ?_); rintro e w13 ⟨rfl, hb⟩; refine ⟨_, rfl, ?_⟩; have n0_ := Aside0.mk (Kd.R_below (by (with_reducible repeat (first | apply Kd.R_alloc | apply Kd.R_drewN | apply Kd.R_drew)); exact HO_4.out) hb); have n1_ := Aside0.mk (below_step (by repeat (first | (with_reducible first | exact HB.out | apply below_alloc | apply pw_below_drewN | apply below_drew1) | exact HB.out)) hb); clear HO_4; clear HB; have HO_4 := n0_; have HB := n1_; clear n0_ n1_; (try clear hb); (try clear hb2); (try clear hk); (try clear hi)) | ((with_reducible refine gate_dst (N := 6) rfl ?_); refine box_event ?hg (N := 6) ?hd (cs := #[.int .u8 0, .string (⟨#[]⟩ : ByteArray), .int .i64 0]) (t := 51) ?hr ?_; (case hd => rfl); (case hg => rfl); (case hr => first | (go_simp; done) | (go_simp; rfl)); intro gb259 hg w14 hbox hb; have n0_ := Aside0.mk (Kd.R_below (Kd.R_elderB (by (with_reducible repeat (first | apply Kd.R_alloc | apply Kd.R_drewN | apply Kd.R_drew)); exact HO_4.out) gb259 (Nat.le_of_eq hg.symm)) hb); have n1_ := Aside0.mk (below_step (by repeat (first | (with_reducible first | exact HB.out | apply below_alloc | apply pw_below_drewN | apply below_drew1) | exact HB.out)) hb); have n2_ := Aside0.mk (hbox); have n3_ := Aside0.mk ((by rw [hg]; exact (below_size (by repeat (first | (with_reducible first | exact HB.out | apply below_alloc | apply pw_below_drewN | apply below_drew1) | exact HB.out))) : w.heap.size ≤ gb259)); have n4_ := Aside0.mk ((by rw [hg]; exact (below_size (by repeat (first | (with_reducible first | exact HB.out | apply below_alloc | apply pw_below_drewN | apply below_drew1) | exact HB.out))) : w.heap.size ≤ gb259)); clear HO_4; clear HB; have HO_4 := n0_; have HB := n1_; have BK259 := n2_; have GW259 := n3_; have GE259 := n4_; clear n0_ n1_ n2_ n3_ n4_; clear hb hbox hg; have hcz15_0 : w14.cell? ⟨gb259, 0, none⟩ = some (.int .u8 0) := (blk_cell BK259.out 0).trans rfl; have hcz15_1 : w14.cell? ⟨gb259, 1, none⟩ = some (.string (⟨#[]⟩ : ByteArray)) := (blk_cell BK259.out 1).trans rfl; have hcz15_2 : w14.cell? ⟨gb259, 2, none⟩ = some (.int .i64 0) := (blk_cell BK259.out 2).trans rfl; have hfz15_0 := blk_frozen BK259.out 0; have hfz15_1 := blk_frozen BK259.out 1; have hfz15_2 := blk_frozen BK259.out 2))
                    go_ret2
                    exact ⟨_, by first | rfl | (simp [errW_none, errW_some] <;> rfl) | (simp [*, errW_none, errW_some] <;> rfl), by first | exact Kd.R_nil _ _ _ _ _ | exact Kd.N_nil _ _ _ _ _ | exact Kd.V_nil _ _ _ _ _ | exact Kd.Q_nil _ _ _ _ _ | exact Kd.S_nil _ _ _ _ _, by repeat (first | (with_reducible first | exact HB.out | apply below_alloc | apply pw_below_drewN | apply below_drew1 | refine below_set ?_ GE259.out) | exact HB.out)⟩
                  · rw [if_neg c12] at H
                    have c12b0 : (t258 == 0) = false := beq_eq_false_iff_ne.mpr c12
                    have c12b1 : (t258 != 0) = true := bne_iff_ne.mpr c12
                    by_cases c16 : x4_1.length < 4398046511104
                    · rw [if_pos c16] at H
                      have LMc16 := Aside0.mk c16
                      clear c16
                      obtain ⟨y260, hy260⟩ : ∃ y_ : List (S51), y_ = (x4_1 ++ [(⟨t255, t256, t257⟩ : S51)]) := ⟨_, rfl⟩
                      replace H : (epactref10_Words.l0 kj2 a0 y260 (wrap64 (x5_1 + t258))) = some (r1, r2) := by first | (rw [hy260]; with_reducible exact H) | (have H2_ := (Option.bind_some _ _).symm.trans H; rw [hy260]; with_reducible exact H2_) | (have H2_ := (Option.bind_some _ _).symm.trans H; with_reducible exact H2_) | with_reducible exact H | (rw [hy260]; exact H) | exact H
                      have Ny260 := Aside0.mk hy260
                      clear hy260
                      have H' := Aside0.mk H
                      clear H
                      go_wp2_with (first | ((with_reducible refine gate_callee (f := 68) rfl ?_); refine goesL_ (some 28) rfl rfl Tryz.func68 (by kernel_rfl) rfl #[.string (a0.extract (x5_1 : Int).toNat a0.size)] rfl (by (try simp only [List.map_toArray, List.map_cons, List.map_nil]); first | done | rfl | (simp only [List.length_drop, List.length_take]; rfl)) ?_; (with_reducible refine (epactref10_one.calls kj2 (a0.extract (x5_1 : Int).toNat a0.size) t255 t256 t257 t258 _ A11.out).mono ?_); rintro e w17 ⟨rfl, hb⟩; refine ⟨_, rfl, ?_⟩; have n0_ := Aside0.mk (Kd.R_below (by (with_reducible repeat (first | apply Kd.R_alloc | apply Kd.R_drewN | apply Kd.R_drew)); exact HO_4.out) hb); have n1_ := Aside0.mk (below_step (by repeat (first | (with_reducible first | exact HB.out | apply below_alloc | apply pw_below_drewN | apply below_drew1) | exact HB.out)) hb); clear HO_4; clear HB; have HO_4 := n0_; have HB := n1_; clear n0_ n1_; (try clear hb); (try clear hb2); (try clear hk); (try clear hi)) | ((with_reducible refine gate_dst (N := 6) rfl ?_); refine box_event ?hg (N := 6) ?hd (cs := #[.int .u8 0, .string (⟨#[]⟩ : ByteArray), .int .i64 0]) (t := 51) ?hr ?_; (case hd => rfl); (case hg => rfl); (case hr => first | (go_simp; done) | (go_simp; rfl)); intro gb259 hg w18 hbox hb; have n0_ := Aside0.mk (Kd.R_below (Kd.R_elderB (by (with_reducible repeat (first | apply Kd.R_alloc | apply Kd.R_drewN | apply Kd.R_drew)); exact HO_4.out) gb259 (Nat.le_of_eq hg.symm)) hb); have n1_ := Aside0.mk (below_step (by repeat (first | (with_reducible first | exact HB.out | apply below_alloc | apply pw_below_drewN | apply below_drew1) | exact HB.out)) hb); have n2_ := Aside0.mk (hbox); have n3_ := Aside0.mk ((by rw [hg]; exact (below_size (by repeat (first | (with_reducible first | exact HB.out | apply below_alloc | apply pw_below_drewN | apply below_drew1) | exact HB.out))) : w.heap.size ≤ gb259)); have n4_ := Aside0.mk ((by rw [hg]; exact (below_size (by repeat (first | (with_reducible first | exact HB.out | apply below_alloc | apply pw_below_drewN | apply below_drew1) | exact HB.out))) : w.heap.size ≤ gb259)); clear HO_4; clear HB; have HO_4 := n0_; have HB := n1_; have BK259 := n2_; have GW259 := n3_; have GE259 := n4_; clear n0_ n1_ n2_ n3_ n4_; clear hb hbox hg; have hcz19_0 : w18.cell? ⟨gb259, 0, none⟩ = some (.int .u8 0) := (blk_cell BK259.out 0).trans rfl; have hcz19_1 : w18.cell? ⟨gb259, 1, none⟩ = some (.string (⟨#[]⟩ : ByteArray)) := (blk_cell BK259.out 1).trans rfl; have hcz19_2 : w18.cell? ⟨gb259, 2, none⟩ = some (.int .i64 0) := (blk_cell BK259.out 2).trans rfl; have hfz19_0 := blk_frozen BK259.out 0; have hfz19_1 := blk_frozen BK259.out 1; have hfz19_2 := blk_frozen BK259.out 2) | ((with_reducible refine gate_builtin (b := .append) (xs := #[.tmp 34, .tmp 36]) rfl ?_); at_builtin; refine Kd.R_append k51 (w0 := w) w.heap.size rfl (.tmp 34) (.tmp 36) 32 51 (.agg #[(.int .u8 0), (.string ⟨#[]⟩), (.int .i64 0)]) 32 rfl Tryz.underlying32 info51 rfl (by decide) (by omega) u4 x4_1 (⟨t255, t256, t257⟩ : S51) [.int .u8 t255, .string t256, .int .i64 t257] (fun k_ => k_ ≠ gb259) (fun _ => False) rfl (by first | (go_simp; done) | (go_simp; rfl)) ?aP (fun _ hk => hk.elim) ?aF ?aO ?aB ?aS ?aL ?_; (case aP => exact k51_mkM _ _ _ (⟨t255, t256, t257⟩ : S51)); (case aB => exact (by repeat (first | (with_reducible first | exact HB.out | apply below_alloc | apply pw_below_drewN | apply below_drew1 | refine below_set ?_ GE259.out) | exact HB.out))); (case aF => exact (fun k_ hk => Kd.freshB (g := gb259) (o := .cells #[.int .u8 t255, .string t256, .int .i64 t257] 51 (0, 0)) (by (with_reducible repeat (first | refine blk_drewN ?_ _ | refine blk_drew ?_ | refine blk_alloc ?_ _)); refine blk_put (cs := #[.int .u8 t255, .string t256, .int .i64 0]) ?_ 2 _ rfl; (with_reducible repeat (first | refine blk_drewN ?_ _ | refine blk_drew ?_ | refine blk_alloc ?_ _)); refine blk_put (cs := #[.int .u8 t255, .string (⟨#[]⟩ : ByteArray), .int .i64 0]) ?_ 1 _ rfl; (with_reducible repeat (first | refine blk_drewN ?_ _ | refine blk_drew ?_ | refine blk_alloc ?_ _)); refine blk_put (cs := #[.int .u8 0, .string (⟨#[]⟩ : ByteArray), .int .i64 0]) ?_ 0 _ rfl; (with_reducible repeat (first | refine blk_drewN ?_ _ | refine blk_drew ?_ | refine blk_alloc ?_ _)); exact BK259.out) k_ hk)); (case aO => exact (by (with_reducible repeat (first | apply Kd.R_alloc | apply Kd.R_drewN | apply Kd.R_drew)); exact Kd.R_mono (Kd.R_far (p := ⟨gb259, 2, none⟩) (Kd.R_far (p := ⟨gb259, 1, none⟩) (Kd.R_far (p := ⟨gb259, 0, none⟩) (Kd.R_mono HO_4.out (fun k_ hk => (⟨hk, hk.2⟩ : _ ∧ k_ ≠ gb259))) (fun _ hk => hk.2) (.int .u8 t255)) (fun _ hk => hk.2) (.string t256)) (fun _ hk => hk.2) (.int .i64 t257)) (fun _ hk => hk.1.2))); (case aS => exact (below_size (by repeat (first | (with_reducible first | exact HB.out | apply below_alloc | apply pw_below_drewN | apply below_drew1 | refine below_set ?_ GE259.out) | exact HB.out)))); (case aL => have := LMc16.out; omega); intro v261 w20 ho hb hg hat; rw [← Ny260.out] at ho; have n0_ := Aside0.mk (blk_grown (g := gb259) (o := .cells #[.int .u8 t255, .string t256, .int .i64 t257] 51 (0, 0)) (by (with_reducible repeat (first | refine blk_drewN ?_ _ | refine blk_drew ?_ | refine blk_alloc ?_ _)); refine blk_put (cs := #[.int .u8 t255, .string t256, .int .i64 0]) ?_ 2 _ rfl; (with_reducible repeat (first | refine blk_drewN ?_ _ | refine blk_drew ?_ | refine blk_alloc ?_ _)); refine blk_put (cs := #[.int .u8 t255, .string (⟨#[]⟩ : ByteArray), .int .i64 0]) ?_ 1 _ rfl; (with_reducible repeat (first | refine blk_drewN ?_ _ | refine blk_drew ?_ | refine blk_alloc ?_ _)); refine blk_put (cs := #[.int .u8 0, .string (⟨#[]⟩ : ByteArray), .int .i64 0]) ?_ 0 _ rfl; (with_reducible repeat (first | refine blk_drewN ?_ _ | refine blk_drew ?_ | refine blk_alloc ?_ _)); exact BK259.out) hg (Kd.R_away HO_4.out (fun _ hk => hk.2))); have n1_ := Aside0.mk (hb); have n2_ := Aside0.mk (ho); clear BK259; clear HB; clear HO_4; have BK259 := n0_; have HB := n1_; have HO262 := n2_; clear n0_ n1_ n2_; clear ho hb hg hat))
                      go_roundg kj2
                      case measure => have := HK1.out; have := HJ2.out; omega
                      case rel => exact ⟨(y260), (wrap64 (x5_1 + t258)), (by first | rfl | (simp; done) | (simp [*]; done)), H', ⟨by have := HK1.out; have := HJ2.out; omega⟩, ⟨by (with_reducible repeat (first | apply Kd.R_alloc | apply Kd.R_drewN | apply Kd.R_drew)); exact Kd.R_mono HO262.out (fun _ hk => trivial)⟩, ⟨by repeat (first | (with_reducible first | exact HB.out | apply below_alloc | apply pw_below_drewN | apply below_drew1 | refine below_set ?_ GE259.out) | exact HB.out)⟩⟩
                    · rw [if_neg c16] at H
                      exact absurd H (by simp)
                · rw [if_neg c10] at H
                  exact absurd H (by simp)
              · rw [if_neg c9] at H
                exact absurd H (by simp)
      · rw [if_neg c2] at H
        have c2b0 : decide (x5_1 < (a0.size : Int)) = false := decide_eq_false c2
        clear c2
        simp only [Option.some.injEq, Prod.mk.injEq] at H
        obtain ⟨rfl, rfl⟩ := H
        go_wp2
        go_ret2
        exact ⟨_, by first | rfl | (simp [errW_none, errW_some] <;> rfl) | (simp [*, errW_none, errW_some] <;> rfl), by (with_reducible repeat (first | apply Kd.R_alloc | apply Kd.R_drewN | apply Kd.R_drew)); exact HO_4.out, by repeat (first | (with_reducible first | exact HB.out | apply below_alloc | apply pw_below_drewN | apply below_drew1) | exact HB.out)⟩
def epactref10_Right.f (k : Nat) (a0_0 : Int) (a0_1 : ByteArray) (a0_2 : Int) : Option (Bool) := if a0_0 = 1 then (if a0_2 = 0 then ((epactref09_Name.f k a0_1).bind fun t265 => (some t265)) else (some false)) else (if a0_0 = 2 then (some (a0_1.toList == ([] : List UInt8))) else (if a0_0 = 3 then (if a0_1.toList = ([] : List UInt8) then ((epactref04_Texts.f k a0_2).bind fun t266 => (some (decide ((t266.length : Int) > 0)))) else (some false)) else (if a0_0 = 4 then (if a0_2 = 0 then (if (a0_1.size : Int) = 1 then (if 0 < (a0_1.size : Int) then ((epactref10_mark.f (bt a0_1 0)).bind fun t269 => (some t269)) else (none)) else (some false)) else (some false)) else (some false))))
set_option maxHeartbeats 8000000 in
set_option maxRecDepth 100000 in
theorem epactref10_Right.calls (k : Nat) (a0_0 : Int) (a0_1 : ByteArray) (a0_2 : Int) (r : Bool) (w : World) (h : epactref10_Right.f k a0_0 a0_1 a0_2 = some r) :
    Calls Tryz.prog 28 #[.agg #[.int .u8 a0_0, .string a0_1, .int .i64 a0_2]] w fun e w' => e = .returned (.bool r) ∧ Below w.heap.size w w' := by
  have hu51 := Tryz.underlying51
  have HB := Aside0.mk (Below.refl w.heap.size w)
  have H : (if a0_0 = 1 then (if a0_2 = 0 then ((epactref09_Name.f k a0_1).bind fun t265 => (some t265)) else (some false)) else (if a0_0 = 2 then (some (a0_1.toList == ([] : List UInt8))) else (if a0_0 = 3 then (if a0_1.toList = ([] : List UInt8) then ((epactref04_Texts.f k a0_2).bind fun t266 => (some (decide ((t266.length : Int) > 0)))) else (some false)) else (if a0_0 = 4 then (if a0_2 = 0 then (if (a0_1.size : Int) = 1 then (if 0 < (a0_1.size : Int) then ((epactref10_mark.f (bt a0_1 0)).bind fun t269 => (some t269)) else (none)) else (some false)) else (some false)) else (some false))))) = some r := h
  clear h
  by_cases c2 : a0_0 = 1
  · rw [if_pos c2] at H
    have c2b0 : (a0_0 == 1) = true := beq_iff_eq.mpr c2
    have c2b1 : (a0_0 != 1) = false := bne_eq_false_iff_eq.mpr c2
    clear c2
    by_cases c3 : a0_2 = 0
    · rw [if_pos c3] at H
      have c3b0 : (a0_2 == 0) = true := beq_iff_eq.mpr c3
      have c3b1 : (a0_2 != 0) = false := bne_eq_false_iff_eq.mpr c3
      clear c3
      replace H := Option.bind_eq_some_iff.mp H
      obtain ⟨t265, A40, H⟩ := H
      replace H : (some t265) = some r := H
      have A4 := Aside0.mk A40
      clear A40
      obtain rfl := Option.some.inj H
      go_enter Tryz.func28, Tryz.ntmps28
      go_wp2_with (first | ((with_reducible refine gate_dst (N := 1) rfl ?_); (try (refine gate_guard (by rfl) ?_; dsimp only)); refine box_event ?hg (N := 1) ?hd (cs := #[.int .u8 a0_0, .string a0_1, .int .i64 a0_2]) (t := 51) ?hr ?_; (case hd => rfl); (case hg => rfl); (case hr => first | (go_simp; done) | (go_simp; rfl)); intro gb264 hg w5 hbox hb; have n0_ := Aside0.mk (below_step (by repeat (first | (with_reducible first | exact HB.out | apply below_alloc | apply pw_below_drewN | apply below_drew1) | exact HB.out)) hb); have n1_ := Aside0.mk (hbox); have n2_ := Aside0.mk ((by rw [hg]; exact (below_size (by repeat (first | (with_reducible first | exact HB.out | apply below_alloc | apply pw_below_drewN | apply below_drew1) | exact HB.out))) : w.heap.size ≤ gb264)); have n3_ := Aside0.mk ((by rw [hg]; exact (below_size (by repeat (first | (with_reducible first | exact HB.out | apply below_alloc | apply pw_below_drewN | apply below_drew1) | exact HB.out))) : w.heap.size ≤ gb264)); clear HB; have HB := n0_; have BK264 := n1_; have GW264 := n2_; have GE264 := n3_; clear n0_ n1_ n2_ n3_; clear hb hbox hg; have hcz6_0 : w5.cell? ⟨gb264, 0, none⟩ = some (.int .u8 a0_0) := (blk_cell BK264.out 0).trans rfl; have hcz6_1 : w5.cell? ⟨gb264, 1, none⟩ = some (.string a0_1) := (blk_cell BK264.out 1).trans rfl; have hcz6_2 : w5.cell? ⟨gb264, 2, none⟩ = some (.int .i64 a0_2) := (blk_cell BK264.out 2).trans rfl; have hfz6_0 := blk_frozen BK264.out 0; have hfz6_1 := blk_frozen BK264.out 1; have hfz6_2 := blk_frozen BK264.out 2) | (go_at_call 63; (with_reducible refine (epactref09_Name.calls k a0_1 t265 _ A4.out).mono ?_); rintro e w' ⟨rfl, ⟨nd, rfl⟩⟩))
      go_ret
      exact ⟨by first | rfl | (simp [errW_none, errW_some] <;> rfl) | (simp [*, errW_none, errW_some] <;> rfl), by repeat (first | (with_reducible first | exact HB.out | apply below_alloc | apply pw_below_drewN | apply below_drew1 | refine below_set ?_ GE264.out) | exact HB.out)⟩
    · rw [if_neg c3] at H
      have c3b0 : (a0_2 == 0) = false := beq_eq_false_iff_ne.mpr c3
      have c3b1 : (a0_2 != 0) = true := bne_iff_ne.mpr c3
      obtain rfl := Option.some.inj H
      go_enter Tryz.func28, Tryz.ntmps28
      go_wp2_with (first | ((with_reducible refine gate_dst (N := 1) rfl ?_); (try (refine gate_guard (by rfl) ?_; dsimp only)); refine box_event ?hg (N := 1) ?hd (cs := #[.int .u8 a0_0, .string a0_1, .int .i64 a0_2]) (t := 51) ?hr ?_; (case hd => rfl); (case hg => rfl); (case hr => first | (go_simp; done) | (go_simp; rfl)); intro gb264 hg w7 hbox hb; have n0_ := Aside0.mk (below_step (by repeat (first | (with_reducible first | exact HB.out | apply below_alloc | apply pw_below_drewN | apply below_drew1) | exact HB.out)) hb); have n1_ := Aside0.mk (hbox); have n2_ := Aside0.mk ((by rw [hg]; exact (below_size (by repeat (first | (with_reducible first | exact HB.out | apply below_alloc | apply pw_below_drewN | apply below_drew1) | exact HB.out))) : w.heap.size ≤ gb264)); have n3_ := Aside0.mk ((by rw [hg]; exact (below_size (by repeat (first | (with_reducible first | exact HB.out | apply below_alloc | apply pw_below_drewN | apply below_drew1) | exact HB.out))) : w.heap.size ≤ gb264)); clear HB; have HB := n0_; have BK264 := n1_; have GW264 := n2_; have GE264 := n3_; clear n0_ n1_ n2_ n3_; clear hb hbox hg; have hcz8_0 : w7.cell? ⟨gb264, 0, none⟩ = some (.int .u8 a0_0) := (blk_cell BK264.out 0).trans rfl; have hcz8_1 : w7.cell? ⟨gb264, 1, none⟩ = some (.string a0_1) := (blk_cell BK264.out 1).trans rfl; have hcz8_2 : w7.cell? ⟨gb264, 2, none⟩ = some (.int .i64 a0_2) := (blk_cell BK264.out 2).trans rfl; have hfz8_0 := blk_frozen BK264.out 0; have hfz8_1 := blk_frozen BK264.out 1; have hfz8_2 := blk_frozen BK264.out 2))
      go_ret
      exact ⟨by first | rfl | (simp [errW_none, errW_some] <;> rfl) | (simp [*, errW_none, errW_some] <;> rfl), by repeat (first | (with_reducible first | exact HB.out | apply below_alloc | apply pw_below_drewN | apply below_drew1 | refine below_set ?_ GE264.out) | exact HB.out)⟩
  · rw [if_neg c2] at H
    have c2b0 : (a0_0 == 1) = false := beq_eq_false_iff_ne.mpr c2
    have c2b1 : (a0_0 != 1) = true := bne_iff_ne.mpr c2
    by_cases c9 : a0_0 = 2
    · rw [if_pos c9] at H
      have c9b0 : (a0_0 == 2) = true := beq_iff_eq.mpr c9
      have c9b1 : (a0_0 != 2) = false := bne_eq_false_iff_eq.mpr c9
      clear c9
      obtain rfl := Option.some.inj H
      go_enter Tryz.func28, Tryz.ntmps28
      go_wp2_with (first | ((with_reducible refine gate_dst (N := 1) rfl ?_); (try (refine gate_guard (by rfl) ?_; dsimp only)); refine box_event ?hg (N := 1) ?hd (cs := #[.int .u8 a0_0, .string a0_1, .int .i64 a0_2]) (t := 51) ?hr ?_; (case hd => rfl); (case hg => rfl); (case hr => first | (go_simp; done) | (go_simp; rfl)); intro gb264 hg w10 hbox hb; have n0_ := Aside0.mk (below_step (by repeat (first | (with_reducible first | exact HB.out | apply below_alloc | apply pw_below_drewN | apply below_drew1) | exact HB.out)) hb); have n1_ := Aside0.mk (hbox); have n2_ := Aside0.mk ((by rw [hg]; exact (below_size (by repeat (first | (with_reducible first | exact HB.out | apply below_alloc | apply pw_below_drewN | apply below_drew1) | exact HB.out))) : w.heap.size ≤ gb264)); have n3_ := Aside0.mk ((by rw [hg]; exact (below_size (by repeat (first | (with_reducible first | exact HB.out | apply below_alloc | apply pw_below_drewN | apply below_drew1) | exact HB.out))) : w.heap.size ≤ gb264)); clear HB; have HB := n0_; have BK264 := n1_; have GW264 := n2_; have GE264 := n3_; clear n0_ n1_ n2_ n3_; clear hb hbox hg; have hcz11_0 : w10.cell? ⟨gb264, 0, none⟩ = some (.int .u8 a0_0) := (blk_cell BK264.out 0).trans rfl; have hcz11_1 : w10.cell? ⟨gb264, 1, none⟩ = some (.string a0_1) := (blk_cell BK264.out 1).trans rfl; have hcz11_2 : w10.cell? ⟨gb264, 2, none⟩ = some (.int .i64 a0_2) := (blk_cell BK264.out 2).trans rfl; have hfz11_0 := blk_frozen BK264.out 0; have hfz11_1 := blk_frozen BK264.out 1; have hfz11_2 := blk_frozen BK264.out 2))
      go_ret
      exact ⟨by first | rfl | (simp [errW_none, errW_some] <;> rfl) | (simp [*, errW_none, errW_some] <;> rfl), by repeat (first | (with_reducible first | exact HB.out | apply below_alloc | apply pw_below_drewN | apply below_drew1 | refine below_set ?_ GE264.out) | exact HB.out)⟩
    · rw [if_neg c9] at H
      have c9b0 : (a0_0 == 2) = false := beq_eq_false_iff_ne.mpr c9
      have c9b1 : (a0_0 != 2) = true := bne_iff_ne.mpr c9
      by_cases c12 : a0_0 = 3
      · rw [if_pos c12] at H
        have c12b0 : (a0_0 == 3) = true := beq_iff_eq.mpr c12
        have c12b1 : (a0_0 != 3) = false := bne_eq_false_iff_eq.mpr c12
        clear c12
        by_cases c13 : a0_1.toList = ([] : List UInt8)
        · rw [if_pos c13] at H
          have c13b0 : (a0_1.toList == ([] : List UInt8)) = true := beq_iff_eq.mpr c13
          have c13b1 : (a0_1.toList != ([] : List UInt8)) = false := bne_eq_false_iff_eq.mpr c13
          have c13e2 : a0_1.toList.isEmpty = true := List.isEmpty_iff.2 c13
          have c13e3 : (!a0_1.toList.isEmpty) = false := by rw [c13e2]; rfl
          clear c13
          replace H := Option.bind_eq_some_iff.mp H
          obtain ⟨t266, A140, H⟩ := H
          replace H : (some (decide ((t266.length : Int) > 0))) = some r := H
          have A14 := Aside0.mk A140
          clear A140
          obtain rfl := Option.some.inj H
          go_enter Tryz.func28, Tryz.ntmps28
          go_wp2_with (first | ((with_reducible refine gate_dst (N := 1) rfl ?_); (try (refine gate_guard (by rfl) ?_; dsimp only)); refine box_event ?hg (N := 1) ?hd (cs := #[.int .u8 a0_0, .string a0_1, .int .i64 a0_2]) (t := 51) ?hr ?_; (case hd => rfl); (case hg => rfl); (case hr => first | (go_simp; done) | (go_simp; rfl)); intro gb264 hg w15 hbox hb; have n0_ := Aside0.mk (below_step (by repeat (first | (with_reducible first | exact HB.out | apply below_alloc | apply pw_below_drewN | apply below_drew1) | exact HB.out)) hb); have n1_ := Aside0.mk (hbox); have n2_ := Aside0.mk ((by rw [hg]; exact (below_size (by repeat (first | (with_reducible first | exact HB.out | apply below_alloc | apply pw_below_drewN | apply below_drew1) | exact HB.out))) : w.heap.size ≤ gb264)); have n3_ := Aside0.mk ((by rw [hg]; exact (below_size (by repeat (first | (with_reducible first | exact HB.out | apply below_alloc | apply pw_below_drewN | apply below_drew1) | exact HB.out))) : w.heap.size ≤ gb264)); clear HB; have HB := n0_; have BK264 := n1_; have GW264 := n2_; have GE264 := n3_; clear n0_ n1_ n2_ n3_; clear hb hbox hg; have hcz16_0 : w15.cell? ⟨gb264, 0, none⟩ = some (.int .u8 a0_0) := (blk_cell BK264.out 0).trans rfl; have hcz16_1 : w15.cell? ⟨gb264, 1, none⟩ = some (.string a0_1) := (blk_cell BK264.out 1).trans rfl; have hcz16_2 : w15.cell? ⟨gb264, 2, none⟩ = some (.int .i64 a0_2) := (blk_cell BK264.out 2).trans rfl; have hfz16_0 := blk_frozen BK264.out 0; have hfz16_1 := blk_frozen BK264.out 1; have hfz16_2 := blk_frozen BK264.out 2) | (go_at_call 70; (with_reducible refine (epactref04_Texts.calls k a0_2 t266 _ A14.out).mono ?_); rintro e w17 ⟨v267, rfl, ho0, hb⟩; have n0_ := Aside0.mk (Kd.R_lower ho0 (below_size (by repeat (first | (with_reducible first | exact HB.out | apply below_alloc | apply pw_below_drewN | apply below_drew1 | refine below_set ?_ GE264.out) | exact HB.out)))); have n1_ := Aside0.mk (blk_below (g := gb264) (o := .cells #[.int .u8 a0_0, .string a0_1, .int .i64 a0_2] 51 (0, 0)) (by (with_reducible repeat (first | refine blk_drewN ?_ _ | refine blk_drew ?_ | refine blk_alloc ?_ _)); exact BK264.out) hb); have n2_ := Aside0.mk (below_step (by repeat (first | (with_reducible first | exact HB.out | apply below_alloc | apply pw_below_drewN | apply below_drew1 | refine below_set ?_ GE264.out) | exact HB.out)) hb); clear BK264; clear HB; have HO268 := n0_; have BK264 := n1_; have HB := n2_; clear n0_ n1_ n2_; (try clear hb); (try clear hb2); (try clear hk); (try clear hi); (try clear ho0); obtain ⟨Ao18, co18, eo18⟩ := Kd.R_slice HO268.out; subst eo18))
          go_ret
          exact ⟨by first | rfl | (simp [errW_none, errW_some] <;> rfl) | (simp [*, errW_none, errW_some] <;> rfl), by repeat (first | (with_reducible first | exact HB.out | apply below_alloc | apply pw_below_drewN | apply below_drew1 | refine below_set ?_ GE264.out) | exact HB.out)⟩
        · rw [if_neg c13] at H
          have c13b0 : (a0_1.toList == ([] : List UInt8)) = false := beq_eq_false_iff_ne.mpr c13
          have c13b1 : (a0_1.toList != ([] : List UInt8)) = true := bne_iff_ne.mpr c13
          have c13e2 : a0_1.toList.isEmpty = false := by rw [Bool.eq_false_iff]; exact fun h => c13 (List.isEmpty_iff.1 h)
          have c13e3 : (!a0_1.toList.isEmpty) = true := by rw [c13e2]; rfl
          obtain rfl := Option.some.inj H
          go_enter Tryz.func28, Tryz.ntmps28
          go_wp2_with (first | ((with_reducible refine gate_dst (N := 1) rfl ?_); (try (refine gate_guard (by rfl) ?_; dsimp only)); refine box_event ?hg (N := 1) ?hd (cs := #[.int .u8 a0_0, .string a0_1, .int .i64 a0_2]) (t := 51) ?hr ?_; (case hd => rfl); (case hg => rfl); (case hr => first | (go_simp; done) | (go_simp; rfl)); intro gb264 hg w19 hbox hb; have n0_ := Aside0.mk (below_step (by repeat (first | (with_reducible first | exact HB.out | apply below_alloc | apply pw_below_drewN | apply below_drew1) | exact HB.out)) hb); have n1_ := Aside0.mk (hbox); have n2_ := Aside0.mk ((by rw [hg]; exact (below_size (by repeat (first | (with_reducible first | exact HB.out | apply below_alloc | apply pw_below_drewN | apply below_drew1) | exact HB.out))) : w.heap.size ≤ gb264)); have n3_ := Aside0.mk ((by rw [hg]; exact (below_size (by repeat (first | (with_reducible first | exact HB.out | apply below_alloc | apply pw_below_drewN | apply below_drew1) | exact HB.out))) : w.heap.size ≤ gb264)); clear HB; have HB := n0_; have BK264 := n1_; have GW264 := n2_; have GE264 := n3_; clear n0_ n1_ n2_ n3_; clear hb hbox hg; have hcz20_0 : w19.cell? ⟨gb264, 0, none⟩ = some (.int .u8 a0_0) := (blk_cell BK264.out 0).trans rfl; have hcz20_1 : w19.cell? ⟨gb264, 1, none⟩ = some (.string a0_1) := (blk_cell BK264.out 1).trans rfl; have hcz20_2 : w19.cell? ⟨gb264, 2, none⟩ = some (.int .i64 a0_2) := (blk_cell BK264.out 2).trans rfl; have hfz20_0 := blk_frozen BK264.out 0; have hfz20_1 := blk_frozen BK264.out 1; have hfz20_2 := blk_frozen BK264.out 2))
          go_ret
          exact ⟨by first | rfl | (simp [errW_none, errW_some] <;> rfl) | (simp [*, errW_none, errW_some] <;> rfl), by repeat (first | (with_reducible first | exact HB.out | apply below_alloc | apply pw_below_drewN | apply below_drew1 | refine below_set ?_ GE264.out) | exact HB.out)⟩
      · rw [if_neg c12] at H
        have c12b0 : (a0_0 == 3) = false := beq_eq_false_iff_ne.mpr c12
        have c12b1 : (a0_0 != 3) = true := bne_iff_ne.mpr c12
        by_cases c21 : a0_0 = 4
        · rw [if_pos c21] at H
          have c21b0 : (a0_0 == 4) = true := beq_iff_eq.mpr c21
          have c21b1 : (a0_0 != 4) = false := bne_eq_false_iff_eq.mpr c21
          clear c21
          by_cases c22 : a0_2 = 0
          · rw [if_pos c22] at H
            have c22b0 : (a0_2 == 0) = true := beq_iff_eq.mpr c22
            have c22b1 : (a0_2 != 0) = false := bne_eq_false_iff_eq.mpr c22
            clear c22
            by_cases c23 : (a0_1.size : Int) = 1
            · rw [if_pos c23] at H
              have c23b0 : ((a0_1.size : Int) == 1) = true := beq_iff_eq.mpr c23
              have c23b1 : ((a0_1.size : Int) != 1) = false := bne_eq_false_iff_eq.mpr c23
              clear c23
              by_cases c24 : 0 < (a0_1.size : Int)
              · rw [if_pos c24] at H
                have c24b0 : decide (0 < (a0_1.size : Int)) = true := decide_eq_true c24
                have c24b1 : decide (0 < a0_1.size) = true := decide_eq_true (by omega)
                clear c24
                replace H := Option.bind_eq_some_iff.mp H
                obtain ⟨t269, A260, H⟩ := H
                replace H : (some t269) = some r := H
                have A26 := Aside0.mk A260
                clear A260
                obtain rfl := Option.some.inj H
                go_enter Tryz.func28, Tryz.ntmps28
                go_wp2_with (first | ((with_reducible refine gate_dst (N := 1) rfl ?_); (try (refine gate_guard (by rfl) ?_; dsimp only)); refine box_event ?hg (N := 1) ?hd (cs := #[.int .u8 a0_0, .string a0_1, .int .i64 a0_2]) (t := 51) ?hr ?_; (case hd => rfl); (case hg => rfl); (case hr => first | (go_simp; done) | (go_simp; rfl)); intro gb264 hg w27 hbox hb; have n0_ := Aside0.mk (below_step (by repeat (first | (with_reducible first | exact HB.out | apply below_alloc | apply pw_below_drewN | apply below_drew1) | exact HB.out)) hb); have n1_ := Aside0.mk (hbox); have n2_ := Aside0.mk ((by rw [hg]; exact (below_size (by repeat (first | (with_reducible first | exact HB.out | apply below_alloc | apply pw_below_drewN | apply below_drew1) | exact HB.out))) : w.heap.size ≤ gb264)); have n3_ := Aside0.mk ((by rw [hg]; exact (below_size (by repeat (first | (with_reducible first | exact HB.out | apply below_alloc | apply pw_below_drewN | apply below_drew1) | exact HB.out))) : w.heap.size ≤ gb264)); clear HB; have HB := n0_; have BK264 := n1_; have GW264 := n2_; have GE264 := n3_; clear n0_ n1_ n2_ n3_; clear hb hbox hg; have hcz28_0 : w27.cell? ⟨gb264, 0, none⟩ = some (.int .u8 a0_0) := (blk_cell BK264.out 0).trans rfl; have hcz28_1 : w27.cell? ⟨gb264, 1, none⟩ = some (.string a0_1) := (blk_cell BK264.out 1).trans rfl; have hcz28_2 : w27.cell? ⟨gb264, 2, none⟩ = some (.int .i64 a0_2) := (blk_cell BK264.out 2).trans rfl; have hfz28_0 := blk_frozen BK264.out 0; have hfz28_1 := blk_frozen BK264.out 1; have hfz28_2 := blk_frozen BK264.out 2; have p25 : 0 ≤ (0 : Int) := (by omega); have q25 : 0 < a0_1.size := (by have : (0 : Int) < (a0_1.size : Int) := of_decide_eq_true (by first | (with_reducible assumption) | assumption); omega); have hx25 : ∀ h : 0 < a0_1.size, ((a0_1[0]'h).toNat : Int) = bt a0_1 0 := bt_at a0_1 0; clear p25; have qi25 : (0 < (a0_1.size : Int)) = True := eq_true (of_decide_eq_true (by first | (with_reducible assumption) | assumption)); replace q25 := eq_true q25) | (go_at_call 71; (with_reducible refine (epactref10_mark.calls (bt a0_1 0) t269 _ A26.out).mono ?_); rintro e w' ⟨rfl, ⟨nd, rfl⟩⟩))
                go_ret
                exact ⟨by first | rfl | (simp [errW_none, errW_some] <;> rfl) | (simp [*, errW_none, errW_some] <;> rfl), by repeat (first | (with_reducible first | exact HB.out | apply below_alloc | apply pw_below_drewN | apply below_drew1 | refine below_set ?_ GE264.out) | exact HB.out)⟩
              · rw [if_neg c24] at H
                exact absurd H (by simp)
            · rw [if_neg c23] at H
              have c23b0 : ((a0_1.size : Int) == 1) = false := beq_eq_false_iff_ne.mpr c23
              have c23b1 : ((a0_1.size : Int) != 1) = true := bne_iff_ne.mpr c23
              obtain rfl := Option.some.inj H
              go_enter Tryz.func28, Tryz.ntmps28
              go_wp2_with (first | ((with_reducible refine gate_dst (N := 1) rfl ?_); (try (refine gate_guard (by rfl) ?_; dsimp only)); refine box_event ?hg (N := 1) ?hd (cs := #[.int .u8 a0_0, .string a0_1, .int .i64 a0_2]) (t := 51) ?hr ?_; (case hd => rfl); (case hg => rfl); (case hr => first | (go_simp; done) | (go_simp; rfl)); intro gb264 hg w29 hbox hb; have n0_ := Aside0.mk (below_step (by repeat (first | (with_reducible first | exact HB.out | apply below_alloc | apply pw_below_drewN | apply below_drew1) | exact HB.out)) hb); have n1_ := Aside0.mk (hbox); have n2_ := Aside0.mk ((by rw [hg]; exact (below_size (by repeat (first | (with_reducible first | exact HB.out | apply below_alloc | apply pw_below_drewN | apply below_drew1) | exact HB.out))) : w.heap.size ≤ gb264)); have n3_ := Aside0.mk ((by rw [hg]; exact (below_size (by repeat (first | (with_reducible first | exact HB.out | apply below_alloc | apply pw_below_drewN | apply below_drew1) | exact HB.out))) : w.heap.size ≤ gb264)); clear HB; have HB := n0_; have BK264 := n1_; have GW264 := n2_; have GE264 := n3_; clear n0_ n1_ n2_ n3_; clear hb hbox hg; have hcz30_0 : w29.cell? ⟨gb264, 0, none⟩ = some (.int .u8 a0_0) := (blk_cell BK264.out 0).trans rfl; have hcz30_1 : w29.cell? ⟨gb264, 1, none⟩ = some (.string a0_1) := (blk_cell BK264.out 1).trans rfl; have hcz30_2 : w29.cell? ⟨gb264, 2, none⟩ = some (.int .i64 a0_2) := (blk_cell BK264.out 2).trans rfl; have hfz30_0 := blk_frozen BK264.out 0; have hfz30_1 := blk_frozen BK264.out 1; have hfz30_2 := blk_frozen BK264.out 2))
              go_ret
              exact ⟨by first | rfl | (simp [errW_none, errW_some] <;> rfl) | (simp [*, errW_none, errW_some] <;> rfl), by repeat (first | (with_reducible first | exact HB.out | apply below_alloc | apply pw_below_drewN | apply below_drew1 | refine below_set ?_ GE264.out) | exact HB.out)⟩
          · rw [if_neg c22] at H
            have c22b0 : (a0_2 == 0) = false := beq_eq_false_iff_ne.mpr c22
            have c22b1 : (a0_2 != 0) = true := bne_iff_ne.mpr c22
            obtain rfl := Option.some.inj H
            go_enter Tryz.func28, Tryz.ntmps28
            go_wp2_with (first | ((with_reducible refine gate_dst (N := 1) rfl ?_); (try (refine gate_guard (by rfl) ?_; dsimp only)); refine box_event ?hg (N := 1) ?hd (cs := #[.int .u8 a0_0, .string a0_1, .int .i64 a0_2]) (t := 51) ?hr ?_; (case hd => rfl); (case hg => rfl); (case hr => first | (go_simp; done) | (go_simp; rfl)); intro gb264 hg w31 hbox hb; have n0_ := Aside0.mk (below_step (by repeat (first | (with_reducible first | exact HB.out | apply below_alloc | apply pw_below_drewN | apply below_drew1) | exact HB.out)) hb); have n1_ := Aside0.mk (hbox); have n2_ := Aside0.mk ((by rw [hg]; exact (below_size (by repeat (first | (with_reducible first | exact HB.out | apply below_alloc | apply pw_below_drewN | apply below_drew1) | exact HB.out))) : w.heap.size ≤ gb264)); have n3_ := Aside0.mk ((by rw [hg]; exact (below_size (by repeat (first | (with_reducible first | exact HB.out | apply below_alloc | apply pw_below_drewN | apply below_drew1) | exact HB.out))) : w.heap.size ≤ gb264)); clear HB; have HB := n0_; have BK264 := n1_; have GW264 := n2_; have GE264 := n3_; clear n0_ n1_ n2_ n3_; clear hb hbox hg; have hcz32_0 : w31.cell? ⟨gb264, 0, none⟩ = some (.int .u8 a0_0) := (blk_cell BK264.out 0).trans rfl; have hcz32_1 : w31.cell? ⟨gb264, 1, none⟩ = some (.string a0_1) := (blk_cell BK264.out 1).trans rfl; have hcz32_2 : w31.cell? ⟨gb264, 2, none⟩ = some (.int .i64 a0_2) := (blk_cell BK264.out 2).trans rfl; have hfz32_0 := blk_frozen BK264.out 0; have hfz32_1 := blk_frozen BK264.out 1; have hfz32_2 := blk_frozen BK264.out 2))
            go_ret
            exact ⟨by first | rfl | (simp [errW_none, errW_some] <;> rfl) | (simp [*, errW_none, errW_some] <;> rfl), by repeat (first | (with_reducible first | exact HB.out | apply below_alloc | apply pw_below_drewN | apply below_drew1 | refine below_set ?_ GE264.out) | exact HB.out)⟩
        · rw [if_neg c21] at H
          have c21b0 : (a0_0 == 4) = false := beq_eq_false_iff_ne.mpr c21
          have c21b1 : (a0_0 != 4) = true := bne_iff_ne.mpr c21
          obtain rfl := Option.some.inj H
          go_enter Tryz.func28, Tryz.ntmps28
          go_wp2_with (first | ((with_reducible refine gate_dst (N := 1) rfl ?_); (try (refine gate_guard (by rfl) ?_; dsimp only)); refine box_event ?hg (N := 1) ?hd (cs := #[.int .u8 a0_0, .string a0_1, .int .i64 a0_2]) (t := 51) ?hr ?_; (case hd => rfl); (case hg => rfl); (case hr => first | (go_simp; done) | (go_simp; rfl)); intro gb264 hg w33 hbox hb; have n0_ := Aside0.mk (below_step (by repeat (first | (with_reducible first | exact HB.out | apply below_alloc | apply pw_below_drewN | apply below_drew1) | exact HB.out)) hb); have n1_ := Aside0.mk (hbox); have n2_ := Aside0.mk ((by rw [hg]; exact (below_size (by repeat (first | (with_reducible first | exact HB.out | apply below_alloc | apply pw_below_drewN | apply below_drew1) | exact HB.out))) : w.heap.size ≤ gb264)); have n3_ := Aside0.mk ((by rw [hg]; exact (below_size (by repeat (first | (with_reducible first | exact HB.out | apply below_alloc | apply pw_below_drewN | apply below_drew1) | exact HB.out))) : w.heap.size ≤ gb264)); clear HB; have HB := n0_; have BK264 := n1_; have GW264 := n2_; have GE264 := n3_; clear n0_ n1_ n2_ n3_; clear hb hbox hg; have hcz34_0 : w33.cell? ⟨gb264, 0, none⟩ = some (.int .u8 a0_0) := (blk_cell BK264.out 0).trans rfl; have hcz34_1 : w33.cell? ⟨gb264, 1, none⟩ = some (.string a0_1) := (blk_cell BK264.out 1).trans rfl; have hcz34_2 : w33.cell? ⟨gb264, 2, none⟩ = some (.int .i64 a0_2) := (blk_cell BK264.out 2).trans rfl; have hfz34_0 := blk_frozen BK264.out 0; have hfz34_1 := blk_frozen BK264.out 1; have hfz34_2 := blk_frozen BK264.out 2))
          go_ret
          exact ⟨by first | rfl | (simp [errW_none, errW_some] <;> rfl) | (simp [*, errW_none, errW_some] <;> rfl), by repeat (first | (with_reducible first | exact HB.out | apply below_alloc | apply pw_below_drewN | apply below_drew1 | refine below_set ?_ GE264.out) | exact HB.out)⟩
def epactref10_told.f : Nat → Int → Option (ByteArray)
  | 0, _ => none
  | k + 1, a0 => if a0 < 0 then (if (wrap64 (Int.tdiv a0 10)) = 0 then ((epactref10_told.f k (wrap64 (-a0))).bind fun t270 => (if 1 + t270.size ≤ 9223372036854775807 then (some ((⟨#[45]⟩ : ByteArray) ++ t270)) else (none))) else ((epactref10_told.f k (wrap64 (Int.tdiv a0 10))).bind fun t271 => ((epactref10_told.f k (wrap64 (-(Int.tmod a0 10)))).bind fun t272 => (if t271.size + t272.size ≤ 9223372036854775807 then (some (t271 ++ t272)) else (none))))) else (if a0 < 10 then (some (strOfNums (([(48 + ((a0) % 256)) % 256] : List Int)))) else ((epactref10_told.f k (wrap64 (Int.tdiv a0 10))).bind fun t276 => ((epactref10_told.f k (Int.tmod a0 10)).bind fun t277 => (if t276.size + t277.size ≤ 9223372036854775807 then (some (t276 ++ t277)) else (none)))))
set_option maxHeartbeats 8000000 in
set_option maxRecDepth 100000 in
theorem epactref10_told.calls (k : Nat) : ∀ (a0 : Int) (r : ByteArray) (w : World) (h : epactref10_told.f k a0 = some r),
    Calls Tryz.prog 76 #[.int .i64 a0] w fun e w' => e = .returned (.string r) ∧ Below w.heap.size w w' := by
  induction k using Nat.strongRecOn with
  | _ k ih =>
  intro a0 r w h
  cases k with
  | zero => exact absurd h (by simp [epactref10_told.f])
  | succ k =>
  simp only [epactref10_told.f] at h
  have HB := Aside0.mk (Below.refl w.heap.size w)
  have H : (if a0 < 0 then (if (wrap64 (Int.tdiv a0 10)) = 0 then ((epactref10_told.f k (wrap64 (-a0))).bind fun t270 => (if 1 + t270.size ≤ 9223372036854775807 then (some ((⟨#[45]⟩ : ByteArray) ++ t270)) else (none))) else ((epactref10_told.f k (wrap64 (Int.tdiv a0 10))).bind fun t271 => ((epactref10_told.f k (wrap64 (-(Int.tmod a0 10)))).bind fun t272 => (if t271.size + t272.size ≤ 9223372036854775807 then (some (t271 ++ t272)) else (none))))) else (if a0 < 10 then (some (strOfNums (([(48 + ((a0) % 256)) % 256] : List Int)))) else ((epactref10_told.f k (wrap64 (Int.tdiv a0 10))).bind fun t276 => ((epactref10_told.f k (Int.tmod a0 10)).bind fun t277 => (if t276.size + t277.size ≤ 9223372036854775807 then (some (t276 ++ t277)) else (none)))))) = some r := h
  clear h
  by_cases c2 : a0 < 0
  · rw [if_pos c2] at H
    have c2b0 : decide (a0 < 0) = true := decide_eq_true c2
    clear c2
    by_cases c3 : (wrap64 (Int.tdiv a0 10)) = 0
    · rw [if_pos c3] at H
      have c3b0 : ((wrap64 (Int.tdiv a0 10)) == 0) = true := beq_iff_eq.mpr c3
      have c3b1 : ((wrap64 (Int.tdiv a0 10)) != 0) = false := bne_eq_false_iff_eq.mpr c3
      clear c3
      replace H := Option.bind_eq_some_iff.mp H
      obtain ⟨t270, A40, H⟩ := H
      replace H : (if 1 + t270.size ≤ 9223372036854775807 then (some ((⟨#[45]⟩ : ByteArray) ++ t270)) else (none)) = some r := H
      have A4 := Aside0.mk A40
      clear A40
      by_cases c5 : 1 + t270.size ≤ 9223372036854775807
      · rw [if_pos c5] at H
        have c5b0 := eq_true c5
        have c5b1 : decide (1 + t270.size ≤ 9223372036854775807) = true := decide_eq_true c5
        try have c5b2 : (9223372036854775807 < 1 + t270.size) = False := eq_false (Nat.not_lt.2 c5)
        obtain rfl := Option.some.inj H
        go_enter Tryz.func76, Tryz.ntmps76
        go_wp2_with (first | ((with_reducible refine gate_callee (f := 76) rfl ?_); refine goesL_ (some 10) rfl rfl Tryz.func76 (by kernel_rfl) rfl #[.int .i64 (wrap64 (-a0))] rfl (by (try simp only [List.map_toArray, List.map_cons, List.map_nil]); first | done | rfl | (simp only [List.length_drop, List.length_take]; rfl)) ?_; (with_reducible refine (ih k (by omega) (wrap64 (-a0)) t270 _ A4.out).mono ?_); rintro e w6 ⟨rfl, hb⟩; refine ⟨_, rfl, ?_⟩; have n0_ := Aside0.mk (below_step (by repeat (first | (with_reducible first | exact HB.out | apply below_alloc | apply pw_below_drewN | apply below_drew1) | exact HB.out)) hb); clear HB; have HB := n0_; clear n0_; (try clear hb); (try clear hb2); (try clear hk); (try clear hi)))
        go_ret
        exact ⟨by first | rfl | (simp [errW_none, errW_some] <;> rfl) | (simp [*, errW_none, errW_some] <;> rfl), by repeat (first | (with_reducible first | exact HB.out | apply below_alloc | apply pw_below_drewN | apply below_drew1) | exact HB.out)⟩
      · rw [if_neg c5] at H
        exact absurd H (by simp)
    · rw [if_neg c3] at H
      have c3b0 : ((wrap64 (Int.tdiv a0 10)) == 0) = false := beq_eq_false_iff_ne.mpr c3
      have c3b1 : ((wrap64 (Int.tdiv a0 10)) != 0) = true := bne_iff_ne.mpr c3
      replace H := Option.bind_eq_some_iff.mp H
      obtain ⟨t271, A70, H⟩ := H
      replace H : ((epactref10_told.f k (wrap64 (-(Int.tmod a0 10)))).bind fun t272 => (if t271.size + t272.size ≤ 9223372036854775807 then (some (t271 ++ t272)) else (none))) = some r := H
      have A7 := Aside0.mk A70
      clear A70
      replace H := Option.bind_eq_some_iff.mp H
      obtain ⟨t272, A80, H⟩ := H
      replace H : (if t271.size + t272.size ≤ 9223372036854775807 then (some (t271 ++ t272)) else (none)) = some r := H
      have A8 := Aside0.mk A80
      clear A80
      by_cases c9 : t271.size + t272.size ≤ 9223372036854775807
      · rw [if_pos c9] at H
        have c9b0 := eq_true c9
        have c9b1 : decide (t271.size + t272.size ≤ 9223372036854775807) = true := decide_eq_true c9
        try have c9b2 : (9223372036854775807 < t271.size + t272.size) = False := eq_false (Nat.not_lt.2 c9)
        obtain rfl := Option.some.inj H
        go_enter Tryz.func76, Tryz.ntmps76
        go_wp2_with (first | ((with_reducible refine gate_callee (f := 76) rfl ?_); refine goesL_ (some 14) rfl rfl Tryz.func76 (by kernel_rfl) rfl #[.int .i64 (wrap64 (Int.tdiv a0 10))] rfl (by (try simp only [List.map_toArray, List.map_cons, List.map_nil]); first | done | rfl | (simp only [List.length_drop, List.length_take]; rfl)) ?_; (with_reducible refine (ih k (by omega) (wrap64 (Int.tdiv a0 10)) t271 _ A7.out).mono ?_); rintro e w10 ⟨rfl, hb⟩; refine ⟨_, rfl, ?_⟩; have n0_ := Aside0.mk (below_step (by repeat (first | (with_reducible first | exact HB.out | apply below_alloc | apply pw_below_drewN | apply below_drew1) | exact HB.out)) hb); clear HB; have HB := n0_; clear n0_; (try clear hb); (try clear hb2); (try clear hk); (try clear hi)) | ((with_reducible refine gate_callee (f := 76) rfl ?_); refine goesL_ (some 18) rfl rfl Tryz.func76 (by kernel_rfl) rfl #[.int .i64 (wrap64 (-(Int.tmod a0 10)))] rfl (by (try simp only [List.map_toArray, List.map_cons, List.map_nil]); first | done | rfl | (simp only [List.length_drop, List.length_take]; rfl)) ?_; (with_reducible refine (ih k (by omega) (wrap64 (-(Int.tmod a0 10))) t272 _ A8.out).mono ?_); rintro e w11 ⟨rfl, hb⟩; refine ⟨_, rfl, ?_⟩; have n0_ := Aside0.mk (below_step (by repeat (first | (with_reducible first | exact HB.out | apply below_alloc | apply pw_below_drewN | apply below_drew1) | exact HB.out)) hb); clear HB; have HB := n0_; clear n0_; (try clear hb); (try clear hb2); (try clear hk); (try clear hi)))
        go_ret
        exact ⟨by first | rfl | (simp [errW_none, errW_some] <;> rfl) | (simp [*, errW_none, errW_some] <;> rfl), by repeat (first | (with_reducible first | exact HB.out | apply below_alloc | apply pw_below_drewN | apply below_drew1) | exact HB.out)⟩
      · rw [if_neg c9] at H
        exact absurd H (by simp)
  · rw [if_neg c2] at H
    have c2b0 : decide (a0 < 0) = false := decide_eq_false c2
    clear c2
    by_cases c12 : a0 < 10
    · rw [if_pos c12] at H
      have c12b0 : decide (a0 < 10) = true := decide_eq_true c12
      clear c12
      obtain ⟨y273, hy273⟩ : ∃ y_ : List Int, y_ = (([(48 + ((a0) % 256)) % 256] : List Int)) := ⟨_, rfl⟩
      replace H : (some (strOfNums y273)) = some r := by first | (rw [hy273]; with_reducible exact H) | (have H2_ := (Option.bind_some _ _).symm.trans H; rw [hy273]; with_reducible exact H2_) | (have H2_ := (Option.bind_some _ _).symm.trans H; with_reducible exact H2_) | with_reducible exact H | (rw [hy273]; exact H) | exact H
      have Ny273 := Aside0.mk hy273
      clear hy273
      obtain rfl := Option.some.inj H
      go_enter Tryz.func76, Tryz.ntmps76
      go_wp2_with (first | ((with_reducible refine gate_dst (N := 25) rfl ?_); refine Kd.R_lit (Kd.int .u8) _ 5 ?hg (N := 25) ?hd (xs := ([(48 + ((a0) % 256)) % 256] : List Int)) (inner := [.int .u8 ((48 + ((a0) % 256)) % 256)]) (ok := fun _ => True) (okp := fun _ => True) ?hr ?hp (fun _ hk => hk) trivial (Below.refl _ _) (Nat.le_refl _) (by simp) ?_; (case hd => rfl); (case hg => rfl); (case hr => first | (go_simp; done) | (go_simp; rfl)); (case hp => exact (Reps.one (show Kd.M (Kd.int .u8) _ _ _ ((48 + ((a0) % 256)) % 256) [.int .u8 ((48 + ((a0) % 256)) % 256)] from rfl) (Reps.none _ _))); intro v274 w13 ho14 hb hg_ hnew_; clear hg_ hnew_; (first | rw [← Ny273.out] at ho14 | (simp only [Int.reduceToNat] at ho14; rw [← Ny273.out] at ho14)); have n0_ := Aside0.mk (Kd.R_lower ho14 (below_size (by repeat (first | (with_reducible first | exact HB.out | apply below_alloc | apply pw_below_drewN | apply below_drew1) | exact HB.out)))); have n1_ := Aside0.mk (below_step (by repeat (first | (with_reducible first | exact HB.out | apply below_alloc | apply pw_below_drewN | apply below_drew1) | exact HB.out)) hb); clear HB; have HO275 := n0_; have HB := n1_; clear n0_ n1_; clear hb ho14; have hcv15 := own_string (P := Tryz.prog) Tryz.underlying69 Tryz.underlying5 Tryz.underlying9 (Kd.own_of_R HO275.out)))
      go_ret
      exact ⟨by first | rfl | (simp [errW_none, errW_some] <;> rfl) | (simp [*, errW_none, errW_some] <;> rfl), by repeat (first | (with_reducible first | exact HB.out | apply below_alloc | apply pw_below_drewN | apply below_drew1) | exact HB.out)⟩
    · rw [if_neg c12] at H
      have c12b0 : decide (a0 < 10) = false := decide_eq_false c12
      clear c12
      replace H := Option.bind_eq_some_iff.mp H
      obtain ⟨t276, A160, H⟩ := H
      replace H : ((epactref10_told.f k (Int.tmod a0 10)).bind fun t277 => (if t276.size + t277.size ≤ 9223372036854775807 then (some (t276 ++ t277)) else (none))) = some r := H
      have A16 := Aside0.mk A160
      clear A160
      replace H := Option.bind_eq_some_iff.mp H
      obtain ⟨t277, A170, H⟩ := H
      replace H : (if t276.size + t277.size ≤ 9223372036854775807 then (some (t276 ++ t277)) else (none)) = some r := H
      have A17 := Aside0.mk A170
      clear A170
      by_cases c18 : t276.size + t277.size ≤ 9223372036854775807
      · rw [if_pos c18] at H
        have c18b0 := eq_true c18
        have c18b1 : decide (t276.size + t277.size ≤ 9223372036854775807) = true := decide_eq_true c18
        try have c18b2 : (9223372036854775807 < t276.size + t277.size) = False := eq_false (Nat.not_lt.2 c18)
        obtain rfl := Option.some.inj H
        go_enter Tryz.func76, Tryz.ntmps76
        go_wp2_with (first | ((with_reducible refine gate_callee (f := 76) rfl ?_); refine goesL_ (some 29) rfl rfl Tryz.func76 (by kernel_rfl) rfl #[.int .i64 (wrap64 (Int.tdiv a0 10))] rfl (by (try simp only [List.map_toArray, List.map_cons, List.map_nil]); first | done | rfl | (simp only [List.length_drop, List.length_take]; rfl)) ?_; (with_reducible refine (ih k (by omega) (wrap64 (Int.tdiv a0 10)) t276 _ A16.out).mono ?_); rintro e w19 ⟨rfl, hb⟩; refine ⟨_, rfl, ?_⟩; have n0_ := Aside0.mk (below_step (by repeat (first | (with_reducible first | exact HB.out | apply below_alloc | apply pw_below_drewN | apply below_drew1) | exact HB.out)) hb); clear HB; have HB := n0_; clear n0_; (try clear hb); (try clear hb2); (try clear hk); (try clear hi)) | ((with_reducible refine gate_callee (f := 76) rfl ?_); refine goesL_ (some 32) rfl rfl Tryz.func76 (by kernel_rfl) rfl #[.int .i64 (Int.tmod a0 10)] rfl (by (try simp only [List.map_toArray, List.map_cons, List.map_nil]); first | done | rfl | (simp only [List.length_drop, List.length_take]; rfl)) ?_; (with_reducible refine (ih k (by omega) (Int.tmod a0 10) t277 _ A17.out).mono ?_); rintro e w20 ⟨rfl, hb⟩; refine ⟨_, rfl, ?_⟩; have n0_ := Aside0.mk (below_step (by repeat (first | (with_reducible first | exact HB.out | apply below_alloc | apply pw_below_drewN | apply below_drew1) | exact HB.out)) hb); clear HB; have HB := n0_; clear n0_; (try clear hb); (try clear hb2); (try clear hk); (try clear hi)))
        go_ret
        exact ⟨by first | rfl | (simp [errW_none, errW_some] <;> rfl) | (simp [*, errW_none, errW_some] <;> rfl), by repeat (first | (with_reducible first | exact HB.out | apply below_alloc | apply pw_below_drewN | apply below_drew1) | exact HB.out)⟩
      · rw [if_neg c18] at H
        exact absurd H (by simp)
mutual
def epactref10_Text.l0 : Nat → List (S51) → ByteArray → Int → Option (ByteArray)
  | 0, _, _, _ => none
  | k + 1, x0, x3, x4 => if x4 < (x0.length : Int) then (if 0 ≤ x4 then ((epactref10_Right.f k ((rd_T51 x0 x4).f0) ((rd_T51 x0 x4).f1) ((rd_T51 x0 x4).f2)).bind fun t279 => (if t279 = true then (if x3.toList = ([] : List UInt8) then (epactref10_Text.j1 k x0 x3 x4) else (if x3.size + 1 ≤ 9223372036854775807 then (epactref10_Text.j1 k x0 (x3 ++ (⟨#[32]⟩ : ByteArray)) x4) else (none))) else (epactref10_Text.l0 k x0 x3 (wrap64 (x4 + 1))))) else (none)) else (some x3)
def epactref10_Text.j1 : Nat → List (S51) → ByteArray → Int → Option (ByteArray)
  | 0, _, _, _ => none
  | k + 1, x0, x3, x4 => if 0 ≤ x4 then (if x4 < (x0.length : Int) then (if ((rd_T51 x0 x4).f0) = 2 then ((epactref10_told.f k ((rd_T51 x0 x4).f2)).bind fun t282 => (if x3.size + t282.size ≤ 9223372036854775807 then (epactref10_Text.l0 k x0 (x3 ++ t282) (wrap64 (x4 + 1))) else (none))) else (if ((rd_T51 x0 x4).f0) = 3 then (if x3.size + 1 ≤ 9223372036854775807 then ((epactref04_Texts.f k ((rd_T51 x0 x4).f2)).bind fun t284 => (if 0 < (t284.length : Int) then (if (x3 ++ (⟨#[64]⟩ : ByteArray)).size + (rdOf ByteArray.empty t284 0).size ≤ 9223372036854775807 then (epactref10_Text.l0 k x0 ((x3 ++ (⟨#[64]⟩ : ByteArray)) ++ (rdOf ByteArray.empty t284 0)) (wrap64 (x4 + 1))) else (none)) else (none))) else (none)) else (if x3.size + ((rd_T51 x0 x4).f1).size ≤ 9223372036854775807 then (epactref10_Text.l0 k x0 (x3 ++ ((rd_T51 x0 x4).f1)) (wrap64 (x4 + 1))) else (none)))) else (none)) else (none)
end
def epactref10_Text.f (k : Nat) (l0 : List (S51)) : Option (ByteArray) := epactref10_Text.l0 k l0 (⟨#[]⟩ : ByteArray) 0
set_option maxHeartbeats 8000000 in
set_option maxRecDepth 100000 in
theorem epactref10_Text.calls (k : Nat) (A0 : Option Addr) (c0 : Nat) (l0 : List (S51)) (r : ByteArray) (w : World) (hr0 : Kd.C k51 w A0 l0.length l0) (hc0 : l0.length ≤ c0) (h : epactref10_Text.f k l0 = some r) :
    Calls Tryz.prog 31 #[.slice A0 l0.length c0] w fun e w' => e = .returned (.string r) ∧ Below w.heap.size w w' := by
  have hu51 := Tryz.underlying51
  have HR0 := Aside0.mk hr0
  have HC0 := Aside0.mk hc0
  clear hr0 hc0
  have HB := Aside0.mk (Below.refl w.heap.size w)
  have H : (epactref10_Text.l0 k l0 (⟨#[]⟩ : ByteArray) 0) = some r := h
  clear h
  have H' := Aside0.mk H
  clear H
  go_enter Tryz.func31, Tryz.ntmps31
  go_wp2
  go_loopg [3, 4] k (fun kq v3 v4 w' => ∃ (x3_1 : ByteArray) (x4_1 : Int), v3 = .string x3_1 ∧ v4 = .int .i64 x4_1 ∧ Aside0 (epactref10_Text.l0 kq l0 x3_1 x4_1 = some r) ∧ Aside0 (kq ≤ k) ∧ Aside0 (Below w.heap.size w w'))
  case atStart => exact ⟨((⟨#[]⟩ : ByteArray)), (0), (by first | rfl | (simp; done) | (simp [*]; done)), (by first | rfl | (simp; done) | (simp [*]; done)), H', ⟨Nat.le_refl _⟩, ⟨by repeat (first | (with_reducible first | exact HB.out | apply below_alloc | apply pw_below_drewN | apply below_drew1) | exact HB.out)⟩⟩
  case round =>
    clear H'
    obtain ⟨x3_1, x4_1, rfl, rfl, HA, HK1, HB⟩ := hrel
    cases gk with
    | zero => exact absurd HA.out (by simp [epactref10_Text.l0])
    | succ k1 =>
      have H := HA.out
      clear HA
      simp only [epactref10_Text.l0] at H
      by_cases c2 : x4_1 < (l0.length : Int)
      · rw [if_pos c2] at H
        have c2b0 : decide (x4_1 < (l0.length : Int)) = true := decide_eq_true c2
        clear c2
        by_cases c3 : 0 ≤ x4_1
        · rw [if_pos c3] at H
          have c3b0 : decide (0 ≤ x4_1) = true := decide_eq_true c3
          clear c3
          replace H := Option.bind_eq_some_iff.mp H
          obtain ⟨t279, A40, H⟩ := H
          replace H : (if t279 = true then (if x3_1.toList = ([] : List UInt8) then (epactref10_Text.j1 k1 l0 x3_1 x4_1) else (if x3_1.size + 1 ≤ 9223372036854775807 then (epactref10_Text.j1 k1 l0 (x3_1 ++ (⟨#[32]⟩ : ByteArray)) x4_1) else (none))) else (epactref10_Text.l0 k1 l0 x3_1 (wrap64 (x4_1 + 1)))) = some r := H
          have A4 := Aside0.mk A40
          clear A40
          by_cases c5 : t279 = true
          · subst c5
            have H1 : (if x3_1.toList = ([] : List UInt8) then (epactref10_Text.j1 k1 l0 x3_1 x4_1) else (if x3_1.size + 1 ≤ 9223372036854775807 then (epactref10_Text.j1 k1 l0 (x3_1 ++ (⟨#[32]⟩ : ByteArray)) x4_1) else (none))) = some r := by rw [if_pos rfl] at H; exact H
            clear H
            have H := H1
            clear H1
            have HC6 := Aside0.mk H
            clear H
            have p278 : 0 ≤ (x4_1 : Int) := of_decide_eq_true (by first | (with_reducible assumption) | assumption)
            have q278 : x4_1 < (l0.length : Int) := of_decide_eq_true (by first | (with_reducible assumption) | assumption)
            obtain ⟨ad278, e278, hx278_0, hx278_1, hx278_2⟩ := at_T51 HR0.out x4_1 p278 q278
            cases e278
            replace hx278_0 := (HB.out.cell (World.block_lt_of_cell? w _ hx278_0)).trans hx278_0
            replace hx278_1 := (HB.out.cell (World.block_lt_of_cell? w _ hx278_1)).trans hx278_1
            replace hx278_2 := (HB.out.cell (World.block_lt_of_cell? w _ hx278_2)).trans hx278_2
            replace p278 := eq_true p278
            replace q278 := eq_true q278
            go_upto_if 18 with (first | ((with_reducible refine gate_callee (f := 28) rfl ?_); refine goesL_ (some 15) rfl rfl Tryz.func28 (by kernel_rfl) rfl #[.agg #[.int .u8 ((rd_T51 l0 x4_1).f0), .string ((rd_T51 l0 x4_1).f1), .int .i64 ((rd_T51 l0 x4_1).f2)]] rfl (by (try simp only [List.map_toArray, List.map_cons, List.map_nil]); first | done | rfl | (simp only [List.length_drop, List.length_take]; rfl)) ?_; (with_reducible refine (epactref10_Right.calls k1 ((rd_T51 l0 x4_1).f0) ((rd_T51 l0 x4_1).f1) ((rd_T51 l0 x4_1).f2) true _ A4.out).mono ?_); rintro e w7 ⟨rfl, hb⟩; refine ⟨_, rfl, ?_⟩; have n0_ := Aside0.mk (below_step (by repeat (first | (with_reducible first | exact HB.out | apply below_alloc | apply pw_below_drewN | apply below_drew1) | exact HB.out)) hb); clear HB; have HB := n0_; clear n0_; (try clear hb); (try clear hb2); (try clear hk); (try clear hi)))
            (try simp only [Act.put, List.setIfInBounds_toArray, List.set_cons_zero, List.set_cons_succ])
            go_cut [3] (fun v3 wc => ∃ (kq : Nat) (x3_5 : ByteArray), v3 = .string x3_5 ∧ Aside0 (epactref10_Text.j1 kq l0 x3_5 x4_1 = some r) ∧ Aside0 (kq ≤ k1) ∧ Aside0 (Below w.heap.size w wc))
            case first =>
              have H := HC6.out
              clear HC6
              by_cases c8 : x3_1.toList = ([] : List UInt8)
              · rw [if_pos c8] at H
                have c8b0 : (x3_1.toList == ([] : List UInt8)) = true := beq_iff_eq.mpr c8
                have c8b1 : (x3_1.toList != ([] : List UInt8)) = false := bne_eq_false_iff_eq.mpr c8
                have c8e2 : x3_1.toList.isEmpty = true := List.isEmpty_iff.2 c8
                have c8e3 : (!x3_1.toList.isEmpty) = false := by rw [c8e2]; rfl
                clear c8
                (first | rw [c8b0] | rw [c8e3] | rw [c8e2] | (simp only [i64_w, i32_w]; rw [c8b0]) | skip)
                have H' := Aside0.mk H
                clear H
                go_wp2
                go_meet
                case rel => exact ⟨_, (x3_1), (by first | rfl | (simp; done) | (simp [*]; done)), H', ⟨by have := HK1.out; first | omega | exact Nat.le_refl _⟩, ⟨by repeat (first | (with_reducible first | exact HB.out | apply below_alloc | apply pw_below_drewN | apply below_drew1) | exact HB.out)⟩⟩
              · rw [if_neg c8] at H
                have c8b0 : (x3_1.toList == ([] : List UInt8)) = false := beq_eq_false_iff_ne.mpr c8
                have c8b1 : (x3_1.toList != ([] : List UInt8)) = true := bne_iff_ne.mpr c8
                have c8e2 : x3_1.toList.isEmpty = false := by rw [Bool.eq_false_iff]; exact fun h => c8 (List.isEmpty_iff.1 h)
                have c8e3 : (!x3_1.toList.isEmpty) = true := by rw [c8e2]; rfl
                (first | rw [c8b0] | rw [c8e3] | rw [c8e2] | (simp only [i64_w, i32_w]; rw [c8b0]) | skip)
                by_cases c9 : x3_1.size + 1 ≤ 9223372036854775807
                · rw [if_pos c9] at H
                  have c9b0 := eq_true c9
                  have c9b1 : decide (x3_1.size + 1 ≤ 9223372036854775807) = true := decide_eq_true c9
                  try have c9b2 : (9223372036854775807 < x3_1.size + 1) = False := eq_false (Nat.not_lt.2 c9)
                  have H' := Aside0.mk H
                  clear H
                  go_wp2
                  go_meet
                  case rel => exact ⟨_, (x3_1 ++ (⟨#[32]⟩ : ByteArray)), (by first | rfl | (simp; done) | (simp [*]; done)), H', ⟨by have := HK1.out; first | omega | exact Nat.le_refl _⟩, ⟨by repeat (first | (with_reducible first | exact HB.out | apply below_alloc | apply pw_below_drewN | apply below_drew1) | exact HB.out)⟩⟩
                · rw [if_neg c9] at H
                  exact absurd H (by simp)
            case rest =>
              clear HC6
              try clear c2
              try clear c2b0
              try clear p2
              try clear q2
              try clear hx2
              try clear c3
              try clear c3b0
              try clear c5
              try clear p6
              try clear c8
              try clear c8b0
              try clear c8b1
              try clear c9
              try clear c9b0
              try clear c9b1
              try clear c9b2
              try clear hx278_0
              try clear hx278_1
              try clear hx278_2
              try clear p278
              try clear q278
              obtain ⟨kq, x3_5, rfl, HA, HJ5, HB⟩ := hcut
              cases kq with
              | zero => exact absurd HA.out (by simp [epactref10_Text.j1])
              | succ kj5 =>
                have H := HA.out
                clear HA
                simp only [epactref10_Text.j1] at H
                by_cases c10 : 0 ≤ x4_1
                · rw [if_pos c10] at H
                  have c10b0 : decide (0 ≤ x4_1) = true := decide_eq_true c10
                  clear c10
                  by_cases c11 : x4_1 < (l0.length : Int)
                  · rw [if_pos c11] at H
                    have c11b0 : decide (x4_1 < (l0.length : Int)) = true := decide_eq_true c11
                    clear c11
                    by_cases c12 : ((rd_T51 l0 x4_1).f0) = 2
                    · rw [if_pos c12] at H
                      have c12b0 : (((rd_T51 l0 x4_1).f0) == 2) = true := beq_iff_eq.mpr c12
                      have c12b1 : (((rd_T51 l0 x4_1).f0) != 2) = false := bne_eq_false_iff_eq.mpr c12
                      clear c12
                      replace H := Option.bind_eq_some_iff.mp H
                      obtain ⟨t282, A130, H⟩ := H
                      replace H : (if x3_5.size + t282.size ≤ 9223372036854775807 then (epactref10_Text.l0 kj5 l0 (x3_5 ++ t282) (wrap64 (x4_1 + 1))) else (none)) = some r := H
                      have A13 := Aside0.mk A130
                      clear A130
                      by_cases c14 : x3_5.size + t282.size ≤ 9223372036854775807
                      · rw [if_pos c14] at H
                        have c14b0 := eq_true c14
                        have c14b1 : decide (x3_5.size + t282.size ≤ 9223372036854775807) = true := decide_eq_true c14
                        try have c14b2 : (9223372036854775807 < x3_5.size + t282.size) = False := eq_false (Nat.not_lt.2 c14)
                        have H' := Aside0.mk H
                        clear H
                        have p280 : 0 ≤ (x4_1 : Int) := of_decide_eq_true (by first | (with_reducible assumption) | assumption)
                        have q280 : x4_1 < (l0.length : Int) := of_decide_eq_true (by first | (with_reducible assumption) | assumption)
                        obtain ⟨ad280, e280, hx280_0, hx280_1, hx280_2⟩ := at_T51 HR0.out x4_1 p280 q280
                        obtain rfl : ad278 = ad280 := (by injection e280)
                        replace hx280_0 := (HB.out.cell (World.block_lt_of_cell? w _ hx280_0)).trans hx280_0
                        replace hx280_1 := (HB.out.cell (World.block_lt_of_cell? w _ hx280_1)).trans hx280_1
                        replace hx280_2 := (HB.out.cell (World.block_lt_of_cell? w _ hx280_2)).trans hx280_2
                        replace p280 := eq_true p280
                        replace q280 := eq_true q280
                        have p281 : 0 ≤ (x4_1 : Int) := of_decide_eq_true (by first | (with_reducible assumption) | assumption)
                        have q281 : x4_1 < (l0.length : Int) := of_decide_eq_true (by first | (with_reducible assumption) | assumption)
                        obtain ⟨ad281, e281, hx281_0, hx281_1, hx281_2⟩ := at_T51 HR0.out x4_1 p281 q281
                        obtain rfl : ad278 = ad281 := (by injection e281)
                        replace hx281_0 := (HB.out.cell (World.block_lt_of_cell? w _ hx281_0)).trans hx281_0
                        replace hx281_1 := (HB.out.cell (World.block_lt_of_cell? w _ hx281_1)).trans hx281_1
                        replace hx281_2 := (HB.out.cell (World.block_lt_of_cell? w _ hx281_2)).trans hx281_2
                        replace p281 := eq_true p281
                        replace q281 := eq_true q281
                        go_wp2_with (first | ((with_reducible refine gate_callee (f := 76) rfl ?_); refine goesL_ (some 41) rfl rfl Tryz.func76 (by kernel_rfl) rfl #[.int .i64 ((rd_T51 l0 x4_1).f2)] rfl (by (try simp only [List.map_toArray, List.map_cons, List.map_nil]); first | done | rfl | (simp only [List.length_drop, List.length_take]; rfl)) ?_; (with_reducible refine (epactref10_told.calls kj5 ((rd_T51 l0 x4_1).f2) t282 _ A13.out).mono ?_); rintro e w15 ⟨rfl, hb⟩; refine ⟨_, rfl, ?_⟩; have n0_ := Aside0.mk (below_step (by repeat (first | (with_reducible first | exact HB.out | apply below_alloc | apply pw_below_drewN | apply below_drew1) | exact HB.out)) hb); clear HB; have HB := n0_; clear n0_; (try clear hb); (try clear hb2); (try clear hk); (try clear hi)))
                        go_roundg kj5
                        case measure => have := HK1.out; have := HJ5.out; omega
                        case rel => exact ⟨(x3_5 ++ t282), (wrap64 (x4_1 + 1)), (by first | rfl | (simp; done) | (simp [*]; done)), (by first | rfl | (simp; done) | (simp [*]; done)), H', ⟨by have := HK1.out; have := HJ5.out; omega⟩, ⟨by repeat (first | (with_reducible first | exact HB.out | apply below_alloc | apply pw_below_drewN | apply below_drew1) | exact HB.out)⟩⟩
                      · rw [if_neg c14] at H
                        exact absurd H (by simp)
                    · rw [if_neg c12] at H
                      have c12b0 : (((rd_T51 l0 x4_1).f0) == 2) = false := beq_eq_false_iff_ne.mpr c12
                      have c12b1 : (((rd_T51 l0 x4_1).f0) != 2) = true := bne_iff_ne.mpr c12
                      by_cases c16 : ((rd_T51 l0 x4_1).f0) = 3
                      · rw [if_pos c16] at H
                        have c16b0 : (((rd_T51 l0 x4_1).f0) == 3) = true := beq_iff_eq.mpr c16
                        have c16b1 : (((rd_T51 l0 x4_1).f0) != 3) = false := bne_eq_false_iff_eq.mpr c16
                        clear c16
                        by_cases c17 : x3_5.size + 1 ≤ 9223372036854775807
                        · rw [if_pos c17] at H
                          have c17b0 := eq_true c17
                          have c17b1 : decide (x3_5.size + 1 ≤ 9223372036854775807) = true := decide_eq_true c17
                          try have c17b2 : (9223372036854775807 < x3_5.size + 1) = False := eq_false (Nat.not_lt.2 c17)
                          replace H := Option.bind_eq_some_iff.mp H
                          obtain ⟨t284, A180, H⟩ := H
                          replace H : (if 0 < (t284.length : Int) then (if (x3_5 ++ (⟨#[64]⟩ : ByteArray)).size + (rdOf ByteArray.empty t284 0).size ≤ 9223372036854775807 then (epactref10_Text.l0 kj5 l0 ((x3_5 ++ (⟨#[64]⟩ : ByteArray)) ++ (rdOf ByteArray.empty t284 0)) (wrap64 (x4_1 + 1))) else (none)) else (none)) = some r := H
                          have A18 := Aside0.mk A180
                          clear A180
                          by_cases c19 : 0 < (t284.length : Int)
                          · rw [if_pos c19] at H
                            have c19b0 : decide (0 < (t284.length : Int)) = true := decide_eq_true c19
                            have c19b1 : decide (0 < t284.length) = true := decide_eq_true (by omega)
                            clear c19
                            by_cases c20 : (x3_5 ++ (⟨#[64]⟩ : ByteArray)).size + (rdOf ByteArray.empty t284 0).size ≤ 9223372036854775807
                            · rw [if_pos c20] at H
                              have c20b0 := eq_true c20
                              have c20b1 : decide ((x3_5 ++ (⟨#[64]⟩ : ByteArray)).size + (rdOf ByteArray.empty t284 0).size ≤ 9223372036854775807) = true := decide_eq_true c20
                              try have c20b2 : (9223372036854775807 < (x3_5 ++ (⟨#[64]⟩ : ByteArray)).size + (rdOf ByteArray.empty t284 0).size) = False := eq_false (Nat.not_lt.2 c20)
                              have H' := Aside0.mk H
                              clear H
                              have p280 : 0 ≤ (x4_1 : Int) := of_decide_eq_true (by first | (with_reducible assumption) | assumption)
                              have q280 : x4_1 < (l0.length : Int) := of_decide_eq_true (by first | (with_reducible assumption) | assumption)
                              obtain ⟨ad280, e280, hx280_0, hx280_1, hx280_2⟩ := at_T51 HR0.out x4_1 p280 q280
                              obtain rfl : ad278 = ad280 := (by injection e280)
                              replace hx280_0 := (HB.out.cell (World.block_lt_of_cell? w _ hx280_0)).trans hx280_0
                              replace hx280_1 := (HB.out.cell (World.block_lt_of_cell? w _ hx280_1)).trans hx280_1
                              replace hx280_2 := (HB.out.cell (World.block_lt_of_cell? w _ hx280_2)).trans hx280_2
                              replace p280 := eq_true p280
                              replace q280 := eq_true q280
                              have p283 : 0 ≤ (x4_1 : Int) := of_decide_eq_true (by first | (with_reducible assumption) | assumption)
                              have q283 : x4_1 < (l0.length : Int) := of_decide_eq_true (by first | (with_reducible assumption) | assumption)
                              obtain ⟨ad283, e283, hx283_0, hx283_1, hx283_2⟩ := at_T51 HR0.out x4_1 p283 q283
                              obtain rfl : ad278 = ad283 := (by injection e283)
                              replace hx283_0 := (HB.out.cell (World.block_lt_of_cell? w _ hx283_0)).trans hx283_0
                              replace hx283_1 := (HB.out.cell (World.block_lt_of_cell? w _ hx283_1)).trans hx283_1
                              replace hx283_2 := (HB.out.cell (World.block_lt_of_cell? w _ hx283_2)).trans hx283_2
                              replace p283 := eq_true p283
                              replace q283 := eq_true q283
                              go_wp2_with (first | ((with_reducible refine gate_callee (f := 70) rfl ?_); refine goesL_ (some 52) rfl rfl Tryz.func70 (by kernel_rfl) rfl #[.int .i64 ((rd_T51 l0 x4_1).f2)] rfl (by (try simp only [List.map_toArray, List.map_cons, List.map_nil]); first | done | rfl | (simp only [List.length_drop, List.length_take]; rfl)) ?_; (with_reducible refine (epactref04_Texts.calls kj5 ((rd_T51 l0 x4_1).f2) t284 _ A18.out).mono ?_); rintro e w21 ⟨v285, rfl, ho0, hb⟩; refine ⟨_, rfl, ?_⟩; have n0_ := Aside0.mk (Kd.R_lower ho0 (below_size (by repeat (first | (with_reducible first | exact HB.out | apply below_alloc | apply pw_below_drewN | apply below_drew1) | exact HB.out)))); have n1_ := Aside0.mk (below_step (by repeat (first | (with_reducible first | exact HB.out | apply below_alloc | apply pw_below_drewN | apply below_drew1) | exact HB.out)) hb); clear HB; have HO286 := n0_; have HB := n1_; clear n0_ n1_; (try clear hb); (try clear hb2); (try clear hk); (try clear hi); (try clear ho0); obtain ⟨Ao22, co22, eo22⟩ := Kd.R_slice HO286.out; subst eo22; have p287 : 0 ≤ (0 : Int) := (by omega); have q287 : 0 < (t284.length : Int) := of_decide_eq_true (by first | (with_reducible assumption) | assumption); obtain ⟨ad287, e287, hx287_0⟩ := Kd.at_string (Kd.R_reads' HO286.out).2.2 0 p287 q287; cases e287; have qi287 : (0 < t284.length) = True := eq_true (by omega); (try rw [show ((0 : Int)).toNat = 0 from rfl] at hx287_0); (try rw [Addr.add_zero'] at hx287_0); replace p287 := eq_true p287; replace q287 := eq_true q287))
                              go_roundg kj5
                              case measure => have := HK1.out; have := HJ5.out; omega
                              case rel => exact ⟨((x3_5 ++ (⟨#[64]⟩ : ByteArray)) ++ (rdOf ByteArray.empty t284 0)), (wrap64 (x4_1 + 1)), (by first | rfl | (simp; done) | (simp [*]; done)), (by first | rfl | (simp; done) | (simp [*]; done)), H', ⟨by have := HK1.out; have := HJ5.out; omega⟩, ⟨by repeat (first | (with_reducible first | exact HB.out | apply below_alloc | apply pw_below_drewN | apply below_drew1) | exact HB.out)⟩⟩
                            · rw [if_neg c20] at H
                              exact absurd H (by simp)
                          · rw [if_neg c19] at H
                            exact absurd H (by simp)
                        · rw [if_neg c17] at H
                          exact absurd H (by simp)
                      · rw [if_neg c16] at H
                        have c16b0 : (((rd_T51 l0 x4_1).f0) == 3) = false := beq_eq_false_iff_ne.mpr c16
                        have c16b1 : (((rd_T51 l0 x4_1).f0) != 3) = true := bne_iff_ne.mpr c16
                        by_cases c23 : x3_5.size + ((rd_T51 l0 x4_1).f1).size ≤ 9223372036854775807
                        · rw [if_pos c23] at H
                          have c23b0 := eq_true c23
                          have c23b1 : decide (x3_5.size + ((rd_T51 l0 x4_1).f1).size ≤ 9223372036854775807) = true := decide_eq_true c23
                          try have c23b2 : (9223372036854775807 < x3_5.size + ((rd_T51 l0 x4_1).f1).size) = False := eq_false (Nat.not_lt.2 c23)
                          have H' := Aside0.mk H
                          clear H
                          have p280 : 0 ≤ (x4_1 : Int) := of_decide_eq_true (by first | (with_reducible assumption) | assumption)
                          have q280 : x4_1 < (l0.length : Int) := of_decide_eq_true (by first | (with_reducible assumption) | assumption)
                          obtain ⟨ad280, e280, hx280_0, hx280_1, hx280_2⟩ := at_T51 HR0.out x4_1 p280 q280
                          obtain rfl : ad278 = ad280 := (by injection e280)
                          replace hx280_0 := (HB.out.cell (World.block_lt_of_cell? w _ hx280_0)).trans hx280_0
                          replace hx280_1 := (HB.out.cell (World.block_lt_of_cell? w _ hx280_1)).trans hx280_1
                          replace hx280_2 := (HB.out.cell (World.block_lt_of_cell? w _ hx280_2)).trans hx280_2
                          replace p280 := eq_true p280
                          replace q280 := eq_true q280
                          have p288 : 0 ≤ (x4_1 : Int) := of_decide_eq_true (by first | (with_reducible assumption) | assumption)
                          have q288 : x4_1 < (l0.length : Int) := of_decide_eq_true (by first | (with_reducible assumption) | assumption)
                          obtain ⟨ad288, e288, hx288_0, hx288_1, hx288_2⟩ := at_T51 HR0.out x4_1 p288 q288
                          obtain rfl : ad278 = ad288 := (by injection e288)
                          replace hx288_0 := (HB.out.cell (World.block_lt_of_cell? w _ hx288_0)).trans hx288_0
                          replace hx288_1 := (HB.out.cell (World.block_lt_of_cell? w _ hx288_1)).trans hx288_1
                          replace hx288_2 := (HB.out.cell (World.block_lt_of_cell? w _ hx288_2)).trans hx288_2
                          replace p288 := eq_true p288
                          replace q288 := eq_true q288
                          go_wp2
                          go_roundg kj5
                          case measure => have := HK1.out; have := HJ5.out; omega
                          case rel => exact ⟨(x3_5 ++ ((rd_T51 l0 x4_1).f1)), (wrap64 (x4_1 + 1)), (by first | rfl | (simp; done) | (simp [*]; done)), (by first | rfl | (simp; done) | (simp [*]; done)), H', ⟨by have := HK1.out; have := HJ5.out; omega⟩, ⟨by repeat (first | (with_reducible first | exact HB.out | apply below_alloc | apply pw_below_drewN | apply below_drew1) | exact HB.out)⟩⟩
                        · rw [if_neg c23] at H
                          exact absurd H (by simp)
                  · rw [if_neg c11] at H
                    exact absurd H (by simp)
                · rw [if_neg c10] at H
                  exact absurd H (by simp)
          · replace c5 := Bool.eq_false_iff.mpr c5
            subst c5
            have H1 : (epactref10_Text.l0 k1 l0 x3_1 (wrap64 (x4_1 + 1))) = some r := by rw [if_neg (show ¬ (false = true) by decide)] at H; exact H
            clear H
            have H := H1
            clear H1
            have H' := Aside0.mk H
            clear H
            have p278 : 0 ≤ (x4_1 : Int) := of_decide_eq_true (by first | (with_reducible assumption) | assumption)
            have q278 : x4_1 < (l0.length : Int) := of_decide_eq_true (by first | (with_reducible assumption) | assumption)
            obtain ⟨ad278, e278, hx278_0, hx278_1, hx278_2⟩ := at_T51 HR0.out x4_1 p278 q278
            cases e278
            replace hx278_0 := (HB.out.cell (World.block_lt_of_cell? w _ hx278_0)).trans hx278_0
            replace hx278_1 := (HB.out.cell (World.block_lt_of_cell? w _ hx278_1)).trans hx278_1
            replace hx278_2 := (HB.out.cell (World.block_lt_of_cell? w _ hx278_2)).trans hx278_2
            replace p278 := eq_true p278
            replace q278 := eq_true q278
            go_wp2_with (first | ((with_reducible refine gate_callee (f := 28) rfl ?_); refine goesL_ (some 15) rfl rfl Tryz.func28 (by kernel_rfl) rfl #[.agg #[.int .u8 ((rd_T51 l0 x4_1).f0), .string ((rd_T51 l0 x4_1).f1), .int .i64 ((rd_T51 l0 x4_1).f2)]] rfl (by (try simp only [List.map_toArray, List.map_cons, List.map_nil]); first | done | rfl | (simp only [List.length_drop, List.length_take]; rfl)) ?_; (with_reducible refine (epactref10_Right.calls k1 ((rd_T51 l0 x4_1).f0) ((rd_T51 l0 x4_1).f1) ((rd_T51 l0 x4_1).f2) false _ A4.out).mono ?_); rintro e w24 ⟨rfl, hb⟩; refine ⟨_, rfl, ?_⟩; have n0_ := Aside0.mk (below_step (by repeat (first | (with_reducible first | exact HB.out | apply below_alloc | apply pw_below_drewN | apply below_drew1) | exact HB.out)) hb); clear HB; have HB := n0_; clear n0_; (try clear hb); (try clear hb2); (try clear hk); (try clear hi)))
            go_roundg k1
            case measure => have := HK1.out; omega
            case rel => exact ⟨(x3_1), (wrap64 (x4_1 + 1)), (by first | rfl | (simp; done) | (simp [*]; done)), (by first | rfl | (simp; done) | (simp [*]; done)), H', ⟨by have := HK1.out; omega⟩, ⟨by repeat (first | (with_reducible first | exact HB.out | apply below_alloc | apply pw_below_drewN | apply below_drew1) | exact HB.out)⟩⟩
        · rw [if_neg c3] at H
          exact absurd H (by simp)
      · rw [if_neg c2] at H
        have c2b0 : decide (x4_1 < (l0.length : Int)) = false := decide_eq_false c2
        clear c2
        obtain rfl := Option.some.inj H
        go_wp2
        go_ret
        exact ⟨by first | rfl | (simp [errW_none, errW_some] <;> rfl) | (simp [*, errW_none, errW_some] <;> rfl), by repeat (first | (with_reducible first | exact HB.out | apply below_alloc | apply pw_below_drewN | apply below_drew1) | exact HB.out)⟩
end Go.Proofs.YtcinojbfjiohjaaGreatDoor.PPrintTells
end

section
namespace Go.Proofs.YtcinojbfjiohjaaGreatDoor.Lx
open Go Go.RowKit Go.Proofs.YtcinojbfjiohjaaGreatDoor.PPrintTells Go.Proofs.YtcinojbfjiohjaaGreatDoor.Ex Go.Proofs.YtcinojbfjiohjaaGreatDoor.Civ Go.Proofs.YtcinojbfjiohjaaGreatDoorW.PrintWords Go.Proofs.YtcinojbfjiohjaaGreatDoorW.PrintLast Go.Proofs.YtcinojbfjiohjaaGreatDoorW.PrintMore
set_option linter.unusedVariables false
set_option linter.unusedSimpArgs false
theorem mark_r (b : UInt8) : epactref10_mark.f (b.toNat : Int) = some (markB b) := by
  have := byte_all (fun b => epactref10_mark.f (b.toNat : Int) == some (markB b)) (by decide +kernel) b
  exact eq_of_beq this
theorem letter_r (b : UInt8) : epactref10_letter.f (b.toNat : Int) = some (letterB b) := by
  have := byte_all (fun b => epactref10_letter.f (b.toNat : Int) == some (letterB b)) (by decide +kernel) b
  exact eq_of_beq this
theorem alpha_eq (b : UInt8) : alphaB b = (letterB b && !digitB b) := by
  have := byte_all (fun b => alphaB b == (letterB b && !digitB b)) (by decide +kernel) b
  exact eq_of_beq this
theorem nameL_eq (l : List UInt8) : nameL l = (namedL l && l.all letterB) := by
  cases l with
  | nil => rfl
  | cons b l =>
    show (decide (l.length < 30) && alphaB b && l.all letterB) = ((decide (l.length < 30) && !digitB b) && (letterB b && l.all letterB))
    rw [alpha_eq]
    cases decide (l.length < 30) <;> cases digitB b <;> cases letterB b <;> rfl
theorem mono_up {α : Type} {f : Nat → Option α} (h : ∀ k, LeO (f k) (f (k + 1))) {k m : Nat} (hk : k ≤ m) {r : α} (hr : f k = some r) : f m = some r := by
  induction m with
  | zero =>
    obtain rfl : k = 0 := by omega
    exact hr
  | succ m ih =>
    by_cases h1 : k = m + 1
    · subst h1; exact hr
    · exact h m r (ih (by omega))
theorem Read_k (l : List UInt8) (hl : l.length ≤ 1000) (k : Nat) (hk : 2000000 ≤ k) : epactref04_Read.f k (toB l) = some (readF (toB l)) :=
  mono_up (f := fun k => epactref04_Read.f k (toB l)) (fun k => epactref04_Read.mono _ k) hk (Read_r l hl)
abbrev Four : Type := Int × ByteArray × Int × Int
def datA (l : List UInt8) (n : Nat) : Four := if (readF (toB ((l.drop 1).take (n - 1)))).2 = 0 then (3, nil8, (readF (toB ((l.drop 1).take (n - 1)))).1, (n : Int)) else (0, nil8, 0, 0)
theorem one_dat (l : List UInt8) (n k : Nat) (hl : l.length ≤ 1000) (h1 : 1 ≤ n) (hn : n ≤ l.length) (hk : 2000000 ≤ k) :
    ((epactref04_Read.f k ((toB l).extract 1 (n : Int).toNat)).bind fun bt246 => (if bt246.2 = 0 then (some (3, (⟨#[]⟩ : ByteArray), bt246.1, (n : Int))) else (some (0, (⟨#[]⟩ : ByteArray), 0, 0)))) = some (datA l n) := by
  rw [Int.toNat_natCast, ext_toB', Read_k _ (by rw [List.length_take, List.length_drop]; omega) k hk, Option.bind_some]
  unfold datA
  split <;> rfl
theorem one_l0 (q : List UInt8) : ∀ (k : Nat) (p : List UInt8), q.length + 2000000 < k → (p ++ q).length ≤ 1000 → 1 ≤ p.length →
    epactref10_one.l0 k (toB (p ++ q)) (p.length : Nat) = some (datA (p ++ q) (p.length + spanN dashB q)) := by
  induction q with
  | nil =>
    intro k p hk hl hp
    obtain ⟨k, rfl⟩ : ∃ m, k = m + 1 := ⟨k - 1, by omega⟩
    rw [epactref10_one.l0, texts_bytes, if_neg (by simp), if_pos (by omega), if_pos (by simp), one_dat (p ++ []) p.length k hl hp (by simp) (by simp at hk; omega)]
    rfl
  | cons b q ih =>
    intro k p hk hl hp
    obtain ⟨k, rfl⟩ : ∃ m, k = m + 1 := ⟨k - 1, by omega⟩
    have hb : bt (toB (p ++ b :: q)) (p.length : Nat) = (b.toNat : Int) := by
      rw [bt_toB _ _ (by simp)]
      simp
    have e2 : wrap64 ((p.length : Int) + 1) = (((p ++ [b]).length : Nat) : Int) := by
      rw [w64 (by simp at hl; omega) (by simp at hl; omega)]
      simp
    have e3 : p ++ b :: q = (p ++ [b]) ++ q := by simp
    have hgo := ih k (p ++ [b]) (by simp at hk; omega) (by rw [← e3]; exact hl) (by simp)
    rw [← e3, ← e2] at hgo
    rw [epactref10_one.l0, texts_bytes, if_pos (by simp; omega), if_pos (by omega), hb, letter_r, Option.bind_some]
    have hs : spanN dashB (b :: q) = if dashB b = true then spanN dashB q + 1 else 0 := rfl
    by_cases hd : dashB b = true
    · have e4 : p.length + spanN dashB (b :: q) = (p ++ [b]).length + spanN dashB q := by
        rw [hs, if_pos hd, List.length_append, List.length_singleton]
        omega
      rw [e4]
      by_cases h1 : letterB b = true
      · rw [if_pos h1, hgo]
      · have h45 : b.toNat = 45 := by
          unfold dashB at hd
          rw [Bool.or_eq_true, decide_eq_true_eq] at hd
          exact hd.resolve_right h1
        rw [if_neg h1, if_pos (by omega), hgo]
    · have h1 : ¬ letterB b = true := fun h => hd (by unfold dashB; rw [h, Bool.or_true])
      have h45 : ¬ b.toNat = 45 := fun h => hd (by unfold dashB; rw [decide_eq_true h, Bool.true_or])
      rw [if_neg h1, if_neg (by omega), if_pos (by omega), if_pos (by simp; omega), one_dat (p ++ b :: q) p.length k hl hp (by simp) (by simp at hk; omega), hs, if_neg hd]
      rfl
theorem one_l1 (q : List UInt8) : ∀ (k : Nat) (p : List UInt8), q.length < k → (p ++ q).length ≤ 1000 →
    ∃ k', k ≤ k' + q.length + 1 ∧ epactref10_one.l1 k (toB (p ++ q)) (p.length : Nat) = epactref10_one.j3 k' (toB (p ++ q)) ((p.length + spanN letterB q : Nat) : Int) := by
  induction q with
  | nil =>
    intro k p hk hl
    obtain ⟨k, rfl⟩ : ∃ m, k = m + 1 := ⟨k - 1, by omega⟩
    refine ⟨k, by omega, ?_⟩
    rw [epactref10_one.l1, texts_bytes, if_neg (by simp)]
    rfl
  | cons b q ih =>
    intro k p hk hl
    obtain ⟨k, rfl⟩ : ∃ m, k = m + 1 := ⟨k - 1, by omega⟩
    have hb : bt (toB (p ++ b :: q)) (p.length : Nat) = (b.toNat : Int) := by
      rw [bt_toB _ _ (by simp)]
      simp
    have e2 : wrap64 ((p.length : Int) + 1) = (((p ++ [b]).length : Nat) : Int) := by
      rw [w64 (by simp at hl; omega) (by simp at hl; omega)]
      simp
    have e3 : p ++ b :: q = (p ++ [b]) ++ q := by simp
    rw [epactref10_one.l1, texts_bytes, if_pos (by simp; omega), if_pos (by omega), hb, letter_r, Option.bind_some]
    have hs : spanN letterB (b :: q) = if letterB b = true then spanN letterB q + 1 else 0 := rfl
    by_cases hd : letterB b = true
    · obtain ⟨k', hk', hgo⟩ := ih k (p ++ [b]) (by simp at hk; omega) (by rw [← e3]; exact hl)
      rw [← e3, ← e2] at hgo
      refine ⟨k', by simp; omega, ?_⟩
      rw [if_pos hd, hgo, hs, if_pos hd, List.length_append, List.length_singleton]
      congr 2
      omega
    · refine ⟨k, by omega, ?_⟩
      rw [if_neg hd, hs, if_neg hd]
      rfl
theorem take_all (p : UInt8 → Bool) : ∀ l : List UInt8, (l.take (spanN p l)).all p = true
  | [] => rfl
  | b :: l => by
    have hs : spanN p (b :: l) = if p b = true then spanN p l + 1 else 0 := rfl
    by_cases h : p b = true
    · rw [hs, if_pos h, List.take_succ_cons, List.all_cons, h, take_all p l]
      rfl
    · rw [hs, if_neg h]
      rfl
/-- What the document's word that begins there is, and next's: the same. -/
def OneOk (x : Tok × Nat × Bool) (r : Four) : Prop := (x.2.2 = true → r = (x.1.f0, x.1.f1, x.1.f2, (x.2.1 : Int))) ∧ (x.2.2 = false → r.2.2.2 = 0)
theorem one_j3 (l : List UInt8) (b : UInt8) (t : List UInt8) (hl : l = b :: t) (n k : Nat) (hsz : l.length ≤ 1000) (hn : n ≤ l.length) (hk : 2000 ≤ k) (h64 : b.toNat ≠ 64) (hmk : ¬ markB b = true)
    (hnum : b.toNat = 45 ∨ digitB b = true → n = spanN letterB t + 1) (hnam : ¬ (b.toNat = 45 ∨ digitB b = true) → n = spanN letterB l) :
    ∃ r, epactref10_one.j3 k (toB l) (n : Nat) = some r ∧ OneOk (nextL l) r := by
  obtain ⟨k, rfl⟩ : ∃ m, k = m + 1 := ⟨k - 1, by omega⟩
  obtain ⟨k, rfl⟩ : ∃ m, k = m + 1 := ⟨k - 1, by omega⟩
  have hb : bt (toB l) 0 = (b.toNat : Int) := by
    have := bt_toB l 0 (by rw [hl]; simp)
    rw [show ((0 : Nat) : Int) = 0 from rfl] at this
    rw [this]
    simp [hl]
  have hlen : l.length = t.length + 1 := by rw [hl]; rfl
  have hj4 : epactref10_one.j3 (k + 2) (toB l) (n : Nat) = epactref10_one.j4 (k + 1) (toB l) (n : Nat) (decide (b.toNat = 45 ∨ digitB b = true)) := by
    rw [epactref10_one.j3, texts_bytes, if_pos (by omega), hb]
    by_cases h45 : b.toNat = 45
    · rw [if_pos (by omega), decide_eq_true (Or.inl h45)]
    · rw [if_neg (by omega), digit_r, Option.bind_some]
      congr 1
      rw [Bool.eq_iff_iff, decide_eq_true_eq]
      exact ⟨fun h => .inr h, fun h => h.resolve_left h45⟩
  have hx : (toB l).extract 0 (n : Int).toNat = toB (l.take n) := by
    rw [Int.toNat_natCast, ext_toB', List.drop_zero, Nat.sub_zero]
  have hnx := nextL_else hmk (l := t)
  rw [← hl] at hnx
  rw [if_neg h64] at hnx
  rw [hj4, epactref10_one.j4]
  by_cases hd : b.toNat = 45 ∨ digitB b = true
  · rw [decide_eq_true hd, if_pos rfl, if_pos (by omega), texts_bytes, if_pos (by omega), hx]
    rw [if_pos hd] at hnx
    have hn' := hnum hd
    have ht : l.take n = b :: t.take (spanN letterB t) := by rw [hn', hl, List.take_succ_cons]
    obtain ⟨r, hr, hok⟩ := ref_number (l.take n) (by rw [List.length_take]; omega) k (by rw [List.length_take]; omega)
    rw [hr, Option.bind_some]
    rw [ht] at hok
    obtain ⟨h1, h2⟩ := hok
    by_cases hb2 : r.2 = true
    · rw [if_pos hb2]
      refine ⟨_, rfl, ?_, ?_⟩
      · intro _
        rw [hnx]
        show _ = ((2 : Int), nil8, (numT (b :: t.take (spanN letterB t))).1, ((spanN letterB t + 1 : Nat) : Int))
        rw [h2 hb2, hn']
      · intro h
        rw [hnx] at h
        have h : (numT (b :: t.take (spanN letterB t))).2 = false := h
        rw [← h1, hb2] at h
        cases h
    · rw [if_neg hb2]
      refine ⟨_, rfl, ?_, ?_⟩
      · intro h
        rw [hnx] at h
        have h : (numT (b :: t.take (spanN letterB t))).2 = true := h
        rw [← h1] at h
        exact absurd h hb2
      · intro _
        rfl
  · rw [decide_eq_false hd, if_neg (by decide), if_pos (by omega), texts_bytes, if_pos (by omega), hx]
    rw [if_neg hd] at hnx
    have hn' := hnam hd
    have hnm : nameB (toB (l.take n)) = namedL (l.take n) := by
      unfold nameB
      rw [toB_list, nameL_eq, hn', take_all, Bool.and_true]
    rw [refName_f (toB (l.take n)) k (by omega), Option.bind_some, hnm]
    have hxx : nextL l = (⟨1, toB (l.take n), 0⟩, n, namedL (l.take n)) := by rw [hnx, hn']
    by_cases hb2 : namedL (l.take n) = true
    · rw [if_pos hb2]
      refine ⟨_, rfl, ?_, ?_⟩
      · intro _
        rw [hxx]
      · intro h
        rw [hxx] at h
        have h : namedL (l.take n) = false := h
        rw [hb2] at h; cases h
    · rw [if_neg hb2]
      refine ⟨_, rfl, ?_, ?_⟩
      · intro h
        rw [hxx] at h
        exact absurd h hb2
      · intro _
        rfl
theorem ref_one (b : UInt8) (t : List UInt8) (hsz : t.length ≤ 900) (k : Nat) (hk : 2010000 ≤ k) : ∃ r, epactref10_one.f k (toB (b :: t)) = some r ∧ OneOk (nextL (b :: t)) r := by
  have hb : bt (toB (b :: t)) 0 = (b.toNat : Int) := by
    have := bt_toB (b :: t) 0 (by simp)
    rw [show ((0 : Nat) : Int) = 0 from rfl] at this
    rw [this]
    simp
  obtain ⟨k, rfl⟩ : ∃ m, k = m + 1 := ⟨k - 1, by omega⟩
  unfold epactref10_one.f
  rw [texts_bytes, if_pos (by simp), hb, mark_r, Option.bind_some]
  by_cases hm : markB b = true
  · have hn : nextL (b :: t) = (⟨4, toB [b], 0⟩, 1, true) := by show (if markB b = true then _ else _) = _; rw [if_pos hm]
    have hx : (toB (b :: t)).extract 0 1 = toB [b] := by rw [ext_toB']; rfl
    rw [if_pos hm, if_pos (by omega), if_pos (by simp; omega), hx, hn]
    exact ⟨_, rfl, fun _ => rfl, fun h => by cases h⟩
  · rw [if_neg hm]
    have hnx := nextL_else hm (l := t)
    by_cases h64 : b.toNat = 64
    · rw [if_pos (by omega)]
      rw [if_pos h64] at hnx
      have h := one_l0 t (k + 1) [b] (by omega) (by simp; omega) (by simp)
      have h : epactref10_one.l0 (k + 1) (toB (b :: t)) 1 = some (datA (b :: t) (1 + spanN dashB t)) := h
      rw [h]
      refine ⟨_, rfl, ?_⟩
      rw [hnx]
      unfold datA OneOk
      rw [List.drop_one, List.tail_cons, show 1 + spanN dashB t - 1 = spanN dashB t by omega]
      dsimp only
      by_cases h0 : (readF (toB (t.take (spanN dashB t)))).2 = 0
      · rw [if_pos h0, decide_eq_true h0]
        refine ⟨fun _ => ?_, fun h => by cases h⟩
        rw [Nat.add_comm]
      · rw [if_neg h0, decide_eq_false h0]
        exact ⟨fun h => (by cases h), fun _ => rfl⟩
    · rw [if_neg (by omega)]
      by_cases h45 : b.toNat = 45
      · rw [if_pos (by omega), epactref10_one.j1]
        obtain ⟨k', hk', h⟩ := one_l1 t k [b] (by omega) (by simp; omega)
        have h : epactref10_one.l1 k (toB (b :: t)) 1 = epactref10_one.j3 k' (toB (b :: t)) ((1 + spanN letterB t : Nat) : Int) := h
        rw [h]
        have hs := span_le letterB t
        exact one_j3 (b :: t) b t rfl (1 + spanN letterB t) k' (by simp; omega) (by simp; omega) (by omega) h64 hm (fun _ => by omega) (fun h => absurd (Or.inl h45) h)
      · rw [if_neg (by omega), epactref10_one.j1]
        obtain ⟨k', hk', h⟩ := one_l1 (b :: t) k [] (by simp; omega) (by simp; omega)
        have h : epactref10_one.l1 k (toB (b :: t)) 0 = epactref10_one.j3 k' (toB (b :: t)) ((0 + spanN letterB (b :: t) : Nat) : Int) := h
        rw [Nat.zero_add] at h
        rw [h]
        have hs := span_le letterB (b :: t)
        refine one_j3 (b :: t) b t rfl (spanN letterB (b :: t)) k' (by simp; omega) hs (by simp at hk'; omega) h64 hm (fun hd => ?_) (fun _ => rfl)
        have hdg := hd.resolve_left h45
        show (if letterB b = true then spanN letterB t + 1 else 0) = _
        rw [if_pos (digit_letter b hdg)]
theorem blank_iff (b : UInt8) : blankB b = true ↔ (b.toNat = 32 ∨ b.toNat = 9) := by
  have := byte_all (fun b => blankB b == (decide (b.toNat = 32) || decide (b.toNat = 9))) (by decide +kernel) b
  rw [eq_of_beq this, Bool.or_eq_true, decide_eq_true_eq, decide_eq_true_eq]
set_option maxRecDepth 10000 in
theorem ref_words (K : Nat) (hK : 2010010 ≤ K) (N : Nat) : ∀ (q p : List UInt8) (ts : List Tok) (k : Nat), q.length ≤ N → (p ++ q).length ≤ 900 → ts.length ≤ p.length → 2 * q.length + K ≤ k →
    epactref10_Words.l0 k (toB (p ++ q)) ts (p.length : Nat) = some (finE ts p.length (lexL q)) := by
  induction N with
  | zero =>
    intro q p ts k hq hl ht hk
    obtain rfl : q = [] := List.eq_nil_of_length_eq_zero (by omega)
    obtain ⟨k, rfl⟩ : ∃ m, k = m + 1 := ⟨k - 1, by omega⟩
    rw [epactref10_Words.l0, texts_bytes, if_neg (by simp), lexL_nil]
    unfold finE
    rw [if_pos rfl, List.append_nil]
  | succ N ih =>
    intro q p ts k hq hl ht hk
    cases q with
    | nil => exact ih [] p ts k (Nat.zero_le _) hl ht hk
    | cons b q =>
      rw [List.length_cons] at hq hk
      obtain ⟨k, rfl⟩ : ∃ m, k = m + 2 := ⟨k - 2, by omega⟩
      have hk3 : ∀ m, m ≤ q.length → 2 * m + K ≤ k := fun m hm => by omega
      have hk4 : 2010000 ≤ k := by omega
      clear hk
      have hb : bt (toB (p ++ b :: q)) (p.length : Nat) = (b.toNat : Int) := by
        rw [bt_toB _ _ (by simp)]
        simp
      have hpl : p.length + q.length + 1 ≤ 900 := by simp at hl; omega
      have hj : epactref10_Words.l0 (k + 1 + 1) (toB (p ++ b :: q)) ts (p.length : Nat) = epactref10_Words.j1 (k + 1) (toB (p ++ b :: q)) ts (p.length : Nat) (blankB b) := by
        rw [epactref10_Words.l0, texts_bytes, if_pos (by simp; omega), if_pos (by omega), hb]
        by_cases h32 : b.toNat = 32
        · rw [if_pos (by omega), (blank_iff b).2 (.inl h32)]
        · rw [if_neg (by omega)]
          congr 1
          rw [Bool.eq_iff_iff, blank_iff, beq_iff_eq]
          omega
      rw [hj, epactref10_Words.j1, lexL_cons]
      by_cases hbl : blankB b = true
      · have e2 : wrap64 ((p.length : Int) + 1) = (((p ++ [b]).length : Nat) : Int) := by
          rw [w64 (by omega) (by omega)]
          simp
        have e3 : p ++ b :: q = (p ++ [b]) ++ q := by simp
        rw [if_pos hbl, if_pos hbl, fin_cons _ _ _ _ _ (lexL_ge q), e2, e3, ih q (p ++ [b]) ts k (by omega) (by rw [← e3]; exact hl) (by simp; omega) (hk3 _ (Nat.le_refl _)), List.append_nil, List.length_append, List.length_singleton]
      · have hx : (toB (p ++ b :: q)).extract ((p.length : Nat) : Int).toNat (p ++ b :: q).length = toB (b :: q) := by
          rw [Int.toNat_natCast, ext_toB', List.drop_left, List.take_of_length_le (by simp)]
        rw [if_neg hbl, if_neg hbl, if_pos (by omega), texts_bytes, if_pos (by simp; omega), hx]
        obtain ⟨r, hr, hok⟩ := ref_one b q (by omega) k hk4
        rw [hr, Option.bind_some]
        cases hnb : (nextL (b :: q)).2.2 with
        | true =>
          have hpos := next_pos hnb
          have he := hok.1 hnb
          rw [he, if_pos rfl]
          dsimp only
          rw [if_neg (by omega), if_pos (by omega)]
          obtain ⟨tk, n, ok, hnx⟩ : ∃ tk n ok, nextL (b :: q) = (tk, n, ok) := ⟨_, _, _, rfl⟩
          rw [hnx] at hpos ⊢
          dsimp only at hpos ⊢
          rw [fin_cons _ _ _ _ _ (lexL_ge _)]
          have hcut : p ++ b :: q = (p ++ (b :: q).take n) ++ q.drop (n - 1) := by
            rw [List.append_assoc]
            congr 1
            obtain ⟨m, rfl⟩ : ∃ m, n = m + 1 := ⟨n - 1, by omega⟩
            rw [List.take_succ_cons, Nat.add_sub_cancel, List.cons_append, List.take_append_drop]
          have hlen : (p ++ (b :: q).take n).length = p.length + n := by
            rw [List.length_append, List.length_take, List.length_cons, Nat.min_eq_left (by omega)]
          have e2 : wrap64 ((p.length : Int) + (n : Int)) = (((p ++ (b :: q).take n).length : Nat) : Int) := by
            rw [w64 (by omega) (by omega), hlen]
            omega
          have hdl : (q.drop (n - 1)).length ≤ q.length := by rw [List.length_drop]; omega
          have h := ih (q.drop (n - 1)) (p ++ (b :: q).take n) (ts ++ [tk]) k (by omega) (by rw [← hcut]; exact hl) (by rw [hlen, List.length_append, List.length_singleton]; exact Nat.add_le_add ht hpos.1) (hk3 _ hdl)
          rw [e2, hcut, h, hlen]
        | false =>
          rw [if_pos (hok.2 hnb), if_neg (by decide)]
          unfold finE
          rw [if_neg (by show ¬ ((0 : Int) = -1); decide)]
          show some (([] : List Tok), ((p.length : Nat) : Int)) = some ([], ((p.length : Nat) : Int) + 0)
          rw [Int.add_zero]
/-- The document's words of a line. -/
theorem Words_r (s : ByteArray) (hs : s.size ≤ 500) (k : Nat) (hk : 2100000 ≤ k) : epactref10_Words.f k s = some (lexL s.data.toList) := by
  have hl : s.size = s.data.toList.length := (Array.length_toList).symm
  have h := ref_words 2010010 (Nat.le_refl _) s.data.toList.length s.data.toList [] [] k (Nat.le_refl _) (by simp; omega) (Nat.le_refl _) (by omega)
  have e : toB s.data.toList = s := by cases s; rfl
  rw [List.nil_append, e] at h
  unfold epactref10_Words.f
  have h : epactref10_Words.l0 k s [] 0 = some (finE [] 0 (lexL s.data.toList)) := h
  rw [h]
  congr 1
  have hge := lexL_ge s.data.toList
  have herr := lexL_err s.data.toList
  obtain ⟨G, a, hG⟩ : ∃ G a, lexL s.data.toList = (G, a) := ⟨_, _, rfl⟩
  rw [hG] at hge herr ⊢
  dsimp only at hge herr
  unfold finE
  dsimp only
  by_cases ha : a = -1
  · rw [if_pos ha, ha, List.nil_append]
  · rw [if_neg ha, herr ha]
    simp
end Go.Proofs.YtcinojbfjiohjaaGreatDoor.Lx
end

section
namespace Go.Proofs.YtcinojbfjiohjaaGreatDoor.PPrintTells
open Go.RowKit Go.Proofs.YtcinojbfjiohjaaGreatDoorW.PrintWords Go.Proofs.YtcinojbfjiohjaaGreatDoorW.PrintLast Go.Proofs.YtcinojbfjiohjaaGreatDoorW.PrintMore
attribute [local go_sem] max2_int min2_int max_two min_two max_three min_three max_four min_four   -- for this text's walks alone
set_option linter.unusedVariables false
set_option linter.unusedSimpArgs false
theorem eqA51 (d : Nat) (w : World) (x0 y0 : Int) (x1 y1 : ByteArray) (x2 y2 : Int) :
    (Op.equalIn (d + 2) 51 (.agg #[.int .u8 x0, .string x1, .int .i64 x2]) (.agg #[.int .u8 y0, .string y1, .int .i64 y2])).run Tryz.prog w = .ok (x0 == y0 && (x1.toList == y1.toList && (x2 == y2))) w := by
  refine eqA_of Tryz.underlying51 (by kernel_rfl) ?_
  refine eqf_cons (by rfl) (by go_simp; rfl) (by go_simp; rfl) (by go_simp) ?_
  refine eqf_cons (by rfl) (by go_simp; rfl) (by go_simp; rfl) (by go_simp) ?_
  exact eqf_last (by rfl) (by go_simp; rfl) (by go_simp; rfl) (by go_simp)
end Go.Proofs.YtcinojbfjiohjaaGreatDoor.PPrintTells
end

section
namespace Go.Proofs.YtcinojbfjiohjaaGreatDoor.PPrintTells
open Go.RowKit Go.Proofs.YtcinojbfjiohjaaGreatDoorW.PrintWords Go.Proofs.YtcinojbfjiohjaaGreatDoorW.PrintLast Go.Proofs.YtcinojbfjiohjaaGreatDoorW.PrintMore
attribute [local go_sem] max2_int min2_int max_two min_two max_three min_three max_four min_four   -- for this text's walks alone
set_option linter.unusedVariables false
set_option linter.unusedSimpArgs false
attribute [local go_sem high] eqA51
def epactlaw10_Same.l0 : Nat → List (S51) → List (S51) → Int → Int → Option (Bool)
  | 0, _, _, _, _ => none
  | k + 1, x0, x1, x12, x13 => if x13 < x12 then (if 0 ≤ x13 then (if x13 < (x0.length : Int) then (if x13 < (x1.length : Int) then (if (!(((rd_T51 x0 x13).f0) == ((rd_T51 x1 x13).f0)) || (!((((rd_T51 x0 x13).f1).toList) == (((rd_T51 x1 x13).f1).toList)) || (!(((rd_T51 x0 x13).f2) == ((rd_T51 x1 x13).f2))))) = true then (some false) else (epactlaw10_Same.l0 k x0 x1 x12 (wrap64 (x13 + 1)))) else (none)) else (none)) else (none)) else (some true)
def epactlaw10_Same.f (k : Nat) (l0 : List (S51)) (l1 : List (S51)) : Option (Bool) := if (l0.length : Int) = (l1.length : Int) then (epactlaw10_Same.l0 k l0 l1 (l0.length : Int) 0) else (some false)
set_option maxHeartbeats 8000000 in
set_option maxRecDepth 100000 in
theorem epactlaw10_Same.calls (k : Nat) (A0 : Option Addr) (c0 : Nat) (l0 : List (S51)) (A1 : Option Addr) (c1 : Nat) (l1 : List (S51)) (r : Bool) (w : World) (hr0 : Kd.C k51 w A0 l0.length l0) (hc0 : l0.length ≤ c0) (hr1 : Kd.C k51 w A1 l1.length l1) (hc1 : l1.length ≤ c1) (h : epactlaw10_Same.f k l0 l1 = some r) :
    Calls Tryz.prog 29 #[.slice A0 l0.length c0, .slice A1 l1.length c1] w fun e w' => e = .returned (.bool r) ∧ Drawn0 w w' := by
  have hu51 := Tryz.underlying51
  have HR0 := Aside0.mk hr0
  have HC0 := Aside0.mk hc0
  clear hr0 hc0
  have HR1 := Aside0.mk hr1
  have HC1 := Aside0.mk hc1
  clear hr1 hc1
  have H : (if (l0.length : Int) = (l1.length : Int) then (epactlaw10_Same.l0 k l0 l1 (l0.length : Int) 0) else (some false)) = some r := h
  clear h
  by_cases c3 : (l0.length : Int) = (l1.length : Int)
  · rw [if_pos c3] at H
    have c3b0 : ((l0.length : Int) == (l1.length : Int)) = true := beq_iff_eq.mpr c3
    have c3b1 : ((l0.length : Int) != (l1.length : Int)) = false := bne_eq_false_iff_eq.mpr c3
    have c3b2 : (l0.length == l1.length) = true := by first | simpa using c3 | (simp at c3 ⊢; omega)
    clear c3
    have H' := Aside0.mk H
    clear H
    go_enter Tryz.func29, Tryz.ntmps29
    go_wp2
    repeat (go_quiet (fail); try go_wp2)
    go_loopg [13] k (fun kq v13 w' => ∃ (x13_1 : Int), v13 = .int .i64 x13_1 ∧ Aside0 (epactlaw10_Same.l0 kq l0 l1 (l0.length : Int) x13_1 = some r) ∧ Aside0 (kq ≤ k) ∧ Drawn0 w w')
    case atStart => exact ⟨(0), (by first | rfl | (simp; done) | (simp [*]; done)), H', ⟨Nat.le_refl _⟩, by repeat (first | exact Drawn0.refl _ | apply Drawn0.step)⟩
    case round =>
      clear H'
      try clear c1
      try clear c2
      try clear p2
      try clear c3
      try clear c3b0
      try clear c3b1
      try clear c3b2
      obtain ⟨x13_1, rfl, HA, HK1, ⟨m1, rfl⟩⟩ := hrel
      cases gk with
      | zero => exact absurd HA.out (by simp [epactlaw10_Same.l0])
      | succ k1 =>
        have H := HA.out
        clear HA
        simp only [epactlaw10_Same.l0] at H
        by_cases c4 : x13_1 < (l0.length : Int)
        · rw [if_pos c4] at H
          have c4b0 : decide (x13_1 < (l0.length : Int)) = true := decide_eq_true c4
          clear c4
          by_cases c5 : 0 ≤ x13_1
          · rw [if_pos c5] at H
            have c5b0 : decide (0 ≤ x13_1) = true := decide_eq_true c5
            clear c5
            by_cases c6 : x13_1 < (l0.length : Int)
            · rw [if_pos c6] at H
              have c6b0 : decide (x13_1 < (l0.length : Int)) = true := decide_eq_true c6
              clear c6
              by_cases c7 : x13_1 < (l1.length : Int)
              · rw [if_pos c7] at H
                have c7b0 : decide (x13_1 < (l1.length : Int)) = true := decide_eq_true c7
                clear c7
                by_cases c8 : (!(((rd_T51 l0 x13_1).f0) == ((rd_T51 l1 x13_1).f0)) || (!((((rd_T51 l0 x13_1).f1).toList) == (((rd_T51 l1 x13_1).f1).toList)) || (!(((rd_T51 l0 x13_1).f2) == ((rd_T51 l1 x13_1).f2))))) = true
                · rw [if_pos c8] at H
                  have c8b0 : (!(((rd_T51 l0 x13_1).f0) == ((rd_T51 l1 x13_1).f0)) || (!((((rd_T51 l0 x13_1).f1).toList) == (((rd_T51 l1 x13_1).f1).toList)) || (!(((rd_T51 l0 x13_1).f2) == ((rd_T51 l1 x13_1).f2))))) = true := c8
                  clear c8
                  obtain rfl := Option.some.inj H
                  have p150 : 0 ≤ (x13_1 : Int) := of_decide_eq_true (by first | (with_reducible assumption) | assumption)
                  have q150 : x13_1 < (l0.length : Int) := of_decide_eq_true (by first | (with_reducible assumption) | assumption)
                  obtain ⟨ad150, e150, hx150_0, hx150_1, hx150_2⟩ := at_T51 HR0.out x13_1 p150 q150
                  cases e150
                  replace p150 := eq_true p150
                  replace q150 := eq_true q150
                  have p151 : 0 ≤ (x13_1 : Int) := of_decide_eq_true (by first | (with_reducible assumption) | assumption)
                  have q151 : x13_1 < (l1.length : Int) := of_decide_eq_true (by first | (with_reducible assumption) | assumption)
                  obtain ⟨ad151, e151, hx151_0, hx151_1, hx151_2⟩ := at_T51 HR1.out x13_1 p151 q151
                  cases e151
                  replace p151 := eq_true p151
                  replace q151 := eq_true q151
                  go_wp2
                  repeat (go_quiet (fail); try go_wp2)
                  go_ret
                  exact ⟨by first | rfl | (simp; done) | (simp [*]; done), by repeat (first | exact Drawn0.refl _ | apply Drawn0.step)⟩
                · rw [if_neg c8] at H
                  have c8b0 : (!(((rd_T51 l0 x13_1).f0) == ((rd_T51 l1 x13_1).f0)) || (!((((rd_T51 l0 x13_1).f1).toList) == (((rd_T51 l1 x13_1).f1).toList)) || (!(((rd_T51 l0 x13_1).f2) == ((rd_T51 l1 x13_1).f2))))) = false := by simpa using c8
                  clear c8
                  have H' := Aside0.mk H
                  clear H
                  have p150 : 0 ≤ (x13_1 : Int) := of_decide_eq_true (by first | (with_reducible assumption) | assumption)
                  have q150 : x13_1 < (l0.length : Int) := of_decide_eq_true (by first | (with_reducible assumption) | assumption)
                  obtain ⟨ad150, e150, hx150_0, hx150_1, hx150_2⟩ := at_T51 HR0.out x13_1 p150 q150
                  cases e150
                  replace p150 := eq_true p150
                  replace q150 := eq_true q150
                  have p151 : 0 ≤ (x13_1 : Int) := of_decide_eq_true (by first | (with_reducible assumption) | assumption)
                  have q151 : x13_1 < (l1.length : Int) := of_decide_eq_true (by first | (with_reducible assumption) | assumption)
                  obtain ⟨ad151, e151, hx151_0, hx151_1, hx151_2⟩ := at_T51 HR1.out x13_1 p151 q151
                  cases e151
                  replace p151 := eq_true p151
                  replace q151 := eq_true q151
                  go_wp2
                  repeat (go_quiet (fail); try go_wp2)
                  go_roundg k1
                  case measure => have := HK1.out; omega
                  case rel => exact ⟨(wrap64 (x13_1 + 1)), (by first | rfl | (simp; done) | (simp [*]; done)), H', ⟨by have := HK1.out; omega⟩, by repeat (first | exact Drawn0.refl _ | apply Drawn0.step)⟩
              · rw [if_neg c7] at H
                exact absurd H (by simp)
            · rw [if_neg c6] at H
              exact absurd H (by simp)
          · rw [if_neg c5] at H
            exact absurd H (by simp)
        · rw [if_neg c4] at H
          have c4b0 : decide (x13_1 < (l0.length : Int)) = false := decide_eq_false c4
          clear c4
          obtain rfl := Option.some.inj H
          go_wp2
          repeat (go_quiet (fail); try go_wp2)
          go_ret
          exact ⟨by first | rfl | (simp; done) | (simp [*]; done), by repeat (first | exact Drawn0.refl _ | apply Drawn0.step)⟩
  · rw [if_neg c3] at H
    have c3b0 : ((l0.length : Int) == (l1.length : Int)) = false := beq_eq_false_iff_ne.mpr c3
    have c3b1 : ((l0.length : Int) != (l1.length : Int)) = true := bne_iff_ne.mpr c3
    have c3b2 : (l0.length == l1.length) = false := by first | simpa using c3 | (simp at c3 ⊢; omega)
    obtain rfl := Option.some.inj H
    go_enter Tryz.func29, Tryz.ntmps29
    go_wp2
    repeat (go_quiet (fail); try go_wp2)
    go_ret
    exact ⟨by first | rfl | (simp; done) | (simp [*]; done), by repeat (first | exact Drawn0.refl _ | apply Drawn0.step)⟩
end Go.Proofs.YtcinojbfjiohjaaGreatDoor.PPrintTells
end
