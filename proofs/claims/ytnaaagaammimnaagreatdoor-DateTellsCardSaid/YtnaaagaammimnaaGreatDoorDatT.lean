/-
  The contract of Text: a date's text.
-/
import Derived.Test.YtnaaagaammimnaaGreatDoorDatS
namespace Go.Proofs.YtnaaagaammimnaaGreatDoor.Civ
open Go Go.RowKit Go.Proofs.YtnaaagaammimnaaGreatDoor.PDateTells Go.Proofs.YtnaaagaammimnaaGreatDoorW.PrintWords Go.Proofs.YtnaaagaammimnaaGreatDoorW.PrintLast Go.Proofs.YtnaaagaammimnaaGreatDoorW.PrintMore Go.Proofs.YtnaaagaammimnaaGreatDoor.Ex Go.Sort
set_option linter.unusedVariables false
set_option linter.unusedSimpArgs false

/-- The text's bytes behind the sign: year, month and day. -/
def partsL (y m d : Int) : List UInt8 := Lib.join [padF y 4, padF m 2, padF d 2] [45]
def ymdL (y m d : Int) : List UInt8 := if y < 0 then 45 :: partsL (-y) m d else partsL y m d
/-- What Text answers. -/
def textF (n : Int) : ByteArray × Int := if In n then (⟨(ymdL (yrF n) (moF n) (dyF n)).toArray⟩, 0) else (⟨#[]⟩, 30)
theorem padF_len (n : Int) (k : Nat) (h0 : -9223372036854775808 ≤ n) (h1 : n ≤ 9223372036854775807) : (padF n k).length ≤ k + 21 := by
  have := Lib.itoa_length_le n h0 h1
  unfold padF
  rw [List.length_append, List.length_replicate]
  omega
theorem partsL_eq (y m d : Int) : partsL y m d = padF y 4 ++ 45 :: (padF m 2 ++ 45 :: padF d 2) := by
  unfold partsL Lib.join
  simp [List.intercalate, List.intersperse]
theorem partsL_len (y m d : Int) (hy : 0 ≤ y ∧ y ≤ 9999) (hm : 1 ≤ m ∧ m ≤ 12) (hd : 1 ≤ d ∧ d ≤ 31) : (partsL y m d).length ≤ 100 := by
  have h1 := padF_len y 4 (by omega) (by omega)
  have h2 := padF_len m 2 (by omega) (by omega)
  have h3 := padF_len d 2 (by omega) (by omega)
  rw [partsL_eq]
  simp only [List.length_append, List.length_cons]
  omega
theorem cells3_new (W : World) (a b c : ByteArray) (t : TypeId) : ∀ (j : Nat) x, [a, b, c][j]? = some x → (W.alloc (.cells #[.string a, .string b, .string c] t)).cell? ⟨W.heap.size, 0 + j, none⟩ = some (.string x) := by
  intro j x hx
  rw [Nat.zero_add, World.cell?_alloc_at _ _ _ _ (by simp)]
  match j, hx with
  | 0, hx => simp at hx; subst hx; rfl
  | 1, hx => simp at hx; subst hx; rfl
  | 2, hx => simp at hx; subst hx; rfl
theorem join3_calls (y m d : Int) (W : World) (hy : 0 ≤ y ∧ y ≤ 9999) (hm : 1 ≤ m ∧ m ≤ 12) (hd : 1 ≤ d ∧ d ≤ 31) :
    Calls Tryz.prog 34 #[.slice (some ⟨W.heap.size, 0, none⟩) 3 3, .string ⟨#[45]⟩] (W.alloc (.cells #[.string ⟨(padF y 4).toArray⟩, .string ⟨(padF m 2).toArray⟩, .string ⟨(padF d 2).toArray⟩] 9)) fun e w' =>
      e = .returned (.string ⟨(partsL y m d).toArray⟩) ∧ Lt (W.alloc (.cells #[.string ⟨(padF y 4).toArray⟩, .string ⟨(padF m 2).toArray⟩, .string ⟨(padF d 2).toArray⟩] 9)) w' := by
  have hl := partsL_len y m d hy hm hd
  refine (Tryz.strings_Join W.heap.size 0 3 [⟨(padF y 4).toArray⟩, ⟨(padF m 2).toArray⟩, ⟨(padF d 2).toArray⟩] ⟨#[45]⟩ _ (cells3_new W _ _ _ _) (by simp) (by simp) (by simp) ?_).mono ?_
  · have : ([(⟨(padF y 4).toArray⟩ : ByteArray), ⟨(padF m 2).toArray⟩, ⟨(padF d 2).toArray⟩].map (·.data.toList)) = [padF y 4, padF m 2, padF d 2] := by simp
    rw [this]
    exact Nat.le_trans hl (by decide)
  · rintro e w' ⟨rfl, hb⟩
    refine ⟨?_, ⟨hb⟩⟩
    have : ([(⟨(padF y 4).toArray⟩ : ByteArray), ⟨(padF m 2).toArray⟩, ⟨(padF d 2).toArray⟩].map (·.data.toList)) = [padF y 4, padF m 2, padF d 2] := by simp
    rw [this]
    rfl
set_option maxHeartbeats 4000000 in
theorem Text_lt (n : Int) (w : World) (hC : Cal w) :
    Calls Tryz.prog 19 #[.int .i64 n] w fun e w' => e = .returned (.tuple #[.string (textF n).1, .int .i64 (textF n).2]) ∧ Lt w w' := by
  have C1 := Aside0.mk (Date_lt n w hC.months)
  by_cases hn : In n
  · rw [dateF_in hn] at C1
    have hr : textF n = (⟨(ymdL (yrF n) (moF n) (dyF n)).toArray⟩, 0) := by unfold textF; rw [if_pos hn]
    rw [hr]
    have ho := (date_ok hn).1
    have hm := ho.month
    have hd : 1 ≤ dyF n ∧ dyF n ≤ 31 := ⟨ho.2.2.2.2.1, by have := ho.2.2.2.2.2; have := len_le (yrF n) (moF n); omega⟩
    have hy0 : -9999 ≤ yrF n := ho.1
    have hy1 : yrF n ≤ 9999 := ho.2.1
    clear hr ho hn
    generalize yrF n = y at *
    generalize moF n = m at *
    generalize dyF n = d at *
    have HC := Aside0.mk hC
    have P2 := Aside0.mk (show ∀ w, Cal w → Calls Tryz.prog 35 #[.int .i64 m, .int .i64 2] w fun e w' => e = .returned (.string ⟨(padF m 2).toArray⟩) ∧ Lt w w' from fun w hC => padded_lt m 2 w hC (by omega) (by omega) (by omega))
    have P3 := Aside0.mk (show ∀ w, Cal w → Calls Tryz.prog 35 #[.int .i64 d, .int .i64 2] w fun e w' => e = .returned (.string ⟨(padF d 2).toArray⟩) ∧ Lt w w' from fun w hC => padded_lt d 2 w hC (by omega) (by omega) (by omega))
    by_cases hy : y < 0
    · have hy' : decide (y < 0) = true := decide_eq_true hy
      have hr : (⟨(ymdL y m d).toArray⟩ : ByteArray) = ⟨#[45]⟩ ++ ⟨(partsL (-y) m d).toArray⟩ := by
        unfold ymdL
        rw [if_pos hy]
        apply ByteArray.ext
        rw [ByteArray.data_append]
        simp
      rw [hr]
      have hneg : wrap64 (-y) = -y := w64 (by omega) (by omega)
      have hz1 : 0 ≤ -y := by omega
      have hz2 : -y ≤ 9999 := by omega
      have hl : (⟨(partsL (-y) m d).toArray⟩ : ByteArray).size ≤ 100 := by
        show (partsL (-y) m d).toArray.size ≤ 100
        rw [List.size_toArray]
        exact partsL_len (-y) m d ⟨hz1, hz2⟩ hm hd
      have PJ := Aside0.mk (fun W => join3_calls (-y) m d W ⟨hz1, hz2⟩ hm hd)
      obtain ⟨z, hneg', hz⟩ : ∃ z, wrap64 (-y) = z ∧ -y = z := ⟨_, hneg, rfl⟩
      rw [hz] at PJ hl hz1 hz2 ⊢
      have P1 := Aside0.mk (show ∀ w, Cal w → Calls Tryz.prog 35 #[.int .i64 z, .int .i64 4] w fun e w' => e = .returned (.string ⟨(padF z 4).toArray⟩) ∧ Lt w w' from fun w hC => padded_lt z 4 w hC (by omega) (by omega) (by omega))
      generalize (⟨(partsL z m d).toArray⟩ : ByteArray) = t at *
      generalize (⟨(padF z 4).toArray⟩ : ByteArray) = p1 at *
      generalize (⟨(padF m 2).toArray⟩ : ByteArray) = p2 at *
      generalize (⟨(padF d 2).toArray⟩ : ByteArray) = p3 at *
      have hs1 : ¬ (9223372036854775807 < (ByteArray.mk #[45]).size + t.size) := by show ¬ (9223372036854775807 < 1 + t.size); omega
      have hs2 : ¬ (9223372036854775807 < 1 + t.size) := hs1
      clear hr hy0 hy1 hm hd hz1 hz2 hl hz hneg
      go_enter Tryz.func19, Tryz.ntmps19
      go_wp2_with fail
      (with_reducible refine C1.out.mono ?_)
      rintro e w1 ⟨rfl, hl1, hM1⟩
      have hC1 := HC.out.l hl1
      go_wp2_with fail
      (with_reducible refine (P1.out _ (by assumption)).mono ?_)
      rintro e w2 ⟨rfl, hl2⟩
      have hC2 := hC1.l hl2
      go_wp2_with fail
      (with_reducible refine (P2.out _ (by assumption)).mono ?_)
      rintro e w3 ⟨rfl, hl3⟩
      have hC3 := hC2.l hl3
      go_wp2_with fail
      (with_reducible refine (P3.out _ (by assumption)).mono ?_)
      rintro e w4 ⟨rfl, hl4⟩
      have hC4 := hC3.l hl4
      go_wp2_with fail
      (with_reducible refine (PJ.out _).mono ?_)
      rintro e w5 ⟨rfl, hl5⟩
      go_wp2
      go_ret2
      exact ⟨rfl, hl1.trans (hl2.trans (hl3.trans (hl4.trans ((Lt.refl _).a _ |>.trans hl5))))⟩
    · have hy' : decide (y < 0) = false := decide_eq_false hy
      have hr : (⟨(ymdL y m d).toArray⟩ : ByteArray) = ⟨#[]⟩ ++ ⟨(partsL y m d).toArray⟩ := by
        unfold ymdL
        rw [if_neg hy]
        apply ByteArray.ext
        rw [ByteArray.data_append]
        simp
      rw [hr]
      have hz1 : 0 ≤ y := by omega
      have hl : (⟨(partsL y m d).toArray⟩ : ByteArray).size ≤ 100 := by
        show (partsL y m d).toArray.size ≤ 100
        rw [List.size_toArray]
        exact partsL_len y m d ⟨hz1, hy1⟩ hm hd
      have PJ := Aside0.mk (fun W => join3_calls y m d W ⟨hz1, hy1⟩ hm hd)
      have P1 := Aside0.mk (show ∀ w, Cal w → Calls Tryz.prog 35 #[.int .i64 y, .int .i64 4] w fun e w' => e = .returned (.string ⟨(padF y 4).toArray⟩) ∧ Lt w w' from fun w hC => padded_lt y 4 w hC (by omega) (by omega) (by omega))
      generalize (⟨(partsL y m d).toArray⟩ : ByteArray) = t at *
      generalize (⟨(padF y 4).toArray⟩ : ByteArray) = p1 at *
      generalize (⟨(padF m 2).toArray⟩ : ByteArray) = p2 at *
      generalize (⟨(padF d 2).toArray⟩ : ByteArray) = p3 at *
      have hs1 : ¬ (9223372036854775807 < (ByteArray.mk #[]).size + t.size) := by show ¬ (9223372036854775807 < 0 + t.size); omega
      have hs2 : ¬ (9223372036854775807 < 0 + t.size) := hs1
      have hs3 : ¬ (9223372036854775807 < t.size) := by omega
      clear hr hy0 hy1 hm hd hz1 hl
      go_enter Tryz.func19, Tryz.ntmps19
      go_wp2_with fail
      (with_reducible refine C1.out.mono ?_)
      rintro e w1 ⟨rfl, hl1, hM1⟩
      have hC1 := HC.out.l hl1
      go_wp2_with fail
      (with_reducible refine (P1.out _ (by assumption)).mono ?_)
      rintro e w2 ⟨rfl, hl2⟩
      have hC2 := hC1.l hl2
      go_wp2_with fail
      (with_reducible refine (P2.out _ (by assumption)).mono ?_)
      rintro e w3 ⟨rfl, hl3⟩
      have hC3 := hC2.l hl3
      go_wp2_with fail
      (with_reducible refine (P3.out _ (by assumption)).mono ?_)
      rintro e w4 ⟨rfl, hl4⟩
      have hC4 := hC3.l hl4
      go_wp2_with fail
      (with_reducible refine (PJ.out _).mono ?_)
      rintro e w5 ⟨rfl, hl5⟩
      go_wp2
      go_ret2
      exact ⟨rfl, hl1.trans (hl2.trans (hl3.trans (hl4.trans ((Lt.refl _).a _ |>.trans hl5))))⟩
  · rw [dateF_not hn] at C1
    have hr : textF n = (⟨#[]⟩, 30) := by unfold textF; rw [if_neg hn]
    rw [hr]
    clear hr hn
    go_enter Tryz.func19, Tryz.ntmps19
    go_wp2_with fail
    (with_reducible refine C1.out.mono ?_)
    rintro e w1 ⟨rfl, hl1, hM1⟩
    go_wp2
    go_ret2
    exact ⟨rfl, hl1⟩
end Go.Proofs.YtnaaagaammimnaaGreatDoor.Civ
