/-
  DateYear walked: it returns true.
-/
import Derived.Test.YtnaaagaammimnaaGreatDoorDatA
namespace Go.Proofs.YtnaaagaammimnaaGreatDoor.Civ
open Go Go.RowKit Go.Proofs.YtnaaagaammimnaaGreatDoor.PDateTells Go.Proofs.YtnaaagaammimnaaGreatDoorW.PrintWords Go.Proofs.YtnaaagaammimnaaGreatDoorW.PrintLast Go.Proofs.YtnaaagaammimnaaGreatDoorW.PrintMore Go.Proofs.YtnaaagaammimnaaGreatDoor.Ex Go.Sort
set_option linter.unusedVariables false
set_option linter.unusedSimpArgs false

theorem ofNthF_not {y k : Int} (h : ¬ (InY y ∧ 1 ≤ k ∧ k ≤ 365 + lp y)) : ofNthF y k = (0, 30) := by unfold ofNthF; rw [if_neg h]
theorem ofNthF_ok {y k : Int} (h : InY y ∧ 1 ≤ k ∧ k ≤ 365 + lp y) : ofNthF y k = (beg y + k - 1, 0) := by unfold ofNthF; rw [if_pos h]
set_option maxHeartbeats 8000000 in
theorem DateYear_walk0 (y n : Int) (w : World) (hC : Cal w) (h0 : 0 ≤ n) (h1 : n ≤ 65535) :
    Calls Tryz.prog 7 #[.int .i64 y, .int .u16 n] w fun e w' => e = .returned (.bool true) ∧ Lt w w' := by
  have HC := Aside0.mk hC
  have hM := hC.months
  have CA := Aside0.mk awake4_lt
  by_cases hy : InY y
  · have C2 := Aside0.mk (fun w hM => Days_lt y 1 1 w hM (by omega) (by omega))
    rw [daysF_ok ((ok_1 y 1 (by omega)).2 hy), dn_first] at C2
    have C4 := Aside0.mk (fun w hM => OfNth_lt y 0 w hM (by omega) (by omega))
    rw [ofNthF_not (by intro h; have := h.2.1; omega)] at C4
    cases hlp : leap y
    · have hl : lp y = 0 := by rw [lp_leap, hlp]; rfl
      have hk := Int.emod_nonneg n (show (365 : Int) ≠ 0 by omega)
      have hk' := Int.emod_lt_of_pos n (show (0 : Int) < 365 by omega)
      have ht : Int.tmod n 365 = n % 365 := Int.tmod_eq_emod_of_nonneg h0
      have hk3 : wrap64 (1 + n % 365) = 1 + n % 365 := w64 (by omega) (by omega)
      have C1 := Aside0.mk (fun w hM => OfNth_lt y (1 + n % 365) w hM (by omega) (by omega))
      rw [ofNthF_ok ⟨hy, by omega, by omega⟩] at C1
      have C3 := Aside0.mk (fun w hM => OfNth_lt y 366 w hM (by omega) (by omega))
      rw [ofNthF_not (by intro h; have := h.2.2; omega)] at C3
      have CL := Aside0.mk (fun w hM => Leap_lt y w hM)
      rw [hlp] at CL
      have hbb : In (beg y) := in_year hy (Int.le_refl _) (by have := beg_lt_succ y; omega)
      obtain ⟨hb0, hb1⟩ := hbb
      obtain ⟨hy0, hy1⟩ := hy
      have y1 : decide (y < -9999) = false := decide_eq_false (by omega)
      have y2 : decide (y > 9999) = false := decide_eq_false (by omega)
      have y2' : decide (9999 < y) = false := y2
      have w1 : wrap64 (beg y + (1 + n % 365)) = beg y + (1 + n % 365) := w64 (by omega) (by omega)
      have w2 : wrap64 (beg y + (1 + n % 365) - 1) = beg y + (1 + n % 365) - 1 := w64 (by omega) (by omega)
      have w3 : wrap64 n = n := w64 (by omega) (by omega)
      generalize beg y = b at *
      clear hk hk' ht hl hlp hb0 hb1
      go_enter Tryz.func7, Tryz.ntmps7
      go_wp2_with fail
      (with_reducible refine (CL.out _ (by assumption)).mono ?_)
      rintro e w1 ⟨rfl, hl1, hM1⟩
      go_wp2_with fail
      (with_reducible refine (C1.out _ (by assumption)).mono ?_)
      rintro e w2 ⟨rfl, hl2, hM2⟩
      go_wp2_with fail
      (with_reducible refine (C2.out _ (by assumption)).mono ?_)
      rintro e w3 ⟨rfl, hl3, hM3⟩
      go_wp2_with fail
      (with_reducible refine (C3.out _ (by assumption)).mono ?_)
      rintro e w4 ⟨rfl, hl4, hM4⟩
      go_wp2_with fail
      (with_reducible refine (C4.out _ (by assumption)).mono ?_)
      rintro e w5 ⟨rfl, hl5, hM5⟩
      have hC5 := HC.out.l (hl1.trans (hl2.trans (hl3.trans (hl4.trans hl5))))
      go_wp2_with fail
      (with_reducible refine (CA.out _ (by assumption)).mono ?_)
      rintro e w6 ⟨rfl, hl6⟩
      go_wp2
      go_ret
      exact ⟨rfl, (hl1.trans (hl2.trans (hl3.trans (hl4.trans hl5)))).trans hl6⟩
    · have hl : lp y = 1 := by rw [lp_leap, hlp]; rfl
      have hk := Int.emod_nonneg n (show (366 : Int) ≠ 0 by omega)
      have hk' := Int.emod_lt_of_pos n (show (0 : Int) < 366 by omega)
      have ht : Int.tmod n 366 = n % 366 := Int.tmod_eq_emod_of_nonneg h0
      have hk3 : wrap64 (1 + n % 366) = 1 + n % 366 := w64 (by omega) (by omega)
      have C1 := Aside0.mk (fun w hM => OfNth_lt y (1 + n % 366) w hM (by omega) (by omega))
      rw [ofNthF_ok ⟨hy, by omega, by omega⟩] at C1
      have C3 := Aside0.mk (fun w hM => OfNth_lt y 367 w hM (by omega) (by omega))
      rw [ofNthF_not (by intro h; have := h.2.2; omega)] at C3
      have CL := Aside0.mk (fun w hM => Leap_lt y w hM)
      rw [hlp] at CL
      have hbb : In (beg y) := in_year hy (Int.le_refl _) (by have := beg_lt_succ y; omega)
      obtain ⟨hb0, hb1⟩ := hbb
      obtain ⟨hy0, hy1⟩ := hy
      have y1 : decide (y < -9999) = false := decide_eq_false (by omega)
      have y2 : decide (y > 9999) = false := decide_eq_false (by omega)
      have y2' : decide (9999 < y) = false := y2
      have w1 : wrap64 (beg y + (1 + n % 366)) = beg y + (1 + n % 366) := w64 (by omega) (by omega)
      have w2 : wrap64 (beg y + (1 + n % 366) - 1) = beg y + (1 + n % 366) - 1 := w64 (by omega) (by omega)
      have w3 : wrap64 n = n := w64 (by omega) (by omega)
      generalize beg y = b at *
      clear hk hk' ht hl hlp hb0 hb1
      go_enter Tryz.func7, Tryz.ntmps7
      go_wp2_with fail
      (with_reducible refine (CL.out _ (by assumption)).mono ?_)
      rintro e w1 ⟨rfl, hl1, hM1⟩
      go_wp2_with fail
      (with_reducible refine (C1.out _ (by assumption)).mono ?_)
      rintro e w2 ⟨rfl, hl2, hM2⟩
      go_wp2_with fail
      (with_reducible refine (C2.out _ (by assumption)).mono ?_)
      rintro e w3 ⟨rfl, hl3, hM3⟩
      go_wp2_with fail
      (with_reducible refine (C3.out _ (by assumption)).mono ?_)
      rintro e w4 ⟨rfl, hl4, hM4⟩
      go_wp2_with fail
      (with_reducible refine (C4.out _ (by assumption)).mono ?_)
      rintro e w5 ⟨rfl, hl5, hM5⟩
      have hC5 := HC.out.l (hl1.trans (hl2.trans (hl3.trans (hl4.trans hl5))))
      go_wp2_with fail
      (with_reducible refine (CA.out _ (by assumption)).mono ?_)
      rintro e w6 ⟨rfl, hl6⟩
      go_wp2
      go_ret
      exact ⟨rfl, (hl1.trans (hl2.trans (hl3.trans (hl4.trans hl5)))).trans hl6⟩
  · have C0 := Aside0.mk (fun w hM => OfNth_lt y n w hM (by omega) (by omega))
    rw [ofNthF_not (fun h => hy h.1)] at C0
    have w3 : wrap64 n = n := w64 (by omega) (by omega)
    by_cases h2 : y < -9999
    · have y1 : decide (y < -9999) = true := decide_eq_true h2
      clear hy h2
      go_enter Tryz.func7, Tryz.ntmps7
      go_wp2_with fail
      (with_reducible refine (C0.out _ (by assumption)).mono ?_)
      rintro e w1 ⟨rfl, hl1, hM1⟩
      have hC1 := HC.out.l hl1
      go_wp2_with fail
      (with_reducible refine (CA.out _ (by assumption)).mono ?_)
      rintro e w2 ⟨rfl, hl2⟩
      go_wp2
      go_ret
      exact ⟨rfl, hl1.trans hl2⟩
    · have y1 : decide (y < -9999) = false := decide_eq_false h2
      have y2 : decide (y > 9999) = true := decide_eq_true (by unfold InY at hy; omega)
      have y2' : decide (9999 < y) = true := y2
      clear hy h2
      go_enter Tryz.func7, Tryz.ntmps7
      go_wp2_with fail
      (with_reducible refine (C0.out _ (by assumption)).mono ?_)
      rintro e w1 ⟨rfl, hl1, hM1⟩
      have hC1 := HC.out.l hl1
      go_wp2_with fail
      (with_reducible refine (CA.out _ (by assumption)).mono ?_)
      rintro e w2 ⟨rfl, hl2⟩
      go_wp2
      go_ret
      exact ⟨rfl, hl1.trans hl2⟩
theorem wf16 {a : Int} (h : (Lit.int .u16 a).wf = true) : 0 ≤ a ∧ a ≤ 65535 := by
  simp only [Lit.wf, Bool.and_eq_true, decide_eq_true_eq] at h
  exact h
theorem DateYear_walk (y n : Int) (w : World) (hC : Cal w) (w0 : (Lit.int .i64 y).wf = true) (w1 : (Lit.int .u16 n).wf = true) :
    Calls Tryz.prog 7 #[.int .i64 y, .int .u16 n] w fun e w' => e = .returned (.bool true) ∧ Lt w w' := DateYear_walk0 y n w hC (wf16 w1).1 (wf16 w1).2
end Go.Proofs.YtnaaagaammimnaaGreatDoor.Civ
