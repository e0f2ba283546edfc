/-
  DateWeeks walked: it returns true.
-/
import Derived.Test.YtnaaagaammimnaaGreatDoorDatA
namespace Go.Proofs.YtnaaagaammimnaaGreatDoor.Civ
open Go Go.RowKit Go.Proofs.YtnaaagaammimnaaGreatDoor.PDateTells Go.Proofs.YtnaaagaammimnaaGreatDoorW.PrintWords Go.Proofs.YtnaaagaammimnaaGreatDoorW.PrintLast Go.Proofs.YtnaaagaammimnaaGreatDoorW.PrintMore Go.Proofs.YtnaaagaammimnaaGreatDoor.Ex Go.Sort
set_option linter.unusedVariables false
set_option linter.unusedSimpArgs false

set_option maxHeartbeats 16000000 in
set_option maxRecDepth 100000 in
theorem DateWeeks_walk (n y : Int) (w : World) (hC : Cal w) (w0 : (Lit.int .i64 n).wf = true) (w1 : (Lit.int .i64 y).wf = true) :
    Calls Tryz.prog 5 #[.int .i64 n, .int .i64 y] w fun e w' => e = .returned (.bool true) ∧ Lt w w' := by
  have HC := Aside0.mk hC
  have hM := hC.months
  have CA := Aside0.mk awake4_lt
  have C1 := Aside0.mk (fun w hM => Week_lt n w hM)
  clear hC w0 w1
  by_cases h1 : In n ∧ InY (wyr n)
  · rw [weekF_in h1.1 h1.2] at C1
    have hw1 : wrap64 (n + 1) = n + 1 := w64 (by have := h1.1.1; omega) (by have := h1.1.2; omega)
    have C2 := Aside0.mk (fun w hM => Week_lt (n + 1) w hM)
    have hd := wdF_bd n
    have hsp := wyr_spec n
    have hst := fst_step (wyr n)
    have hK : 1 ≤ (n - fst (wyr n)) / 7 + 1 ∧ (n - fst (wyr n)) / 7 + 1 ≤ 60 := by omega
    have hY : -9999 ≤ wyr n ∧ wyr n ≤ 9999 := h1.2
    clear hsp hst
    by_cases h2 : In (n + 1) ∧ InY (wyr (n + 1))
    · rw [week_next h1.2 h2.1 h2.2] at C2
      have CW := Aside0.mk (fun w hM => Weeks_lt (wyr n) w hM)
      clear h1 h2
      generalize (n - fst (wyr n)) / 7 + 1 = K at *
      generalize wks (wyr n) = Q at *
      generalize wyr n = Y at *
      generalize wdF n = D at *
      obtain ⟨hd1, hd2⟩ := hd
      obtain ⟨hK1, hK2⟩ := hK
      obtain ⟨hY1, hY2⟩ := hY
      by_cases h7 : D < 7
      · rw [if_pos h7] at C2
        have e7 : decide (D < 7) = true := decide_eq_true h7
        have wD : wrap64 (D + 1) = D + 1 := w64 (by omega) (by omega)
        clear h7 CW
        by_cases hy : InY y
        · have D1 := Aside0.mk (fun w hM => Days_lt y 1 4 w hM (by omega) (by omega))
          rw [daysF_ok ((ok_1 y 4 (by omega)).2 hy), dn_fourth] at D1
          have D2 := Aside0.mk (fun w hM => Days_lt y 12 28 w hM (by omega) (by omega))
          rw [daysF_ok ((ok_12 y 28 (by omega)).2 hy), dn_28] at D2
          have K1 := Aside0.mk (fun w hM => Week_lt (beg y + 3) w hM)
          rw [week_fourth hy] at K1
          have K2 := Aside0.mk (fun w hM => Week_lt (beg y + 361 + lp y) w hM)
          rw [week_28 hy] at K2
          have W0 := Aside0.mk (fun w hM => Weeks_lt y w hM)
          have hv := wks_in hy
          clear hy
          generalize wdF (beg y + 3) = q1 at *
          generalize wdF (beg y + 361 + lp y) = q2 at *
          generalize beg y + 361 + lp y = b2 at *
          generalize beg y + 3 = b1 at *
          generalize wks y = v at *
          rcases hv with rfl | rfl
          · go_enter Tryz.func5, Tryz.ntmps5
            go_wp2_with fail
            (with_reducible refine (C1.out _ (by assumption)).mono ?_)
            rintro e w1 ⟨rfl, hl1, hM1⟩
            go_wp2_with fail
            (with_reducible refine (C2.out _ (by assumption)).mono ?_)
            rintro e w2 ⟨rfl, hl2, hM2⟩
            go_wp2_with fail
            (with_reducible refine (D1.out _ (by assumption)).mono ?_)
            rintro e w3 ⟨rfl, hl3, hM3⟩
            go_wp2_with fail
            (with_reducible refine (D2.out _ (by assumption)).mono ?_)
            rintro e w4 ⟨rfl, hl4, hM4⟩
            go_wp2_with fail
            (with_reducible refine (K1.out _ (by assumption)).mono ?_)
            rintro e w5 ⟨rfl, hl5, hM5⟩
            go_wp2_with fail
            (with_reducible refine (K2.out _ (by assumption)).mono ?_)
            rintro e w6 ⟨rfl, hl6, hM6⟩
            go_wp2_with fail
            (with_reducible refine (W0.out _ (by assumption)).mono ?_)
            rintro e w7 ⟨rfl, hl7, hM7⟩
            go_wp2_with fail
            have hCx := HC.out.l (((((((hl1).trans hl2).trans hl3).trans hl4).trans hl5).trans hl6).trans hl7)
            (with_reducible refine (CA.out _ (by assumption)).mono ?_)
            rintro e w8 ⟨rfl, hl8⟩
            go_wp2
            go_ret
            exact ⟨rfl, (((((((hl1).trans hl2).trans hl3).trans hl4).trans hl5).trans hl6).trans hl7).trans hl8⟩
          · go_enter Tryz.func5, Tryz.ntmps5
            go_wp2_with fail
            (with_reducible refine (C1.out _ (by assumption)).mono ?_)
            rintro e w1 ⟨rfl, hl1, hM1⟩
            go_wp2_with fail
            (with_reducible refine (C2.out _ (by assumption)).mono ?_)
            rintro e w2 ⟨rfl, hl2, hM2⟩
            go_wp2_with fail
            (with_reducible refine (D1.out _ (by assumption)).mono ?_)
            rintro e w3 ⟨rfl, hl3, hM3⟩
            go_wp2_with fail
            (with_reducible refine (D2.out _ (by assumption)).mono ?_)
            rintro e w4 ⟨rfl, hl4, hM4⟩
            go_wp2_with fail
            (with_reducible refine (K1.out _ (by assumption)).mono ?_)
            rintro e w5 ⟨rfl, hl5, hM5⟩
            go_wp2_with fail
            (with_reducible refine (K2.out _ (by assumption)).mono ?_)
            rintro e w6 ⟨rfl, hl6, hM6⟩
            go_wp2_with fail
            (with_reducible refine (W0.out _ (by assumption)).mono ?_)
            rintro e w7 ⟨rfl, hl7, hM7⟩
            go_wp2_with fail
            have hCx := HC.out.l (((((((hl1).trans hl2).trans hl3).trans hl4).trans hl5).trans hl6).trans hl7)
            (with_reducible refine (CA.out _ (by assumption)).mono ?_)
            rintro e w8 ⟨rfl, hl8⟩
            go_wp2
            go_ret
            exact ⟨rfl, (((((((hl1).trans hl2).trans hl3).trans hl4).trans hl5).trans hl6).trans hl7).trans hl8⟩
        · have D1 := Aside0.mk (fun w hM => Days_lt y 1 4 w hM (by omega) (by omega))
          rw [daysF_not (fun h => hy ((ok_1 y 4 (by omega)).1 h))] at D1
          have D2 := Aside0.mk (fun w hM => Days_lt y 12 28 w hM (by omega) (by omega))
          rw [daysF_not (fun h => hy ((ok_12 y 28 (by omega)).1 h))] at D2
          have W0 := Aside0.mk (fun w hM => Weeks_lt y w hM)
          rw [wks_out hy] at W0
          clear hy
          go_enter Tryz.func5, Tryz.ntmps5
          go_wp2_with fail
          (with_reducible refine (C1.out _ (by assumption)).mono ?_)
          rintro e w1 ⟨rfl, hl1, hM1⟩
          go_wp2_with fail
          (with_reducible refine (C2.out _ (by assumption)).mono ?_)
          rintro e w2 ⟨rfl, hl2, hM2⟩
          go_wp2_with fail
          (with_reducible refine (D1.out _ (by assumption)).mono ?_)
          rintro e w3 ⟨rfl, hl3, hM3⟩
          go_wp2_with fail
          (with_reducible refine (D2.out _ (by assumption)).mono ?_)
          rintro e w4 ⟨rfl, hl4, hM4⟩
          go_wp2_with fail
          (with_reducible refine (W0.out _ (by assumption)).mono ?_)
          rintro e w5 ⟨rfl, hl5, hM5⟩
          go_wp2_with fail
          have hCx := HC.out.l (((((hl1).trans hl2).trans hl3).trans hl4).trans hl5)
          (with_reducible refine (CA.out _ (by assumption)).mono ?_)
          rintro e w6 ⟨rfl, hl6⟩
          go_wp2
          go_ret
          exact ⟨rfl, (((((hl1).trans hl2).trans hl3).trans hl4).trans hl5).trans hl6⟩
      · rw [if_neg h7] at C2
        have e7 : decide (D < 7) = false := decide_eq_false h7
        clear h7
        by_cases hq : K < Q
        · rw [if_pos hq] at C2
          have eq : decide (K < Q) = true := decide_eq_true hq
          have wK : wrap64 (K + 1) = K + 1 := w64 (by omega) (by omega)
          clear hq
          by_cases hy : InY y
          · have D1 := Aside0.mk (fun w hM => Days_lt y 1 4 w hM (by omega) (by omega))
            rw [daysF_ok ((ok_1 y 4 (by omega)).2 hy), dn_fourth] at D1
            have D2 := Aside0.mk (fun w hM => Days_lt y 12 28 w hM (by omega) (by omega))
            rw [daysF_ok ((ok_12 y 28 (by omega)).2 hy), dn_28] at D2
            have K1 := Aside0.mk (fun w hM => Week_lt (beg y + 3) w hM)
            rw [week_fourth hy] at K1
            have K2 := Aside0.mk (fun w hM => Week_lt (beg y + 361 + lp y) w hM)
            rw [week_28 hy] at K2
            have W0 := Aside0.mk (fun w hM => Weeks_lt y w hM)
            have hv := wks_in hy
            clear hy
            generalize wdF (beg y + 3) = q1 at *
            generalize wdF (beg y + 361 + lp y) = q2 at *
            generalize beg y + 361 + lp y = b2 at *
            generalize beg y + 3 = b1 at *
            generalize wks y = v at *
            rcases hv with rfl | rfl
            · go_enter Tryz.func5, Tryz.ntmps5
              go_wp2_with fail
              (with_reducible refine (C1.out _ (by assumption)).mono ?_)
              rintro e w1 ⟨rfl, hl1, hM1⟩
              go_wp2_with fail
              (with_reducible refine (C2.out _ (by assumption)).mono ?_)
              rintro e w2 ⟨rfl, hl2, hM2⟩
              go_wp2_with fail
              (with_reducible refine (CW.out _ (by assumption)).mono ?_)
              rintro e w3 ⟨rfl, hl3, hM3⟩
              go_wp2_with fail
              (with_reducible refine (D1.out _ (by assumption)).mono ?_)
              rintro e w4 ⟨rfl, hl4, hM4⟩
              go_wp2_with fail
              (with_reducible refine (D2.out _ (by assumption)).mono ?_)
              rintro e w5 ⟨rfl, hl5, hM5⟩
              go_wp2_with fail
              (with_reducible refine (K1.out _ (by assumption)).mono ?_)
              rintro e w6 ⟨rfl, hl6, hM6⟩
              go_wp2_with fail
              (with_reducible refine (K2.out _ (by assumption)).mono ?_)
              rintro e w7 ⟨rfl, hl7, hM7⟩
              go_wp2_with fail
              (with_reducible refine (W0.out _ (by assumption)).mono ?_)
              rintro e w8 ⟨rfl, hl8, hM8⟩
              go_wp2_with fail
              have hCx := HC.out.l ((((((((hl1).trans hl2).trans hl3).trans hl4).trans hl5).trans hl6).trans hl7).trans hl8)
              (with_reducible refine (CA.out _ (by assumption)).mono ?_)
              rintro e w9 ⟨rfl, hl9⟩
              go_wp2
              go_ret
              exact ⟨rfl, ((((((((hl1).trans hl2).trans hl3).trans hl4).trans hl5).trans hl6).trans hl7).trans hl8).trans hl9⟩
            · go_enter Tryz.func5, Tryz.ntmps5
              go_wp2_with fail
              (with_reducible refine (C1.out _ (by assumption)).mono ?_)
              rintro e w1 ⟨rfl, hl1, hM1⟩
              go_wp2_with fail
              (with_reducible refine (C2.out _ (by assumption)).mono ?_)
              rintro e w2 ⟨rfl, hl2, hM2⟩
              go_wp2_with fail
              (with_reducible refine (CW.out _ (by assumption)).mono ?_)
              rintro e w3 ⟨rfl, hl3, hM3⟩
              go_wp2_with fail
              (with_reducible refine (D1.out _ (by assumption)).mono ?_)
              rintro e w4 ⟨rfl, hl4, hM4⟩
              go_wp2_with fail
              (with_reducible refine (D2.out _ (by assumption)).mono ?_)
              rintro e w5 ⟨rfl, hl5, hM5⟩
              go_wp2_with fail
              (with_reducible refine (K1.out _ (by assumption)).mono ?_)
              rintro e w6 ⟨rfl, hl6, hM6⟩
              go_wp2_with fail
              (with_reducible refine (K2.out _ (by assumption)).mono ?_)
              rintro e w7 ⟨rfl, hl7, hM7⟩
              go_wp2_with fail
              (with_reducible refine (W0.out _ (by assumption)).mono ?_)
              rintro e w8 ⟨rfl, hl8, hM8⟩
              go_wp2_with fail
              have hCx := HC.out.l ((((((((hl1).trans hl2).trans hl3).trans hl4).trans hl5).trans hl6).trans hl7).trans hl8)
              (with_reducible refine (CA.out _ (by assumption)).mono ?_)
              rintro e w9 ⟨rfl, hl9⟩
              go_wp2
              go_ret
              exact ⟨rfl, ((((((((hl1).trans hl2).trans hl3).trans hl4).trans hl5).trans hl6).trans hl7).trans hl8).trans hl9⟩
          · have D1 := Aside0.mk (fun w hM => Days_lt y 1 4 w hM (by omega) (by omega))
            rw [daysF_not (fun h => hy ((ok_1 y 4 (by omega)).1 h))] at D1
            have D2 := Aside0.mk (fun w hM => Days_lt y 12 28 w hM (by omega) (by omega))
            rw [daysF_not (fun h => hy ((ok_12 y 28 (by omega)).1 h))] at D2
            have W0 := Aside0.mk (fun w hM => Weeks_lt y w hM)
            rw [wks_out hy] at W0
            clear hy
            go_enter Tryz.func5, Tryz.ntmps5
            go_wp2_with fail
            (with_reducible refine (C1.out _ (by assumption)).mono ?_)
            rintro e w1 ⟨rfl, hl1, hM1⟩
            go_wp2_with fail
            (with_reducible refine (C2.out _ (by assumption)).mono ?_)
            rintro e w2 ⟨rfl, hl2, hM2⟩
            go_wp2_with fail
            (with_reducible refine (CW.out _ (by assumption)).mono ?_)
            rintro e w3 ⟨rfl, hl3, hM3⟩
            go_wp2_with fail
            (with_reducible refine (D1.out _ (by assumption)).mono ?_)
            rintro e w4 ⟨rfl, hl4, hM4⟩
            go_wp2_with fail
            (with_reducible refine (D2.out _ (by assumption)).mono ?_)
            rintro e w5 ⟨rfl, hl5, hM5⟩
            go_wp2_with fail
            (with_reducible refine (W0.out _ (by assumption)).mono ?_)
            rintro e w6 ⟨rfl, hl6, hM6⟩
            go_wp2_with fail
            have hCx := HC.out.l ((((((hl1).trans hl2).trans hl3).trans hl4).trans hl5).trans hl6)
            (with_reducible refine (CA.out _ (by assumption)).mono ?_)
            rintro e w7 ⟨rfl, hl7⟩
            go_wp2
            go_ret
            exact ⟨rfl, ((((((hl1).trans hl2).trans hl3).trans hl4).trans hl5).trans hl6).trans hl7⟩
        · rw [if_neg hq] at C2
          have eq : decide (K < Q) = false := decide_eq_false hq
          have wY : wrap64 (Y + 1) = Y + 1 := w64 (by omega) (by omega)
          clear hq
          by_cases hy : InY y
          · have D1 := Aside0.mk (fun w hM => Days_lt y 1 4 w hM (by omega) (by omega))
            rw [daysF_ok ((ok_1 y 4 (by omega)).2 hy), dn_fourth] at D1
            have D2 := Aside0.mk (fun w hM => Days_lt y 12 28 w hM (by omega) (by omega))
            rw [daysF_ok ((ok_12 y 28 (by omega)).2 hy), dn_28] at D2
            have K1 := Aside0.mk (fun w hM => Week_lt (beg y + 3) w hM)
            rw [week_fourth hy] at K1
            have K2 := Aside0.mk (fun w hM => Week_lt (beg y + 361 + lp y) w hM)
            rw [week_28 hy] at K2
            have W0 := Aside0.mk (fun w hM => Weeks_lt y w hM)
            have hv := wks_in hy
            clear hy
            generalize wdF (beg y + 3) = q1 at *
            generalize wdF (beg y + 361 + lp y) = q2 at *
            generalize beg y + 361 + lp y = b2 at *
            generalize beg y + 3 = b1 at *
            generalize wks y = v at *
            rcases hv with rfl | rfl
            · go_enter Tryz.func5, Tryz.ntmps5
              go_wp2_with fail
              (with_reducible refine (C1.out _ (by assumption)).mono ?_)
              rintro e w1 ⟨rfl, hl1, hM1⟩
              go_wp2_with fail
              (with_reducible refine (C2.out _ (by assumption)).mono ?_)
              rintro e w2 ⟨rfl, hl2, hM2⟩
              go_wp2_with fail
              (with_reducible refine (CW.out _ (by assumption)).mono ?_)
              rintro e w3 ⟨rfl, hl3, hM3⟩
              go_wp2_with fail
              (with_reducible refine (D1.out _ (by assumption)).mono ?_)
              rintro e w4 ⟨rfl, hl4, hM4⟩
              go_wp2_with fail
              (with_reducible refine (D2.out _ (by assumption)).mono ?_)
              rintro e w5 ⟨rfl, hl5, hM5⟩
              go_wp2_with fail
              (with_reducible refine (K1.out _ (by assumption)).mono ?_)
              rintro e w6 ⟨rfl, hl6, hM6⟩
              go_wp2_with fail
              (with_reducible refine (K2.out _ (by assumption)).mono ?_)
              rintro e w7 ⟨rfl, hl7, hM7⟩
              go_wp2_with fail
              (with_reducible refine (W0.out _ (by assumption)).mono ?_)
              rintro e w8 ⟨rfl, hl8, hM8⟩
              go_wp2_with fail
              have hCx := HC.out.l ((((((((hl1).trans hl2).trans hl3).trans hl4).trans hl5).trans hl6).trans hl7).trans hl8)
              (with_reducible refine (CA.out _ (by assumption)).mono ?_)
              rintro e w9 ⟨rfl, hl9⟩
              go_wp2
              go_ret
              exact ⟨rfl, ((((((((hl1).trans hl2).trans hl3).trans hl4).trans hl5).trans hl6).trans hl7).trans hl8).trans hl9⟩
            · go_enter Tryz.func5, Tryz.ntmps5
              go_wp2_with fail
              (with_reducible refine (C1.out _ (by assumption)).mono ?_)
              rintro e w1 ⟨rfl, hl1, hM1⟩
              go_wp2_with fail
              (with_reducible refine (C2.out _ (by assumption)).mono ?_)
              rintro e w2 ⟨rfl, hl2, hM2⟩
              go_wp2_with fail
              (with_reducible refine (CW.out _ (by assumption)).mono ?_)
              rintro e w3 ⟨rfl, hl3, hM3⟩
              go_wp2_with fail
              (with_reducible refine (D1.out _ (by assumption)).mono ?_)
              rintro e w4 ⟨rfl, hl4, hM4⟩
              go_wp2_with fail
              (with_reducible refine (D2.out _ (by assumption)).mono ?_)
              rintro e w5 ⟨rfl, hl5, hM5⟩
              go_wp2_with fail
              (with_reducible refine (K1.out _ (by assumption)).mono ?_)
              rintro e w6 ⟨rfl, hl6, hM6⟩
              go_wp2_with fail
              (with_reducible refine (K2.out _ (by assumption)).mono ?_)
              rintro e w7 ⟨rfl, hl7, hM7⟩
              go_wp2_with fail
              (with_reducible refine (W0.out _ (by assumption)).mono ?_)
              rintro e w8 ⟨rfl, hl8, hM8⟩
              go_wp2_with fail
              have hCx := HC.out.l ((((((((hl1).trans hl2).trans hl3).trans hl4).trans hl5).trans hl6).trans hl7).trans hl8)
              (with_reducible refine (CA.out _ (by assumption)).mono ?_)
              rintro e w9 ⟨rfl, hl9⟩
              go_wp2
              go_ret
              exact ⟨rfl, ((((((((hl1).trans hl2).trans hl3).trans hl4).trans hl5).trans hl6).trans hl7).trans hl8).trans hl9⟩
          · have D1 := Aside0.mk (fun w hM => Days_lt y 1 4 w hM (by omega) (by omega))
            rw [daysF_not (fun h => hy ((ok_1 y 4 (by omega)).1 h))] at D1
            have D2 := Aside0.mk (fun w hM => Days_lt y 12 28 w hM (by omega) (by omega))
            rw [daysF_not (fun h => hy ((ok_12 y 28 (by omega)).1 h))] at D2
            have W0 := Aside0.mk (fun w hM => Weeks_lt y w hM)
            rw [wks_out hy] at W0
            clear hy
            go_enter Tryz.func5, Tryz.ntmps5
            go_wp2_with fail
            (with_reducible refine (C1.out _ (by assumption)).mono ?_)
            rintro e w1 ⟨rfl, hl1, hM1⟩
            go_wp2_with fail
            (with_reducible refine (C2.out _ (by assumption)).mono ?_)
            rintro e w2 ⟨rfl, hl2, hM2⟩
            go_wp2_with fail
            (with_reducible refine (CW.out _ (by assumption)).mono ?_)
            rintro e w3 ⟨rfl, hl3, hM3⟩
            go_wp2_with fail
            (with_reducible refine (D1.out _ (by assumption)).mono ?_)
            rintro e w4 ⟨rfl, hl4, hM4⟩
            go_wp2_with fail
            (with_reducible refine (D2.out _ (by assumption)).mono ?_)
            rintro e w5 ⟨rfl, hl5, hM5⟩
            go_wp2_with fail
            (with_reducible refine (W0.out _ (by assumption)).mono ?_)
            rintro e w6 ⟨rfl, hl6, hM6⟩
            go_wp2_with fail
            have hCx := HC.out.l ((((((hl1).trans hl2).trans hl3).trans hl4).trans hl5).trans hl6)
            (with_reducible refine (CA.out _ (by assumption)).mono ?_)
            rintro e w7 ⟨rfl, hl7⟩
            go_wp2
            go_ret
            exact ⟨rfl, ((((((hl1).trans hl2).trans hl3).trans hl4).trans hl5).trans hl6).trans hl7⟩
    · rw [weekF_not h2] at C2
      clear h1 h2
      generalize (n - fst (wyr n)) / 7 + 1 = K at *
      generalize wyr n = Y at *
      generalize wdF n = D at *
      by_cases hy : InY y
      · have D1 := Aside0.mk (fun w hM => Days_lt y 1 4 w hM (by omega) (by omega))
        rw [daysF_ok ((ok_1 y 4 (by omega)).2 hy), dn_fourth] at D1
        have D2 := Aside0.mk (fun w hM => Days_lt y 12 28 w hM (by omega) (by omega))
        rw [daysF_ok ((ok_12 y 28 (by omega)).2 hy), dn_28] at D2
        have K1 := Aside0.mk (fun w hM => Week_lt (beg y + 3) w hM)
        rw [week_fourth hy] at K1
        have K2 := Aside0.mk (fun w hM => Week_lt (beg y + 361 + lp y) w hM)
        rw [week_28 hy] at K2
        have W0 := Aside0.mk (fun w hM => Weeks_lt y w hM)
        have hv := wks_in hy
        clear hy
        generalize wdF (beg y + 3) = q1 at *
        generalize wdF (beg y + 361 + lp y) = q2 at *
        generalize beg y + 361 + lp y = b2 at *
        generalize beg y + 3 = b1 at *
        generalize wks y = v at *
        rcases hv with rfl | rfl
        · go_enter Tryz.func5, Tryz.ntmps5
          go_wp2_with fail
          (with_reducible refine (C1.out _ (by assumption)).mono ?_)
          rintro e w1 ⟨rfl, hl1, hM1⟩
          go_wp2_with fail
          (with_reducible refine (C2.out _ (by assumption)).mono ?_)
          rintro e w2 ⟨rfl, hl2, hM2⟩
          go_wp2_with fail
          (with_reducible refine (D1.out _ (by assumption)).mono ?_)
          rintro e w3 ⟨rfl, hl3, hM3⟩
          go_wp2_with fail
          (with_reducible refine (D2.out _ (by assumption)).mono ?_)
          rintro e w4 ⟨rfl, hl4, hM4⟩
          go_wp2_with fail
          (with_reducible refine (K1.out _ (by assumption)).mono ?_)
          rintro e w5 ⟨rfl, hl5, hM5⟩
          go_wp2_with fail
          (with_reducible refine (K2.out _ (by assumption)).mono ?_)
          rintro e w6 ⟨rfl, hl6, hM6⟩
          go_wp2_with fail
          (with_reducible refine (W0.out _ (by assumption)).mono ?_)
          rintro e w7 ⟨rfl, hl7, hM7⟩
          go_wp2_with fail
          have hCx := HC.out.l (((((((hl1).trans hl2).trans hl3).trans hl4).trans hl5).trans hl6).trans hl7)
          (with_reducible refine (CA.out _ (by assumption)).mono ?_)
          rintro e w8 ⟨rfl, hl8⟩
          go_wp2
          go_ret
          exact ⟨rfl, (((((((hl1).trans hl2).trans hl3).trans hl4).trans hl5).trans hl6).trans hl7).trans hl8⟩
        · go_enter Tryz.func5, Tryz.ntmps5
          go_wp2_with fail
          (with_reducible refine (C1.out _ (by assumption)).mono ?_)
          rintro e w1 ⟨rfl, hl1, hM1⟩
          go_wp2_with fail
          (with_reducible refine (C2.out _ (by assumption)).mono ?_)
          rintro e w2 ⟨rfl, hl2, hM2⟩
          go_wp2_with fail
          (with_reducible refine (D1.out _ (by assumption)).mono ?_)
          rintro e w3 ⟨rfl, hl3, hM3⟩
          go_wp2_with fail
          (with_reducible refine (D2.out _ (by assumption)).mono ?_)
          rintro e w4 ⟨rfl, hl4, hM4⟩
          go_wp2_with fail
          (with_reducible refine (K1.out _ (by assumption)).mono ?_)
          rintro e w5 ⟨rfl, hl5, hM5⟩
          go_wp2_with fail
          (with_reducible refine (K2.out _ (by assumption)).mono ?_)
          rintro e w6 ⟨rfl, hl6, hM6⟩
          go_wp2_with fail
          (with_reducible refine (W0.out _ (by assumption)).mono ?_)
          rintro e w7 ⟨rfl, hl7, hM7⟩
          go_wp2_with fail
          have hCx := HC.out.l (((((((hl1).trans hl2).trans hl3).trans hl4).trans hl5).trans hl6).trans hl7)
          (with_reducible refine (CA.out _ (by assumption)).mono ?_)
          rintro e w8 ⟨rfl, hl8⟩
          go_wp2
          go_ret
          exact ⟨rfl, (((((((hl1).trans hl2).trans hl3).trans hl4).trans hl5).trans hl6).trans hl7).trans hl8⟩
      · have D1 := Aside0.mk (fun w hM => Days_lt y 1 4 w hM (by omega) (by omega))
        rw [daysF_not (fun h => hy ((ok_1 y 4 (by omega)).1 h))] at D1
        have D2 := Aside0.mk (fun w hM => Days_lt y 12 28 w hM (by omega) (by omega))
        rw [daysF_not (fun h => hy ((ok_12 y 28 (by omega)).1 h))] at D2
        have W0 := Aside0.mk (fun w hM => Weeks_lt y w hM)
        rw [wks_out hy] at W0
        clear hy
        go_enter Tryz.func5, Tryz.ntmps5
        go_wp2_with fail
        (with_reducible refine (C1.out _ (by assumption)).mono ?_)
        rintro e w1 ⟨rfl, hl1, hM1⟩
        go_wp2_with fail
        (with_reducible refine (C2.out _ (by assumption)).mono ?_)
        rintro e w2 ⟨rfl, hl2, hM2⟩
        go_wp2_with fail
        (with_reducible refine (D1.out _ (by assumption)).mono ?_)
        rintro e w3 ⟨rfl, hl3, hM3⟩
        go_wp2_with fail
        (with_reducible refine (D2.out _ (by assumption)).mono ?_)
        rintro e w4 ⟨rfl, hl4, hM4⟩
        go_wp2_with fail
        (with_reducible refine (W0.out _ (by assumption)).mono ?_)
        rintro e w5 ⟨rfl, hl5, hM5⟩
        go_wp2_with fail
        have hCx := HC.out.l (((((hl1).trans hl2).trans hl3).trans hl4).trans hl5)
        (with_reducible refine (CA.out _ (by assumption)).mono ?_)
        rintro e w6 ⟨rfl, hl6⟩
        go_wp2
        go_ret
        exact ⟨rfl, (((((hl1).trans hl2).trans hl3).trans hl4).trans hl5).trans hl6⟩
  · rw [weekF_not h1] at C1
    have C2 := Aside0.mk (fun w hM => Week_lt (wrap64 (n + 1)) w hM)
    clear h1
    generalize weekF (wrap64 (n + 1)) = r at *
    obtain ⟨z, v, c, f⟩ := r
    by_cases hy : InY y
    · have D1 := Aside0.mk (fun w hM => Days_lt y 1 4 w hM (by omega) (by omega))
      rw [daysF_ok ((ok_1 y 4 (by omega)).2 hy), dn_fourth] at D1
      have D2 := Aside0.mk (fun w hM => Days_lt y 12 28 w hM (by omega) (by omega))
      rw [daysF_ok ((ok_12 y 28 (by omega)).2 hy), dn_28] at D2
      have K1 := Aside0.mk (fun w hM => Week_lt (beg y + 3) w hM)
      rw [week_fourth hy] at K1
      have K2 := Aside0.mk (fun w hM => Week_lt (beg y + 361 + lp y) w hM)
      rw [week_28 hy] at K2
      have W0 := Aside0.mk (fun w hM => Weeks_lt y w hM)
      have hv := wks_in hy
      clear hy
      generalize wdF (beg y + 3) = q1 at *
      generalize wdF (beg y + 361 + lp y) = q2 at *
      generalize beg y + 361 + lp y = b2 at *
      generalize beg y + 3 = b1 at *
      generalize wks y = v at *
      rcases hv with rfl | rfl
      · go_enter Tryz.func5, Tryz.ntmps5
        go_wp2_with fail
        (with_reducible refine (C1.out _ (by assumption)).mono ?_)
        rintro e w1 ⟨rfl, hl1, hM1⟩
        go_wp2_with fail
        (with_reducible refine (C2.out _ (by assumption)).mono ?_)
        rintro e w2 ⟨rfl, hl2, hM2⟩
        go_wp2_with fail
        (with_reducible refine (D1.out _ (by assumption)).mono ?_)
        rintro e w3 ⟨rfl, hl3, hM3⟩
        go_wp2_with fail
        (with_reducible refine (D2.out _ (by assumption)).mono ?_)
        rintro e w4 ⟨rfl, hl4, hM4⟩
        go_wp2_with fail
        (with_reducible refine (K1.out _ (by assumption)).mono ?_)
        rintro e w5 ⟨rfl, hl5, hM5⟩
        go_wp2_with fail
        (with_reducible refine (K2.out _ (by assumption)).mono ?_)
        rintro e w6 ⟨rfl, hl6, hM6⟩
        go_wp2_with fail
        (with_reducible refine (W0.out _ (by assumption)).mono ?_)
        rintro e w7 ⟨rfl, hl7, hM7⟩
        go_wp2_with fail
        have hCx := HC.out.l (((((((hl1).trans hl2).trans hl3).trans hl4).trans hl5).trans hl6).trans hl7)
        (with_reducible refine (CA.out _ (by assumption)).mono ?_)
        rintro e w8 ⟨rfl, hl8⟩
        go_wp2
        go_ret
        exact ⟨rfl, (((((((hl1).trans hl2).trans hl3).trans hl4).trans hl5).trans hl6).trans hl7).trans hl8⟩
      · go_enter Tryz.func5, Tryz.ntmps5
        go_wp2_with fail
        (with_reducible refine (C1.out _ (by assumption)).mono ?_)
        rintro e w1 ⟨rfl, hl1, hM1⟩
        go_wp2_with fail
        (with_reducible refine (C2.out _ (by assumption)).mono ?_)
        rintro e w2 ⟨rfl, hl2, hM2⟩
        go_wp2_with fail
        (with_reducible refine (D1.out _ (by assumption)).mono ?_)
        rintro e w3 ⟨rfl, hl3, hM3⟩
        go_wp2_with fail
        (with_reducible refine (D2.out _ (by assumption)).mono ?_)
        rintro e w4 ⟨rfl, hl4, hM4⟩
        go_wp2_with fail
        (with_reducible refine (K1.out _ (by assumption)).mono ?_)
        rintro e w5 ⟨rfl, hl5, hM5⟩
        go_wp2_with fail
        (with_reducible refine (K2.out _ (by assumption)).mono ?_)
        rintro e w6 ⟨rfl, hl6, hM6⟩
        go_wp2_with fail
        (with_reducible refine (W0.out _ (by assumption)).mono ?_)
        rintro e w7 ⟨rfl, hl7, hM7⟩
        go_wp2_with fail
        have hCx := HC.out.l (((((((hl1).trans hl2).trans hl3).trans hl4).trans hl5).trans hl6).trans hl7)
        (with_reducible refine (CA.out _ (by assumption)).mono ?_)
        rintro e w8 ⟨rfl, hl8⟩
        go_wp2
        go_ret
        exact ⟨rfl, (((((((hl1).trans hl2).trans hl3).trans hl4).trans hl5).trans hl6).trans hl7).trans hl8⟩
    · have D1 := Aside0.mk (fun w hM => Days_lt y 1 4 w hM (by omega) (by omega))
      rw [daysF_not (fun h => hy ((ok_1 y 4 (by omega)).1 h))] at D1
      have D2 := Aside0.mk (fun w hM => Days_lt y 12 28 w hM (by omega) (by omega))
      rw [daysF_not (fun h => hy ((ok_12 y 28 (by omega)).1 h))] at D2
      have W0 := Aside0.mk (fun w hM => Weeks_lt y w hM)
      rw [wks_out hy] at W0
      clear hy
      go_enter Tryz.func5, Tryz.ntmps5
      go_wp2_with fail
      (with_reducible refine (C1.out _ (by assumption)).mono ?_)
      rintro e w1 ⟨rfl, hl1, hM1⟩
      go_wp2_with fail
      (with_reducible refine (C2.out _ (by assumption)).mono ?_)
      rintro e w2 ⟨rfl, hl2, hM2⟩
      go_wp2_with fail
      (with_reducible refine (D1.out _ (by assumption)).mono ?_)
      rintro e w3 ⟨rfl, hl3, hM3⟩
      go_wp2_with fail
      (with_reducible refine (D2.out _ (by assumption)).mono ?_)
      rintro e w4 ⟨rfl, hl4, hM4⟩
      go_wp2_with fail
      (with_reducible refine (W0.out _ (by assumption)).mono ?_)
      rintro e w5 ⟨rfl, hl5, hM5⟩
      go_wp2_with fail
      have hCx := HC.out.l (((((hl1).trans hl2).trans hl3).trans hl4).trans hl5)
      (with_reducible refine (CA.out _ (by assumption)).mono ?_)
      rintro e w6 ⟨rfl, hl6⟩
      go_wp2
      go_ret
      exact ⟨rfl, (((((hl1).trans hl2).trans hl3).trans hl4).trans hl5).trans hl6⟩
end Go.Proofs.YtnaaagaammimnaaGreatDoor.Civ
