/-
  DateBack walked: it returns true.
-/
import Derived.Test.YtnaaagaammimnaaGreatDoorDatA
import Derived.Test.YtnaaagaammimnaaGreatDoorDatB
namespace Go.Proofs.YtnaaagaammimnaaGreatDoor.Civ
open Go Go.RowKit Go.Proofs.YtnaaagaammimnaaGreatDoor.PDateTells Go.Proofs.YtnaaagaammimnaaGreatDoorW.PrintWords Go.Proofs.YtnaaagaammimnaaGreatDoorW.PrintLast Go.Proofs.YtnaaagaammimnaaGreatDoorW.PrintMore Go.Proofs.YtnaaagaammimnaaGreatDoor.Ex Go.Sort
set_option linter.unusedVariables false
set_option linter.unusedSimpArgs false

theorem text_size (n : Int) : (textF n).1.size ≤ 101 := by
  unfold textF
  split
  · rename_i hn
    have hok := (date_ok hn).1
    have hm := hok.month
    have hd : 1 ≤ dyF n ∧ dyF n ≤ 31 := ⟨hok.2.2.2.2.1, by have := hok.2.2.2.2.2; have := len_le (yrF n) (moF n); omega⟩
    show (ymdL (yrF n) (moF n) (dyF n)).toArray.size ≤ 101
    rw [List.size_toArray]
    unfold ymdL
    split
    · rw [List.length_cons]
      have := partsL_len (-yrF n) (moF n) (dyF n) (by have := hok.1; omega) hm hd
      omega
    · have := partsL_len (yrF n) (moF n) (dyF n) (by have := hok.2.1; omega) hm hd
      omega
  · decide
set_option maxHeartbeats 16000000 in
set_option maxRecDepth 100000 in
theorem DateBack_walk (n y k d t : Int) (w : World) (hC : Cal w) (w0 : (Lit.int .i64 n).wf = true) (w1 : (Lit.int .i64 y).wf = true) (w2 : (Lit.int .i64 k).wf = true) (w3 : (Lit.int .i64 d).wf = true) (w4 : (Lit.int .i64 t).wf = true) :
    Calls Tryz.prog 4 #[.int .i64 n, .int .i64 y, .int .i64 k, .int .i64 d, .int .i64 t] w fun e w' => e = .returned (.bool true) ∧ Lt w w' := by
  have HC := Aside0.mk hC
  have CA := Aside0.mk awake4_lt
  have T := Aside0.mk (fun w hC => Text_lt n w hC)
  have P1 := Aside0.mk (fun w (hC : Cal w) => OfWeek_lt y k d w hC.months (wf64 w2).1 (wf64 w2).2)
  have Q1 := Aside0.mk (fun w (hC : Cal w) => OfNth_lt y t w hC.months (wf64 w4).1 (wf64 w4).2)
  have hP : ofWeekF y k d = if 1 ≤ k ∧ k ≤ wks y ∧ 1 ≤ d ∧ d ≤ 7 ∧ In (fst y + 7 * (k - 1) + d - 1) then (fst y + 7 * (k - 1) + d - 1, 0) else (0, 30) := rfl
  have hQ : ofNthF y t = if InY y ∧ 1 ≤ t ∧ t ≤ 365 + lp y then (beg y + t - 1, 0) else (0, 30) := rfl
  rw [hP] at P1
  rw [hQ] at Q1
  clear hP hQ hC w0 w1 w2 w3 w4
  by_cases hn : In n
  · have hte : (textF n).2 = 0 := by unfold textF; rw [if_pos hn]
    have hts := text_size n
    rw [hte] at T
    have R := Aside0.mk (fun w hC => Read_lt (textF n).1 w hC (by omega))
    rw [text_read hn] at R
    have N := Aside0.mk (fun w (hC : Cal w) => Nth_lt n w hC.months)
    rw [nthF_in hn] at N
    have hrg := yrF_range hn
    have hsp := yrF_spec n
    have hbs := beg_succ (yrF n)
    have hlp := lp_bd (yrF n)
    have ON := Aside0.mk (fun w (hC : Cal w) => OfNth_lt (yrF n) (n - beg (yrF n) + 1) w hC.months (by omega) (by omega))
    rw [ofNth_nth hn] at ON
    clear hrg hsp hbs hlp hts hte
    have K := Aside0.mk (fun w (hC : Cal w) => Week_lt n w hC.months)
    by_cases hi : InY (wyr n)
    · rw [weekF_in hn hi] at K
      have hsp := wyr_spec n
      have hst := fst_step (wyr n)
      have KO := Aside0.mk (fun w (hC : Cal w) => OfWeek_lt (wyr n) ((n - fst (wyr n)) / 7 + 1) (wdF n) w hC.months (by omega) (by omega))
      rw [ofWeek_week hn hi] at KO
      have WD := Aside0.mk (fun w (hC : Cal w) => Weekday_lt n w hC.months)
      clear hn hi hsp hst
      generalize (textF n).1 = s at *
      generalize n - beg (yrF n) + 1 = r at *
      generalize yrF n = ny at *
      generalize (n - fst (wyr n)) / 7 + 1 = wk at *
      generalize wyr n = wy at *
      generalize wdF n = wd at *
      by_cases h2 : 1 ≤ k ∧ k ≤ wks y ∧ 1 ≤ d ∧ d ≤ 7 ∧ In (fst y + 7 * (k - 1) + d - 1)
      · rw [if_pos h2] at P1
        have P2 := Aside0.mk (fun w (hC : Cal w) => Week_lt (fst y + 7 * (k - 1) + d - 1) w hC.months)
        rw [week_ofWeek h2.1 h2.2.1 h2.2.2.1 h2.2.2.2.1 h2.2.2.2.2] at P2
        clear h2
        generalize fst y + 7 * (k - 1) + d - 1 = p at *
        by_cases h3 : InY y ∧ 1 ≤ t ∧ t ≤ 365 + lp y
        · rw [if_pos h3] at Q1
          have Q2 := Aside0.mk (fun w (hC : Cal w) => Nth_lt (beg y + t - 1) w hC.months)
          rw [nth_ofNth h3.1 h3.2.1 h3.2.2] at Q2
          clear h3
          generalize beg y + t - 1 = b at *
          go_enter Tryz.func4, Tryz.ntmps4
          have hC0 := HC.out
          go_wp2_with fail
          (with_reducible refine (T.out _ (by assumption)).mono ?_)
          rintro e w1 ⟨rfl, hl1⟩
          have hC1 := hC0.l hl1
          clear hC0
          go_wp2_with fail
          (with_reducible refine (R.out _ (by assumption)).mono ?_)
          rintro e w2 ⟨rfl, hl2⟩
          have hC2 := hC1.l hl2
          clear hC1
          go_wp2_with fail
          (with_reducible refine (N.out _ (by assumption)).mono ?_)
          rintro e w3 ⟨rfl, hl3, _⟩
          have hC3 := hC2.l hl3
          clear hC2
          go_wp2_with fail
          (with_reducible refine (ON.out _ (by assumption)).mono ?_)
          rintro e w4 ⟨rfl, hl4, _⟩
          have hC4 := hC3.l hl4
          clear hC3
          go_wp2_with fail
          (with_reducible refine (K.out _ (by assumption)).mono ?_)
          rintro e w5 ⟨rfl, hl5, _⟩
          have hC5 := hC4.l hl5
          clear hC4
          go_wp2_with fail
          (with_reducible refine (KO.out _ (by assumption)).mono ?_)
          rintro e w6 ⟨rfl, hl6, _⟩
          have hC6 := hC5.l hl6
          clear hC5
          go_wp2_with fail
          (with_reducible refine (WD.out _ (by assumption)).mono ?_)
          rintro e w7 ⟨rfl, hl7, _⟩
          have hC7 := hC6.l hl7
          clear hC6
          go_wp2_with fail
          (with_reducible refine (P1.out _ (by assumption)).mono ?_)
          rintro e w8 ⟨rfl, hl8, _⟩
          have hC8 := hC7.l hl8
          clear hC7
          go_wp2_with fail
          (with_reducible refine (P2.out _ (by assumption)).mono ?_)
          rintro e w9 ⟨rfl, hl9, _⟩
          have hC9 := hC8.l hl9
          clear hC8
          go_wp2_with fail
          (with_reducible refine (Q1.out _ (by assumption)).mono ?_)
          rintro e w10 ⟨rfl, hl10, _⟩
          have hC10 := hC9.l hl10
          clear hC9
          go_wp2_with fail
          (with_reducible refine (Q2.out _ (by assumption)).mono ?_)
          rintro e w11 ⟨rfl, hl11, _⟩
          have hC11 := hC10.l hl11
          clear hC10
          go_wp2_with fail
          (with_reducible refine (CA.out _ (by assumption)).mono ?_)
          rintro e w12 ⟨rfl, hl12⟩
          have hC12 := hC11.l hl12
          clear hC11
          go_wp2
          go_ret
          exact ⟨rfl, (((((((((((hl1).trans hl2).trans hl3).trans hl4).trans hl5).trans hl6).trans hl7).trans hl8).trans hl9).trans hl10).trans hl11).trans hl12⟩
        · rw [if_neg h3] at Q1
          clear h3
          go_enter Tryz.func4, Tryz.ntmps4
          have hC0 := HC.out
          go_wp2_with fail
          (with_reducible refine (T.out _ (by assumption)).mono ?_)
          rintro e w1 ⟨rfl, hl1⟩
          have hC1 := hC0.l hl1
          clear hC0
          go_wp2_with fail
          (with_reducible refine (R.out _ (by assumption)).mono ?_)
          rintro e w2 ⟨rfl, hl2⟩
          have hC2 := hC1.l hl2
          clear hC1
          go_wp2_with fail
          (with_reducible refine (N.out _ (by assumption)).mono ?_)
          rintro e w3 ⟨rfl, hl3, _⟩
          have hC3 := hC2.l hl3
          clear hC2
          go_wp2_with fail
          (with_reducible refine (ON.out _ (by assumption)).mono ?_)
          rintro e w4 ⟨rfl, hl4, _⟩
          have hC4 := hC3.l hl4
          clear hC3
          go_wp2_with fail
          (with_reducible refine (K.out _ (by assumption)).mono ?_)
          rintro e w5 ⟨rfl, hl5, _⟩
          have hC5 := hC4.l hl5
          clear hC4
          go_wp2_with fail
          (with_reducible refine (KO.out _ (by assumption)).mono ?_)
          rintro e w6 ⟨rfl, hl6, _⟩
          have hC6 := hC5.l hl6
          clear hC5
          go_wp2_with fail
          (with_reducible refine (WD.out _ (by assumption)).mono ?_)
          rintro e w7 ⟨rfl, hl7, _⟩
          have hC7 := hC6.l hl7
          clear hC6
          go_wp2_with fail
          (with_reducible refine (P1.out _ (by assumption)).mono ?_)
          rintro e w8 ⟨rfl, hl8, _⟩
          have hC8 := hC7.l hl8
          clear hC7
          go_wp2_with fail
          (with_reducible refine (P2.out _ (by assumption)).mono ?_)
          rintro e w9 ⟨rfl, hl9, _⟩
          have hC9 := hC8.l hl9
          clear hC8
          go_wp2_with fail
          (with_reducible refine (Q1.out _ (by assumption)).mono ?_)
          rintro e w10 ⟨rfl, hl10, _⟩
          have hC10 := hC9.l hl10
          clear hC9
          go_wp2_with fail
          (with_reducible refine (CA.out _ (by assumption)).mono ?_)
          rintro e w11 ⟨rfl, hl11⟩
          have hC11 := hC10.l hl11
          clear hC10
          go_wp2
          go_ret
          exact ⟨rfl, ((((((((((hl1).trans hl2).trans hl3).trans hl4).trans hl5).trans hl6).trans hl7).trans hl8).trans hl9).trans hl10).trans hl11⟩
      · rw [if_neg h2] at P1
        clear h2
        by_cases h3 : InY y ∧ 1 ≤ t ∧ t ≤ 365 + lp y
        · rw [if_pos h3] at Q1
          have Q2 := Aside0.mk (fun w (hC : Cal w) => Nth_lt (beg y + t - 1) w hC.months)
          rw [nth_ofNth h3.1 h3.2.1 h3.2.2] at Q2
          clear h3
          generalize beg y + t - 1 = b at *
          go_enter Tryz.func4, Tryz.ntmps4
          have hC0 := HC.out
          go_wp2_with fail
          (with_reducible refine (T.out _ (by assumption)).mono ?_)
          rintro e w1 ⟨rfl, hl1⟩
          have hC1 := hC0.l hl1
          clear hC0
          go_wp2_with fail
          (with_reducible refine (R.out _ (by assumption)).mono ?_)
          rintro e w2 ⟨rfl, hl2⟩
          have hC2 := hC1.l hl2
          clear hC1
          go_wp2_with fail
          (with_reducible refine (N.out _ (by assumption)).mono ?_)
          rintro e w3 ⟨rfl, hl3, _⟩
          have hC3 := hC2.l hl3
          clear hC2
          go_wp2_with fail
          (with_reducible refine (ON.out _ (by assumption)).mono ?_)
          rintro e w4 ⟨rfl, hl4, _⟩
          have hC4 := hC3.l hl4
          clear hC3
          go_wp2_with fail
          (with_reducible refine (K.out _ (by assumption)).mono ?_)
          rintro e w5 ⟨rfl, hl5, _⟩
          have hC5 := hC4.l hl5
          clear hC4
          go_wp2_with fail
          (with_reducible refine (KO.out _ (by assumption)).mono ?_)
          rintro e w6 ⟨rfl, hl6, _⟩
          have hC6 := hC5.l hl6
          clear hC5
          go_wp2_with fail
          (with_reducible refine (WD.out _ (by assumption)).mono ?_)
          rintro e w7 ⟨rfl, hl7, _⟩
          have hC7 := hC6.l hl7
          clear hC6
          go_wp2_with fail
          (with_reducible refine (P1.out _ (by assumption)).mono ?_)
          rintro e w8 ⟨rfl, hl8, _⟩
          have hC8 := hC7.l hl8
          clear hC7
          go_wp2_with fail
          (with_reducible refine (Q1.out _ (by assumption)).mono ?_)
          rintro e w9 ⟨rfl, hl9, _⟩
          have hC9 := hC8.l hl9
          clear hC8
          go_wp2_with fail
          (with_reducible refine (Q2.out _ (by assumption)).mono ?_)
          rintro e w10 ⟨rfl, hl10, _⟩
          have hC10 := hC9.l hl10
          clear hC9
          go_wp2_with fail
          (with_reducible refine (CA.out _ (by assumption)).mono ?_)
          rintro e w11 ⟨rfl, hl11⟩
          have hC11 := hC10.l hl11
          clear hC10
          go_wp2
          go_ret
          exact ⟨rfl, ((((((((((hl1).trans hl2).trans hl3).trans hl4).trans hl5).trans hl6).trans hl7).trans hl8).trans hl9).trans hl10).trans hl11⟩
        · rw [if_neg h3] at Q1
          clear h3
          go_enter Tryz.func4, Tryz.ntmps4
          have hC0 := HC.out
          go_wp2_with fail
          (with_reducible refine (T.out _ (by assumption)).mono ?_)
          rintro e w1 ⟨rfl, hl1⟩
          have hC1 := hC0.l hl1
          clear hC0
          go_wp2_with fail
          (with_reducible refine (R.out _ (by assumption)).mono ?_)
          rintro e w2 ⟨rfl, hl2⟩
          have hC2 := hC1.l hl2
          clear hC1
          go_wp2_with fail
          (with_reducible refine (N.out _ (by assumption)).mono ?_)
          rintro e w3 ⟨rfl, hl3, _⟩
          have hC3 := hC2.l hl3
          clear hC2
          go_wp2_with fail
          (with_reducible refine (ON.out _ (by assumption)).mono ?_)
          rintro e w4 ⟨rfl, hl4, _⟩
          have hC4 := hC3.l hl4
          clear hC3
          go_wp2_with fail
          (with_reducible refine (K.out _ (by assumption)).mono ?_)
          rintro e w5 ⟨rfl, hl5, _⟩
          have hC5 := hC4.l hl5
          clear hC4
          go_wp2_with fail
          (with_reducible refine (KO.out _ (by assumption)).mono ?_)
          rintro e w6 ⟨rfl, hl6, _⟩
          have hC6 := hC5.l hl6
          clear hC5
          go_wp2_with fail
          (with_reducible refine (WD.out _ (by assumption)).mono ?_)
          rintro e w7 ⟨rfl, hl7, _⟩
          have hC7 := hC6.l hl7
          clear hC6
          go_wp2_with fail
          (with_reducible refine (P1.out _ (by assumption)).mono ?_)
          rintro e w8 ⟨rfl, hl8, _⟩
          have hC8 := hC7.l hl8
          clear hC7
          go_wp2_with fail
          (with_reducible refine (Q1.out _ (by assumption)).mono ?_)
          rintro e w9 ⟨rfl, hl9, _⟩
          have hC9 := hC8.l hl9
          clear hC8
          go_wp2_with fail
          (with_reducible refine (CA.out _ (by assumption)).mono ?_)
          rintro e w10 ⟨rfl, hl10⟩
          have hC10 := hC9.l hl10
          clear hC9
          go_wp2
          go_ret
          exact ⟨rfl, (((((((((hl1).trans hl2).trans hl3).trans hl4).trans hl5).trans hl6).trans hl7).trans hl8).trans hl9).trans hl10⟩
    · rw [weekF_not (fun h => hi h.2)] at K
      have KO := Aside0.mk (fun w (hC : Cal w) => OfWeek_lt 0 0 0 w hC.months (by omega) (by omega))
      clear hn hi
      generalize (textF n).1 = s at *
      generalize n - beg (yrF n) + 1 = r at *
      generalize yrF n = ny at *
      generalize ofWeekF 0 0 0 = o at *
      obtain ⟨o1, o2⟩ := o
      by_cases h2 : 1 ≤ k ∧ k ≤ wks y ∧ 1 ≤ d ∧ d ≤ 7 ∧ In (fst y + 7 * (k - 1) + d - 1)
      · rw [if_pos h2] at P1
        have P2 := Aside0.mk (fun w (hC : Cal w) => Week_lt (fst y + 7 * (k - 1) + d - 1) w hC.months)
        rw [week_ofWeek h2.1 h2.2.1 h2.2.2.1 h2.2.2.2.1 h2.2.2.2.2] at P2
        clear h2
        generalize fst y + 7 * (k - 1) + d - 1 = p at *
        by_cases h3 : InY y ∧ 1 ≤ t ∧ t ≤ 365 + lp y
        · rw [if_pos h3] at Q1
          have Q2 := Aside0.mk (fun w (hC : Cal w) => Nth_lt (beg y + t - 1) w hC.months)
          rw [nth_ofNth h3.1 h3.2.1 h3.2.2] at Q2
          clear h3
          generalize beg y + t - 1 = b at *
          go_enter Tryz.func4, Tryz.ntmps4
          have hC0 := HC.out
          go_wp2_with fail
          (with_reducible refine (T.out _ (by assumption)).mono ?_)
          rintro e w1 ⟨rfl, hl1⟩
          have hC1 := hC0.l hl1
          clear hC0
          go_wp2_with fail
          (with_reducible refine (R.out _ (by assumption)).mono ?_)
          rintro e w2 ⟨rfl, hl2⟩
          have hC2 := hC1.l hl2
          clear hC1
          go_wp2_with fail
          (with_reducible refine (N.out _ (by assumption)).mono ?_)
          rintro e w3 ⟨rfl, hl3, _⟩
          have hC3 := hC2.l hl3
          clear hC2
          go_wp2_with fail
          (with_reducible refine (ON.out _ (by assumption)).mono ?_)
          rintro e w4 ⟨rfl, hl4, _⟩
          have hC4 := hC3.l hl4
          clear hC3
          go_wp2_with fail
          (with_reducible refine (K.out _ (by assumption)).mono ?_)
          rintro e w5 ⟨rfl, hl5, _⟩
          have hC5 := hC4.l hl5
          clear hC4
          go_wp2_with fail
          (with_reducible refine (KO.out _ (by assumption)).mono ?_)
          rintro e w6 ⟨rfl, hl6, _⟩
          have hC6 := hC5.l hl6
          clear hC5
          go_wp2_with fail
          (with_reducible refine (P1.out _ (by assumption)).mono ?_)
          rintro e w7 ⟨rfl, hl7, _⟩
          have hC7 := hC6.l hl7
          clear hC6
          go_wp2_with fail
          (with_reducible refine (P2.out _ (by assumption)).mono ?_)
          rintro e w8 ⟨rfl, hl8, _⟩
          have hC8 := hC7.l hl8
          clear hC7
          go_wp2_with fail
          (with_reducible refine (Q1.out _ (by assumption)).mono ?_)
          rintro e w9 ⟨rfl, hl9, _⟩
          have hC9 := hC8.l hl9
          clear hC8
          go_wp2_with fail
          (with_reducible refine (Q2.out _ (by assumption)).mono ?_)
          rintro e w10 ⟨rfl, hl10, _⟩
          have hC10 := hC9.l hl10
          clear hC9
          go_wp2_with fail
          (with_reducible refine (CA.out _ (by assumption)).mono ?_)
          rintro e w11 ⟨rfl, hl11⟩
          have hC11 := hC10.l hl11
          clear hC10
          go_wp2
          go_ret
          exact ⟨rfl, ((((((((((hl1).trans hl2).trans hl3).trans hl4).trans hl5).trans hl6).trans hl7).trans hl8).trans hl9).trans hl10).trans hl11⟩
        · rw [if_neg h3] at Q1
          clear h3
          go_enter Tryz.func4, Tryz.ntmps4
          have hC0 := HC.out
          go_wp2_with fail
          (with_reducible refine (T.out _ (by assumption)).mono ?_)
          rintro e w1 ⟨rfl, hl1⟩
          have hC1 := hC0.l hl1
          clear hC0
          go_wp2_with fail
          (with_reducible refine (R.out _ (by assumption)).mono ?_)
          rintro e w2 ⟨rfl, hl2⟩
          have hC2 := hC1.l hl2
          clear hC1
          go_wp2_with fail
          (with_reducible refine (N.out _ (by assumption)).mono ?_)
          rintro e w3 ⟨rfl, hl3, _⟩
          have hC3 := hC2.l hl3
          clear hC2
          go_wp2_with fail
          (with_reducible refine (ON.out _ (by assumption)).mono ?_)
          rintro e w4 ⟨rfl, hl4, _⟩
          have hC4 := hC3.l hl4
          clear hC3
          go_wp2_with fail
          (with_reducible refine (K.out _ (by assumption)).mono ?_)
          rintro e w5 ⟨rfl, hl5, _⟩
          have hC5 := hC4.l hl5
          clear hC4
          go_wp2_with fail
          (with_reducible refine (KO.out _ (by assumption)).mono ?_)
          rintro e w6 ⟨rfl, hl6, _⟩
          have hC6 := hC5.l hl6
          clear hC5
          go_wp2_with fail
          (with_reducible refine (P1.out _ (by assumption)).mono ?_)
          rintro e w7 ⟨rfl, hl7, _⟩
          have hC7 := hC6.l hl7
          clear hC6
          go_wp2_with fail
          (with_reducible refine (P2.out _ (by assumption)).mono ?_)
          rintro e w8 ⟨rfl, hl8, _⟩
          have hC8 := hC7.l hl8
          clear hC7
          go_wp2_with fail
          (with_reducible refine (Q1.out _ (by assumption)).mono ?_)
          rintro e w9 ⟨rfl, hl9, _⟩
          have hC9 := hC8.l hl9
          clear hC8
          go_wp2_with fail
          (with_reducible refine (CA.out _ (by assumption)).mono ?_)
          rintro e w10 ⟨rfl, hl10⟩
          have hC10 := hC9.l hl10
          clear hC9
          go_wp2
          go_ret
          exact ⟨rfl, (((((((((hl1).trans hl2).trans hl3).trans hl4).trans hl5).trans hl6).trans hl7).trans hl8).trans hl9).trans hl10⟩
      · rw [if_neg h2] at P1
        clear h2
        by_cases h3 : InY y ∧ 1 ≤ t ∧ t ≤ 365 + lp y
        · rw [if_pos h3] at Q1
          have Q2 := Aside0.mk (fun w (hC : Cal w) => Nth_lt (beg y + t - 1) w hC.months)
          rw [nth_ofNth h3.1 h3.2.1 h3.2.2] at Q2
          clear h3
          generalize beg y + t - 1 = b at *
          go_enter Tryz.func4, Tryz.ntmps4
          have hC0 := HC.out
          go_wp2_with fail
          (with_reducible refine (T.out _ (by assumption)).mono ?_)
          rintro e w1 ⟨rfl, hl1⟩
          have hC1 := hC0.l hl1
          clear hC0
          go_wp2_with fail
          (with_reducible refine (R.out _ (by assumption)).mono ?_)
          rintro e w2 ⟨rfl, hl2⟩
          have hC2 := hC1.l hl2
          clear hC1
          go_wp2_with fail
          (with_reducible refine (N.out _ (by assumption)).mono ?_)
          rintro e w3 ⟨rfl, hl3, _⟩
          have hC3 := hC2.l hl3
          clear hC2
          go_wp2_with fail
          (with_reducible refine (ON.out _ (by assumption)).mono ?_)
          rintro e w4 ⟨rfl, hl4, _⟩
          have hC4 := hC3.l hl4
          clear hC3
          go_wp2_with fail
          (with_reducible refine (K.out _ (by assumption)).mono ?_)
          rintro e w5 ⟨rfl, hl5, _⟩
          have hC5 := hC4.l hl5
          clear hC4
          go_wp2_with fail
          (with_reducible refine (KO.out _ (by assumption)).mono ?_)
          rintro e w6 ⟨rfl, hl6, _⟩
          have hC6 := hC5.l hl6
          clear hC5
          go_wp2_with fail
          (with_reducible refine (P1.out _ (by assumption)).mono ?_)
          rintro e w7 ⟨rfl, hl7, _⟩
          have hC7 := hC6.l hl7
          clear hC6
          go_wp2_with fail
          (with_reducible refine (Q1.out _ (by assumption)).mono ?_)
          rintro e w8 ⟨rfl, hl8, _⟩
          have hC8 := hC7.l hl8
          clear hC7
          go_wp2_with fail
          (with_reducible refine (Q2.out _ (by assumption)).mono ?_)
          rintro e w9 ⟨rfl, hl9, _⟩
          have hC9 := hC8.l hl9
          clear hC8
          go_wp2_with fail
          (with_reducible refine (CA.out _ (by assumption)).mono ?_)
          rintro e w10 ⟨rfl, hl10⟩
          have hC10 := hC9.l hl10
          clear hC9
          go_wp2
          go_ret
          exact ⟨rfl, (((((((((hl1).trans hl2).trans hl3).trans hl4).trans hl5).trans hl6).trans hl7).trans hl8).trans hl9).trans hl10⟩
        · rw [if_neg h3] at Q1
          clear h3
          go_enter Tryz.func4, Tryz.ntmps4
          have hC0 := HC.out
          go_wp2_with fail
          (with_reducible refine (T.out _ (by assumption)).mono ?_)
          rintro e w1 ⟨rfl, hl1⟩
          have hC1 := hC0.l hl1
          clear hC0
          go_wp2_with fail
          (with_reducible refine (R.out _ (by assumption)).mono ?_)
          rintro e w2 ⟨rfl, hl2⟩
          have hC2 := hC1.l hl2
          clear hC1
          go_wp2_with fail
          (with_reducible refine (N.out _ (by assumption)).mono ?_)
          rintro e w3 ⟨rfl, hl3, _⟩
          have hC3 := hC2.l hl3
          clear hC2
          go_wp2_with fail
          (with_reducible refine (ON.out _ (by assumption)).mono ?_)
          rintro e w4 ⟨rfl, hl4, _⟩
          have hC4 := hC3.l hl4
          clear hC3
          go_wp2_with fail
          (with_reducible refine (K.out _ (by assumption)).mono ?_)
          rintro e w5 ⟨rfl, hl5, _⟩
          have hC5 := hC4.l hl5
          clear hC4
          go_wp2_with fail
          (with_reducible refine (KO.out _ (by assumption)).mono ?_)
          rintro e w6 ⟨rfl, hl6, _⟩
          have hC6 := hC5.l hl6
          clear hC5
          go_wp2_with fail
          (with_reducible refine (P1.out _ (by assumption)).mono ?_)
          rintro e w7 ⟨rfl, hl7, _⟩
          have hC7 := hC6.l hl7
          clear hC6
          go_wp2_with fail
          (with_reducible refine (Q1.out _ (by assumption)).mono ?_)
          rintro e w8 ⟨rfl, hl8, _⟩
          have hC8 := hC7.l hl8
          clear hC7
          go_wp2_with fail
          (with_reducible refine (CA.out _ (by assumption)).mono ?_)
          rintro e w9 ⟨rfl, hl9⟩
          have hC9 := hC8.l hl9
          clear hC8
          go_wp2
          go_ret
          exact ⟨rfl, ((((((((hl1).trans hl2).trans hl3).trans hl4).trans hl5).trans hl6).trans hl7).trans hl8).trans hl9⟩
  · have hte : textF n = (⟨#[]⟩, 30) := by unfold textF; rw [if_neg hn]
    rw [hte] at T
    clear hn hte
    by_cases h2 : 1 ≤ k ∧ k ≤ wks y ∧ 1 ≤ d ∧ d ≤ 7 ∧ In (fst y + 7 * (k - 1) + d - 1)
    · rw [if_pos h2] at P1
      have P2 := Aside0.mk (fun w (hC : Cal w) => Week_lt (fst y + 7 * (k - 1) + d - 1) w hC.months)
      rw [week_ofWeek h2.1 h2.2.1 h2.2.2.1 h2.2.2.2.1 h2.2.2.2.2] at P2
      clear h2
      generalize fst y + 7 * (k - 1) + d - 1 = p at *
      by_cases h3 : InY y ∧ 1 ≤ t ∧ t ≤ 365 + lp y
      · rw [if_pos h3] at Q1
        have Q2 := Aside0.mk (fun w (hC : Cal w) => Nth_lt (beg y + t - 1) w hC.months)
        rw [nth_ofNth h3.1 h3.2.1 h3.2.2] at Q2
        clear h3
        generalize beg y + t - 1 = b at *
        go_enter Tryz.func4, Tryz.ntmps4
        have hC0 := HC.out
        go_wp2_with fail
        (with_reducible refine (T.out _ (by assumption)).mono ?_)
        rintro e w1 ⟨rfl, hl1⟩
        have hC1 := hC0.l hl1
        clear hC0
        go_wp2_with fail
        (with_reducible refine (P1.out _ (by assumption)).mono ?_)
        rintro e w2 ⟨rfl, hl2, _⟩
        have hC2 := hC1.l hl2
        clear hC1
        go_wp2_with fail
        (with_reducible refine (P2.out _ (by assumption)).mono ?_)
        rintro e w3 ⟨rfl, hl3, _⟩
        have hC3 := hC2.l hl3
        clear hC2
        go_wp2_with fail
        (with_reducible refine (Q1.out _ (by assumption)).mono ?_)
        rintro e w4 ⟨rfl, hl4, _⟩
        have hC4 := hC3.l hl4
        clear hC3
        go_wp2_with fail
        (with_reducible refine (Q2.out _ (by assumption)).mono ?_)
        rintro e w5 ⟨rfl, hl5, _⟩
        have hC5 := hC4.l hl5
        clear hC4
        go_wp2_with fail
        (with_reducible refine (CA.out _ (by assumption)).mono ?_)
        rintro e w6 ⟨rfl, hl6⟩
        have hC6 := hC5.l hl6
        clear hC5
        go_wp2
        go_ret
        exact ⟨rfl, (((((hl1).trans hl2).trans hl3).trans hl4).trans hl5).trans hl6⟩
      · rw [if_neg h3] at Q1
        clear h3
        go_enter Tryz.func4, Tryz.ntmps4
        have hC0 := HC.out
        go_wp2_with fail
        (with_reducible refine (T.out _ (by assumption)).mono ?_)
        rintro e w1 ⟨rfl, hl1⟩
        have hC1 := hC0.l hl1
        clear hC0
        go_wp2_with fail
        (with_reducible refine (P1.out _ (by assumption)).mono ?_)
        rintro e w2 ⟨rfl, hl2, _⟩
        have hC2 := hC1.l hl2
        clear hC1
        go_wp2_with fail
        (with_reducible refine (P2.out _ (by assumption)).mono ?_)
        rintro e w3 ⟨rfl, hl3, _⟩
        have hC3 := hC2.l hl3
        clear hC2
        go_wp2_with fail
        (with_reducible refine (Q1.out _ (by assumption)).mono ?_)
        rintro e w4 ⟨rfl, hl4, _⟩
        have hC4 := hC3.l hl4
        clear hC3
        go_wp2_with fail
        (with_reducible refine (CA.out _ (by assumption)).mono ?_)
        rintro e w5 ⟨rfl, hl5⟩
        have hC5 := hC4.l hl5
        clear hC4
        go_wp2
        go_ret
        exact ⟨rfl, ((((hl1).trans hl2).trans hl3).trans hl4).trans hl5⟩
    · rw [if_neg h2] at P1
      clear h2
      by_cases h3 : InY y ∧ 1 ≤ t ∧ t ≤ 365 + lp y
      · rw [if_pos h3] at Q1
        have Q2 := Aside0.mk (fun w (hC : Cal w) => Nth_lt (beg y + t - 1) w hC.months)
        rw [nth_ofNth h3.1 h3.2.1 h3.2.2] at Q2
        clear h3
        generalize beg y + t - 1 = b at *
        go_enter Tryz.func4, Tryz.ntmps4
        have hC0 := HC.out
        go_wp2_with fail
        (with_reducible refine (T.out _ (by assumption)).mono ?_)
        rintro e w1 ⟨rfl, hl1⟩
        have hC1 := hC0.l hl1
        clear hC0
        go_wp2_with fail
        (with_reducible refine (P1.out _ (by assumption)).mono ?_)
        rintro e w2 ⟨rfl, hl2, _⟩
        have hC2 := hC1.l hl2
        clear hC1
        go_wp2_with fail
        (with_reducible refine (Q1.out _ (by assumption)).mono ?_)
        rintro e w3 ⟨rfl, hl3, _⟩
        have hC3 := hC2.l hl3
        clear hC2
        go_wp2_with fail
        (with_reducible refine (Q2.out _ (by assumption)).mono ?_)
        rintro e w4 ⟨rfl, hl4, _⟩
        have hC4 := hC3.l hl4
        clear hC3
        go_wp2_with fail
        (with_reducible refine (CA.out _ (by assumption)).mono ?_)
        rintro e w5 ⟨rfl, hl5⟩
        have hC5 := hC4.l hl5
        clear hC4
        go_wp2
        go_ret
        exact ⟨rfl, ((((hl1).trans hl2).trans hl3).trans hl4).trans hl5⟩
      · rw [if_neg h3] at Q1
        clear h3
        go_enter Tryz.func4, Tryz.ntmps4
        have hC0 := HC.out
        go_wp2_with fail
        (with_reducible refine (T.out _ (by assumption)).mono ?_)
        rintro e w1 ⟨rfl, hl1⟩
        have hC1 := hC0.l hl1
        clear hC0
        go_wp2_with fail
        (with_reducible refine (P1.out _ (by assumption)).mono ?_)
        rintro e w2 ⟨rfl, hl2, _⟩
        have hC2 := hC1.l hl2
        clear hC1
        go_wp2_with fail
        (with_reducible refine (Q1.out _ (by assumption)).mono ?_)
        rintro e w3 ⟨rfl, hl3, _⟩
        have hC3 := hC2.l hl3
        clear hC2
        go_wp2_with fail
        (with_reducible refine (CA.out _ (by assumption)).mono ?_)
        rintro e w4 ⟨rfl, hl4⟩
        have hC4 := hC3.l hl4
        clear hC3
        go_wp2
        go_ret
        exact ⟨rfl, (((hl1).trans hl2).trans hl3).trans hl4⟩
end Go.Proofs.YtnaaagaammimnaaGreatDoor.Civ
