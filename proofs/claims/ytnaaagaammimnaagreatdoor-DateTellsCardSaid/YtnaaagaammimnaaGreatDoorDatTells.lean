/-
  DateTells walked: it returns true.
-/
import Derived.Test.YtnaaagaammimnaaGreatDoorDatA
import Derived.Test.YtnaaagaammimnaaGreatDoorDatK
namespace Go.Proofs.YtnaaagaammimnaaGreatDoor.Civ
open Go Go.RowKit Go.Proofs.YtnaaagaammimnaaGreatDoor.PDateTells Go.Proofs.YtnaaagaammimnaaGreatDoorW.PrintWords Go.Proofs.YtnaaagaammimnaaGreatDoorW.PrintLast Go.Proofs.YtnaaagaammimnaaGreatDoorW.PrintMore Go.Proofs.YtnaaagaammimnaaGreatDoor.Ex Go.Sort
set_option linter.unusedVariables false
set_option linter.unusedSimpArgs false

theorem toB_data (s : ByteArray) : toB s.data.toList = s := by
  apply ByteArray.ext
  apply Array.toList_inj.1
  exact toB_list _
theorem rTexts_calls (n : Int) (w : World) (hn : In n) :
    Calls Tryz.prog 20 #[.int .i64 n] w fun e w' => ∃ ad c, ∃ N : Nat, e = .returned (.slice (some ad) N c) ∧ 0 < N ∧ N ≤ 3 ∧ w'.cell? ad = some (.string (textF n).1) ∧ Lt w w' := by
  refine (epactref04_Texts.calls 2000000 n _ w (Texts_r 2000000 n (by omega))).mono ?_
  rintro e w' ⟨v, rfl, hR, hb⟩
  obtain ⟨A, c, rfl, hl, hC⟩ := Kd.R_reads hR
  have hlen := textsL_len n
  have h0 : textsL n = form1 n :: (form2 n :: (if InY (wyr n) then [form3 n] else [])) := by unfold textsL; rw [if_pos hn]
  have hpos : 0 < ((textsL n).map toB).length := by rw [h0]; simp
  obtain ⟨ad, rfl, hc⟩ := ReadsOf.at_ (Kd.reads_of_C (enc := Value.string) (d := ByteArray.empty) (h1 := fun _ => rfl) hC) 0 (by omega) (by omega)
  refine ⟨ad, c, _, rfl, hpos, by rw [List.length_map]; exact hlen, ?_, ⟨hb⟩⟩
  have e1 : rdOf ByteArray.empty ((textsL n).map toB) 0 = (textF n).1 := by
    rw [h0, text_form hn]
    rfl
  rw [e1] at hc
  have e2 : ad.add (0 : Int).toNat = ad := by
    show ad.add 0 = ad
    first | exact Addr.add_zero ad | (unfold Addr.add; simp; done) | (unfold Addr.add; split <;> simp_all) | rfl
  rw [e2] at hc
  exact hc
theorem rTexts_none (n : Int) (w : World) (hn : ¬ In n) :
    Calls Tryz.prog 20 #[.int .i64 n] w fun e w' => ∃ A c, e = .returned (.slice A 0 c) ∧ Lt w w' := by
  refine (epactref04_Texts.calls 2000000 n _ w (Texts_r 2000000 n (by omega))).mono ?_
  rintro e w' ⟨v, rfl, hR, hb⟩
  obtain ⟨A, c, rfl, hl, hC⟩ := Kd.R_reads hR
  have h0 : textsL n = [] := by unfold textsL; rw [if_neg hn]
  refine ⟨A, c, ?_, ⟨hb⟩⟩
  rw [h0]
  rfl
set_option maxHeartbeats 32000000 in
set_option maxRecDepth 100000 in
theorem DateTells_walk (n y k d t : Int) (s : ByteArray) (w : World) (hC : Cal w) (w0 : (Lit.int .i64 n).wf = true) (w1 : (Lit.int .i64 y).wf = true) (w2 : (Lit.int .i64 k).wf = true) (w3 : (Lit.int .i64 d).wf = true) (w4 : (Lit.int .i64 t).wf = true) (w5 : s.size ≤ 140737488351232) :
    Calls Tryz.prog 3 #[.int .i64 n, .int .i64 y, .int .i64 k, .int .i64 d, .int .i64 t, .string s] w fun e w' => e = .returned (.bool true) ∧ Lt w w' := by
  have HC := Aside0.mk hC
  have CA := Aside0.mk awake4_lt
  by_cases hs : 40 < s.size
  · have h1 : decide ((s.size : Int) > 40) = true := decide_eq_true (by omega)
    have h2 : (40 : Int) < (s.size : Int) := by omega
    clear hs hC w0 w1 w2 w3 w4 w5
    go_enter Tryz.func3, Tryz.ntmps3
    have hC0 := HC.out
    go_wp2_with fail
    (with_reducible refine (CA.out _ (by assumption)).mono ?_)
    rintro e w1 ⟨rfl, hl1⟩
    have hC1 := hC0.l hl1
    clear hC0
    go_wp2
    go_ret
    exact ⟨rfl, hl1⟩
  have h1 : decide ((s.size : Int) > 40) = false := decide_eq_false (by omega)
  have h2 : (s.size : Int) ≤ 40 := by omega
  have K := Aside0.mk (fun w (hC : Cal w) => Week_lt n w hC.months)
  have rK := Aside0.mk (show ∀ w, Cal w → Calls Tryz.prog 10 #[.int .i64 n] w fun e w' => e = .returned (.tuple #[.int .i64 (weekF n).1, .int .i64 (weekF n).2.1, .int .i64 (weekF n).2.2.1, .int .i64 (weekF n).2.2.2]) ∧ Lt w w' from fun w _ => (epactref04_Week.calls 2000000 n _ _ _ _ w (Week_r 2000000 n (by omega))).mono fun _ _ ⟨he, h⟩ => ⟨he, Drawn0.lt h⟩)
  have P := Aside0.mk (fun w (hC : Cal w) => OfWeek_lt y k d w hC.months (wf64 w2).1 (wf64 w2).2)
  have rP := Aside0.mk (show ∀ w, Cal w → Calls Tryz.prog 12 #[.int .i64 y, .int .i64 k, .int .i64 d] w fun e w' => e = .returned (.tuple #[.int .i64 (ofWeekF y k d).1, .int .i64 (ofWeekF y k d).2]) ∧ Lt w w' from fun w _ => (epactref04_OfWeek.calls 2000000 y k d _ _ w (OfWeek_r 2000000 y k d (by omega) (wf64 w2))).mono fun _ _ ⟨he, h⟩ => ⟨he, Drawn0.lt h⟩)
  have W := Aside0.mk (fun w (hC : Cal w) => Weeks_lt y w hC.months)
  have rW := Aside0.mk (show ∀ w, Cal w → Calls Tryz.prog 14 #[.int .i64 y] w fun e w' => e = .returned (.int .i64 (wks y)) ∧ Lt w w' from fun w _ => (epactref04_Weeks.calls 2000000 y _ w (Weeks_r 2000000 y (by omega))).mono fun _ _ ⟨he, h⟩ => ⟨he, Drawn0.lt h⟩)
  have N := Aside0.mk (fun w (hC : Cal w) => Nth_lt n w hC.months)
  have rN := Aside0.mk (show ∀ w, Cal w → Calls Tryz.prog 16 #[.int .i64 n] w fun e w' => e = .returned (.tuple #[.int .i64 (nthF n).1, .int .i64 (nthF n).2.1, .int .i64 (nthF n).2.2]) ∧ Lt w w' from fun w _ => (epactref04_Nth.calls 2000000 n _ _ _ w (Nth_r 2000000 n (by omega))).mono fun _ _ ⟨he, h⟩ => ⟨he, Drawn0.lt h⟩)
  have Q := Aside0.mk (fun w (hC : Cal w) => OfNth_lt y t w hC.months (wf64 w4).1 (wf64 w4).2)
  have rQ := Aside0.mk (show ∀ w, Cal w → Calls Tryz.prog 18 #[.int .i64 y, .int .i64 t] w fun e w' => e = .returned (.tuple #[.int .i64 (ofNthF y t).1, .int .i64 (ofNthF y t).2]) ∧ Lt w w' from fun w _ => (epactref04_OfNth.calls 2000000 y t _ _ w (OfNth_r 2000000 y t (by omega))).mono fun _ _ ⟨he, h⟩ => ⟨he, Drawn0.lt h⟩)
  have T := Aside0.mk (fun w hC => Text_lt n w hC)
  have R := Aside0.mk (fun w hC => Read_lt s w hC (by omega))
  have rR := Aside0.mk (show ∀ w, Cal w → Calls Tryz.prog 22 #[.string s] w fun e w' => e = .returned (.tuple #[.int .i64 (readF s).1, .int .i64 (readF s).2]) ∧ Lt w w' from fun w _ => (epactref04_Read.calls 2000000 s _ _ w (by
    have hr := Read_r s.data.toList (by have : s.size = s.data.toList.length := (Array.length_toList).symm; omega)
    rw [toB_data] at hr
    exact hr)).mono fun _ _ ⟨he, h⟩ => ⟨he, ⟨h⟩⟩)
  have fT : In n → (textF n).2 = 0 := fun hn => by unfold textF; rw [if_pos hn]
  have fT0 : ¬ In n → textF n = (⟨#[]⟩, 30) := fun hn => by unfold textF; rw [if_neg hn]
  generalize weekF n = q at *
  obtain ⟨q1, q2, q3, q4⟩ := q
  generalize ofWeekF y k d = p at *
  obtain ⟨p1, p2⟩ := p
  generalize wks y = v at *
  generalize nthF n = c at *
  obtain ⟨c1, c2, c3⟩ := c
  generalize ofNthF y t = b at *
  obtain ⟨b1, b2⟩ := b
  generalize readF s = g at *
  obtain ⟨g1, g2⟩ := g
  clear hC w0 w1 w2 w3 w4 w5 hs
  by_cases hn : In n
  · rw [fT hn] at T
    have rT := Aside0.mk (fun w (_ : Cal w) => rTexts_calls n w hn)
    clear hn fT fT0
    generalize (textF n).1 = tt at *
    go_enter Tryz.func3, Tryz.ntmps3
    have hC0 := HC.out
    go_wp2_with fail
    (with_reducible refine (K.out _ (by assumption)).mono ?_)
    rintro e w1 ⟨rfl, hl1, _⟩
    have hC1 := hC0.l hl1
    clear hC0
    go_wp2_with fail
    (with_reducible refine (rK.out _ (by assumption)).mono ?_)
    rintro e w2 ⟨rfl, hl2⟩
    have hC2 := hC1.l hl2
    clear hC1
    go_wp2_with fail
    (with_reducible refine (P.out _ (by assumption)).mono ?_)
    rintro e w3 ⟨rfl, hl3, _⟩
    have hC3 := hC2.l hl3
    clear hC2
    go_wp2_with fail
    (with_reducible refine (rP.out _ (by assumption)).mono ?_)
    rintro e w4 ⟨rfl, hl4⟩
    have hC4 := hC3.l hl4
    clear hC3
    go_wp2_with fail
    (with_reducible refine (W.out _ (by assumption)).mono ?_)
    rintro e w5 ⟨rfl, hl5, _⟩
    have hC5 := hC4.l hl5
    clear hC4
    go_wp2_with fail
    (with_reducible refine (rW.out _ (by assumption)).mono ?_)
    rintro e w6 ⟨rfl, hl6⟩
    have hC6 := hC5.l hl6
    clear hC5
    go_wp2_with fail
    (with_reducible refine (N.out _ (by assumption)).mono ?_)
    rintro e w7 ⟨rfl, hl7, _⟩
    have hC7 := hC6.l hl7
    clear hC6
    go_wp2_with fail
    (with_reducible refine (rN.out _ (by assumption)).mono ?_)
    rintro e w8 ⟨rfl, hl8⟩
    have hC8 := hC7.l hl8
    clear hC7
    go_wp2_with fail
    (with_reducible refine (Q.out _ (by assumption)).mono ?_)
    rintro e w9 ⟨rfl, hl9, _⟩
    have hC9 := hC8.l hl9
    clear hC8
    go_wp2_with fail
    (with_reducible refine (rQ.out _ (by assumption)).mono ?_)
    rintro e w10 ⟨rfl, hl10⟩
    have hC10 := hC9.l hl10
    clear hC9
    go_wp2_with fail
    (with_reducible refine (T.out _ (by assumption)).mono ?_)
    rintro e w11 ⟨rfl, hl11⟩
    have hC11 := hC10.l hl11
    clear hC10
    go_wp2_with fail
    (with_reducible refine (rT.out _ (by assumption)).mono ?_)
    rintro e w12 ⟨ad, cap, N, rfl, hN, hN2, hcell, hl12⟩
    have hC12 := hC11.l hl12
    clear hC11
    have n1 : decide ((N : Int) > 0) = true := decide_eq_true (by omega)
    have n2 : decide ((0 : Int) < (N : Int)) = true := n1
    have n3 : ((N : Int) == 0) = false := beq_eq_false_iff_ne.2 (by omega)
    have n4 : (0 : Int) < (N : Int) := by omega
    have n5 : ¬ ((N : Int) = 0) := by omega
    have n6 : 0 < N := hN
    have n7 : ¬ (N = 0) := by omega
    clear hN hN2
    go_wp2_with fail
    (with_reducible refine (R.out _ (by assumption)).mono ?_)
    rintro e w13 ⟨rfl, hl13⟩
    have hC13 := hC12.l hl13
    clear hC12
    go_wp2_with fail
    (with_reducible refine (rR.out _ (by assumption)).mono ?_)
    rintro e w14 ⟨rfl, hl14⟩
    have hC14 := hC13.l hl14
    clear hC13
    go_wp2_with fail
    (with_reducible refine (CA.out _ (by assumption)).mono ?_)
    rintro e w15 ⟨rfl, hl15⟩
    have hC15 := hC14.l hl15
    clear hC14
    go_wp2
    go_ret
    exact ⟨rfl, ((((((((((((((hl1).trans hl2).trans hl3).trans hl4).trans hl5).trans hl6).trans hl7).trans hl8).trans hl9).trans hl10).trans hl11).trans hl12).trans hl13).trans hl14).trans hl15⟩
  · rw [fT0 hn] at T
    have rT0 := Aside0.mk (fun w (_ : Cal w) => rTexts_none n w hn)
    clear hn fT fT0
    go_enter Tryz.func3, Tryz.ntmps3
    have hC0 := HC.out
    go_wp2_with fail
    (with_reducible refine (K.out _ (by assumption)).mono ?_)
    rintro e w1 ⟨rfl, hl1, _⟩
    have hC1 := hC0.l hl1
    clear hC0
    go_wp2_with fail
    (with_reducible refine (rK.out _ (by assumption)).mono ?_)
    rintro e w2 ⟨rfl, hl2⟩
    have hC2 := hC1.l hl2
    clear hC1
    go_wp2_with fail
    (with_reducible refine (P.out _ (by assumption)).mono ?_)
    rintro e w3 ⟨rfl, hl3, _⟩
    have hC3 := hC2.l hl3
    clear hC2
    go_wp2_with fail
    (with_reducible refine (rP.out _ (by assumption)).mono ?_)
    rintro e w4 ⟨rfl, hl4⟩
    have hC4 := hC3.l hl4
    clear hC3
    go_wp2_with fail
    (with_reducible refine (W.out _ (by assumption)).mono ?_)
    rintro e w5 ⟨rfl, hl5, _⟩
    have hC5 := hC4.l hl5
    clear hC4
    go_wp2_with fail
    (with_reducible refine (rW.out _ (by assumption)).mono ?_)
    rintro e w6 ⟨rfl, hl6⟩
    have hC6 := hC5.l hl6
    clear hC5
    go_wp2_with fail
    (with_reducible refine (N.out _ (by assumption)).mono ?_)
    rintro e w7 ⟨rfl, hl7, _⟩
    have hC7 := hC6.l hl7
    clear hC6
    go_wp2_with fail
    (with_reducible refine (rN.out _ (by assumption)).mono ?_)
    rintro e w8 ⟨rfl, hl8⟩
    have hC8 := hC7.l hl8
    clear hC7
    go_wp2_with fail
    (with_reducible refine (Q.out _ (by assumption)).mono ?_)
    rintro e w9 ⟨rfl, hl9, _⟩
    have hC9 := hC8.l hl9
    clear hC8
    go_wp2_with fail
    (with_reducible refine (rQ.out _ (by assumption)).mono ?_)
    rintro e w10 ⟨rfl, hl10⟩
    have hC10 := hC9.l hl10
    clear hC9
    go_wp2_with fail
    (with_reducible refine (T.out _ (by assumption)).mono ?_)
    rintro e w11 ⟨rfl, hl11⟩
    have hC11 := hC10.l hl11
    clear hC10
    go_wp2_with fail
    (with_reducible refine (rT0.out _ (by assumption)).mono ?_)
    rintro e w12 ⟨A, cap, rfl, hl12⟩
    have hC12 := hC11.l hl12
    clear hC11
    go_wp2_with fail
    (with_reducible refine (R.out _ (by assumption)).mono ?_)
    rintro e w13 ⟨rfl, hl13⟩
    have hC13 := hC12.l hl13
    clear hC12
    go_wp2_with fail
    (with_reducible refine (rR.out _ (by assumption)).mono ?_)
    rintro e w14 ⟨rfl, hl14⟩
    have hC14 := hC13.l hl14
    clear hC13
    go_wp2_with fail
    (with_reducible refine (CA.out _ (by assumption)).mono ?_)
    rintro e w15 ⟨rfl, hl15⟩
    have hC15 := hC14.l hl15
    clear hC14
    go_wp2
    go_ret
    exact ⟨rfl, ((((((((((((((hl1).trans hl2).trans hl3).trans hl4).trans hl5).trans hl6).trans hl7).trans hl8).trans hl9).trans hl10).trans hl11).trans hl12).trans hl13).trans hl14).trans hl15⟩
end Go.Proofs.YtnaaagaammimnaaGreatDoor.Civ
