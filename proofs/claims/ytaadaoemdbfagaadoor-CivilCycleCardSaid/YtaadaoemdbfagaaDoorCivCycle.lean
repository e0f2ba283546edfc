/-
  CivilCycle walked: it returns true.
-/
import Derived.Test.YtaadaoemdbfagaaDoorCivE
import Derived.Deep.CutBlock
import Derived.Deep.DeepCutAuto
namespace Go.Proofs.YtaadaoemdbfagaaDoor.Civ
open Go Go.RowKit Go.Proofs.YtaadaoemdbfagaaDoor.PCivilTells Go.Proofs.YtaadaoemdbfagaaDoorW.PrintWords Go.Proofs.YtaadaoemdbfagaaDoorW.PrintLast Go.Proofs.YtaadaoemdbfagaaDoorW.PrintMore
set_option linter.unusedVariables false
set_option linter.unusedSimpArgs false

theorem Ok_first {y : Int} (h0 : -9999 ≤ y) (h1 : y ≤ 9999) : Ok y 1 1 := by
  refine ⟨h0, h1, by omega, by omega, by omega, ?_⟩
  have := len_bd y 1 (by omega) (by omega)
  omega
theorem Ok_last {y : Int} (h0 : -9999 ≤ y) (h1 : y ≤ 9999) : Ok y 12 31 := by
  refine ⟨h0, h1, by omega, by omega, by omega, ?_⟩
  rw [len_table]
  simp
theorem dn_first (y : Int) : dn y 1 1 = beg y := by
  unfold dn
  rw [show (1 : Int) - 1 = 0 from rfl, upto_0]
  omega
theorem dn_last (y : Int) : dn y 12 31 = beg y + 364 + lp y := by
  unfold dn
  rw [show (12 : Int) - 1 = 11 from rfl, show upto y 11 = 334 + lp y by simp [upto, tab]]
  omega
theorem wd_400 (n : Int) : wdF (n + 146097) = wdF n := by unfold wdF; omega
theorem dn_400 (y m d : Int) : dn (y + 400) m d = dn y m d + 146097 := by
  unfold dn
  rw [beg_400, upto_400]
  omega
theorem beg_range {y : Int} (h0 : -20000 ≤ y) (h1 : y ≤ 20000) : -80000000 ≤ beg y ∧ beg y ≤ 80000000 := by
  have hb := beg_mono (show -200000 ≤ y by omega)
  have hb' := beg_mono (show y ≤ 200000 by omega)
  have e1 : beg (-200000) = -73768028 := by decide
  have e2 : beg 200000 = 72328972 := by decide
  omega

/-- What follows the months' loop. -/
theorem Cycle_no (y m d : Int) (w : World) (hM : Months w) (hd : d ≤ 9223372036854775807) (hm : -9223372036854775808 ≤ m) (h : ¬ Ok y m d) :
    Calls Tryd.prog 5 #[.int .i64 y, .int .i64 m, .int .i64 d] w fun e w' => e = .returned (.bool true) ∧ Lt w w' := by
  have C1 := Aside0.mk (fun w hM => Days_lt y m d w hM hd hm)
  rw [daysF_not h] at C1
  have C3 := Aside0.mk awake_lt
  clear h hd hm
  go_enter Tryd.func5, Tryd.ntmps5
  go_wp2_with fail
  (with_reducible refine (C1.out _ (by assumption)).mono ?_)
  rintro e w1 ⟨rfl, hl1, hM1⟩
  go_wp2_with fail
  (with_reducible refine (C3.out _ (by assumption)).mono ?_)
  rintro e w3 ⟨rfl, hl3, hM3⟩
  go_wp2
  go_ret
  exact ⟨rfl, hl1.trans hl3⟩

set_option maxHeartbeats 8000000 in
set_option maxRecDepth 100000 in
theorem CivilCycle_walk (y m d : Int) (w : World) (hM : Months w) (w0 : (Lit.int .i64 y).wf = true) (w1 : (Lit.int .i64 m).wf = true) (w2 : (Lit.int .i64 d).wf = true) :
    Calls Tryd.prog 5 #[.int .i64 y, .int .i64 m, .int .i64 d] w fun e w' => e = .returned (.bool true) ∧ Lt w w' := by
  by_cases hOk' : ¬ Ok y m d
  · exact Cycle_no y m d w hM (wf64 w2).2 (wf64 w1).1 hOk'
  have hOk := Decidable.of_not_not hOk'
  clear hOk'
  have C1 := Aside0.mk (fun w hM => Days_lt y m d w hM (wf64 w2).2 (wf64 w1).1)
  have C2 := Aside0.mk (fun w hM => Days_lt (y + 400) m d w hM (wf64 w2).2 (wf64 w1).1)
  clear w0 w1 w2
  rw [daysF_ok hOk] at C1
  have C3 := Aside0.mk awake_lt
  have C4 := Aside0.mk (fun w hM => Weekday_lt (dn y m d) w hM)
  have C5 := Aside0.mk (fun w hM => Weekday_lt (dn y m d + 146097) w hM)
  rw [wd_400] at C5
  have C6 := Aside0.mk (fun i w hM => Length_lt y i w hM)
  have C7 := Aside0.mk (fun w hM => Leap_lt y w hM)
  have C8 := Aside0.mk (fun w hM => Days_lt y 1 1 w hM (by decide) (by decide))
  have C9 := Aside0.mk (fun w hM => Days_lt y 12 31 w hM (by decide) (by decide))
  have hy : -9999 ≤ y ∧ y ≤ 9999 := ⟨hOk.1, hOk.2.1⟩
  rw [daysF_ok (Ok_first hy.1 hy.2), dn_first] at C8
  rw [daysF_ok (Ok_last hy.1 hy.2), dn_last] at C9
  have hB := beg_range (y := y) (by omega) (by omega)
  have hN : -80000000 ≤ dn y m d ∧ dn y m d ≤ 80000000 := by
    have h1 := (dn_in hOk).1
    have h2 := (dn_in hOk).2
    omega
  have hlp := lp_bd y
  have h12 := upto_12 y
  have hLp := lp_leap y
  have hmm := hOk.month
  have C2' : y + 400 ≤ 9999 → Aside0 (∀ (w : World), Months w → Calls Tryd.prog 8 #[.int .i64 (y + 400), .int .i64 m, .int .i64 d] w fun e w' => e = .returned (.tuple #[.int .i64 (dn y m d + 146097), .int .i64 0]) ∧ Lt w w' ∧ Months w') := by
    intro hle
    have hOk4 : Ok (y + 400) m d := ⟨by omega, hle, hOk.2.2.1, hOk.2.2.2.1, hOk.2.2.2.2.1, by rw [len_400]; exact hOk.2.2.2.2.2⟩
    rw [daysF_ok hOk4, dn_400] at C2
    exact C2
  clear C2 hOk
  generalize dn y m d = n at *
  generalize wdF n = wd at *
  generalize beg y = b at *
  obtain ⟨hy1, hy2⟩ := hy
  obtain ⟨hB1, hB2⟩ := hB
  obtain ⟨hN1, hN2⟩ := hN
  obtain ⟨hm1, hm2⟩ := hmm
  go_enter Tryd.func5, Tryd.ntmps5
  go_wp2_with fail
  (with_reducible refine (C1.out _ (by assumption)).mono ?_)
  rintro e w1 ⟨rfl, hl1, hM1⟩
  go_upto_if 30 with (fail)
  go_cut [] (fun wc => Lt w wc ∧ Months wc)
  case first =>
    by_cases hle : y + 400 ≤ 9999
    · have C2 := C2' hle
      go_wp2_with fail
      (with_reducible refine (C2.out _ (by assumption)).mono ?_)
      rintro e w2 ⟨rfl, hl2, hM2⟩
      go_wp2_with fail
      (with_reducible refine (C5.out _ (by assumption)).mono ?_)
      rintro e w3 ⟨rfl, hl3, hM3⟩
      go_wp2_with fail
      (with_reducible refine (C4.out _ (by assumption)).mono ?_)
      rintro e w4 ⟨rfl, hl4, hM4⟩
      go_wp2
      go_meet
      case rel => exact ⟨hl1.trans (hl2.trans (hl3.trans hl4)), hM4⟩
    · have hgt : 9999 < y + 400 := by omega
      clear hle
      go_wp2
      go_meet
      case rel => exact ⟨hl1, hM1⟩
  case rest =>
    obtain ⟨hlc, hMc⟩ := hcut
    clear C1 C2' C4 C5 hl1 hM1
    go_wp2
    go_loopw [11, 12] (fun a k wr => ∃ i : Int, 1 ≤ i ∧ i ≤ 13 ∧ k = .int .i64 i ∧ a = .int .i64 (upto y (i - 1)) ∧ Lt w wr ∧ Months wr) (fun _ k _ => (13 - intOf k).toNat)
    case atStart => exact ⟨1, by omega, by omega, rfl, by rw [show (1 : Int) - 1 = 0 from rfl, upto_0], hlc, hMc⟩
    case round =>
      obtain ⟨i, hi1, hi2, rfl, rfl, hlr, hMr⟩ := hrel
      by_cases hi : i ≤ 12
      · have hlen := len_eq y i hi1 hi
        have hu := upto_bd y (i - 1)
        have hu' := upto_bd y i
        have hst : upto y (i - 1) + len y i = upto y i := by omega
        have CL := Aside0.mk (C6.out i)
        have HS := Aside0.mk hst
        have hll := len_le y i
        clear hst hlen
        generalize len y i = l at *
        generalize upto y (i - 1) = u at *
        go_wp2_with fail
        (with_reducible refine (CL.out _ (by assumption)).mono ?_)
        rintro e w2 ⟨rfl, hl2, hM2⟩
        go_wp2
        go_roundw
        case rel => exact ⟨i + 1, by omega, by omega, rfl, by rw [show i + 1 - 1 = i by omega, ← HS.out], hlr.trans hl2, hM2⟩
        case measure => simp [intOf]; omega
      · have hi13 : i = 13 := by omega
        subst hi13
        clear hi hi1 hi2
        rw [show (13 : Int) - 1 = 12 from rfl, h12]
        clear h12
        by_cases hleap : leap y = true
        · have hl1 : lp y = 1 := by rw [hLp, if_pos hleap]
          rw [hleap] at C7
          rw [hl1] at C9 ⊢
          clear hLp hlp hl1 hleap
          go_wp2_with fail
          (with_reducible refine (C7.out _ (by assumption)).mono ?_)
          rintro e w2 ⟨rfl, hl2, hM2⟩
          go_wp2_with fail
          (with_reducible refine (C8.out _ (by assumption)).mono ?_)
          rintro e w3 ⟨rfl, hl3, hM3⟩
          go_wp2_with fail
          (with_reducible refine (C9.out _ (by assumption)).mono ?_)
          rintro e w4 ⟨rfl, hl4, hM4⟩
          have hf : (b + 364 + 1 - b == 365) = true := beq_iff_eq.2 (by omega)
          go_wp2_with fail
          (with_reducible refine (C3.out _ (by assumption)).mono ?_)
          rintro e w5 ⟨rfl, hl5, hM5⟩
          go_wp2
          go_ret
          exact ⟨rfl, hlr.trans (hl2.trans (hl3.trans (hl4.trans hl5)))⟩
        · have hl1 : lp y = 0 := by rw [hLp, if_neg hleap]
          have hleap' := Bool.eq_false_iff.2 hleap
          rw [hleap'] at C7
          rw [hl1] at C9 ⊢
          clear hLp hlp hl1 hleap hleap'
          go_wp2_with fail
          (with_reducible refine (C7.out _ (by assumption)).mono ?_)
          rintro e w2 ⟨rfl, hl2, hM2⟩
          go_wp2_with fail
          (with_reducible refine (C8.out _ (by assumption)).mono ?_)
          rintro e w3 ⟨rfl, hl3, hM3⟩
          go_wp2_with fail
          (with_reducible refine (C9.out _ (by assumption)).mono ?_)
          rintro e w4 ⟨rfl, hl4, hM4⟩
          have hf : (b + 364 + 0 - b == 364) = true := beq_iff_eq.2 (by omega)
          go_wp2_with fail
          (with_reducible refine (C3.out _ (by assumption)).mono ?_)
          rintro e w5 ⟨rfl, hl5, hM5⟩
          go_wp2
          go_ret
          exact ⟨rfl, hlr.trans (hl2.trans (hl3.trans (hl4.trans hl5)))⟩
end Go.Proofs.YtaadaoemdbfagaaDoor.Civ
