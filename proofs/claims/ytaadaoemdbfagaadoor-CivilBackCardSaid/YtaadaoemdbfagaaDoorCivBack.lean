/-
  CivilBack walked: it returns true.
-/
import Derived.Test.YtaadaoemdbfagaaDoorCivCycle
namespace Go.Proofs.YtaadaoemdbfagaaDoor.Civ
open Go Go.RowKit Go.Proofs.YtaadaoemdbfagaaDoor.PCivilTells Go.Proofs.YtaadaoemdbfagaaDoorW.PrintWords Go.Proofs.YtaadaoemdbfagaaDoorW.PrintLast Go.Proofs.YtaadaoemdbfagaaDoorW.PrintMore
set_option linter.unusedVariables false
set_option linter.unusedSimpArgs false

/-- The date behind a date. -/
theorem next_day {y m d : Int} (h : Ok y m d) (hd : d < len y m) : Ok y m (d + 1) ∧ dn y m (d + 1) = dn y m d + 1 :=
  ⟨⟨h.1, h.2.1, h.2.2.1, h.2.2.2.1, by have := h.2.2.2.2.1; omega, by omega⟩, by unfold dn; omega⟩
theorem next_month {y m d : Int} (h : Ok y m d) (hd : d = len y m) (hm : m < 12) : Ok y (m + 1) 1 ∧ dn y (m + 1) 1 = dn y m d + 1 := by
  have h1 := h.month
  have hl := len_bd y (m + 1) (by omega) (by omega)
  have he := len_eq y m h1.1 h1.2
  refine ⟨⟨h.1, h.2.1, by omega, by omega, by omega, by omega⟩, ?_⟩
  unfold dn
  rw [show m + 1 - 1 = m by omega]
  omega
theorem next_year {y m d : Int} (h : Ok y m d) (hd : d = len y m) (hm : m = 12) : dn y m d + 1 = beg (y + 1) := by
  subst hm
  have he := len_eq y 12 (by omega) (by omega)
  have hu := upto_12 y
  unfold dn
  rw [beg_succ]
  omega

set_option maxHeartbeats 8000000 in
set_option maxRecDepth 100000 in
theorem CivilBack_walk (n y m d : Int) (w : World) (hM : Months w) (w0 : (Lit.int .i64 n).wf = true) (w1 : (Lit.int .i64 y).wf = true) (w2 : (Lit.int .i64 m).wf = true) (w3 : (Lit.int .i64 d).wf = true) :
    Calls Tryd.prog 4 #[.int .i64 n, .int .i64 y, .int .i64 m, .int .i64 d] w fun e w' => e = .returned (.bool true) ∧ Lt w w' := by
  have hwn := wf64 w0
  have A1 := Aside0.mk (fun w hM => Date_lt n w hM)
  have A2 := Aside0.mk (fun w hM => Date_lt (n + 1) w hM)
  have B1 := Aside0.mk (fun w hM => Days_lt y m d w hM (wf64 w3).2 (wf64 w2).1)
  have B2 := Aside0.mk (fun w hM => Length_lt y m w hM)
  have C3 := Aside0.mk awake_lt
  clear w0 w1 w2 w3
  obtain ⟨⟨y0, m0, d0, e0⟩, hD⟩ : ∃ q, dateF n = q := ⟨_, rfl⟩
  rw [hD] at A1
  have HD := Aside0.mk hD
  clear hD
  go_enter Tryd.func4, Tryd.ntmps4
  go_wp2_with fail
  (with_reducible refine (A1.out _ (by assumption)).mono ?_)
  rintro e w1 ⟨rfl, hl1, hM1⟩
  go_upto_if 34 with (fail)
  go_cut [] (fun wc => Lt w wc ∧ Months wc)
  case first =>
    clear B1 B2 C3
    by_cases hin : In n
    · have hdo : Ok y0 m0 d0 ∧ dn y0 m0 d0 = n ∧ e0 = 0 := by
        have h1 := HD.out
        rw [dateF_in hin] at h1
        simp only [Prod.mk.injEq] at h1
        have h2 := date_ok hin
        rw [h1.1, h1.2.1, h1.2.2.1] at h2
        exact ⟨h2.1, h2.2, h1.2.2.2.symm⟩
      have he0 : (e0 == 0) = true := beq_iff_eq.2 hdo.2.2
      have A3 := Aside0.mk (fun w hM => Days_lt y0 m0 d0 w hM (by have := hdo.1.2.2.2.2.2; have := len_le y0 m0; omega) (by have := hdo.1.month; omega))
      rw [daysF_ok hdo.1, hdo.2.1] at A3
      have A4 := Aside0.mk (fun w hM => Length_lt y0 m0 w hM)
      have hy : -9999 ≤ y0 ∧ y0 ≤ 9999 := ⟨hdo.1.1, hdo.1.2.1⟩
      have hmo := hdo.1.month
      have hd1 := hdo.1.2.2.2.2.1
      have hd2 := hdo.1.2.2.2.2.2
      have hll := len_le y0 m0
      have hn1 : n < 9223372036854775807 := by have := hin.2; omega
      have hn0 : -4371587 ≤ n := hin.1
      have hdo1 := hdo.1
      have hdo2 := hdo.2.1
      clear hdo
      rcases (show d0 < len y0 m0 ∨ (d0 = len y0 m0 ∧ m0 < 12) ∨ (d0 = len y0 m0 ∧ m0 = 12 ∧ y0 < 9999) ∨ (d0 = len y0 m0 ∧ m0 = 12 ∧ y0 = 9999) by omega) with c | ⟨c1, c2⟩ | ⟨c1, c2, c3⟩ | ⟨c1, c2, c3⟩
      · have hn := next_day hdo1 c
        rw [hdo2] at hn
        rw [← hn.2, dateF_dn hn.1, hn.2] at A2
        clear hn hdo1 hdo2 hin A1
        generalize len y0 m0 = l at *
        obtain ⟨hy1, hy2⟩ := hy
        obtain ⟨hmo1, hmo2⟩ := hmo
        obtain ⟨hll1, hll2⟩ := hll
        go_wp2_with fail
        (with_reducible refine (A3.out _ (by assumption)).mono ?_)
        rintro e w2 ⟨rfl, hl2, hM2⟩
        go_wp2_with fail
        (with_reducible refine (A4.out _ (by assumption)).mono ?_)
        rintro e w3 ⟨rfl, hl3, hM3⟩
        go_wp2_with fail
        (with_reducible refine (A2.out _ (by assumption)).mono ?_)
        rintro e w4 ⟨rfl, hl4, hM4⟩
        go_wp2_with fail
        (with_reducible refine (A4.out _ (by assumption)).mono ?_)
        rintro e w5 ⟨rfl, hl5, hM5⟩
        go_wp2
        go_meet
        case rel => exact ⟨hl1.trans (hl2.trans (hl3.trans (hl4.trans hl5))), hM5⟩
      · have hn := next_month hdo1 c1 c2
        rw [hdo2] at hn
        rw [← hn.2, dateF_dn hn.1, hn.2] at A2
        have c3 : len y0 m0 ≤ d0 := by omega
        clear hn hdo1 hdo2 hin A1 c1
        generalize len y0 m0 = l at *
        obtain ⟨hy1, hy2⟩ := hy
        obtain ⟨hmo1, hmo2⟩ := hmo
        obtain ⟨hll1, hll2⟩ := hll
        go_wp2_with fail
        (with_reducible refine (A3.out _ (by assumption)).mono ?_)
        rintro e w2 ⟨rfl, hl2, hM2⟩
        go_wp2_with fail
        (with_reducible refine (A4.out _ (by assumption)).mono ?_)
        rintro e w3 ⟨rfl, hl3, hM3⟩
        go_wp2_with fail
        (with_reducible refine (A2.out _ (by assumption)).mono ?_)
        rintro e w4 ⟨rfl, hl4, hM4⟩
        go_wp2_with fail
        (with_reducible refine (A4.out _ (by assumption)).mono ?_)
        rintro e w5 ⟨rfl, hl5, hM5⟩
        go_wp2
        go_meet
        case rel => exact ⟨hl1.trans (hl2.trans (hl3.trans (hl4.trans hl5))), hM5⟩
      · have hn := next_year hdo1 c1 c2
        rw [hdo2] at hn
        have hf := Ok_first (y := y0 + 1) (by omega) (by omega)
        have hf' := dn_first (y0 + 1)
        rw [hn, ← hf', dateF_dn hf, hf', ← hn] at A2
        have c4 : len y0 m0 ≤ d0 := by omega
        have c5 : 12 ≤ m0 := by omega
        clear hn hdo1 hdo2 hin A1 c1 c2 hf hf'
        generalize len y0 m0 = l at *
        obtain ⟨hy1, hy2⟩ := hy
        obtain ⟨hmo1, hmo2⟩ := hmo
        obtain ⟨hll1, hll2⟩ := hll
        go_wp2_with fail
        (with_reducible refine (A3.out _ (by assumption)).mono ?_)
        rintro e w2 ⟨rfl, hl2, hM2⟩
        go_wp2_with fail
        (with_reducible refine (A4.out _ (by assumption)).mono ?_)
        rintro e w3 ⟨rfl, hl3, hM3⟩
        go_wp2_with fail
        (with_reducible refine (A2.out _ (by assumption)).mono ?_)
        rintro e w4 ⟨rfl, hl4, hM4⟩
        go_wp2_with fail
        (with_reducible refine (A4.out _ (by assumption)).mono ?_)
        rintro e w5 ⟨rfl, hl5, hM5⟩
        go_wp2
        go_meet
        case rel => exact ⟨hl1.trans (hl2.trans (hl3.trans (hl4.trans hl5))), hM5⟩
      · have hn := next_year hdo1 c1 c2
        rw [hdo2] at hn
        have hf := beg_max
        rw [dateF_not (fun h => by have := h.2; rw [c3] at hn; rw [show (9999 : Int) + 1 = 10000 from rfl] at hn; omega)] at A2
        have c4 : len y0 m0 ≤ d0 := by omega
        have c5 : 12 ≤ m0 := by omega
        have c6 : 9999 ≤ y0 := by omega
        clear hn hdo1 hdo2 hin A1 c1 c2 c3 hf
        generalize len y0 m0 = l at *
        obtain ⟨hy1, hy2⟩ := hy
        obtain ⟨hmo1, hmo2⟩ := hmo
        obtain ⟨hll1, hll2⟩ := hll
        go_wp2_with fail
        (with_reducible refine (A3.out _ (by assumption)).mono ?_)
        rintro e w2 ⟨rfl, hl2, hM2⟩
        go_wp2_with fail
        (with_reducible refine (A4.out _ (by assumption)).mono ?_)
        rintro e w3 ⟨rfl, hl3, hM3⟩
        go_wp2_with fail
        (with_reducible refine (A2.out _ (by assumption)).mono ?_)
        rintro e w4 ⟨rfl, hl4, hM4⟩
        go_wp2_with fail
        (with_reducible refine (A4.out _ (by assumption)).mono ?_)
        rintro e w5 ⟨rfl, hl5, hM5⟩
        go_wp2
        go_meet
        case rel => exact ⟨hl1.trans (hl2.trans (hl3.trans (hl4.trans hl5))), hM5⟩
    · have he0 : (e0 == 0) = false := by
        have h1 := HD.out
        rw [dateF_not hin] at h1
        simp only [Prod.mk.injEq] at h1
        rw [← h1.2.2.2]
        rfl
      go_wp2
      go_meet
      case rel => exact ⟨hl1, hM1⟩
  case rest =>
    obtain ⟨hlc, hMc⟩ := hcut
    clear A1 A2 hl1 hM1 hM HD
    by_cases hOk' : ¬ Ok y m d
    · clear hwn
      rw [daysF_not hOk'] at B1
      have hcase : y < -9999 ∨ 9999 < y ∨ d < 1 ∨ len y m < d := by
        apply Decidable.byContradiction
        intro hn
        apply hOk'
        have hmm : 1 ≤ m ∧ m ≤ 12 := by
          apply Decidable.byContradiction
          intro hmn
          have := len_out y m hmn
          omega
        exact ⟨by omega, by omega, hmm.1, hmm.2, by omega, by omega⟩
      clear hOk'
      by_cases h1 : y < -9999
      · clear hcase B2
        go_wp2_with fail
        (with_reducible refine (B1.out _ (by assumption)).mono ?_)
        rintro e w2 ⟨rfl, hl2, hM2⟩
        go_wp2_with fail
        (with_reducible refine (C3.out _ (by assumption)).mono ?_)
        rintro e w3 ⟨rfl, hl3, hM3⟩
        go_wp2
        go_ret
        exact ⟨rfl, hlc.trans (hl2.trans hl3)⟩
      have h1' : -9999 ≤ y := by omega
      clear h1
      by_cases h2 : 9999 < y
      · clear hcase B2
        go_wp2_with fail
        (with_reducible refine (B1.out _ (by assumption)).mono ?_)
        rintro e w2 ⟨rfl, hl2, hM2⟩
        go_wp2_with fail
        (with_reducible refine (C3.out _ (by assumption)).mono ?_)
        rintro e w3 ⟨rfl, hl3, hM3⟩
        go_wp2
        go_ret
        exact ⟨rfl, hlc.trans (hl2.trans hl3)⟩
      have h2' : y ≤ 9999 := by omega
      clear h2
      by_cases h3 : d < 1
      · clear hcase B2
        go_wp2_with fail
        (with_reducible refine (B1.out _ (by assumption)).mono ?_)
        rintro e w2 ⟨rfl, hl2, hM2⟩
        go_wp2_with fail
        (with_reducible refine (C3.out _ (by assumption)).mono ?_)
        rintro e w3 ⟨rfl, hl3, hM3⟩
        go_wp2
        go_ret
        exact ⟨rfl, hlc.trans (hl2.trans hl3)⟩
      have h3' : 1 ≤ d := by omega
      have h4 : len y m < d := by omega
      clear h3 hcase
      generalize len y m = l at *
      have h5 : decide (d ≤ l) = false := decide_eq_false (by omega)
      go_wp2_with fail
      (with_reducible refine (B1.out _ (by assumption)).mono ?_)
      rintro e w2 ⟨rfl, hl2, hM2⟩
      go_wp2_with fail
      (with_reducible refine (B2.out _ (by assumption)).mono ?_)
      rintro e w3 ⟨rfl, hl3, hM3⟩
      go_wp2_with fail
      (with_reducible refine (C3.out _ (by assumption)).mono ?_)
      rintro e w4 ⟨rfl, hl4, hM4⟩
      go_wp2
      go_ret
      exact ⟨rfl, hlc.trans (hl2.trans (hl3.trans hl4))⟩
    have hOk := Decidable.of_not_not hOk'
    clear hOk'
    rw [daysF_ok hOk] at B1
    have D1 := Aside0.mk (fun w hM => Date_lt (dn y m d) w hM)
    rw [dateF_dn hOk] at D1
    obtain ⟨h1, h2, _, _, h5, h6⟩ := hOk
    generalize len y m = l at *
    generalize dn y m d = k at *
    go_wp2_with fail
    (with_reducible refine (B1.out _ (by assumption)).mono ?_)
    rintro e w2 ⟨rfl, hl2, hM2⟩
    go_wp2_with fail
    (with_reducible refine (B2.out _ (by assumption)).mono ?_)
    rintro e w3 ⟨rfl, hl3, hM3⟩
    go_wp2_with fail
    (with_reducible refine (D1.out _ (by assumption)).mono ?_)
    rintro e w4 ⟨rfl, hl4, hM4⟩
    go_wp2_with fail
    (with_reducible refine (C3.out _ (by assumption)).mono ?_)
    rintro e w5 ⟨rfl, hl5, hM5⟩
    go_wp2
    go_ret
    exact ⟨rfl, hlc.trans (hl2.trans (hl3.trans (hl4.trans hl5)))⟩
end Go.Proofs.YtaadaoemdbfagaaDoor.Civ
