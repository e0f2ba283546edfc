/-
  CivilWeek, CivilOrder, CivilCycle and CivilBack walked: each returns true.
-/
import Derived.Test.YtaadaoemdbfagaaDoorCivE
import Derived.Deep.CutBlock
import Derived.Deep.DeepCutAuto
namespace Go.Proofs.YtaadaoemdbfagaaDoor.Civ
open Go Go.RowKit Go.Proofs.YtaadaoemdbfagaaDoor.PCivilTells Go.Proofs.YtaadaoemdbfagaaDoorW.PrintWords Go.Proofs.YtaadaoemdbfagaaDoorW.PrintLast Go.Proofs.YtaadaoemdbfagaaDoorW.PrintMore
set_option linter.unusedVariables false
set_option linter.unusedSimpArgs false

set_option maxHeartbeats 4000000 in
theorem CivilWeek_walk (n : Int) (w : World) (hM : Months w) (w0 : (Lit.int .i64 n).wf = true) :
    Calls Tryd.prog 7 #[.int .i64 n] w fun e w' => e = .returned (.bool true) ∧ Lt w w' := by
  have hb := wf64 w0
  clear w0
  have C1 := Aside0.mk (fun w hM => Weekday_lt n w hM)
  have C2 := Aside0.mk (fun w hM => Weekday_lt (n + 1) w hM)
  have C3 := Aside0.mk awake_lt
  rw [wdF_succ] at C2
  have hw := wdF_bd n
  generalize wdF n = a at *
  obtain ⟨ha1, ha2⟩ := hw
  obtain ⟨hb1, hb2⟩ := hb
  by_cases h : n = 9223372036854775807
  · subst h
    go_enter Tryd.func7, Tryd.ntmps7
    go_wp2_with fail
    (with_reducible refine (C1.out _ (by assumption)).mono ?_)
    rintro e w1 ⟨rfl, hl1, hM1⟩
    go_wp2_with fail
    (with_reducible refine (C3.out _ (by assumption)).mono ?_)
    rintro e w2 ⟨rfl, hl2, hM2⟩
    go_wp2
    go_ret
    exact ⟨rfl, hl1.trans hl2⟩
  · have h2 : n < 9223372036854775807 := by omega
    clear h
    go_enter Tryd.func7, Tryd.ntmps7
    go_wp2_with fail
    (with_reducible refine (C1.out _ (by assumption)).mono ?_)
    rintro e w1 ⟨rfl, hl1, hM1⟩
    go_wp2_with fail
    (with_reducible refine (C2.out _ (by assumption)).mono ?_)
    rintro e w2 ⟨rfl, hl2, hM2⟩
    go_wp2_with fail
    (with_reducible refine (C3.out _ (by assumption)).mono ?_)
    rintro e w3 ⟨rfl, hl3, hM3⟩
    go_wp2
    go_ret
    exact ⟨rfl, hl1.trans (hl2.trans hl3)⟩

/-! ### CivilOrder -/
theorem dn_year {y m d o s l : Int} (h : Ok y m d) (k : Ok o s l) (hy : y < o) : dn y m d < dn o s l := by
  have h1 := (dn_bd h).2.1
  have h2 := (dn_bd k).1
  have := beg_mono (show y + 1 ≤ o by omega)
  omega
theorem dn_month {y m d s l : Int} (h : Ok y m d) (k : Ok y s l) (hm : m < s) : dn y m d < dn y s l := by
  have h1 := (dn_bd h).2.2.2
  have h2 := (dn_bd k).2.2.1
  have := upto_mono y m (s - 1) (by have := h.month; omega) (by omega) (by have := k.month; omega)
  omega
theorem dn_day {y m d l : Int} (hd : d < l) : dn y m d < dn y m l := by unfold dn; omega
set_option maxHeartbeats 8000000 in
theorem CivilOrder_walk (y o m s d l : Int) (w : World) (hM : Months w) (w0 : (Lit.int .i64 y).wf = true) (w1 : (Lit.int .i64 o).wf = true) (w2 : (Lit.int .i64 m).wf = true) (w3 : (Lit.int .i64 s).wf = true) (w4 : (Lit.int .i64 d).wf = true) (w5 : (Lit.int .i64 l).wf = true) :
    Calls Tryd.prog 6 #[.int .i64 y, .int .i64 o, .int .i64 m, .int .i64 s, .int .i64 d, .int .i64 l] w fun e w' => e = .returned (.bool true) ∧ Lt w w' := by
  have C1 := Aside0.mk (fun w hM => Days_lt y m d w hM (wf64 w4).2 (wf64 w2).1)
  have C2 := Aside0.mk (fun w hM => Days_lt o s l w hM (wf64 w5).2 (wf64 w3).1)
  have C3 := Aside0.mk awake_lt
  clear w0 w1 w2 w3 w4 w5
  by_cases h1' : ¬ Ok y m d
  · rw [daysF_not h1'] at C1
    generalize (daysF o s l).1 = a at *
    generalize (daysF o s l).2 = b at *
    clear h1'
    go_enter Tryd.func6, Tryd.ntmps6
    go_wp2_with fail
    (with_reducible refine (C1.out _ (by assumption)).mono ?_)
    rintro e w1 ⟨rfl, hl1, hM1⟩
    go_wp2_with fail
    (with_reducible refine (C2.out _ (by assumption)).mono ?_)
    rintro e w2 ⟨rfl, hl2, hM2⟩
    go_wp2_with fail
    (with_reducible refine (C3.out _ (by assumption)).mono ?_)
    rintro e w3 ⟨rfl, hl3, hM3⟩
    go_wp2
    go_ret
    exact ⟨rfl, hl1.trans (hl2.trans hl3)⟩
  have h1 := Decidable.of_not_not h1'
  clear h1'
  rw [daysF_ok h1] at C1
  by_cases h2' : ¬ Ok o s l
  · rw [daysF_not h2'] at C2
    generalize dn y m d = a at *
    clear h1 h2'
    go_enter Tryd.func6, Tryd.ntmps6
    go_wp2_with fail
    (with_reducible refine (C1.out _ (by assumption)).mono ?_)
    rintro e w1 ⟨rfl, hl1, hM1⟩
    go_wp2_with fail
    (with_reducible refine (C2.out _ (by assumption)).mono ?_)
    rintro e w2 ⟨rfl, hl2, hM2⟩
    go_wp2_with fail
    (with_reducible refine (C3.out _ (by assumption)).mono ?_)
    rintro e w3 ⟨rfl, hl3, hM3⟩
    go_wp2
    go_ret
    exact ⟨rfl, hl1.trans (hl2.trans hl3)⟩
  have h2 := Decidable.of_not_not h2'
  clear h2'
  rw [daysF_ok h2] at C2
  rcases (show y < o ∨ o < y ∨ (y = o ∧ m < s) ∨ (y = o ∧ s < m) ∨ (y = o ∧ m = s ∧ d < l) ∨ (y = o ∧ m = s ∧ l < d) ∨ (y = o ∧ m = s ∧ d = l) by omega) with c | c | ⟨rfl, c⟩ | ⟨rfl, c⟩ | ⟨rfl, rfl, c⟩ | ⟨rfl, rfl, c⟩ | ⟨rfl, rfl, rfl⟩
  · have hlt := dn_year h1 h2 c
    generalize dn y m d = a at *
    generalize dn o s l = b at *
    clear h1 h2
    have e1 : (a == b) = false := beq_eq_false_iff_ne.2 (by omega)
    first
      | have e2 : decide (a < b) = true := decide_eq_true (by omega)
      | have e2 : decide (a < b) = false := decide_eq_false (by omega)
    go_enter Tryd.func6, Tryd.ntmps6
    go_wp2_with fail
    (with_reducible refine (C1.out _ (by assumption)).mono ?_)
    rintro e w1 ⟨rfl, hl1, hM1⟩
    go_wp2_with fail
    (with_reducible refine (C2.out _ (by assumption)).mono ?_)
    rintro e w2 ⟨rfl, hl2, hM2⟩
    go_wp2_with fail
    (with_reducible refine (C3.out _ (by assumption)).mono ?_)
    rintro e w3 ⟨rfl, hl3, hM3⟩
    go_wp2
    go_ret
    exact ⟨rfl, hl1.trans (hl2.trans hl3)⟩
  · have hlt := dn_year h2 h1 c
    have f1 : decide (y < o) = false := decide_eq_false (by omega)
    have f2 : (y == o) = false := beq_eq_false_iff_ne.2 (by omega)
    generalize dn y m d = a at *
    generalize dn o s l = b at *
    clear h1 h2
    have e1 : (a == b) = false := beq_eq_false_iff_ne.2 (by omega)
    first
      | have e2 : decide (a < b) = true := decide_eq_true (by omega)
      | have e2 : decide (a < b) = false := decide_eq_false (by omega)
    go_enter Tryd.func6, Tryd.ntmps6
    go_wp2_with fail
    (with_reducible refine (C1.out _ (by assumption)).mono ?_)
    rintro e w1 ⟨rfl, hl1, hM1⟩
    go_wp2_with fail
    (with_reducible refine (C2.out _ (by assumption)).mono ?_)
    rintro e w2 ⟨rfl, hl2, hM2⟩
    go_wp2_with fail
    (with_reducible refine (C3.out _ (by assumption)).mono ?_)
    rintro e w3 ⟨rfl, hl3, hM3⟩
    go_wp2
    go_ret
    exact ⟨rfl, hl1.trans (hl2.trans hl3)⟩
  all_goals try have hlt := dn_month h1 h2 c
  all_goals try have hlt := dn_month h2 h1 c
  all_goals try have hlt := dn_day (y := y) (m := m) c
  all_goals clear h1 h2
  all_goals try have f1 : decide (m < s) = false := decide_eq_false (by omega)
  all_goals try have f2 : (m == s) = false := beq_eq_false_iff_ne.2 (by omega)
  all_goals try have f3 : decide (d < l) = false := decide_eq_false (by omega)
  all_goals try have f4 : (d == l) = false := beq_eq_false_iff_ne.2 (by omega)
  all_goals first | generalize dn y m d = a at * | skip
  all_goals first | generalize dn y s l = b at * | generalize dn y m l = b at * | skip
  all_goals first | have e1 : (a == b) = false := beq_eq_false_iff_ne.2 (by omega) | have e1 : (a == a) = true := beq_self_eq_true _
  all_goals first | have e2 : decide (a < b) = true := decide_eq_true (by omega) | have e2 : decide (a < b) = false := decide_eq_false (by omega) | have e2 : decide (a < a) = false := decide_eq_false (by omega)
  all_goals go_enter Tryd.func6, Tryd.ntmps6
  all_goals go_wp2_with fail
  all_goals (with_reducible refine (C1.out _ (by assumption)).mono ?_)
  all_goals rintro e w1 ⟨rfl, hl1, hM1⟩
  all_goals go_wp2_with fail
  all_goals (with_reducible refine (C2.out _ (by assumption)).mono ?_)
  all_goals rintro e w2 ⟨rfl, hl2, hM2⟩
  all_goals go_wp2_with fail
  all_goals (with_reducible refine (C3.out _ (by assumption)).mono ?_)
  all_goals rintro e w3 ⟨rfl, hl3, hM3⟩
  all_goals go_wp2
  all_goals go_ret
  all_goals exact ⟨rfl, hl1.trans (hl2.trans hl3)⟩
end Go.Proofs.YtaadaoemdbfagaaDoor.Civ
