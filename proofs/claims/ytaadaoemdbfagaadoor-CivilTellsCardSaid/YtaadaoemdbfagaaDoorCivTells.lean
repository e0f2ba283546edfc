/-
  CivilTells walked: the calendar's functions and the document's answer the same, and the examples hold.
-/
import Derived.Test.YtaadaoemdbfagaaDoorCivE
namespace Go.Proofs.YtaadaoemdbfagaaDoor.Civ
open Go Go.RowKit Go.Proofs.YtaadaoemdbfagaaDoor.PCivilTells Go.Proofs.YtaadaoemdbfagaaDoorW.PrintWords Go.Proofs.YtaadaoemdbfagaaDoorW.PrintLast Go.Proofs.YtaadaoemdbfagaaDoorW.PrintMore
set_option linter.unusedVariables false
set_option linter.unusedSimpArgs false

set_option maxHeartbeats 4000000 in
theorem CivilTells_lt (y m d n : Int) (w : World) (hM : Months w) (hd : d ≤ 9223372036854775807) (hm : -9223372036854775808 ≤ m) :
    Calls Tryd.prog 3 #[.int .i64 y, .int .i64 m, .int .i64 d, .int .i64 n] w fun e w' => e = .returned (.bool true) ∧ Lt w w' := by
  have C1 := Aside0.mk (fun w hM => Days_lt y m d w hM hd hm)
  have C2 := Aside0.mk (fun w hM => rDays_lt y m d w hM)
  have C3 := Aside0.mk (fun w hM => Date_lt n w hM)
  have C4 := Aside0.mk (fun w hM => rDate_lt n w hM)
  have C5 := Aside0.mk (fun w hM => Leap_lt y w hM)
  have C6 := Aside0.mk (fun w hM => rLeap_lt y w hM)
  have C7 := Aside0.mk (fun w hM => Length_lt y m w hM)
  have C8 := Aside0.mk (fun w hM => rLength_lt y m w hM)
  have C9 := Aside0.mk (fun w hM => Weekday_lt n w hM)
  have C10 := Aside0.mk (fun w hM => rWeekday_lt n w hM)
  have C11 := Aside0.mk awake_lt
  generalize (daysF y m d).1 = a1 at *
  generalize (daysF y m d).2 = a2 at *
  generalize (dateF n).1 = b1 at *
  generalize (dateF n).2.1 = b2 at *
  generalize (dateF n).2.2.1 = b3 at *
  generalize (dateF n).2.2.2 = b4 at *
  generalize leap y = c1 at *
  generalize len y m = c2 at *
  generalize wdF n = c3 at *
  clear hd hm
  go_enter Tryd.func3, Tryd.ntmps3
  go_wp2_with fail
  (with_reducible refine (C1.out _ (by assumption)).mono ?_)
  rintro e w1 ⟨rfl, hl1, hM1⟩
  go_wp2_with fail
  (with_reducible refine (C2.out _ (by assumption)).mono ?_)
  rintro e w2 ⟨rfl, hl2, hM2⟩
  go_wp2_with fail
  (with_reducible refine (C3.out _ (by assumption)).mono ?_)
  rintro e w3 ⟨rfl, hl3, hM3⟩
  go_wp2_with fail
  (with_reducible refine (C4.out _ (by assumption)).mono ?_)
  rintro e w4 ⟨rfl, hl4, hM4⟩
  go_wp2_with fail
  (with_reducible refine (C5.out _ (by assumption)).mono ?_)
  rintro e w5 ⟨rfl, hl5, hM5⟩
  go_wp2_with fail
  (with_reducible refine (C6.out _ (by assumption)).mono ?_)
  rintro e w6 ⟨rfl, hl6, hM6⟩
  go_wp2_with fail
  (with_reducible refine (C7.out _ (by assumption)).mono ?_)
  rintro e w7 ⟨rfl, hl7, hM7⟩
  go_wp2_with fail
  (with_reducible refine (C8.out _ (by assumption)).mono ?_)
  rintro e w8 ⟨rfl, hl8, hM8⟩
  go_wp2_with fail
  (with_reducible refine (C9.out _ (by assumption)).mono ?_)
  rintro e w9 ⟨rfl, hl9, hM9⟩
  go_wp2_with fail
  (with_reducible refine (C10.out _ (by assumption)).mono ?_)
  rintro e w10 ⟨rfl, hl10, hM10⟩
  go_wp2_with fail
  (with_reducible refine (C11.out _ (by assumption)).mono ?_)
  rintro e w11 ⟨rfl, hl11, hM11⟩
  go_wp2
  go_ret
  exact ⟨rfl, hl1.trans (hl2.trans (hl3.trans (hl4.trans (hl5.trans (hl6.trans (hl7.trans (hl8.trans (hl9.trans (hl10.trans hl11)))))))))⟩
theorem CivilTells_walk (y m d n : Int) (w : World) (hM : Months w) (w0 : (Lit.int .i64 y).wf = true) (w1 : (Lit.int .i64 m).wf = true) (w2 : (Lit.int .i64 d).wf = true) (w3 : (Lit.int .i64 n).wf = true) :
    Calls Tryd.prog 3 #[.int .i64 y, .int .i64 m, .int .i64 d, .int .i64 n] w fun e w' => e = .returned (.bool true) ∧ Lt w w' :=
  CivilTells_lt y m d n w hM (wf64 w2).2 (wf64 w1).1
end Go.Proofs.YtaadaoemdbfagaaDoor.Civ
