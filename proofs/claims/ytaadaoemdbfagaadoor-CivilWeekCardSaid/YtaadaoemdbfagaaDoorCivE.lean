/-
  The examples of the calendar's chapter: number and awake answer true.
-/
import Derived.Test.YtaadaoemdbfagaaDoorCivD
namespace Go.Proofs.YtaadaoemdbfagaaDoor.Civ
open Go Go.RowKit Go.Proofs.YtaadaoemdbfagaaDoor.PCivilTells Go.Proofs.YtaadaoemdbfagaaDoorW.PrintWords Go.Proofs.YtaadaoemdbfagaaDoorW.PrintLast Go.Proofs.YtaadaoemdbfagaaDoorW.PrintMore
set_option linter.unusedVariables false
set_option linter.unusedSimpArgs false

set_option maxHeartbeats 2000000 in
theorem number_lt (y m d n : Int) (w : World) (hM : Months w) (hok : Ok y m d) (hn : dn y m d = n) :
    Calls Tryd.prog 26 #[.int .i64 y, .int .i64 m, .int .i64 d, .int .i64 n] w fun e w' => e = .returned (.bool true) ∧ Lt w w' ∧ Months w' := by
  have hm := hok.month
  have hd : d ≤ 9223372036854775807 := by have := hok.2.2.2.2.2; have := len_le y m; omega
  have C1 := Aside0.mk (Days_lt y m d w hM hd (by omega))
  rw [daysF_ok hok, hn] at C1
  have C2 := Aside0.mk (Date_lt n)
  rw [← hn, dateF_dn hok, hn] at C2
  clear hok hn hd hm
  go_enter Tryd.func26, Tryd.ntmps26
  go_wp2_with fail
  (with_reducible refine C1.out.mono ?_)
  rintro e w1 ⟨rfl, hl1, hM1⟩
  go_wp2_with fail
  (with_reducible refine (C2.out _ (by assumption)).mono ?_)
  rintro e w2 ⟨rfl, hl2, hM2⟩
  go_wp2
  go_ret
  exact ⟨rfl, hl1.trans hl2, hM2⟩
set_option maxHeartbeats 4000000 in
theorem awake_lt (w : World) (hM : Months w) :
    Calls Tryd.prog 18 #[] w fun e w' => e = .returned (.bool true) ∧ Lt w w' ∧ Months w' := by
  have C1 := Aside0.mk (fun w hM => Days_lt 1900 2 29 w hM (by decide) (by decide))
  rw [daysF_not (by decide)] at C1
  have C2 := Aside0.mk (Date_lt 2932897)
  rw [dateF_not (by decide)] at C2
  have C3 := Aside0.mk (fun w hM => number_lt 1970 1 1 0 w hM (by decide) (by decide))
  have C4 := Aside0.mk (fun w hM => number_lt 2000 2 29 11016 w hM (by decide) (by decide))
  have C5 := Aside0.mk (fun w hM => number_lt 1 1 1 (-719162) w hM (by decide) (by decide))
  have C6 := Aside0.mk (fun w hM => number_lt (-9999) 1 1 (-4371587) w hM (by decide) (by decide))
  have C7 := Aside0.mk (fun w hM => number_lt 9999 12 31 2932896 w hM (by decide) (by decide))
  have C8 := Aside0.mk (fun w hM => number_lt 1969 12 31 (-1) w hM (by decide) (by decide))
  have C9 := Aside0.mk (Weekday_lt 0)
  rw [show wdF 0 = 4 by decide] at C9
  have C10 := Aside0.mk (Weekday_lt (-719162))
  rw [show wdF (-719162) = 1 by decide] at C10
  have C11 := Aside0.mk (Length_lt 2023 2)
  rw [show len 2023 2 = 28 by decide] at C11
  have C12 := Aside0.mk (Length_lt 2023 13)
  rw [show len 2023 13 = 0 by decide] at C12
  go_enter Tryd.func18, Tryd.ntmps18
  go_wp2_with fail
  (with_reducible refine (C1.out _ (by assumption)).mono ?_)
  rintro e w1 ⟨rfl, hl1, hM1⟩
  go_wp2_with fail
  (with_reducible refine (C2.out _ (by assumption)).mono ?_)
  rintro e w2 ⟨rfl, hl2, hM2⟩
  go_wp2_with fail
  (with_reducible refine (C3.out _ (by assumption)).mono ?_)
  rintro e w3 ⟨rfl, hl3, hM3⟩
  go_wp2_with fail
  (with_reducible refine (C4.out _ (by assumption)).mono ?_)
  rintro e w4 ⟨rfl, hl4, hM4⟩
  go_wp2_with fail
  (with_reducible refine (C5.out _ (by assumption)).mono ?_)
  rintro e w5 ⟨rfl, hl5, hM5⟩
  go_wp2_with fail
  (with_reducible refine (C6.out _ (by assumption)).mono ?_)
  rintro e w6 ⟨rfl, hl6, hM6⟩
  go_wp2_with fail
  (with_reducible refine (C7.out _ (by assumption)).mono ?_)
  rintro e w7 ⟨rfl, hl7, hM7⟩
  go_wp2_with fail
  (with_reducible refine (C8.out _ (by assumption)).mono ?_)
  rintro e w8 ⟨rfl, hl8, hM8⟩
  go_wp2_with fail
  (with_reducible refine (C9.out _ (by assumption)).mono ?_)
  rintro e w9 ⟨rfl, hl9, hM9⟩
  go_wp2_with fail
  (with_reducible refine (C10.out _ (by assumption)).mono ?_)
  rintro e w10 ⟨rfl, hl10, hM10⟩
  go_wp2_with fail
  (with_reducible refine (C11.out _ (by assumption)).mono ?_)
  rintro e w11 ⟨rfl, hl11, hM11⟩
  go_wp2_with fail
  (with_reducible refine (C12.out _ (by assumption)).mono ?_)
  rintro e w12 ⟨rfl, hl12, hM12⟩
  go_wp2
  go_ret
  exact ⟨rfl, hl1.trans (hl2.trans (hl3.trans (hl4.trans (hl5.trans (hl6.trans (hl7.trans (hl8.trans (hl9.trans (hl10.trans (hl11.trans hl12)))))))))), hM12⟩
end Go.Proofs.YtaadaoemdbfagaaDoor.Civ
