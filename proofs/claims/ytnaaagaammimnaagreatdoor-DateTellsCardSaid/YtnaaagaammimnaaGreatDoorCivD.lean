/-
  The calendar's contracts in one form (the world behind the call: all that was is as it was, and the table of months still lies there), for walks that call many of them.
-/
import Derived.Test.YtnaaagaammimnaaGreatDoorCivC
namespace Go.Proofs.YtnaaagaammimnaaGreatDoor.Civ
open Go Go.RowKit Go.Proofs.YtnaaagaammimnaaGreatDoor.PDateTells Go.Proofs.YtnaaagaammimnaaGreatDoorW.PrintWords Go.Proofs.YtnaaagaammimnaaGreatDoorW.PrintLast Go.Proofs.YtnaaagaammimnaaGreatDoorW.PrintMore
set_option linter.unusedVariables false
set_option linter.unusedSimpArgs false

/-- All that was in memory is as it was. -/
structure Lt (w w' : World) : Prop where mk :: (out : Below w.heap.size w w')
theorem Lt.refl (w : World) : Lt w w := ⟨Below.refl _ _⟩
theorem Lt.trans {a b c : World} (h : Lt a b) (k : Lt b c) : Lt a c := ⟨below_then h.out h.out.size k.out⟩
theorem Lt.d {a b : World} (h : Lt a b) (n : Nat) : Lt a (b.drewN n) := ⟨pw_below_drewN h.out n⟩
theorem Lt.d1 {a b : World} (h : Lt a b) : Lt a b.drew := ⟨h.out.drew⟩
theorem Lt.a {a b : World} (h : Lt a b) (o : Obj) : Lt a (b.alloc o) := ⟨h.out.alloc h.out.size o⟩
theorem Drawn0.lt {w w' : World} (h : Drawn0 w w') : Lt w w' := ⟨h.below⟩
theorem Months.l {w w' : World} (h : Months w) (k : Lt w w') : Months w' := h.below k.out

/-- A whole number of 64 bits, out of its being well formed. -/
theorem wf64 {a : Int} (h : (Lit.int .i64 a).wf = true) : -9223372036854775808 ≤ a ∧ a ≤ 9223372036854775807 := by
  simp only [Lit.wf, Bool.and_eq_true, decide_eq_true_eq] at h
  exact h
theorem Days_lt (y m d : Int) (w : World) (hM : Months w) (hd : d ≤ 9223372036854775807) (hm : -9223372036854775808 ≤ m) :
    Calls Tryz.prog 24 #[.int .i64 y, .int .i64 m, .int .i64 d] w fun e w' => e = .returned (.tuple #[.int .i64 (daysF y m d).1, .int .i64 (daysF y m d).2]) ∧ Lt w w' ∧ Months w' :=
  (Days_calls y m d w hM hd hm).mono fun _ _ ⟨he, h⟩ => ⟨he, Drawn0.lt h, hM.l (Drawn0.lt h)⟩
theorem Date_lt (n : Int) (w : World) (hM : Months w) :
    Calls Tryz.prog 32 #[.int .i64 n] w fun e w' => e = .returned (.tuple #[.int .i64 (dateF n).1, .int .i64 (dateF n).2.1, .int .i64 (dateF n).2.2.1, .int .i64 (dateF n).2.2.2]) ∧ Lt w w' ∧ Months w' :=
  (Date_calls n w hM).mono fun _ _ ⟨he, h⟩ => ⟨he, ⟨h⟩, hM.l ⟨h⟩⟩
theorem Length_lt (y m : Int) (w : World) (hM : Months w) :
    Calls Tryz.prog 44 #[.int .i64 y, .int .i64 m] w fun e w' => e = .returned (.int .i64 (len y m)) ∧ Lt w w' ∧ Months w' :=
  (Length_calls y m w hM).mono fun _ _ ⟨he, h⟩ => ⟨he, Drawn0.lt h, hM.l (Drawn0.lt h)⟩
theorem Leap_lt (y : Int) (w : World) (hM : Months w) :
    Calls Tryz.prog 25 #[.int .i64 y] w fun e w' => e = .returned (.bool (leap y)) ∧ Lt w w' ∧ Months w' :=
  (civil_Leap.calls y _ w (Leap_f y)).mono fun _ _ ⟨he, h⟩ => ⟨he, Drawn0.lt h, hM.l (Drawn0.lt h)⟩
theorem Weekday_lt (n : Int) (w : World) (hM : Months w) :
    Calls Tryz.prog 23 #[.int .i64 n] w fun e w' => e = .returned (.int .i64 (wdF n)) ∧ Lt w w' ∧ Months w' :=
  (civil_Weekday.calls n _ w (Weekday_f n)).mono fun _ _ ⟨he, h⟩ => ⟨he, Drawn0.lt h, hM.l (Drawn0.lt h)⟩
theorem rDays_lt (y m d : Int) (w : World) (hM : Months w) :
    Calls Tryz.prog 33 #[.int .i64 y, .int .i64 m, .int .i64 d] w fun e w' => e = .returned (.tuple #[.int .i64 (daysF y m d).1, .int .i64 (daysF y m d).2]) ∧ Lt w w' ∧ Months w' :=
  (epactref03_Days.calls 1000000 y m d _ _ w (rDays_f 1000000 y m d (by omega))).mono fun _ _ ⟨he, h⟩ => ⟨he, Drawn0.lt h, hM.l (Drawn0.lt h)⟩
theorem rDate_lt (n : Int) (w : World) (hM : Months w) :
    Calls Tryz.prog 29 #[.int .i64 n] w fun e w' => e = .returned (.tuple #[.int .i64 (dateF n).1, .int .i64 (dateF n).2.1, .int .i64 (dateF n).2.2.1, .int .i64 (dateF n).2.2.2]) ∧ Lt w w' ∧ Months w' :=
  (epactref03_Date.calls 1000000 n _ _ _ _ w (rDate_f 1000000 n (by omega))).mono fun _ _ ⟨he, h⟩ => ⟨he, Drawn0.lt h, hM.l (Drawn0.lt h)⟩
theorem rLength_lt (y m : Int) (w : World) (hM : Months w) :
    Calls Tryz.prog 48 #[.int .i64 y, .int .i64 m] w fun e w' => e = .returned (.int .i64 (len y m)) ∧ Lt w w' ∧ Months w' :=
  (epactref03_Length.calls 1 y m _ w (rLength_f 1 y m (by omega))).mono fun _ _ ⟨he, h⟩ => ⟨he, Drawn0.lt h, hM.l (Drawn0.lt h)⟩
theorem rLeap_lt (y : Int) (w : World) (hM : Months w) :
    Calls Tryz.prog 67 #[.int .i64 y] w fun e w' => e = .returned (.bool (leap y)) ∧ Lt w w' ∧ Months w' :=
  (epactref03_Leap.calls y _ w (rLeap_f y)).mono fun _ _ ⟨he, h⟩ => ⟨he, Drawn0.lt h, hM.l (Drawn0.lt h)⟩
theorem rWeekday_lt (n : Int) (w : World) (hM : Months w) :
    Calls Tryz.prog 49 #[.int .i64 n] w fun e w' => e = .returned (.int .i64 (wdF n)) ∧ Lt w w' ∧ Months w' :=
  (epactref03_Weekday.calls n _ w (rWeekday_f n)).mono fun _ _ ⟨he, h⟩ => ⟨he, Drawn0.lt h, hM.l (Drawn0.lt h)⟩
end Go.Proofs.YtnaaagaammimnaaGreatDoor.Civ
