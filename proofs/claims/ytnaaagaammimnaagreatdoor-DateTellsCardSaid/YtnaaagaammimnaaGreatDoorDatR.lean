/-
  The contracts of Read's parts: the three shapes of what stands behind a year.
-/
import Derived.Test.YtnaaagaammimnaaGreatDoorDatT
namespace Go.Proofs.YtnaaagaammimnaaGreatDoor.Civ
open Go Go.RowKit Go.Proofs.YtnaaagaammimnaaGreatDoor.PDateTells Go.Proofs.YtnaaagaammimnaaGreatDoorW.PrintWords Go.Proofs.YtnaaagaammimnaaGreatDoorW.PrintLast Go.Proofs.YtnaaagaammimnaaGreatDoorW.PrintMore Go.Proofs.YtnaaagaammimnaaGreatDoor.Ex Go.Sort
set_option linter.unusedVariables false
set_option linter.unusedSimpArgs false

def monthsF (y : Int) (p q : ByteArray) : Int × Int := if (numF p 2).2 = true ∧ (numF q 2).2 = true then daysF y (numF p 2).1 (numF q 2).1 else (0, 30)
theorem cell_lt {w w' : World} {a : Addr} {v : Value} (h : Lt w w') (hc : w.cell? a = some v) : w'.cell? a = some v := (h.out.cell (World.block_lt_of_cell? w _ hc)).trans hc
set_option maxHeartbeats 4000000 in
theorem months_lt (y : Int) (a : Addr) (c : Nat) (p q : ByteArray) (w : World) (hC : Cal w) (h0 : w.cell? a = some (.string p)) (h1 : w.cell? ⟨a.block, a.off + 1, none⟩ = some (.string q)) :
    Calls Tryz.prog 62 #[.int .i64 y, .slice (some a) 2 c] w fun e w' => e = .returned (.tuple #[.int .i64 (monthsF y p q).1, .int .i64 (monthsF y p q).2]) ∧ Lt w w' := by
  have N1 := Aside0.mk (fun w => number_lt p 2 w (by omega) (by omega))
  have N2 := Aside0.mk (fun w => number_lt q 2 w (by omega) (by omega))
  have HC := Aside0.mk hC
  have H1 := Aside0.mk h1
  have b1 := numF_bd p 2 (by omega) (by omega)
  have b2 := numF_bd q 2 (by omega) (by omega)
  have hr : monthsF y p q = if (numF p 2).2 = true ∧ (numF q 2).2 = true then daysF y (numF p 2).1 (numF q 2).1 else (0, 30) := rfl
  rw [hr]
  clear hr h1
  generalize (numF p 2).1 = m at *
  generalize (numF p 2).2 = f at *
  generalize (numF q 2).1 = d at *
  generalize (numF q 2).2 = g at *
  have CD := Aside0.mk (fun w hM => Days_lt y m d w hM (by omega) (by omega))
  generalize daysF y m d = r at *
  obtain ⟨r1, r2⟩ := r
  clear b1 b2
  cases f
  · rw [if_neg (by simp)]
    go_enter Tryz.func62, Tryz.ntmps62
    go_wp2_with fail
    (with_reducible refine (N1.out _).mono ?_)
    rintro e w1 ⟨rfl, hl1⟩
    have h1 := cell_lt hl1 H1.out
    go_wp2_with fail
    (with_reducible refine (N2.out _).mono ?_)
    rintro e w2 ⟨rfl, hl2⟩
    go_wp2
    go_ret2
    exact ⟨rfl, hl1.trans hl2⟩
  · cases g
    · rw [if_neg (by simp)]
      go_enter Tryz.func62, Tryz.ntmps62
      go_wp2_with fail
      (with_reducible refine (N1.out _).mono ?_)
      rintro e w1 ⟨rfl, hl1⟩
      have h1 := cell_lt hl1 H1.out
      go_wp2_with fail
      (with_reducible refine (N2.out _).mono ?_)
      rintro e w2 ⟨rfl, hl2⟩
      go_wp2
      go_ret2
      exact ⟨rfl, hl1.trans hl2⟩
    · rw [if_pos ⟨rfl, rfl⟩]
      go_enter Tryz.func62, Tryz.ntmps62
      go_wp2_with fail
      (with_reducible refine (N1.out _).mono ?_)
      rintro e w1 ⟨rfl, hl1⟩
      have h1 := cell_lt hl1 H1.out
      go_wp2_with fail
      (with_reducible refine (N2.out _).mono ?_)
      rintro e w2 ⟨rfl, hl2⟩
      have hM2 := ((HC.out.l hl1).l hl2).months
      go_wp2_with fail
      (with_reducible refine (CD.out _ (by assumption)).mono ?_)
      rintro e w3 ⟨rfl, hl3, hM3⟩
      go_wp2
      go_ret2
      exact ⟨rfl, hl1.trans (hl2.trans hl3)⟩
def weeksF (y : Int) (p q : ByteArray) : Int × Int :=
  if Lib.hasPrefix p.data.toList [87] = true ∧ (numF ⟨(Lib.trimPrefix p.data.toList [87]).toArray⟩ 2).2 = true ∧ (numF q 1).2 = true then ofWeekF y (numF ⟨(Lib.trimPrefix p.data.toList [87]).toArray⟩ 2).1 (numF q 1).1 else (0, 30)
set_option maxHeartbeats 4000000 in
theorem weeks_lt (y : Int) (a : Addr) (c : Nat) (p q : ByteArray) (w : World) (hC : Cal w) (h0 : w.cell? a = some (.string p)) (h1 : w.cell? ⟨a.block, a.off + 1, none⟩ = some (.string q)) :
    Calls Tryz.prog 63 #[.int .i64 y, .slice (some a) 2 c] w fun e w' => e = .returned (.tuple #[.int .i64 (weeksF y p q).1, .int .i64 (weeksF y p q).2]) ∧ Lt w w' := by
  have CP := Aside0.mk (Tryz.strings_CutPrefix p ⟨#[87]⟩ w)
  have hr : weeksF y p q = if Lib.hasPrefix p.data.toList [87] = true ∧ (numF ⟨(Lib.trimPrefix p.data.toList [87]).toArray⟩ 2).2 = true ∧ (numF q 1).2 = true then ofWeekF y (numF ⟨(Lib.trimPrefix p.data.toList [87]).toArray⟩ 2).1 (numF q 1).1 else (0, 30) := rfl
  rw [hr]
  have e1 : (ByteArray.mk #[87]).data.toList = [87] := rfl
  rw [e1] at CP
  clear hr e1
  generalize Lib.hasPrefix p.data.toList [87] = pre at *
  generalize (⟨(Lib.trimPrefix p.data.toList [87]).toArray⟩ : ByteArray) = t at *
  have N1 := Aside0.mk (fun w => number_lt t 2 w (by omega) (by omega))
  have N2 := Aside0.mk (fun w => number_lt q 1 w (by omega) (by omega))
  have HC := Aside0.mk hC
  have H1 := Aside0.mk h1
  have b1 := numF_bd t 2 (by omega) (by omega)
  clear h1
  generalize (numF t 2).1 = m at *
  generalize (numF t 2).2 = f at *
  generalize (numF q 1).1 = d at *
  generalize (numF q 1).2 = g at *
  have CD := Aside0.mk (fun w hM => OfWeek_lt y m d w hM (by omega) (by omega))
  generalize ofWeekF y m d = r at *
  obtain ⟨r1, r2⟩ := r
  clear b1
  cases pre
  · rw [if_neg (by simp)]
    go_enter Tryz.func63, Tryz.ntmps63
    go_wp2_with fail
    (with_reducible refine CP.out.mono ?_)
    rintro e w0 ⟨rfl, rfl⟩
    go_wp2_with fail
    (with_reducible refine (N1.out _).mono ?_)
    rintro e w1 ⟨rfl, hl1⟩
    have h1 := cell_lt hl1 H1.out
    go_wp2_with fail
    (with_reducible refine (N2.out _).mono ?_)
    rintro e w2 ⟨rfl, hl2⟩
    go_wp2
    go_ret2
    exact ⟨rfl, hl1.trans hl2⟩
  · cases f
    · rw [if_neg (by simp)]
      go_enter Tryz.func63, Tryz.ntmps63
      go_wp2_with fail
      (with_reducible refine CP.out.mono ?_)
      rintro e w0 ⟨rfl, rfl⟩
      go_wp2_with fail
      (with_reducible refine (N1.out _).mono ?_)
      rintro e w1 ⟨rfl, hl1⟩
      have h1 := cell_lt hl1 H1.out
      go_wp2_with fail
      (with_reducible refine (N2.out _).mono ?_)
      rintro e w2 ⟨rfl, hl2⟩
      go_wp2
      go_ret2
      exact ⟨rfl, hl1.trans hl2⟩
    · cases g
      · rw [if_neg (by simp)]
        go_enter Tryz.func63, Tryz.ntmps63
        go_wp2_with fail
        (with_reducible refine CP.out.mono ?_)
        rintro e w0 ⟨rfl, rfl⟩
        go_wp2_with fail
        (with_reducible refine (N1.out _).mono ?_)
        rintro e w1 ⟨rfl, hl1⟩
        have h1 := cell_lt hl1 H1.out
        go_wp2_with fail
        (with_reducible refine (N2.out _).mono ?_)
        rintro e w2 ⟨rfl, hl2⟩
        go_wp2
        go_ret2
        exact ⟨rfl, hl1.trans hl2⟩
      · rw [if_pos ⟨rfl, rfl, rfl⟩]
        go_enter Tryz.func63, Tryz.ntmps63
        go_wp2_with fail
        (with_reducible refine CP.out.mono ?_)
        rintro e w0 ⟨rfl, rfl⟩
        go_wp2_with fail
        (with_reducible refine (N1.out _).mono ?_)
        rintro e w1 ⟨rfl, hl1⟩
        have h1 := cell_lt hl1 H1.out
        go_wp2_with fail
        (with_reducible refine (N2.out _).mono ?_)
        rintro e w2 ⟨rfl, hl2⟩
        have hM2 := ((HC.out.l hl1).l hl2).months
        go_wp2_with fail
        (with_reducible refine (CD.out _ (by assumption)).mono ?_)
        rintro e w3 ⟨rfl, hl3, hM3⟩
        go_wp2
        go_ret2
        exact ⟨rfl, hl1.trans (hl2.trans hl3)⟩
def daysOfF (y : Int) (p : ByteArray) : Int × Int := if (numF p 3).2 = true then ofNthF y (numF p 3).1 else (0, 30)
set_option maxHeartbeats 4000000 in
theorem daysOf_lt (y : Int) (a : Addr) (c : Nat) (p : ByteArray) (w : World) (hC : Cal w) (h0 : w.cell? a = some (.string p)) :
    Calls Tryz.prog 64 #[.int .i64 y, .slice (some a) 1 c] w fun e w' => e = .returned (.tuple #[.int .i64 (daysOfF y p).1, .int .i64 (daysOfF y p).2]) ∧ Lt w w' := by
  have N1 := Aside0.mk (fun w => number_lt p 3 w (by omega) (by omega))
  have HC := Aside0.mk hC
  have b1 := numF_bd p 3 (by omega) (by omega)
  have hr : daysOfF y p = if (numF p 3).2 = true then ofNthF y (numF p 3).1 else (0, 30) := rfl
  rw [hr]
  clear hr
  generalize (numF p 3).1 = m at *
  generalize (numF p 3).2 = f at *
  have CD := Aside0.mk (fun w hM => OfNth_lt y m w hM (by omega) (by omega))
  generalize ofNthF y m = r at *
  obtain ⟨r1, r2⟩ := r
  clear b1
  cases f
  · rw [if_neg (by simp)]
    go_enter Tryz.func64, Tryz.ntmps64
    go_wp2_with fail
    (with_reducible refine (N1.out _).mono ?_)
    rintro e w1 ⟨rfl, hl1⟩
    go_wp2
    go_ret2
    exact ⟨rfl, hl1⟩
  · rw [if_pos rfl]
    go_enter Tryz.func64, Tryz.ntmps64
    go_wp2_with fail
    (with_reducible refine (N1.out _).mono ?_)
    rintro e w1 ⟨rfl, hl1⟩
    have hM1 := (HC.out.l hl1).months
    go_wp2_with fail
    (with_reducible refine (CD.out _ (by assumption)).mono ?_)
    rintro e w2 ⟨rfl, hl2, hM2⟩
    go_wp2
    go_ret2
    exact ⟨rfl, hl1.trans hl2⟩
set_option maxHeartbeats 4000000 in
theorem shapes_calls (w : World) :
    Calls Tryz.prog 41 #[] w fun e w' => e = .returned (.slice (some ⟨w.heap.size, 0, none⟩) 3 3) ∧ w' = w.alloc (.cells #[.int .i64 2, .func (.func 62) #[] #[], .int .i64 2, .func (.func 63) #[] #[], .int .i64 1, .func (.func 64) #[] #[]] 60) := by
  go_enter Tryz.func41, Tryz.ntmps41
  go_wp2
  go_ret
  exact ⟨rfl, rfl⟩
end Go.Proofs.YtnaaagaammimnaaGreatDoor.Civ
