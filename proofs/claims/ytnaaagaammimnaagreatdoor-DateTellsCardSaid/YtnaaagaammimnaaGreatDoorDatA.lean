/-
  The examples of the chapter of dates (awake), and its helpers weeks and reads.
-/
import Derived.Test.YtnaaagaammimnaaGreatDoorDatQ
namespace Go.Proofs.YtnaaagaammimnaaGreatDoor.Civ
open Go Go.RowKit Go.Proofs.YtnaaagaammimnaaGreatDoor.PDateTells Go.Proofs.YtnaaagaammimnaaGreatDoorW.PrintWords Go.Proofs.YtnaaagaammimnaaGreatDoorW.PrintLast Go.Proofs.YtnaaagaammimnaaGreatDoorW.PrintMore Go.Proofs.YtnaaagaammimnaaGreatDoor.Ex Go.Sort
set_option linter.unusedVariables false
set_option linter.unusedSimpArgs false

theorem ex_text0 : textF 0 = (⟨#[49, 57, 55, 48, 45, 48, 49, 45, 48, 49]⟩, 0) := by
  have h : ymdL 1970 1 1 = [49, 57, 55, 48, 45, 48, 49, 45, 48, 49] := by
    unfold ymdL
    rw [if_neg (by decide), partsL_eq]
    simp [padF, Lib.itoa, Lib.decDigits]
  have h1 : yrF 0 = 1970 := by decide +kernel
  have h2 : moF 0 = 1 := by decide +kernel
  have h3 : dyF 0 = 1 := by decide +kernel
  unfold textF
  rw [if_pos (by decide), h1, h2, h3, h]
theorem ex_text1 : textF (-719529) = (⟨#[45, 48, 48, 48, 49, 45, 49, 50, 45, 51, 49]⟩, 0) := by
  have h : ymdL (-1) 12 31 = [45, 48, 48, 48, 49, 45, 49, 50, 45, 51, 49] := by
    unfold ymdL
    rw [if_pos (by decide), partsL_eq]
    simp [padF, Lib.itoa, Lib.decDigits]
  have h1 : yrF (-719529) = -1 := by decide +kernel
  have h2 : moF (-719529) = 12 := by decide +kernel
  have h3 : dyF (-719529) = 31 := by decide +kernel
  unfold textF
  rw [if_pos (by decide), h1, h2, h3, h]
theorem ex_read0 : readF ⟨#[50, 48, 48, 49, 45, 51, 54, 54]⟩ = (0, 30) := by decide +kernel
theorem ex_read1 : readF ⟨#[50, 48, 48, 48, 45, 50, 45, 50, 57]⟩ = (0, 30) := by decide +kernel
theorem ex_read2 : readF ⟨#[45, 48, 48, 48, 48, 45, 48, 49, 45, 48, 49]⟩ = (0, 30) := by decide +kernel
theorem ex_read3 : readF ⟨#[50, 48, 48, 52, 45, 87, 53, 51, 45, 54]⟩ = (12784, 0) := by decide +kernel
theorem ex_read4 : readF ⟨#[50, 48, 48, 48, 45, 51, 54, 54]⟩ = (11322, 0) := by decide +kernel
theorem ex_week0 : weekF 12784 = (2004, 53, 6, 0) ∧ ofWeekF 2004 53 6 = (12784, 0) := by decide +kernel
theorem ex_week1 : weekF 14242 = (2009, 1, 1, 0) ∧ ofWeekF 2009 1 1 = (14242, 0) := by decide +kernel
theorem ex_wks : wks 2004 = 53 ∧ wks 2005 = 52 := by decide +kernel
theorem ex_nth : nthF 11322 = (2000, 366, 0) := by decide +kernel
set_option maxHeartbeats 4000000 in
theorem weeksL_lt (n y k d : Int) (w : World) (hC : Cal w) (hk0 : -9223372036854775808 ≤ k) (hk1 : k ≤ 9223372036854775807) (h1 : weekF n = (y, k, d, 0)) (h2 : ofWeekF y k d = (n, 0)) :
    Calls Tryz.prog 26 #[.int .i64 n, .int .i64 y, .int .i64 k, .int .i64 d] w fun e w' => e = .returned (.bool true) ∧ Lt w w' := by
  have C1 := Aside0.mk (Week_lt n w hC.months)
  rw [h1] at C1
  have C2 := Aside0.mk (fun w hM => OfWeek_lt y k d w hM hk0 hk1)
  rw [h2] at C2
  clear h1 h2 hk0 hk1
  go_enter Tryz.func26, Tryz.ntmps26
  go_wp2_with fail
  (with_reducible refine C1.out.mono ?_)
  rintro e w1 ⟨rfl, hl1, hM1⟩
  go_wp2_with fail
  (with_reducible refine (C2.out _ (by assumption)).mono ?_)
  rintro e w2 ⟨rfl, hl2, hM2⟩
  go_wp2
  go_ret
  exact ⟨rfl, hl1.trans hl2⟩
set_option maxHeartbeats 4000000 in
theorem reads_lt (s : ByteArray) (n : Int) (w : World) (hC : Cal w) (hs : s.size < 4294967281) (h : readF s = (n, 0)) :
    Calls Tryz.prog 27 #[.string s, .int .i64 n] w fun e w' => e = .returned (.bool true) ∧ Lt w w' := by
  have C1 := Aside0.mk (Read_lt s w hC hs)
  rw [h] at C1
  clear h
  go_enter Tryz.func27, Tryz.ntmps27
  go_wp2_with fail
  (with_reducible refine C1.out.mono ?_)
  rintro e w1 ⟨rfl, hl1⟩
  go_wp2
  go_ret
  exact ⟨rfl, hl1⟩
set_option maxHeartbeats 8000000 in
set_option maxRecDepth 100000 in
theorem awake4_lt (w : World) (hC : Cal w) :
    Calls Tryz.prog 8 #[] w fun e w' => e = .returned (.bool true) ∧ Lt w w' := by
  have C1 := Aside0.mk (Nth_lt 11322 w hC.months)
  rw [ex_nth] at C1
  have C2 := Aside0.mk (fun w hC => Text_lt 0 w hC)
  rw [ex_text0] at C2
  have C3 := Aside0.mk (fun w hC => Text_lt (-719529) w hC)
  rw [ex_text1] at C3
  have R0 := Aside0.mk (fun w hC => Read_lt ⟨#[50, 48, 48, 49, 45, 51, 54, 54]⟩ w hC (by decide))
  rw [ex_read0] at R0
  have R1 := Aside0.mk (fun w hC => Read_lt ⟨#[50, 48, 48, 48, 45, 50, 45, 50, 57]⟩ w hC (by decide))
  rw [ex_read1] at R1
  have R2 := Aside0.mk (fun w hC => Read_lt ⟨#[45, 48, 48, 48, 48, 45, 48, 49, 45, 48, 49]⟩ w hC (by decide))
  rw [ex_read2] at R2
  have K0 := Aside0.mk (fun w hC => weeksL_lt 12784 2004 53 6 w hC (by omega) (by omega) ex_week0.1 ex_week0.2)
  have K1 := Aside0.mk (fun w hC => weeksL_lt 14242 2009 1 1 w hC (by omega) (by omega) ex_week1.1 ex_week1.2)
  have W0 := Aside0.mk (fun w (hC : Cal w) => Weeks_lt 2004 w hC.months)
  rw [ex_wks.1] at W0
  have W1 := Aside0.mk (fun w (hC : Cal w) => Weeks_lt 2005 w hC.months)
  rw [ex_wks.2] at W1
  have S0 := Aside0.mk (fun w hC => reads_lt ⟨#[50, 48, 48, 52, 45, 87, 53, 51, 45, 54]⟩ 12784 w hC (by decide) ex_read3)
  have S1 := Aside0.mk (fun w hC => reads_lt ⟨#[50, 48, 48, 48, 45, 51, 54, 54]⟩ 11322 w hC (by decide) ex_read4)
  have HC := Aside0.mk hC
  go_enter Tryz.func8, Tryz.ntmps8
  go_wp2_with fail
  (with_reducible refine C1.out.mono ?_)
  rintro e w1 ⟨rfl, hl1, hM1⟩
  have hC1 := HC.out.l hl1
  go_wp2_with fail
  (with_reducible refine (C2.out _ (by assumption)).mono ?_)
  rintro e w2 ⟨rfl, hl2⟩
  have hC2 := hC1.l hl2
  go_wp2_with fail
  (with_reducible refine (C3.out _ (by assumption)).mono ?_)
  rintro e w3 ⟨rfl, hl3⟩
  have HC3 := Aside0.mk (hC2.l hl3)
  have HL3 := Aside0.mk (hl1.trans (hl2.trans hl3))
  clear hC2 hl3 hl2 hl1 hC1 hM1 hC
  go_wp2
  obtain ⟨w4, hw4⟩ : ∃ w4, w4 = w3.alloc (.cells #[.string ⟨#[50, 48, 48, 49, 45, 51, 54, 54]⟩, .string ⟨#[50, 48, 48, 48, 45, 50, 45, 50, 57]⟩, .string ⟨#[45, 48, 48, 48, 48, 45, 48, 49, 45, 48, 49]⟩] 9) := ⟨_, rfl⟩
  have hl4 : Lt w3 w4 := by rw [hw4]; exact lt_new _ _ _
  have s0' : w4.cell? ⟨w3.heap.size, 0, none⟩ = some (.string ⟨#[50, 48, 48, 49, 45, 51, 54, 54]⟩) := by rw [hw4, World.cell?_alloc_at _ _ _ _ rfl]; rfl
  have s1' : w4.cell? ⟨w3.heap.size, 1, none⟩ = some (.string ⟨#[50, 48, 48, 48, 45, 50, 45, 50, 57]⟩) := by rw [hw4, World.cell?_alloc_at _ _ _ _ rfl]; rfl
  have s2' : w4.cell? ⟨w3.heap.size, 2, none⟩ = some (.string ⟨#[45, 48, 48, 48, 48, 45, 48, 49, 45, 48, 49]⟩) := by rw [hw4, World.cell?_alloc_at _ _ _ _ rfl]; rfl
  rw [← hw4]
  have HL4 := Aside0.mk hl4
  have T0 := Aside0.mk s0'
  have T1 := Aside0.mk s1'
  have T2 := Aside0.mk s2'
  clear hw4 hl4 s0' s1' s2'
  generalize w3.heap.size = B at *
  go_loopw [27] (fun i wr => ∃ k, k ≤ 3 ∧ i = .int .i64 (k : Nat) ∧ Lt w4 wr) (fun i _ => 3 - (intOf i).toNat)
  case atStart => exact ⟨0, Nat.zero_le _, rfl, Lt.refl _⟩
  case round =>
    obtain ⟨k, hk, rfl, hlr⟩ := hrel
    have HLR := Aside0.mk hlr
    have hCr := (HC3.out.l HL4.out).l hlr
    have HCR := Aside0.mk hCr
    clear hlr
    rcases (show k = 0 ∨ k = 1 ∨ k = 2 ∨ k = 3 by omega) with rfl | rfl | rfl | rfl
    · have s0 := cell_lt HLR.out T0.out
      go_wp2_with fail
      (with_reducible refine (R0.out _ (by assumption)).mono ?_)
      rintro e w5 ⟨rfl, hl5⟩
      go_wp2_with fail
      go_roundw
      case rel => exact ⟨1, by omega, by go_num, HLR.out.trans hl5⟩
      case measure => simp [intOf]
    · have s0 := cell_lt HLR.out T1.out
      go_wp2_with fail
      (with_reducible refine (R1.out _ (by assumption)).mono ?_)
      rintro e w5 ⟨rfl, hl5⟩
      go_wp2_with fail
      go_roundw
      case rel => exact ⟨2, by omega, by go_num, HLR.out.trans hl5⟩
      case measure => simp [intOf]
    · have s0 := cell_lt HLR.out T2.out
      go_wp2_with fail
      (with_reducible refine (R2.out _ (by assumption)).mono ?_)
      rintro e w5 ⟨rfl, hl5⟩
      go_wp2_with fail
      go_roundw
      case rel => exact ⟨3, by omega, by go_num, HLR.out.trans hl5⟩
      case measure => simp [intOf]
    · go_wp2_with fail
      (with_reducible refine (K0.out _ (by assumption)).mono ?_)
      rintro e w5 ⟨rfl, hl5⟩
      have hC5 := hCr.l hl5
      go_wp2_with fail
      (with_reducible refine (K1.out _ (by assumption)).mono ?_)
      rintro e w6 ⟨rfl, hl6⟩
      have hC6 := hC5.l hl6
      go_wp2_with fail
      (with_reducible refine (W0.out _ (by assumption)).mono ?_)
      rintro e w7 ⟨rfl, hl7, hM7⟩
      have hC7 := hC6.l hl7
      go_wp2_with fail
      (with_reducible refine (W1.out _ (by assumption)).mono ?_)
      rintro e w8 ⟨rfl, hl8, hM8⟩
      have hC8 := hC7.l hl8
      go_wp2_with fail
      (with_reducible refine (S0.out _ (by assumption)).mono ?_)
      rintro e w9 ⟨rfl, hl9⟩
      have hC9 := hC8.l hl9
      go_wp2_with fail
      (with_reducible refine (S1.out _ (by assumption)).mono ?_)
      rintro e wa ⟨rfl, hla⟩
      go_wp2
      go_ret
      exact ⟨rfl, HL3.out.trans (HL4.out.trans (HLR.out.trans (hl5.trans (hl6.trans (hl7.trans (hl8.trans (hl9.trans hla)))))))⟩
end Go.Proofs.YtnaaagaammimnaaGreatDoor.Civ
