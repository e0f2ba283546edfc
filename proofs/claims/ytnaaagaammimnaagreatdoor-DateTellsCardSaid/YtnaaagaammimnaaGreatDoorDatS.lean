/-
  The contracts of what a date's text is made of: number (so many digits, or none), padded (a number in so many digits).
-/
import Derived.Test.YtnaaagaammimnaaGreatDoorDatW
import Derived.Test.YtnaaagaammimnaaGreatDoorNameM
import Derived.Test.YtnaaagaammimnaaGreatDoorShelf
import Derived.WalkSmall
import Derived.Lib.ItoaLen
import Derived.Lib.AtoiBound
namespace Go.Proofs.YtnaaagaammimnaaGreatDoor.Civ
open Go Go.RowKit Go.Proofs.YtnaaagaammimnaaGreatDoor.PDateTells Go.Proofs.YtnaaagaammimnaaGreatDoorW.PrintWords Go.Proofs.YtnaaagaammimnaaGreatDoorW.PrintLast Go.Proofs.YtnaaagaammimnaaGreatDoorW.PrintMore Go.Proofs.YtnaaagaammimnaaGreatDoor.Ex Go.Sort
attribute [local go_sem] max2_int min2_int max_two min_two
set_option linter.unusedVariables false
set_option linter.unusedSimpArgs false

/-- What the date's functions want of the library's variables. -/
structure Cal (w : World) : Prop where
  months : Months w
  pow : Lib.TabIs Tryz.prog w "internal/strconv.uint64pow10" .u64 Lib.pow10Tab
  maxl : ∃ m, w.cell? ⟨1, 0, none⟩ = some (.int .i64 m)
theorem gPow : Tryz.prog.globalNamed "internal/strconv.uint64pow10" = some 2 := by kernel_rfl
theorem Cal.l {w w' : World} (h : Cal w) (k : Lt w w') : Cal w' := by
  obtain ⟨m, hm⟩ := h.maxl
  refine ⟨h.months.l k, ?_, m, (k.out.cell (World.block_lt_of_cell? w _ hm)).trans hm⟩
  have hp := h.pow
  have h0 : w.cell? ⟨2, 0, none⟩ = some (.int .u64 1) := hp.cell gPow 0 (by decide)
  exact var?_below k.out gPow (World.block_lt_of_cell? w _ h0) hp
theorem lt_grow (w : World) (k : Nat) (os : Array Obj) : Lt w (grow (w.drewN k) os) :=
  ⟨⟨rfl, rfl, rfl, by rw [size_grow]; exact Nat.le_add_right _ _, fun i hi => heap_grow_old (w.drewN k) os hi⟩⟩
theorem lt_bytes (w : World) (e : TypeId) (s : ByteArray) : Lt w (Lib.bytesWorld w e s) := ⟨bytes_below (Below.refl _ _) (Nat.le_refl _) e s⟩

/-! ### number -/
theorem toList_data' (s : ByteArray) : s.toList = s.data.toList := Lib.toList_data s
/-- The number that digits spell. -/
def natv (l : List UInt8) : Int := ((Lib.decNat l).getD 0 : Nat)
/-- What number answers. -/
def numF (s : ByteArray) (d : Int) : Int × Bool := if (s.size : Int) = d ∧ s.data.toList.all digitB = true then (natv s.data.toList, true) else (0, false)
theorem decFrom_all (l : List UInt8) : ∀ acc, l.all digitB = true → ∃ n, Lib.decFrom acc l = some n := by
  induction l with
  | nil => intro acc _; exact ⟨acc, rfl⟩
  | cons b l ih =>
    intro acc h
    rw [List.all_cons, Bool.and_eq_true] at h
    have hb := h.1
    unfold digitB at hb
    rw [Bool.and_eq_true, decide_eq_true_eq, decide_eq_true_eq] at hb
    obtain ⟨n, hn⟩ := ih (acc * 10 + (b.toNat - 48)) h.2
    refine ⟨n, ?_⟩
    rw [Lib.decFrom, Lib.digitVal, if_pos hb]
    exact hn
theorem atoi_all {l : List UInt8} (h : l.all digitB = true) (h0 : l ≠ []) : Lib.atoi l = some (natv l) := by
  cases l with
  | nil => exact absurd rfl h0
  | cons b l =>
    have hb := h
    rw [List.all_cons, Bool.and_eq_true] at hb
    have hb := hb.1
    unfold digitB at hb
    rw [Bool.and_eq_true, decide_eq_true_eq, decide_eq_true_eq] at hb
    obtain ⟨n, hn⟩ := decFrom_all (b :: l) 0 h
    have h45 : (b == 45) = false := beq_eq_false_iff_ne.2 (fun he => by rw [he] at hb; exact absurd hb.1 (by decide))
    have h43 : (b == 43) = false := beq_eq_false_iff_ne.2 (fun he => by rw [he] at hb; exact absurd hb.1 (by decide))
    have hd : Lib.decNat (b :: l) = some n := by unfold Lib.decNat; rw [if_neg (by simp)]; exact hn
    rw [Lib.atoi, h45, h43]
    unfold natv
    rw [hd]
    rfl
abbrev digitsS : ByteArray := { data := #[48, 49, 50, 51, 52, 53, 54, 55, 56, 57] }
theorem TrimD_calls (s : ByteArray) (w : World) (hs : s.size ≤ 9223372036854775807) :
    Calls Tryz.prog 60 #[.string s, .string digitsS] w fun e w' => e = .returned (.string ⟨(Lib.trimS s.data.toList digitsL).toArray⟩) ∧ Below w.heap.size w w' :=
  Any.strings_Trim_laid Tryz.lays160 (by kernel_rfl) s digitsS w hs (by decide) (ascii_of_all (by decide))
theorem natv_bd {l : List UInt8} (h : l.all digitB = true) (h0 : l ≠ []) (hl : l.length ≤ 18) : 0 ≤ natv l ∧ natv l < 1000000000000000000 := ⟨by unfold natv; omega, (Lib.atoi_bound (atoi_all h h0) hl).2⟩
theorem numF_bd (s : ByteArray) (d : Int) (h1 : 1 ≤ d) (h2 : d ≤ 18) : 0 ≤ (numF s d).1 ∧ (numF s d).1 < 1000000000000000000 := by
  unfold numF
  split
  · rename_i h
    have hl : s.size = s.data.toList.length := (Array.length_toList).symm
    exact natv_bd h.2 (fun he => by rw [he] at hl; have h0 : s.size = 0 := hl; omega) (by omega)
  · exact ⟨Int.le_refl _, by decide⟩
set_option maxHeartbeats 4000000 in
theorem number_lt (s : ByteArray) (d : Int) (w : World) (hd : 1 ≤ d) (hd2 : d ≤ 18) :
    Calls Tryz.prog 40 #[.string s, .int .i64 d] w fun e w' => e = .returned (.tuple #[.int .i64 (numF s d).1, .bool (numF s d).2]) ∧ Lt w w' := by
  have hsz : s.size = s.data.toList.length := (Array.length_toList).symm
  by_cases h1 : (s.size : Int) = d
  · have CT := Aside0.mk (TrimD_calls s w (by omega))
    have h1' : ((s.size : Int) == d) = true := beq_iff_eq.2 h1
    by_cases h2 : s.data.toList.all digitB = true
    · have hr : numF s d = (natv s.data.toList, true) := by unfold numF; rw [if_pos ⟨h1, h2⟩]
      rw [hr]
      have hne : s.data.toList ≠ [] := fun he => by rw [he] at hsz; have h0 : s.size = 0 := hsz; omega
      have CA := Aside0.mk (fun w => Tryz.strconv_Atoi s (natv s.data.toList) (by omega) (atoi_all h2 hne) w)
      have he : ((⟨(Lib.trimS s.data.toList digitsL).toArray⟩ : ByteArray)).toList.isEmpty = true := by
        rw [toList_data', List.isEmpty_iff]
        show Lib.trimS s.data.toList digitsL = []
        rw [trimS_nil]
        have hfun : (digitsL.contains ·) = digitB := by funext x; exact contains_digits x
        rw [hfun]
        exact h2
      generalize natv s.data.toList = v at *
      generalize (⟨(Lib.trimS s.data.toList digitsL).toArray⟩ : ByteArray) = t at *
      clear hr h2 hne hsz hd hd2
      go_enter Tryz.func40, Tryz.ntmps40
      go_wp2_with fail
      (with_reducible refine CT.out.mono ?_)
      rintro e w1 ⟨rfl, hb1⟩
      have HB1 := Aside0.mk hb1
      clear hb1
      go_wp2_with fail
      (with_reducible refine (CA.out _).mono ?_)
      rintro e w2 ⟨rfl, t2, rfl⟩
      go_wp2
      go_ret2
      exact ⟨rfl, (Lt.mk HB1.out).trans (lt_bytes _ _ _)⟩
    · have hr : numF s d = (0, false) := by unfold numF; rw [if_neg (fun h => h2 h.2)]
      rw [hr]
      have he : ((⟨(Lib.trimS s.data.toList digitsL).toArray⟩ : ByteArray)).toList.isEmpty = false := by
        rw [toList_data', Bool.eq_false_iff]
        intro hh
        rw [List.isEmpty_iff] at hh
        have hh : Lib.trimS s.data.toList digitsL = [] := hh
        rw [trimS_nil] at hh
        have hfun : (digitsL.contains ·) = digitB := by funext x; exact contains_digits x
        rw [hfun] at hh
        exact h2 hh
      generalize (⟨(Lib.trimS s.data.toList digitsL).toArray⟩ : ByteArray) = t at *
      clear hr h2 hsz hd hd2
      go_enter Tryz.func40, Tryz.ntmps40
      go_wp2_with fail
      (with_reducible refine CT.out.mono ?_)
      rintro e w1 ⟨rfl, hb1⟩
      have HB1 := Aside0.mk hb1
      clear hb1
      go_wp2
      go_ret2
      exact ⟨rfl, Lt.mk HB1.out⟩
  · have hr : numF s d = (0, false) := by unfold numF; rw [if_neg (fun h => h1 h.1)]
    rw [hr]
    have h1' : ((s.size : Int) == d) = false := beq_eq_false_iff_ne.2 h1
    clear hr hsz hd hd2
    go_enter Tryz.func40, Tryz.ntmps40
    go_wp2
    go_ret2
    exact ⟨rfl, Lt.refl _⟩

/-! ### padded -/
/-- What padded answers. -/
def padF (n : Int) (k : Nat) : List UInt8 := List.replicate (k - (Lib.itoa n).length) 48 ++ Lib.itoa n
set_option maxHeartbeats 4000000 in
theorem padded_lt (n : Int) (k : Nat) (w : World) (hC : Cal w) (h0 : -9223372036854775808 ≤ n) (h1 : n ≤ 9223372036854775807) (hk : k ≤ 100) :
    Calls Tryz.prog 35 #[.int .i64 n, .int .i64 (k : Nat)] w fun e w' => e = .returned (.string ⟨(padF n k).toArray⟩) ∧ Lt w w' := by
  have CF := Aside0.mk (Tryz.strconv_FormatInt_10 n h0 h1 w hC.pow)
  have hl := Lib.itoa_length_le n h0 h1
  obtain ⟨s, hs⟩ : ∃ s : ByteArray, s = ⟨(Lib.itoa n).toArray⟩ := ⟨_, rfl⟩
  have hss : s.size = (Lib.itoa n).length := by rw [hs]; show (Lib.itoa n).toArray.size = _; simp
  have CR := Aside0.mk (fun w => Tryz.strings_Repeat ⟨#[48]⟩ (k - s.size) w (by omega) (by show 1 * _ ≤ _; omega))
  have hres : (⟨(padF n k).toArray⟩ : ByteArray) = ⟨(Lib.repeatL [48] (k - s.size)).toArray⟩ ++ s := by
    have e1 : Lib.repeatL [48] (k - s.size) = List.replicate (k - s.size) 48 := by
      have := Lib.repeatL_replicate 48 1 (k - s.size)
      rw [Nat.mul_one] at this
      exact this
    rw [e1, hs]
    apply ByteArray.ext
    rw [ByteArray.data_append]
    unfold padF
    rw [← hss, hs]
    simp
  have hrl : (⟨(Lib.repeatL [48] (k - s.size)).toArray⟩ : ByteArray).size = k - s.size := by
    show (Lib.repeatL [48] (k - s.size)).toArray.size = _
    simp [Lib.repeatL_length]
  rw [hres]
  rw [← hs] at CF
  clear hres hs
  generalize (⟨(Lib.repeatL [48] (k - s.size)).toArray⟩ : ByteArray) = r at *
  have w1 : wrap64 ((k : Int) - (s.size : Int)) = (k : Int) - (s.size : Int) := w64 (by omega) (by omega)
  have hsz : s.size ≤ 21 := by omega
  have hsum : ¬ (9223372036854775807 < r.size + s.size) := by omega
  by_cases hks : s.size ≤ k
  · have e1 : ((k - s.size : Nat) : Int) = (k : Int) - (s.size : Int) := by omega
    rw [e1] at CR
    have e2 : ¬ ((k : Int) - (s.size : Int) < 0) := by omega
    have e3 : decide ((k : Int) - (s.size : Int) < 0) = false := decide_eq_false e2
    have e4 : ¬ ((k : Int) < (s.size : Int)) := by omega
    have e5 : (0 : Int) ≤ (k : Int) - (s.size : Int) := by omega
    have e6 : max ((k : Int) - (s.size : Int)) 0 = (k : Int) - (s.size : Int) := by omega
    clear hl hrl e1 hss
    go_enter Tryz.func35, Tryz.ntmps35
    go_wp2_with fail
    (with_reducible refine CF.out.mono ?_)
    rintro e w1 ⟨rfl, q, os, hw1⟩
    have hl1 : Lt w w1 := by rw [hw1]; exact lt_grow w q os
    clear hw1
    go_wp2_with fail
    (with_reducible refine (CR.out _).mono ?_)
    rintro e w2 ⟨rfl, hb2⟩
    go_wp2
    go_ret
    exact ⟨rfl, hl1.trans ⟨hb2⟩⟩
  · have e1 : ((k - s.size : Nat) : Int) = 0 := by omega
    rw [e1] at CR
    have e2 : (k : Int) - (s.size : Int) < 0 := by omega
    have e3 : decide ((k : Int) - (s.size : Int) < 0) = true := decide_eq_true e2
    have e4 : (k : Int) < (s.size : Int) := by omega
    have e5 : ¬ ((0 : Int) ≤ (k : Int) - (s.size : Int)) := by omega
    have e6 : max ((k : Int) - (s.size : Int)) 0 = 0 := by omega
    clear hl hrl e1 hss
    go_enter Tryz.func35, Tryz.ntmps35
    go_wp2_with fail
    (with_reducible refine CF.out.mono ?_)
    rintro e w1 ⟨rfl, q, os, hw1⟩
    have hl1 : Lt w w1 := by rw [hw1]; exact lt_grow w q os
    clear hw1
    go_wp2_with fail
    (with_reducible refine (CR.out _).mono ?_)
    rintro e w2 ⟨rfl, hb2⟩
    go_wp2
    go_ret
    exact ⟨rfl, hl1.trans ⟨hb2⟩⟩
end Go.Proofs.YtnaaagaammimnaaGreatDoor.Civ
