/-
  The contracts of the calendar's functions that read the table of months: upto, Length, Days, Date (with its closure and sort.Search): each answers the plain arithmetic of CivM, under the table's cells.
-/
import Derived.Test.YtnaaagaammimnaaGreatDoorCivP
import Derived.WalkSpells
namespace Go.Proofs.YtnaaagaammimnaaGreatDoor.Civ
open Go Go.RowKit Go.Proofs.YtnaaagaammimnaaGreatDoor.PDateTells Go.Proofs.YtnaaagaammimnaaGreatDoorW.PrintWords Go.Proofs.YtnaaagaammimnaaGreatDoorW.PrintLast Go.Proofs.YtnaaagaammimnaaGreatDoorW.PrintMore
set_option linter.unusedVariables false
set_option linter.unusedSimpArgs false

/-- The table of months lies in memory as the program's text lays it. -/
structure Months (w : World) : Prop where mk :: (out : ∀ i : Nat, i < 13 → w.cell? ⟨0, i, none⟩ = some (.int .i64 (tab i)))
theorem Months.cell {w : World} (h : Months w) {m : Int} (h0 : 0 ≤ m) (h1 : m ≤ 12) : w.cell? ⟨0, m.toNat, none⟩ = some (.int .i64 (tab m)) := by
  have := h.out m.toNat (by omega)
  rw [show ((m.toNat : Nat) : Int) = m by omega] at this
  exact this
theorem Months.below {w w' : World} (h : Months w) (hb : Below w.heap.size w w') : Months w' :=
  ⟨fun i hi => by
    have hc := h.out i hi
    exact (hb.cell (World.block_lt_of_cell? w _ hc)).trans hc⟩
theorem Months.drawn {w w' : World} (h : Months w) (hb : Drawn0 w w') : Months w' := h.below hb.below

theorem tab_step (m : Int) : 0 ≤ tab m ∧ tab m ≤ 365 := tab_bd m
set_option maxHeartbeats 1000000 in
theorem upto_calls (y m : Int) (w : World) (hM : Months w) (h0 : 0 ≤ m) (h1 : m ≤ 12) :
    Calls Tryz.prog 46 #[.int .i64 y, .int .i64 m] w fun e w' => e = .returned (.int .i64 (upto y m)) ∧ Drawn0 w w' := by
  have hc := hM.cell h0 h1
  have ht := tab_bd m
  have hlp := lp_bd y
  have hr : 0 ≤ (if 2 ≤ m then lp y else 0) ∧ (if 2 ≤ m then lp y else 0) ≤ 1 := by split <;> omega
  have hmore := Aside0.mk (more_f y m)
  have hu : upto y m = tab m + (if 2 ≤ m then lp y else 0) := rfl
  rw [hu]
  clear hu
  generalize (if 2 ≤ m then lp y else 0) = r at *
  generalize tab m = t at *
  have hl : m < 13 := by omega
  go_enter Tryz.func46, Tryz.ntmps46
  go_wp2
  go_quiet ((go_at_call 65; exact Calls.quiet_of ((civil_more.calls y m r _ hmore.out).mono fun _ _ ⟨he, hd⟩ => ⟨he, hd.out⟩)))
  go_wp2
  go_ret
  exact ⟨rfl, by repeat (first | exact Drawn0.refl _ | apply Drawn0.step)⟩
theorem cell_new (W : World) (v : Value) (t : TypeId) : (W.alloc (.cells #[v] t)).cell? ⟨W.heap.size, 0, none⟩ = some v := by
  rw [World.cell?_alloc_at _ _ _ _ (by simp)]; rfl
theorem cell_new_at (W : World) (v : Value) (t : TypeId) (k : Nat) (hk : k = W.heap.size) : (W.alloc (.cells #[v] t)).cell? ⟨k, 0, none⟩ = some v := by
  rw [World.cell?_alloc_at _ _ _ _ hk]; rfl
theorem cell_kept {W : World} {a : Addr} {v : Value} (o : Obj) (h : W.cell? a = some v) : (W.alloc o).cell? a = some v := cell_later (Below.alloc (Below.refl _ _) (Nat.le_refl _) _) h
theorem Months.a {w : World} (h : Months w) (o : Obj) : Months (w.alloc o) := h.below (Below.alloc (Below.refl _ _) (Nat.le_refl _) _)
theorem Months.d {w : World} (h : Months w) (n : Nat) : Months (w.drewN n) := ⟨fun i hi => h.out i hi⟩
set_option maxHeartbeats 1000000 in
theorem Length_calls (y m : Int) (w : World) (hM : Months w) :
    Calls Tryz.prog 44 #[.int .i64 y, .int .i64 m] w fun e w' => e = .returned (.int .i64 (len y m)) ∧ Drawn0 w w' := by
  have b1 := upto_bd y m
  have b2 := upto_bd y (m - 1)
  by_cases h1 : m < 1
  · rw [len_out y m (by omega)]
    go_enter Tryz.func44, Tryz.ntmps44
    go_wp2
    go_ret
    exact ⟨rfl, by repeat (first | exact Drawn0.refl _ | apply Drawn0.step)⟩
  by_cases h2 : 12 < m
  · rw [len_out y m (by omega)]
    go_enter Tryz.func44, Tryz.ntmps44
    go_wp2
    go_ret
    exact ⟨rfl, by repeat (first | exact Drawn0.refl _ | apply Drawn0.step)⟩
  rw [len_eq y m (by omega) (by omega)]
  have h0 : 0 ≤ m := by omega
  have c1 := upto_calls y m w hM (by omega) (by omega)
  have c2 : ∀ n, _ := fun n => upto_calls y (m - 1) (w.drewN n) (hM.d n) (by omega) (by omega)
  have C1 := Aside0.mk c1
  have C2 := Aside0.mk c2
  clear c1 c2
  generalize upto y m = u at *
  generalize upto y (m - 1) = v at *
  go_enter Tryz.func44, Tryz.ntmps44
  go_wp2_with fail
  (with_reducible refine C1.out.mono ?_)
  rintro e w' ⟨rfl, ⟨n, rfl⟩⟩
  go_wp2_with fail
  (with_reducible refine (C2.out _).mono ?_)
  rintro e w' ⟨rfl, ⟨n, rfl⟩⟩
  go_wp2
  go_ret
  exact ⟨rfl, by repeat (first | exact Drawn0.refl _ | apply Drawn0.step)⟩
set_option maxHeartbeats 2000000 in
theorem Days_calls (y m d : Int) (w : World) (hM : Months w) (hd : d ≤ 9223372036854775807) (hm : -9223372036854775808 ≤ m) :
    Calls Tryz.prog 24 #[.int .i64 y, .int .i64 m, .int .i64 d] w fun e w' => e = .returned (.tuple #[.int .i64 (daysF y m d).1, .int .i64 (daysF y m d).2]) ∧ Drawn0 w w' := by
  have CL := Aside0.mk (Length_calls y m w hM)
  have hle := len_le y m
  by_cases h1 : y < -9999
  · rw [daysF_not (fun h => by have := h.1; omega)]
    clear hle
    go_enter Tryz.func24, Tryz.ntmps24
    go_wp2
    go_ret2
    exact ⟨rfl, Drawn0.refl _⟩
  by_cases h2 : 9999 < y
  · rw [daysF_not (fun h => by have := h.2.1; omega)]
    clear hle
    go_enter Tryz.func24, Tryz.ntmps24
    go_wp2
    go_ret2
    exact ⟨rfl, Drawn0.refl _⟩
  by_cases h3 : d < 1
  · rw [daysF_not (fun h => by have := h.2.2.2.2.1; omega)]
    clear hle
    go_enter Tryz.func24, Tryz.ntmps24
    go_wp2
    go_ret2
    exact ⟨rfl, Drawn0.refl _⟩
  by_cases h4 : len y m < d
  · rw [daysF_not (fun h => by have := h.2.2.2.2.2; omega)]
    generalize len y m = l at *
    go_enter Tryz.func24, Tryz.ntmps24
    go_wp2_with fail
    (with_reducible refine CL.out.mono ?_)
    rintro e w' ⟨rfl, ⟨n, rfl⟩⟩
    go_wp2
    go_ret2
    exact ⟨rfl, by repeat (first | exact Drawn0.refl _ | apply Drawn0.step)⟩
  have hmm : 1 ≤ m ∧ m ≤ 12 := by
    apply Decidable.byContradiction
    intro hn
    have := len_out y m hn
    omega
  rw [daysF_ok ⟨by omega, by omega, hmm.1, hmm.2, by omega, by omega⟩]
  have hb := beg_mono (show -200000 ≤ y by omega)
  have hb' := beg_mono (show y ≤ 200000 by omega)
  have e1 : beg (-200000) = -73768028 := by decide
  have e2 : beg 200000 = 72328972 := by decide
  have hB : -80000000 ≤ beg y ∧ beg y ≤ 80000000 := by omega
  clear hb hb' e1 e2
  have hU := upto_bd y (m - 1)
  have CB := Aside0.mk (fun n => civil_begins.calls y (beg y) (w.drewN n) (begins_f y (by omega) (by omega)))
  have CU := Aside0.mk (fun n => upto_calls y (m - 1) (w.drewN n) (hM.d n) (by omega) (by omega))
  have hdn : dn y m d = beg y + (upto y (m - 1) + d - 1) := by unfold dn; omega
  rw [hdn]
  clear hdn
  generalize len y m = l at *
  generalize upto y (m - 1) = u at *
  generalize beg y = b at *
  obtain ⟨hm1, hm2⟩ := hmm
  go_enter Tryz.func24, Tryz.ntmps24
  go_wp2_with fail
  (with_reducible refine CL.out.mono ?_)
  rintro e w' ⟨rfl, ⟨n, rfl⟩⟩
  go_wp2_with fail
  (with_reducible refine (CB.out _).mono ?_)
  rintro e w' ⟨rfl, ⟨n, rfl⟩⟩
  go_wp2_with fail
  (with_reducible refine (CU.out _).mono ?_)
  rintro e w' ⟨rfl, ⟨n, rfl⟩⟩
  go_wp2
  go_ret2
  exact ⟨rfl, by repeat (first | exact Drawn0.refl _ | apply Drawn0.step)⟩
/-- The closure of Date: are the months up to m + 1 more days than are left? -/
theorem Date1_calls (y m l : Int) (a b : Addr) (w : World) (hM : Months w) (h0 : 0 ≤ m) (h1 : m ≤ 11) (ha : w.cell? a = some (.int .i64 y)) (hb : w.cell? b = some (.int .i64 l)) :
    Calls Tryz.prog 52 #[.int .i64 m, .pointer (some a), .pointer (some b)] w fun e w' => e = .returned (.bool (decide (l < upto y (m + 1)))) ∧ Drawn0 w w' := by
  have CU := Aside0.mk (fun n => upto_calls y (m + 1) (w.drewN n) (hM.d n) (by omega) (by omega))
  generalize upto y (m + 1) = u at *
  go_enter Tryz.func52, Tryz.ntmps52
  go_wp2
  go_quiet ((go_at_call 46; exact Calls.quiet_of ((CU.out _).mono fun _ _ ⟨he, hd⟩ => ⟨he, hd.out⟩)))
  go_wp2
  go_ret
  exact ⟨rfl, by repeat (first | exact Drawn0.refl _ | apply Drawn0.step)⟩
set_option maxHeartbeats 2000000 in
/-- sort.Search over the months, by that closure. -/
theorem Search_calls (y l : Int) (a b : Addr) (w : World) (hM : Months w) (h0 : 0 ≤ l) (h1 : l < upto y 12) (ha : w.cell? a = some (.int .i64 y)) (hb : w.cell? b = some (.int .i64 l)) :
    Calls Tryz.prog 51 #[.int .i64 12, .func (.func 52) #[] #[.pointer (some a), .pointer (some b)]] w fun e w' => e = .returned (.int .i64 (monOf y l - 1)) ∧ Drawn0 w w' := by
  go_enter Tryz.func51, Tryz.ntmps51
  go_wp2
  go_loopw [5, 6] (fun i j wr => ∃ p q : Int, i = .int .i64 p ∧ j = .int .i64 q ∧ 0 ≤ p ∧ p ≤ q ∧ q ≤ 12 ∧ upto y p ≤ l ∧ (q < 12 → l < upto y (q + 1)) ∧ Drawn0 w wr) (fun i j _ => (intOf j - intOf i).toNat)
  case atStart => exact ⟨0, 12, rfl, rfl, by omega, by omega, by omega, by rw [upto_0]; omega, by omega, Drawn0.refl _⟩
  case round =>
    obtain ⟨p, q, rfl, rfl, h2, h3, h4, h5, h6, hw⟩ := hrel
    obtain ⟨⟨n, rfl⟩⟩ := hw
    by_cases hpq : p < q
    · have CD := Aside0.mk (fun (n : Nat) => Date1_calls y ((p + q) / 2) l a b (w.drewN n) (hM.d n) (by omega) (by omega) ha hb)
      have hm2 : 0 ≤ (p + q) / 2 ∧ p ≤ (p + q) / 2 ∧ (p + q) / 2 < q := by omega
      by_cases ht : l < upto y ((p + q) / 2 + 1)
      · have hd : decide (l < upto y ((p + q) / 2 + 1)) = true := decide_eq_true ht
        rw [hd] at CD
        clear hd
        go_wp2_with fail
        (with_reducible refine (CD.out _).mono ?_)
        rintro e w' ⟨rfl, ⟨n, rfl⟩⟩
        go_wp2
        go_roundw
        case rel => exact ⟨p, (p + q) / 2, rfl, rfl, h2, hm2.2.1, by omega, h5, fun _ => ht, by repeat (first | exact Drawn0.refl _ | apply Drawn0.step)⟩
        case measure => simp [intOf]; omega
      · have hd : decide (l < upto y ((p + q) / 2 + 1)) = false := decide_eq_false ht
        rw [hd] at CD
        clear hd
        go_wp2_with fail
        (with_reducible refine (CD.out _).mono ?_)
        rintro e w' ⟨rfl, ⟨n, rfl⟩⟩
        go_wp2
        go_roundw
        case rel => exact ⟨(p + q) / 2 + 1, q, rfl, rfl, by omega, by omega, h4, by omega, h6, by repeat (first | exact Drawn0.refl _ | apply Drawn0.step)⟩
        case measure => simp [intOf]; omega
    · have hp12 : p < 12 := by
        apply Decidable.byContradiction
        intro hn
        obtain rfl : p = 12 := by omega
        omega
      obtain rfl : p = q := by omega
      have hm := monOf_spec y l h0 h1
      have hl := h6 hp12
      have hfin : monOf y l - 1 = p := by
        have := mon_unique (y := y) (l := l) (a := p + 1) (b := monOf y l) (by omega) (by omega) hm.1 hm.2.1 (by rw [show p + 1 - 1 = p by omega]; exact h5) hl hm.2.2.1 hm.2.2.2
        omega
      have HF := Aside0.mk hfin
      clear hfin hm hl
      go_wp2
      go_ret
      exact ⟨by rw [HF.out]; rfl, by repeat (first | exact Drawn0.refl _ | apply Drawn0.step)⟩
set_option maxHeartbeats 2000000 in
theorem Date_calls (n : Int) (w : World) (hM : Months w) :
    Calls Tryz.prog 32 #[.int .i64 n] w fun e w' => e = .returned (.tuple #[.int .i64 (dateF n).1, .int .i64 (dateF n).2.1, .int .i64 (dateF n).2.2.1, .int .i64 (dateF n).2.2.2]) ∧ Below w.heap.size w w' := by
  by_cases h1 : n < -4371587
  · rw [dateF_not (fun h => by have := h.1; omega)]
    go_enter Tryz.func32, Tryz.ntmps32
    go_wp2
    refine bodyPost_ret (v := .tuple #[.int .i64 0, .int .i64 0, .int .i64 0, .int .i64 30]) (by simp [results, Tryz.results32, go_sem]) rfl ⟨rfl, Below.refl _ _⟩
  by_cases h2 : 2932896 < n
  · rw [dateF_not (fun h => by have := h.2; omega)]
    go_enter Tryz.func32, Tryz.ntmps32
    go_wp2
    refine bodyPost_ret (v := .tuple #[.int .i64 0, .int .i64 0, .int .i64 0, .int .i64 30]) (by simp [results, Tryz.results32, go_sem]) rfl ⟨rfl, Below.refl _ _⟩
  have hin : In n := ⟨by omega, by omega⟩
  rw [dateF_in hin]
  have hy := yrF_range hin
  have hl := left_bd n
  have hm := monOf_spec (yrF n) (n - beg (yrF n)) hl.1 hl.2
  have hb := beg_mono (show -200000 ≤ yrF n by omega)
  have hb' := beg_mono (show yrF n ≤ 200000 by omega)
  have e1 : beg (-200000) = -73768028 := by decide
  have e2 : beg 200000 = 72328972 := by decide
  have hB : -80000000 ≤ beg (yrF n) ∧ beg (yrF n) ≤ 80000000 := by omega
  clear hb hb' e1 e2
  have hL : n - beg (yrF n) ≤ 366 := by have := upto_bd (yrF n) 12; omega
  have CY := Aside0.mk (fun w => civil_year.calls n (yrF n) w (year_f n hin))
  have CB := Aside0.mk (fun w => civil_begins.calls (yrF n) (beg (yrF n)) w (begins_f (yrF n) (by omega) (by omega)))
  have CS := Aside0.mk (fun a b w hM ha hb => Search_calls (yrF n) (n - beg (yrF n)) a b w hM hl.1 hl.2 ha hb)
  have CU := Aside0.mk (fun w hM => upto_calls (yrF n) (moF n - 1) w hM (by unfold moF; omega) (by unfold moF; omega))
  have hu := upto_bd (yrF n) (moF n - 1)
  have hmo : monOf (yrF n) (n - beg (yrF n)) = moF n := rfl
  have hdy : dyF n = n - beg (yrF n) - upto (yrF n) (moF n - 1) + 1 := rfl
  rw [hdy]
  clear hdy
  rw [hmo] at hm CS
  clear hmo
  generalize upto (yrF n) (moF n - 1) = u at *
  generalize moF n = mo at *
  generalize beg (yrF n) = bg at *
  generalize yrF n = yr at *
  obtain ⟨hm1, hm2, hm3, hm4⟩ := hm
  go_enter Tryz.func32, Tryz.ntmps32
  go_wp2_with fail
  (with_reducible refine (CY.out _).mono ?_)
  rintro e w1 ⟨rfl, hb1⟩
  have hM1 := hM.below hb1
  go_wp2_with fail
  (with_reducible refine (CB.out _).mono ?_)
  rintro e w' ⟨rfl, ⟨n1, rfl⟩⟩
  go_wp2_with fail
  (with_reducible refine (CS.out _ _ _ ?hM ?ha ?hb).mono ?_)
  case hM => exact ((hM1.a _).d _).a _
  case ha => exact cell_kept _ (cell_new w1 _ _)
  case hb => exact cell_new_at ((w1.alloc _).drewN n1) _ _ _ (by simp)
  rintro e W ⟨rfl, hd⟩
  have hcy : W.cell? ⟨w1.heap.size, 0, none⟩ = some (.int .i64 yr) := by
    obtain ⟨n2, rfl⟩ := hd
    exact cell_kept _ (cell_new w1 _ _)
  have hcl : W.cell? ⟨w1.heap.size + 1, 0, none⟩ = some (.int .i64 (n - bg)) := by
    obtain ⟨n2, rfl⟩ := hd
    exact cell_new_at ((w1.alloc _).drewN n1) _ _ _ (by simp)
  have hM2 : Months W := (((hM1.a _).d _).a _).drawn hd
  have hbW : Below w.heap.size w W := by
    obtain ⟨n2, rfl⟩ := hd
    exact pw_below_drewN ((pw_below_drewN (hb1.alloc hb1.size _) _).alloc (by have := hb1.size; simp; omega) _) _
  clear hd hM1 CS CY CB hM hb1
  go_wp2
  go_quiet ((go_at_call 46; exact Calls.quiet_of ((CU.out _ (hM2.d _)).mono fun _ _ ⟨he, hd⟩ => ⟨he, hd.out⟩)))
  go_wp2
  exact bodyPost_ret (v := .tuple #[.int .i64 yr, .int .i64 mo, .int .i64 (n - bg - u + 1), .int .i64 0]) (by simp [results, Tryz.results32, go_sem]) rfl ⟨rfl, pw_below_drewN hbW _⟩
end Go.Proofs.YtnaaagaammimnaaGreatDoor.Civ
