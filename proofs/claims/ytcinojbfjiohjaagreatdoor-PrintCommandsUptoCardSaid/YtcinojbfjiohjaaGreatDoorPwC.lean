/-
  Part 3 of what the row stands on, put together by a program: CivC, CivD, DatM, DatW, DatS, DatT, DatR, DatQ, DatB, DatF, DatG, DatH, PLxL, LxA, LxB, LxC.
-/
import Derived.Laws.EntriesVeiled
import Derived.Lib.AtoiBound
import Derived.Lib.IndexBytes
import Derived.Lib.ItoaLen
import Derived.Lib.SplitLaws
import Derived.WalkSmall
import Derived.WalkSpells
import Derived.Test.YtcinojbfjiohjaaGreatDoorPwB
section
namespace Go.Proofs.YtcinojbfjiohjaaGreatDoor.Civ
open Go Go.RowKit Go.Proofs.YtcinojbfjiohjaaGreatDoor.PPrintTells Go.Proofs.YtcinojbfjiohjaaGreatDoorW.PrintWords Go.Proofs.YtcinojbfjiohjaaGreatDoorW.PrintLast Go.Proofs.YtcinojbfjiohjaaGreatDoorW.PrintMore
set_option linter.unusedVariables false
set_option linter.unusedSimpArgs false
structure Months (w : World) : Prop where mk :: (out : ∀ i : Nat, i < 13 → w.cell? ⟨4, i, none⟩ = some (.int .i64 (tab i)))
theorem Months.cell {w : World} (h : Months w) {m : Int} (h0 : 0 ≤ m) (h1 : m ≤ 12) : w.cell? ⟨4, m.toNat, none⟩ = some (.int .i64 (tab m)) := by
  have := h.out m.toNat (by omega)
  rw [show ((m.toNat : Nat) : Int) = m by omega] at this
  exact this
theorem Months.below {w w' : World} (h : Months w) (hb : Below w.heap.size w w') : Months w' :=
  ⟨fun i hi => by
    have hc := h.out i hi
    exact (hb.cell (World.block_lt_of_cell? w _ hc)).trans hc⟩
theorem Months.drawn {w w' : World} (h : Months w) (hb : Drawn0 w w') : Months w' := h.below hb.below
set_option maxHeartbeats 1000000 in
theorem upto_calls (y m : Int) (w : World) (hM : Months w) (h0 : 0 ≤ m) (h1 : m ≤ 12) :
    Calls Tryz.prog 180 #[.int .i64 y, .int .i64 m] w fun e w' => e = .returned (.int .i64 (upto y m)) ∧ Drawn0 w w' := by
  have hc := hM.cell h0 h1
  have ht := tab_bd m
  have hlp := lp_bd y
  have hr : 0 ≤ (if 2 ≤ m then lp y else 0) ∧ (if 2 ≤ m then lp y else 0) ≤ 1 := by split <;> omega
  have hmore := Aside0.mk (more_f y m)
  have hu : upto y m = tab m + (if 2 ≤ m then lp y else 0) := rfl
  rw [hu]
  clear hu
  generalize (if 2 ≤ m then lp y else 0) = r at *
  generalize tab m = t at *
  have hl : m < 13 := by omega
  go_enter Tryz.func180, Tryz.ntmps180
  go_wp2
  go_quiet ((go_at_call 211; exact Calls.quiet_of ((civil_more.calls y m r _ hmore.out).mono fun _ _ ⟨he, hd⟩ => ⟨he, hd.out⟩)))
  go_wp2
  go_ret
  exact ⟨rfl, by repeat (first | exact Drawn0.refl _ | apply Drawn0.step)⟩
theorem cell_new (W : World) (v : Value) (t : TypeId) : (W.alloc (.cells #[v] t)).cell? ⟨W.heap.size, 0, none⟩ = some v := by
  rw [World.cell?_alloc_at _ _ _ _ (by simp)]; rfl
theorem cell_new_at (W : World) (v : Value) (t : TypeId) (k : Nat) (hk : k = W.heap.size) : (W.alloc (.cells #[v] t)).cell? ⟨k, 0, none⟩ = some v := by
  rw [World.cell?_alloc_at _ _ _ _ hk]; rfl
theorem cell_kept {W : World} {a : Addr} {v : Value} (o : Obj) (h : W.cell? a = some v) : (W.alloc o).cell? a = some v := cell_later (Below.alloc (Below.refl _ _) (Nat.le_refl _) _) h
theorem Months.a {w : World} (h : Months w) (o : Obj) : Months (w.alloc o) := h.below (Below.alloc (Below.refl _ _) (Nat.le_refl _) _)
theorem Months.d {w : World} (h : Months w) (n : Nat) : Months (w.drewN n) := ⟨fun i hi => h.out i hi⟩
set_option maxHeartbeats 1000000 in
theorem Length_calls (y m : Int) (w : World) (hM : Months w) :
    Calls Tryz.prog 217 #[.int .i64 y, .int .i64 m] w fun e w' => e = .returned (.int .i64 (len y m)) ∧ Drawn0 w w' := by
  have b1 := upto_bd y m
  have b2 := upto_bd y (m - 1)
  by_cases h1 : m < 1
  · rw [len_out y m (by omega)]
    go_enter Tryz.func217, Tryz.ntmps217
    go_wp2
    go_ret
    exact ⟨rfl, by repeat (first | exact Drawn0.refl _ | apply Drawn0.step)⟩
  by_cases h2 : 12 < m
  · rw [len_out y m (by omega)]
    go_enter Tryz.func217, Tryz.ntmps217
    go_wp2
    go_ret
    exact ⟨rfl, by repeat (first | exact Drawn0.refl _ | apply Drawn0.step)⟩
  rw [len_eq y m (by omega) (by omega)]
  have h0 : 0 ≤ m := by omega
  have c1 := upto_calls y m w hM (by omega) (by omega)
  have c2 : ∀ n, _ := fun n => upto_calls y (m - 1) (w.drewN n) (hM.d n) (by omega) (by omega)
  have C1 := Aside0.mk c1
  have C2 := Aside0.mk c2
  clear c1 c2
  generalize upto y m = u at *
  generalize upto y (m - 1) = v at *
  go_enter Tryz.func217, Tryz.ntmps217
  go_wp2_with fail
  (with_reducible refine C1.out.mono ?_)
  rintro e w' ⟨rfl, ⟨n, rfl⟩⟩
  go_wp2_with fail
  (with_reducible refine (C2.out _).mono ?_)
  rintro e w' ⟨rfl, ⟨n, rfl⟩⟩
  go_wp2
  go_ret
  exact ⟨rfl, by repeat (first | exact Drawn0.refl _ | apply Drawn0.step)⟩
set_option maxHeartbeats 2000000 in
theorem Days_calls (y m d : Int) (w : World) (hM : Months w) (hd : d ≤ 9223372036854775807) (hm : -9223372036854775808 ≤ m) :
    Calls Tryz.prog 192 #[.int .i64 y, .int .i64 m, .int .i64 d] w fun e w' => e = .returned (.tuple #[.int .i64 (daysF y m d).1, .int .i64 (daysF y m d).2]) ∧ Drawn0 w w' := by
  have CL := Aside0.mk (Length_calls y m w hM)
  have hle := len_le y m
  by_cases h1 : y < -9999
  · rw [daysF_not (fun h => by have := h.1; omega)]
    clear hle
    go_enter Tryz.func192, Tryz.ntmps192
    go_wp2
    go_ret2
    exact ⟨rfl, Drawn0.refl _⟩
  by_cases h2 : 9999 < y
  · rw [daysF_not (fun h => by have := h.2.1; omega)]
    clear hle
    go_enter Tryz.func192, Tryz.ntmps192
    go_wp2
    go_ret2
    exact ⟨rfl, Drawn0.refl _⟩
  by_cases h3 : d < 1
  · rw [daysF_not (fun h => by have := h.2.2.2.2.1; omega)]
    clear hle
    go_enter Tryz.func192, Tryz.ntmps192
    go_wp2
    go_ret2
    exact ⟨rfl, Drawn0.refl _⟩
  by_cases h4 : len y m < d
  · rw [daysF_not (fun h => by have := h.2.2.2.2.2; omega)]
    generalize len y m = l at *
    go_enter Tryz.func192, Tryz.ntmps192
    go_wp2_with fail
    (with_reducible refine CL.out.mono ?_)
    rintro e w' ⟨rfl, ⟨n, rfl⟩⟩
    go_wp2
    go_ret2
    exact ⟨rfl, by repeat (first | exact Drawn0.refl _ | apply Drawn0.step)⟩
  have hmm : 1 ≤ m ∧ m ≤ 12 := by
    apply Decidable.byContradiction
    intro hn
    have := len_out y m hn
    omega
  rw [daysF_ok ⟨by omega, by omega, hmm.1, hmm.2, by omega, by omega⟩]
  have hb := beg_mono (show -200000 ≤ y by omega)
  have hb' := beg_mono (show y ≤ 200000 by omega)
  have e1 : beg (-200000) = -73768028 := by decide
  have e2 : beg 200000 = 72328972 := by decide
  have hB : -80000000 ≤ beg y ∧ beg y ≤ 80000000 := by omega
  clear hb hb' e1 e2
  have hU := upto_bd y (m - 1)
  have CB := Aside0.mk (fun n => civil_begins.calls y (beg y) (w.drewN n) (begins_f y (by omega) (by omega)))
  have CU := Aside0.mk (fun n => upto_calls y (m - 1) (w.drewN n) (hM.d n) (by omega) (by omega))
  have hdn : dn y m d = beg y + (upto y (m - 1) + d - 1) := by unfold dn; omega
  rw [hdn]
  clear hdn
  generalize len y m = l at *
  generalize upto y (m - 1) = u at *
  generalize beg y = b at *
  obtain ⟨hm1, hm2⟩ := hmm
  go_enter Tryz.func192, Tryz.ntmps192
  go_wp2_with fail
  (with_reducible refine CL.out.mono ?_)
  rintro e w' ⟨rfl, ⟨n, rfl⟩⟩
  go_wp2_with fail
  (with_reducible refine (CB.out _).mono ?_)
  rintro e w' ⟨rfl, ⟨n, rfl⟩⟩
  go_wp2_with fail
  (with_reducible refine (CU.out _).mono ?_)
  rintro e w' ⟨rfl, ⟨n, rfl⟩⟩
  go_wp2
  go_ret2
  exact ⟨rfl, by repeat (first | exact Drawn0.refl _ | apply Drawn0.step)⟩
theorem Date1_calls (y m l : Int) (a b : Addr) (w : World) (hM : Months w) (h0 : 0 ≤ m) (h1 : m ≤ 11) (ha : w.cell? a = some (.int .i64 y)) (hb : w.cell? b = some (.int .i64 l)) :
    Calls Tryz.prog 179 #[.int .i64 m, .pointer (some a), .pointer (some b)] w fun e w' => e = .returned (.bool (decide (l < upto y (m + 1)))) ∧ Drawn0 w w' := by
  have CU := Aside0.mk (fun n => upto_calls y (m + 1) (w.drewN n) (hM.d n) (by omega) (by omega))
  generalize upto y (m + 1) = u at *
  go_enter Tryz.func179, Tryz.ntmps179
  go_wp2
  go_quiet ((go_at_call 180; exact Calls.quiet_of ((CU.out _).mono fun _ _ ⟨he, hd⟩ => ⟨he, hd.out⟩)))
  go_wp2
  go_ret
  exact ⟨rfl, by repeat (first | exact Drawn0.refl _ | apply Drawn0.step)⟩
set_option maxHeartbeats 2000000 in
theorem Search_calls (y l : Int) (a b : Addr) (w : World) (hM : Months w) (h0 : 0 ≤ l) (h1 : l < upto y 12) (ha : w.cell? a = some (.int .i64 y)) (hb : w.cell? b = some (.int .i64 l)) :
    Calls Tryz.prog 178 #[.int .i64 12, .func (.func 179) #[] #[.pointer (some a), .pointer (some b)]] w fun e w' => e = .returned (.int .i64 (monOf y l - 1)) ∧ Drawn0 w w' := by
  go_enter Tryz.func178, Tryz.ntmps178
  go_wp2
  go_loopw [5, 6] (fun i j wr => ∃ p q : Int, i = .int .i64 p ∧ j = .int .i64 q ∧ 0 ≤ p ∧ p ≤ q ∧ q ≤ 12 ∧ upto y p ≤ l ∧ (q < 12 → l < upto y (q + 1)) ∧ Drawn0 w wr) (fun i j _ => (intOf j - intOf i).toNat)
  case atStart => exact ⟨0, 12, rfl, rfl, by omega, by omega, by omega, by rw [upto_0]; omega, by omega, Drawn0.refl _⟩
  case round =>
    obtain ⟨p, q, rfl, rfl, h2, h3, h4, h5, h6, hw⟩ := hrel
    obtain ⟨⟨n, rfl⟩⟩ := hw
    by_cases hpq : p < q
    · have CD := Aside0.mk (fun (n : Nat) => Date1_calls y ((p + q) / 2) l a b (w.drewN n) (hM.d n) (by omega) (by omega) ha hb)
      have hm2 : 0 ≤ (p + q) / 2 ∧ p ≤ (p + q) / 2 ∧ (p + q) / 2 < q := by omega
      by_cases ht : l < upto y ((p + q) / 2 + 1)
      · have hd : decide (l < upto y ((p + q) / 2 + 1)) = true := decide_eq_true ht
        rw [hd] at CD
        clear hd
        go_wp2_with fail
        (with_reducible refine (CD.out _).mono ?_)
        rintro e w' ⟨rfl, ⟨n, rfl⟩⟩
        go_wp2
        go_roundw
        case rel => exact ⟨p, (p + q) / 2, rfl, rfl, h2, hm2.2.1, by omega, h5, fun _ => ht, by repeat (first | exact Drawn0.refl _ | apply Drawn0.step)⟩
        case measure => simp [intOf]; omega
      · have hd : decide (l < upto y ((p + q) / 2 + 1)) = false := decide_eq_false ht
        rw [hd] at CD
        clear hd
        go_wp2_with fail
        (with_reducible refine (CD.out _).mono ?_)
        rintro e w' ⟨rfl, ⟨n, rfl⟩⟩
        go_wp2
        go_roundw
        case rel => exact ⟨(p + q) / 2 + 1, q, rfl, rfl, by omega, by omega, h4, by omega, h6, by repeat (first | exact Drawn0.refl _ | apply Drawn0.step)⟩
        case measure => simp [intOf]; omega
    · have hp12 : p < 12 := by
        apply Decidable.byContradiction
        intro hn
        obtain rfl : p = 12 := by omega
        omega
      obtain rfl : p = q := by omega
      have hm := monOf_spec y l h0 h1
      have hl := h6 hp12
      have hfin : monOf y l - 1 = p := by
        have := mon_unique (y := y) (l := l) (a := p + 1) (b := monOf y l) (by omega) (by omega) hm.1 hm.2.1 (by rw [show p + 1 - 1 = p by omega]; exact h5) hl hm.2.2.1 hm.2.2.2
        omega
      have HF := Aside0.mk hfin
      clear hfin hm hl
      go_wp2
      go_ret
      exact ⟨by rw [HF.out]; rfl, by repeat (first | exact Drawn0.refl _ | apply Drawn0.step)⟩
set_option maxHeartbeats 2000000 in
theorem Date_calls (n : Int) (w : World) (hM : Months w) :
    Calls Tryz.prog 147 #[.int .i64 n] w fun e w' => e = .returned (.tuple #[.int .i64 (dateF n).1, .int .i64 (dateF n).2.1, .int .i64 (dateF n).2.2.1, .int .i64 (dateF n).2.2.2]) ∧ Below w.heap.size w w' := by
  by_cases h1 : n < -4371587
  · rw [dateF_not (fun h => by have := h.1; omega)]
    go_enter Tryz.func147, Tryz.ntmps147
    go_wp2
    refine bodyPost_ret (v := .tuple #[.int .i64 0, .int .i64 0, .int .i64 0, .int .i64 30]) (by simp [results, Tryz.results147, go_sem]) rfl ⟨rfl, Below.refl _ _⟩
  by_cases h2 : 2932896 < n
  · rw [dateF_not (fun h => by have := h.2; omega)]
    go_enter Tryz.func147, Tryz.ntmps147
    go_wp2
    refine bodyPost_ret (v := .tuple #[.int .i64 0, .int .i64 0, .int .i64 0, .int .i64 30]) (by simp [results, Tryz.results147, go_sem]) rfl ⟨rfl, Below.refl _ _⟩
  have hin : In n := ⟨by omega, by omega⟩
  rw [dateF_in hin]
  have hy := yrF_range hin
  have hl := left_bd n
  have hm := monOf_spec (yrF n) (n - beg (yrF n)) hl.1 hl.2
  have hb := beg_mono (show -200000 ≤ yrF n by omega)
  have hb' := beg_mono (show yrF n ≤ 200000 by omega)
  have e1 : beg (-200000) = -73768028 := by decide
  have e2 : beg 200000 = 72328972 := by decide
  have hB : -80000000 ≤ beg (yrF n) ∧ beg (yrF n) ≤ 80000000 := by omega
  clear hb hb' e1 e2
  have hL : n - beg (yrF n) ≤ 366 := by have := upto_bd (yrF n) 12; omega
  have CY := Aside0.mk (fun w => civil_year.calls n (yrF n) w (year_f n hin))
  have CB := Aside0.mk (fun w => civil_begins.calls (yrF n) (beg (yrF n)) w (begins_f (yrF n) (by omega) (by omega)))
  have CS := Aside0.mk (fun a b w hM ha hb => Search_calls (yrF n) (n - beg (yrF n)) a b w hM hl.1 hl.2 ha hb)
  have CU := Aside0.mk (fun w hM => upto_calls (yrF n) (moF n - 1) w hM (by unfold moF; omega) (by unfold moF; omega))
  have hu := upto_bd (yrF n) (moF n - 1)
  have hmo : monOf (yrF n) (n - beg (yrF n)) = moF n := rfl
  have hdy : dyF n = n - beg (yrF n) - upto (yrF n) (moF n - 1) + 1 := rfl
  rw [hdy]
  clear hdy
  rw [hmo] at hm CS
  clear hmo
  generalize upto (yrF n) (moF n - 1) = u at *
  generalize moF n = mo at *
  generalize beg (yrF n) = bg at *
  generalize yrF n = yr at *
  obtain ⟨hm1, hm2, hm3, hm4⟩ := hm
  go_enter Tryz.func147, Tryz.ntmps147
  go_wp2_with fail
  (with_reducible refine (CY.out _).mono ?_)
  rintro e w1 ⟨rfl, hb1⟩
  have hM1 := hM.below hb1
  go_wp2_with fail
  (with_reducible refine (CB.out _).mono ?_)
  rintro e w' ⟨rfl, ⟨n1, rfl⟩⟩
  go_wp2_with fail
  (with_reducible refine (CS.out _ _ _ ?hM ?ha ?hb).mono ?_)
  case hM => exact ((hM1.a _).d _).a _
  case ha => exact cell_kept _ (cell_new w1 _ _)
  case hb => exact cell_new_at ((w1.alloc _).drewN n1) _ _ _ (by simp)
  rintro e W ⟨rfl, hd⟩
  have hcy : W.cell? ⟨w1.heap.size, 0, none⟩ = some (.int .i64 yr) := by
    obtain ⟨n2, rfl⟩ := hd
    exact cell_kept _ (cell_new w1 _ _)
  have hcl : W.cell? ⟨w1.heap.size + 1, 0, none⟩ = some (.int .i64 (n - bg)) := by
    obtain ⟨n2, rfl⟩ := hd
    exact cell_new_at ((w1.alloc _).drewN n1) _ _ _ (by simp)
  have hM2 : Months W := (((hM1.a _).d _).a _).drawn hd
  have hbW : Below w.heap.size w W := by
    obtain ⟨n2, rfl⟩ := hd
    exact pw_below_drewN ((pw_below_drewN (hb1.alloc hb1.size _) _).alloc (by have := hb1.size; simp; omega) _) _
  clear hd hM1 CS CY CB hM hb1
  go_wp2
  go_quiet ((go_at_call 180; exact Calls.quiet_of ((CU.out _ (hM2.d _)).mono fun _ _ ⟨he, hd⟩ => ⟨he, hd.out⟩)))
  go_wp2
  exact bodyPost_ret (v := .tuple #[.int .i64 yr, .int .i64 mo, .int .i64 (n - bg - u + 1), .int .i64 0]) (by simp [results, Tryz.results147, go_sem]) rfl ⟨rfl, pw_below_drewN hbW _⟩
end Go.Proofs.YtcinojbfjiohjaaGreatDoor.Civ
end

section
namespace Go.Proofs.YtcinojbfjiohjaaGreatDoor.Civ
open Go Go.RowKit Go.Proofs.YtcinojbfjiohjaaGreatDoor.PPrintTells Go.Proofs.YtcinojbfjiohjaaGreatDoorW.PrintWords Go.Proofs.YtcinojbfjiohjaaGreatDoorW.PrintLast Go.Proofs.YtcinojbfjiohjaaGreatDoorW.PrintMore
set_option linter.unusedVariables false
set_option linter.unusedSimpArgs false
structure Lt (w w' : World) : Prop where mk :: (out : Below w.heap.size w w')
theorem Lt.refl (w : World) : Lt w w := ⟨Below.refl _ _⟩
theorem Lt.trans {a b c : World} (h : Lt a b) (k : Lt b c) : Lt a c := ⟨below_then h.out h.out.size k.out⟩
theorem Lt.d {a b : World} (h : Lt a b) (n : Nat) : Lt a (b.drewN n) := ⟨pw_below_drewN h.out n⟩
theorem Lt.d1 {a b : World} (h : Lt a b) : Lt a b.drew := ⟨h.out.drew⟩
theorem Lt.a {a b : World} (h : Lt a b) (o : Obj) : Lt a (b.alloc o) := ⟨h.out.alloc h.out.size o⟩
theorem Drawn0.lt {w w' : World} (h : Drawn0 w w') : Lt w w' := ⟨h.below⟩
theorem Months.l {w w' : World} (h : Months w) (k : Lt w w') : Months w' := h.below k.out
theorem Days_lt (y m d : Int) (w : World) (hM : Months w) (hd : d ≤ 9223372036854775807) (hm : -9223372036854775808 ≤ m) :
    Calls Tryz.prog 192 #[.int .i64 y, .int .i64 m, .int .i64 d] w fun e w' => e = .returned (.tuple #[.int .i64 (daysF y m d).1, .int .i64 (daysF y m d).2]) ∧ Lt w w' ∧ Months w' :=
  (Days_calls y m d w hM hd hm).mono fun _ _ ⟨he, h⟩ => ⟨he, Drawn0.lt h, hM.l (Drawn0.lt h)⟩
theorem Date_lt (n : Int) (w : World) (hM : Months w) :
    Calls Tryz.prog 147 #[.int .i64 n] w fun e w' => e = .returned (.tuple #[.int .i64 (dateF n).1, .int .i64 (dateF n).2.1, .int .i64 (dateF n).2.2.1, .int .i64 (dateF n).2.2.2]) ∧ Lt w w' ∧ Months w' :=
  (Date_calls n w hM).mono fun _ _ ⟨he, h⟩ => ⟨he, ⟨h⟩, hM.l ⟨h⟩⟩
theorem Leap_lt (y : Int) (w : World) (hM : Months w) :
    Calls Tryz.prog 227 #[.int .i64 y] w fun e w' => e = .returned (.bool (leap y)) ∧ Lt w w' ∧ Months w' :=
  (civil_Leap.calls y _ w (Leap_f y)).mono fun _ _ ⟨he, h⟩ => ⟨he, Drawn0.lt h, hM.l (Drawn0.lt h)⟩
theorem Weekday_lt (n : Int) (w : World) (hM : Months w) :
    Calls Tryz.prog 219 #[.int .i64 n] w fun e w' => e = .returned (.int .i64 (wdF n)) ∧ Lt w w' ∧ Months w' :=
  (civil_Weekday.calls n _ w (Weekday_f n)).mono fun _ _ ⟨he, h⟩ => ⟨he, Drawn0.lt h, hM.l (Drawn0.lt h)⟩
end Go.Proofs.YtcinojbfjiohjaaGreatDoor.Civ
end

section
namespace Go.Proofs.YtcinojbfjiohjaaGreatDoor.Civ
open Go
def InY (y : Int) : Prop := -9999 ≤ y ∧ y ≤ 9999
instance (y : Int) : Decidable (InY y) := by unfold InY; infer_instance
def fst (y : Int) : Int := beg y + 3 - (beg y + 6) % 7
def wks (y : Int) : Int := if InY y then (if wdF (beg y) = 4 ∨ (wdF (beg y) = 3 ∧ leap y = true) then 53 else 52) else 0
def wyr (n : Int) : Int := if n < fst (yrF n) then yrF n - 1 else if fst (yrF n + 1) ≤ n then yrF n + 1 else yrF n
def weekF (n : Int) : Int × Int × Int × Int := if In n ∧ InY (wyr n) then (wyr n, (n - fst (wyr n)) / 7 + 1, wdF n, 0) else (0, 0, 0, 30)
def ofWeekF (y k d : Int) : Int × Int := if 1 ≤ k ∧ k ≤ wks y ∧ 1 ≤ d ∧ d ≤ 7 ∧ In (fst y + 7 * (k - 1) + d - 1) then (fst y + 7 * (k - 1) + d - 1, 0) else (0, 30)
def nthF (n : Int) : Int × Int × Int := if In n then (yrF n, n - beg (yrF n) + 1, 0) else (0, 0, 30)
def ofNthF (y k : Int) : Int × Int := if InY y ∧ 1 ≤ k ∧ k ≤ 365 + lp y then (beg y + k - 1, 0) else (0, 30)
theorem dn_first (y : Int) : dn y 1 1 = beg y := by unfold dn; rw [show (1 : Int) - 1 = 0 from rfl, upto_0]; omega
theorem dn_fourth (y : Int) : dn y 1 4 = beg y + 3 := by unfold dn; rw [show (1 : Int) - 1 = 0 from rfl, upto_0]; omega
theorem upto_11 (y : Int) : upto y 11 = 334 + lp y := by simp [upto, tab]
theorem dn_last (y : Int) : dn y 12 31 = beg y + 364 + lp y := by unfold dn; rw [show (12 : Int) - 1 = 11 from rfl, upto_11]; omega
theorem len_1 (y : Int) : len y 1 = 31 := by rw [len_table]; simp
theorem len_12 (y : Int) : len y 12 = 31 := by rw [len_table]; simp
theorem ok_1 (y d : Int) (h : 1 ≤ d ∧ d ≤ 31) : Ok y 1 d ↔ InY y := by
  unfold Ok InY
  rw [len_1]
  omega
theorem ok_12 (y d : Int) (h : 1 ≤ d ∧ d ≤ 31) : Ok y 12 d ↔ InY y := by
  unfold Ok InY
  rw [len_12]
  omega
theorem fst_step (y : Int) : (fst (y + 1) - fst y = 364 ∨ fst (y + 1) - fst y = 371) ∧ (fst y + 3) % 7 = 0 ∧ beg y - 3 ≤ fst y ∧ fst y ≤ beg y + 3 := by
  unfold fst
  have h1 := beg_succ y
  have h2 := lp_bd y
  rw [h1]
  generalize beg y = b at *
  generalize lp y = l at *
  omega
theorem wks_eq {y : Int} (h : InY y) : wks y = (fst (y + 1) - fst y) / 7 := by
  unfold wks
  rw [if_pos h]
  unfold fst wdF
  rw [beg_succ, lp_leap]
  generalize beg y = b at *
  cases leap y
  · simp only [Bool.false_eq_true, and_false, or_false, if_false]
    split <;> omega
  · simp only [and_true, if_true]
    split <;> omega
theorem wks_out {y : Int} (h : ¬ InY y) : wks y = 0 := by unfold wks; rw [if_neg h]
theorem wks_bd (y : Int) : 0 ≤ wks y ∧ wks y ≤ 53 := by
  unfold wks
  repeat' split
  all_goals decide
theorem fst_mono {a b : Int} (h : a ≤ b) : fst a ≤ fst b := by
  rcases Int.lt_or_eq_of_le h with h | rfl
  · have h1 := beg_mono (Int.le_of_lt h)
    have h2 := (fst_step a).2.2
    have h3 := (fst_step b).2.2
    omega
  · exact Int.le_refl _
theorem wyr_unique {n a b : Int} (ha : fst a ≤ n) (ha' : n < fst (a + 1)) (hb : fst b ≤ n) (hb' : n < fst (b + 1)) : a = b := by
  rcases Int.lt_trichotomy a b with h | h | h
  · have := fst_mono (show a + 1 ≤ b by omega); omega
  · exact h
  · have := fst_mono (show b + 1 ≤ a by omega); omega
theorem wyr_spec (n : Int) : fst (wyr n) ≤ n ∧ n < fst (wyr n + 1) := by
  have h := yrF_spec n
  have h1 := (fst_step (yrF n)).2.2
  have h2 := (fst_step (yrF n + 1))
  have h3 := (fst_step (yrF n - 1))
  have h4 := beg_lt_succ (yrF n + 1)
  have h5 := beg_lt_succ (yrF n - 1)
  have h6 := (fst_step (yrF n + 1 + 1)).2.2
  rw [show yrF n - 1 + 1 = yrF n by omega] at h3 h5
  unfold wyr
  split
  · rw [show yrF n - 1 + 1 = yrF n by omega]; omega
  · split <;> omega
theorem wyr_of {n y : Int} (h1 : fst y ≤ n) (h2 : n < fst (y + 1)) : wyr n = y := wyr_unique (wyr_spec n).1 (wyr_spec n).2 h1 h2
theorem weekF_in {n : Int} (h : In n) (hy : InY (wyr n)) : weekF n = (wyr n, (n - fst (wyr n)) / 7 + 1, wdF n, 0) := by unfold weekF; rw [if_pos ⟨h, hy⟩]
theorem weekF_not {n : Int} (h : ¬ (In n ∧ InY (wyr n))) : weekF n = (0, 0, 0, 30) := by unfold weekF; rw [if_neg h]
theorem wdF_fst (n : Int) : wdF n = (n - fst (wyr n)) % 7 + 1 := by
  have h := (fst_step (wyr n)).2.1
  unfold wdF
  omega
theorem week_ofWeek {y k d : Int} (h1 : 1 ≤ k) (h2 : k ≤ wks y) (h3 : 1 ≤ d) (h4 : d ≤ 7) (h5 : In (fst y + 7 * (k - 1) + d - 1)) : weekF (fst y + 7 * (k - 1) + d - 1) = (y, k, d, 0) := by
  have hy : InY y := by
    by_cases h : InY y
    · exact h
    · rw [wks_out h] at h2; omega
  have hs := fst_step y
  rw [wks_eq hy] at h2
  have hw : wyr (fst y + 7 * (k - 1) + d - 1) = y := wyr_of (by omega) (by omega)
  have hd := wdF_fst (fst y + 7 * (k - 1) + d - 1)
  rw [weekF_in h5 (by rw [hw]; exact hy), hd, hw]
  rw [show (fst y + 7 * (k - 1) + d - 1 - fst y) / 7 + 1 = k by omega, show (fst y + 7 * (k - 1) + d - 1 - fst y) % 7 + 1 = d by omega]
theorem nthF_in {n : Int} (h : In n) : nthF n = (yrF n, n - beg (yrF n) + 1, 0) := by unfold nthF; rw [if_pos h]
theorem in_year {y n : Int} (hy : InY y) (h1 : beg y ≤ n) (h2 : n < beg (y + 1)) : In n := by
  have h3 := beg_mono hy.1
  have h4 := beg_mono (show y + 1 ≤ 10000 by have := hy.2; omega)
  rw [beg_min] at h3
  rw [beg_max] at h4
  unfold In
  have := hy.1
  have := hy.2
  omega
theorem nth_ofNth {y k : Int} (hy : InY y) (h1 : 1 ≤ k) (h2 : k ≤ 365 + lp y) : nthF (beg y + k - 1) = (y, k, 0) := by
  have hb := beg_succ y
  have hn := in_year hy (show beg y ≤ beg y + k - 1 by omega) (by omega)
  have hs := yrF_spec (beg y + k - 1)
  have he : yrF (beg y + k - 1) = y := yr_unique hs.1 hs.2 (by omega) (by omega)
  rw [nthF_in hn, he]
  congr 2
  omega
end Go.Proofs.YtcinojbfjiohjaaGreatDoor.Civ
end

section
namespace Go.Proofs.YtcinojbfjiohjaaGreatDoor.Civ
open Go Go.RowKit Go.Proofs.YtcinojbfjiohjaaGreatDoor.PPrintTells Go.Proofs.YtcinojbfjiohjaaGreatDoorW.PrintWords Go.Proofs.YtcinojbfjiohjaaGreatDoorW.PrintLast Go.Proofs.YtcinojbfjiohjaaGreatDoorW.PrintMore
set_option linter.unusedVariables false
set_option linter.unusedSimpArgs false
set_option maxHeartbeats 4000000 in
theorem Weeks_lt (y : Int) (w : World) (hM : Months w) :
    Calls Tryz.prog 218 #[.int .i64 y] w fun e w' => e = .returned (.int .i64 (wks y)) ∧ Lt w w' ∧ Months w' := by
  have C1 := Aside0.mk (fun w hM => Days_lt y 1 1 w hM (by omega) (by omega))
  by_cases hy : InY y
  · rw [daysF_ok ((ok_1 y 1 (by omega)).2 hy), dn_first] at C1
    have hw : wks y = if wdF (beg y) = 4 ∨ (wdF (beg y) = 3 ∧ leap y = true) then 53 else 52 := by unfold wks; rw [if_pos hy]
    rw [hw]
    have C2 := Aside0.mk (fun w hM => Weekday_lt (beg y) w hM)
    have C3 := Aside0.mk (fun w hM => Leap_lt y w hM)
    clear hw hy
    generalize wdF (beg y) = d at *
    generalize leap y = l at *
    generalize beg y = b at *
    by_cases h4 : d = 4
    · subst h4
      rw [if_pos (.inl rfl)]
      go_enter Tryz.func218, Tryz.ntmps218
      go_wp2_with fail
      (with_reducible refine (C1.out _ (by assumption)).mono ?_)
      rintro e w1 ⟨rfl, hl1, hM1⟩
      go_wp2_with fail
      (with_reducible refine (C2.out _ (by assumption)).mono ?_)
      rintro e w2 ⟨rfl, hl2, hM2⟩
      go_wp2
      go_ret
      exact ⟨rfl, hl1.trans hl2, hM2⟩
    · have h4' : (d == 4) = false := beq_eq_false_iff_ne.2 h4
      by_cases h3 : d = 3
      · subst h3
        have hr : (if ((3 : Int) = 4 ∨ ((3 : Int) = 3 ∧ l = true)) then (53 : Int) else 52) = if l = true then 53 else 52 := by cases l <;> rfl
        rw [hr]
        clear hr
        cases l
        · rw [if_neg (by decide)]
          go_enter Tryz.func218, Tryz.ntmps218
          go_wp2_with fail
          (with_reducible refine (C1.out _ (by assumption)).mono ?_)
          rintro e w1 ⟨rfl, hl1, hM1⟩
          go_wp2_with fail
          (with_reducible refine (C2.out _ (by assumption)).mono ?_)
          rintro e w2 ⟨rfl, hl2, hM2⟩
          go_wp2_with fail
          (with_reducible refine (C3.out _ (by assumption)).mono ?_)
          rintro e w3 ⟨rfl, hl3, hM3⟩
          go_wp2
          go_ret
          exact ⟨rfl, hl1.trans (hl2.trans hl3), hM3⟩
        · rw [if_pos rfl]
          go_enter Tryz.func218, Tryz.ntmps218
          go_wp2_with fail
          (with_reducible refine (C1.out _ (by assumption)).mono ?_)
          rintro e w1 ⟨rfl, hl1, hM1⟩
          go_wp2_with fail
          (with_reducible refine (C2.out _ (by assumption)).mono ?_)
          rintro e w2 ⟨rfl, hl2, hM2⟩
          go_wp2_with fail
          (with_reducible refine (C3.out _ (by assumption)).mono ?_)
          rintro e w3 ⟨rfl, hl3, hM3⟩
          go_wp2
          go_ret
          exact ⟨rfl, hl1.trans (hl2.trans hl3), hM3⟩
      · have h3' : (d == 3) = false := beq_eq_false_iff_ne.2 h3
        rw [if_neg (by rintro (h | ⟨h, _⟩) <;> contradiction)]
        clear h4 h3
        go_enter Tryz.func218, Tryz.ntmps218
        go_wp2_with fail
        (with_reducible refine (C1.out _ (by assumption)).mono ?_)
        rintro e w1 ⟨rfl, hl1, hM1⟩
        go_wp2_with fail
        (with_reducible refine (C2.out _ (by assumption)).mono ?_)
        rintro e w2 ⟨rfl, hl2, hM2⟩
        go_wp2
        go_ret
        exact ⟨rfl, hl1.trans hl2, hM2⟩
  · rw [daysF_not (fun h => hy ((ok_1 y 1 (by omega)).1 h))] at C1
    rw [wks_out hy]
    clear hy
    go_enter Tryz.func218, Tryz.ntmps218
    go_wp2_with fail
    (with_reducible refine (C1.out _ (by assumption)).mono ?_)
    rintro e w1 ⟨rfl, hl1, hM1⟩
    go_wp2
    go_ret
    exact ⟨rfl, hl1, hM1⟩
set_option maxHeartbeats 4000000 in
theorem OfNth_lt (y n : Int) (w : World) (hM : Months w) (hn0 : -9223372036854775808 ≤ n) (hn1 : n ≤ 9223372036854775807) :
    Calls Tryz.prog 196 #[.int .i64 y, .int .i64 n] w fun e w' => e = .returned (.tuple #[.int .i64 (ofNthF y n).1, .int .i64 (ofNthF y n).2]) ∧ Lt w w' ∧ Months w' := by
  have C1 := Aside0.mk (fun w hM => Days_lt y 1 1 w hM (by omega) (by omega))
  have C2 := Aside0.mk (fun w hM => Days_lt y 12 31 w hM (by omega) (by omega))
  by_cases hy : InY y
  · rw [daysF_ok ((ok_1 y 1 (by omega)).2 hy), dn_first] at C1
    rw [daysF_ok ((ok_12 y 31 (by omega)).2 hy), dn_last] at C2
    have hl := lp_bd y
    have hbb : In (beg y) := in_year hy (Int.le_refl _) (by have := beg_lt_succ y; omega)
    obtain ⟨hb0, hb1⟩ := hbb
    have hr : ofNthF y n = if 1 ≤ n ∧ n ≤ 365 + lp y then (beg y + n - 1, 0) else (0, 30) := by
      unfold ofNthF
      by_cases h : 1 ≤ n ∧ n ≤ 365 + lp y
      · rw [if_pos ⟨hy, h⟩, if_pos h]
      · rw [if_neg (fun k => h k.2), if_neg h]
    rw [hr]
    clear hr hy
    obtain ⟨e, he⟩ : ∃ e, e = beg y + 364 + lp y := ⟨_, rfl⟩
    rw [← he] at C2
    generalize beg y = b at *
    generalize lp y = l at *
    have w1 : wrap64 (e - b) = e - b := w64 (by omega) (by omega)
    have w2 : wrap64 (e - b + 1) = e - b + 1 := w64 (by omega) (by omega)
    by_cases h1 : n < 1
    · have h1' : decide (n < 1) = true := decide_eq_true h1
      rw [if_neg (by omega)]
      clear he hl hb0 hb1
      go_enter Tryz.func196, Tryz.ntmps196
      go_wp2_with fail
      (with_reducible refine (C1.out _ (by assumption)).mono ?_)
      rintro e w1 ⟨rfl, hl1, hM1⟩
      go_wp2_with fail
      (with_reducible refine (C2.out _ (by assumption)).mono ?_)
      rintro e w2 ⟨rfl, hl2, hM2⟩
      go_wp2
      go_ret2
      exact ⟨rfl, hl1.trans hl2, hM2⟩
    have h1' : decide (n < 1) = false := decide_eq_false h1
    by_cases h2 : e - b + 1 < n
    · have h2' : decide (n > e - b + 1) = true := decide_eq_true h2
      have h2'' : decide (e - b + 1 < n) = true := decide_eq_true h2
      rw [if_neg (by omega)]
      clear he hl hb0 hb1
      go_enter Tryz.func196, Tryz.ntmps196
      go_wp2_with fail
      (with_reducible refine (C1.out _ (by assumption)).mono ?_)
      rintro e w1 ⟨rfl, hl1, hM1⟩
      go_wp2_with fail
      (with_reducible refine (C2.out _ (by assumption)).mono ?_)
      rintro e w2 ⟨rfl, hl2, hM2⟩
      go_wp2
      go_ret2
      exact ⟨rfl, hl1.trans hl2, hM2⟩
    · have h2' : decide (n > e - b + 1) = false := decide_eq_false h2
      have h2'' : decide (e - b + 1 < n) = false := decide_eq_false h2
      rw [if_pos ⟨by omega, by omega⟩]
      have w3 : wrap64 (n - 1) = n - 1 := w64 (by omega) (by omega)
      have w4 : wrap64 (b + (n - 1)) = b + (n - 1) := w64 (by omega) (by omega)
      have hres : b + (n - 1) = b + n - 1 := by omega
      have HR := Aside0.mk hres
      clear he hl hb0 hb1 hres
      go_enter Tryz.func196, Tryz.ntmps196
      go_wp2_with fail
      (with_reducible refine (C1.out _ (by assumption)).mono ?_)
      rintro e w1 ⟨rfl, hl1, hM1⟩
      go_wp2_with fail
      (with_reducible refine (C2.out _ (by assumption)).mono ?_)
      rintro e w2 ⟨rfl, hl2, hM2⟩
      go_wp2
      go_ret2
      exact ⟨by rw [HR.out] at w4; simp [HR.out, w3, w4], hl1.trans hl2, hM2⟩
  · rw [daysF_not (fun h => hy ((ok_1 y 1 (by omega)).1 h))] at C1
    rw [daysF_not (fun h => hy ((ok_12 y 31 (by omega)).1 h))] at C2
    have hr : ofNthF y n = (0, 30) := by unfold ofNthF; rw [if_neg (fun h => hy h.1)]
    rw [hr]
    clear hr hy
    go_enter Tryz.func196, Tryz.ntmps196
    go_wp2_with fail
    (with_reducible refine (C1.out _ (by assumption)).mono ?_)
    rintro e w1 ⟨rfl, hl1, hM1⟩
    go_wp2_with fail
    (with_reducible refine (C2.out _ (by assumption)).mono ?_)
    rintro e w2 ⟨rfl, hl2, hM2⟩
    go_wp2
    go_ret2
    exact ⟨rfl, hl1.trans hl2, hM2⟩
set_option maxHeartbeats 8000000 in
theorem OfWeek_lt (y n d : Int) (w : World) (hM : Months w) (hn0 : -9223372036854775808 ≤ n) (hn1 : n ≤ 9223372036854775807) :
    Calls Tryz.prog 194 #[.int .i64 y, .int .i64 n, .int .i64 d] w fun e w' => e = .returned (.tuple #[.int .i64 (ofWeekF y n d).1, .int .i64 (ofWeekF y n d).2]) ∧ Lt w w' ∧ Months w' := by
  have C1 := Aside0.mk (fun w hM => Weeks_lt y w hM)
  have hwb := wks_bd y
  by_cases hall : 1 ≤ n ∧ n ≤ wks y ∧ 1 ≤ d ∧ d ≤ 7
  · obtain ⟨a1, a2, a3, a4⟩ := hall
    have hy : InY y := by
      by_cases h : InY y
      · exact h
      · rw [wks_out h] at a2; omega
    have C2 := Aside0.mk (fun w hM => Days_lt y 1 4 w hM (by omega) (by omega))
    rw [daysF_ok ((ok_1 y 4 (by omega)).2 hy), dn_fourth] at C2
    have hbb : In (beg y) := in_year hy (Int.le_refl _) (by have := beg_lt_succ y; omega)
    obtain ⟨hb0, hb1⟩ := hbb
    have hw4 := wdF_bd (beg y + 3)
    have hf : fst y + 7 * (n - 1) + d - 1 = beg y + 3 + (7 * (n - 1) + d - wdF (beg y + 3)) := by unfold fst wdF; omega
    have hr : ofWeekF y n d = if In (beg y + 3 + (7 * (n - 1) + d - wdF (beg y + 3))) then (beg y + 3 + (7 * (n - 1) + d - wdF (beg y + 3)), 0) else (0, 30) := by
      unfold ofWeekF
      rw [hf]
      by_cases h : In (beg y + 3 + (7 * (n - 1) + d - wdF (beg y + 3)))
      · rw [if_pos ⟨a1, a2, a3, a4, h⟩, if_pos h]
      · rw [if_neg (fun k => h k.2.2.2.2), if_neg h]
    rw [hr]
    clear hr hf hy
    have C3 := Aside0.mk (fun w hM => Weekday_lt (beg y + 3) w hM)
    generalize wdF (beg y + 3) = v at *
    obtain ⟨f, hf⟩ : ∃ f, f = beg y + 3 := ⟨_, rfl⟩
    rw [← hf] at C2 C3 ⊢
    generalize wks y = k at *
    generalize beg y = b at *
    have n1 : decide (n < 1) = false := decide_eq_false (by omega)
    have n2 : decide (n > k) = false := decide_eq_false (by omega)
    have n2' : decide (k < n) = false := n2
    have n3 : decide (d < 1) = false := decide_eq_false (by omega)
    have n4 : decide (d > 7) = false := decide_eq_false (by omega)
    have n4' : decide (7 < d) = false := n4
    have w1 : wrap64 (n - 1) = n - 1 := w64 (by omega) (by omega)
    have w2 : wrap64 (7 * (n - 1)) = 7 * (n - 1) := w64 (by omega) (by omega)
    have w3 : wrap64 (7 * (n - 1) + d) = 7 * (n - 1) + d := w64 (by omega) (by omega)
    have w4 : wrap64 (7 * (n - 1) + d - v) = 7 * (n - 1) + d - v := w64 (by omega) (by omega)
    have w5 : wrap64 (f + (7 * (n - 1) + d - v)) = f + (7 * (n - 1) + d - v) := w64 (by omega) (by omega)
    have C4 := Aside0.mk (fun w hM => Date_lt (f + (7 * (n - 1) + d - v)) w hM)
    clear hwb hf hb0 hb1 hw4 a1 a2 a3 a4
    by_cases hin : In (f + (7 * (n - 1) + d - v))
    · rw [dateF_in hin] at C4
      rw [if_pos hin]
      clear hin
      generalize yrF (f + (7 * (n - 1) + d - v)) = q1 at *
      generalize moF (f + (7 * (n - 1) + d - v)) = q2 at *
      generalize dyF (f + (7 * (n - 1) + d - v)) = q3 at *
      go_enter Tryz.func194, Tryz.ntmps194
      go_wp2_with fail
      (with_reducible refine (C1.out _ (by assumption)).mono ?_)
      rintro e w1 ⟨rfl, hl1, hM1⟩
      go_wp2_with fail
      (with_reducible refine (C2.out _ (by assumption)).mono ?_)
      rintro e w2 ⟨rfl, hl2, hM2⟩
      go_wp2_with fail
      (with_reducible refine (C3.out _ (by assumption)).mono ?_)
      rintro e w3 ⟨rfl, hl3, hM3⟩
      go_wp2_with fail
      (with_reducible refine (C4.out _ (by assumption)).mono ?_)
      rintro e w4 ⟨rfl, hl4, hM4⟩
      go_wp2
      go_ret2
      exact ⟨rfl, hl1.trans (hl2.trans (hl3.trans hl4)), hM4⟩
    · rw [dateF_not hin] at C4
      rw [if_neg hin]
      clear hin
      go_enter Tryz.func194, Tryz.ntmps194
      go_wp2_with fail
      (with_reducible refine (C1.out _ (by assumption)).mono ?_)
      rintro e w1 ⟨rfl, hl1, hM1⟩
      go_wp2_with fail
      (with_reducible refine (C2.out _ (by assumption)).mono ?_)
      rintro e w2 ⟨rfl, hl2, hM2⟩
      go_wp2_with fail
      (with_reducible refine (C3.out _ (by assumption)).mono ?_)
      rintro e w3 ⟨rfl, hl3, hM3⟩
      go_wp2_with fail
      (with_reducible refine (C4.out _ (by assumption)).mono ?_)
      rintro e w4 ⟨rfl, hl4, hM4⟩
      go_wp2
      go_ret2
      exact ⟨rfl, hl1.trans (hl2.trans (hl3.trans hl4)), hM4⟩
  · have hr : ofWeekF y n d = (0, 30) := by
      unfold ofWeekF
      rw [if_neg (fun k => hall ⟨k.1, k.2.1, k.2.2.1, k.2.2.2.1⟩)]
    rw [hr]
    clear hr
    generalize wks y = k at *
    by_cases h1 : n < 1
    · have n1 : decide (n < 1) = true := decide_eq_true h1
      clear hall
      go_enter Tryz.func194, Tryz.ntmps194
      go_wp2
      go_ret2
      exact ⟨rfl, by first | exact Lt.refl _ | exact (Lt.refl _).d1 | exact (Lt.refl _).d _, by first | exact hM | exact hM.d _⟩
    have n1 : decide (n < 1) = false := decide_eq_false h1
    by_cases h2 : k < n
    · have n2 : decide (n > k) = true := decide_eq_true h2
      have n2' : decide (k < n) = true := n2
      clear hall
      go_enter Tryz.func194, Tryz.ntmps194
      go_wp2_with fail
      (with_reducible refine (C1.out _ (by assumption)).mono ?_)
      rintro e w1 ⟨rfl, hl1, hM1⟩
      go_wp2
      go_ret2
      exact ⟨rfl, hl1, hM1⟩
    have n2 : decide (n > k) = false := decide_eq_false h2
    have n2' : decide (k < n) = false := n2
    by_cases h3 : d < 1
    · have n3 : decide (d < 1) = true := decide_eq_true h3
      clear hall
      go_enter Tryz.func194, Tryz.ntmps194
      go_wp2_with fail
      (with_reducible refine (C1.out _ (by assumption)).mono ?_)
      rintro e w1 ⟨rfl, hl1, hM1⟩
      go_wp2
      go_ret2
      exact ⟨rfl, hl1, hM1⟩
    have n3 : decide (d < 1) = false := decide_eq_false h3
    have h4 : 7 < d := by
      rcases Int.lt_or_le 7 d with h | h
      · exact h
      · exact absurd ⟨by omega, by omega, by omega, h⟩ hall
    have n4 : decide (d > 7) = true := decide_eq_true h4
    have n4' : decide (7 < d) = true := n4
    clear hall
    go_enter Tryz.func194, Tryz.ntmps194
    go_wp2_with fail
    (with_reducible refine (C1.out _ (by assumption)).mono ?_)
    rintro e w1 ⟨rfl, hl1, hM1⟩
    go_wp2
    go_ret2
    exact ⟨rfl, hl1, hM1⟩
end Go.Proofs.YtcinojbfjiohjaaGreatDoor.Civ
end

section
namespace Go.Proofs.YtcinojbfjiohjaaGreatDoor.Civ
open Go Go.RowKit Go.Proofs.YtcinojbfjiohjaaGreatDoor.PPrintTells Go.Proofs.YtcinojbfjiohjaaGreatDoorW.PrintWords Go.Proofs.YtcinojbfjiohjaaGreatDoorW.PrintLast Go.Proofs.YtcinojbfjiohjaaGreatDoorW.PrintMore Go.Proofs.YtcinojbfjiohjaaGreatDoor.Ex Go.Sort
attribute [local go_sem] max2_int min2_int max_two min_two
set_option linter.unusedVariables false
set_option linter.unusedSimpArgs false
structure Cal (w : World) : Prop where
  months : Months w
  pow : Lib.TabIs Tryz.prog w "internal/strconv.uint64pow10" .u64 Lib.pow10Tab
  maxl : ∃ m, w.cell? ⟨1, 0, none⟩ = some (.int .i64 m)
theorem gPow : Tryz.prog.globalNamed "internal/strconv.uint64pow10" = some 3 := by kernel_rfl
theorem Cal.l {w w' : World} (h : Cal w) (k : Lt w w') : Cal w' := by
  obtain ⟨m, hm⟩ := h.maxl
  refine ⟨h.months.l k, ?_, m, (k.out.cell (World.block_lt_of_cell? w _ hm)).trans hm⟩
  have hp := h.pow
  have h0 : w.cell? ⟨3, 0, none⟩ = some (.int .u64 1) := hp.cell gPow 0 (by decide)
  exact var?_below k.out gPow (World.block_lt_of_cell? w _ h0) hp
theorem lt_grow (w : World) (k : Nat) (os : Array Obj) : Lt w (grow (w.drewN k) os) :=
  ⟨⟨rfl, rfl, rfl, by rw [size_grow]; exact Nat.le_add_right _ _, fun i hi => heap_grow_old (w.drewN k) os hi⟩⟩
theorem lt_bytes (w : World) (e : TypeId) (s : ByteArray) : Lt w (Lib.bytesWorld w e s) := ⟨bytes_below (Below.refl _ _) (Nat.le_refl _) e s⟩
theorem toList_data' (s : ByteArray) : s.toList = s.data.toList := Lib.toList_data s
def natv (l : List UInt8) : Int := ((Lib.decNat l).getD 0 : Nat)
def numF (s : ByteArray) (d : Int) : Int × Bool := if (s.size : Int) = d ∧ s.data.toList.all digitB = true then (natv s.data.toList, true) else (0, false)
theorem decFrom_all (l : List UInt8) : ∀ acc, l.all digitB = true → ∃ n, Lib.decFrom acc l = some n := by
  induction l with
  | nil => intro acc _; exact ⟨acc, rfl⟩
  | cons b l ih =>
    intro acc h
    rw [List.all_cons, Bool.and_eq_true] at h
    have hb := h.1
    unfold digitB at hb
    rw [Bool.and_eq_true, decide_eq_true_eq, decide_eq_true_eq] at hb
    obtain ⟨n, hn⟩ := ih (acc * 10 + (b.toNat - 48)) h.2
    refine ⟨n, ?_⟩
    rw [Lib.decFrom, Lib.digitVal, if_pos hb]
    exact hn
theorem atoi_all {l : List UInt8} (h : l.all digitB = true) (h0 : l ≠ []) : Lib.atoi l = some (natv l) := by
  cases l with
  | nil => exact absurd rfl h0
  | cons b l =>
    have hb := h
    rw [List.all_cons, Bool.and_eq_true] at hb
    have hb := hb.1
    unfold digitB at hb
    rw [Bool.and_eq_true, decide_eq_true_eq, decide_eq_true_eq] at hb
    obtain ⟨n, hn⟩ := decFrom_all (b :: l) 0 h
    have h45 : (b == 45) = false := beq_eq_false_iff_ne.2 (fun he => by rw [he] at hb; exact absurd hb.1 (by decide))
    have h43 : (b == 43) = false := beq_eq_false_iff_ne.2 (fun he => by rw [he] at hb; exact absurd hb.1 (by decide))
    have hd : Lib.decNat (b :: l) = some n := by unfold Lib.decNat; rw [if_neg (by simp)]; exact hn
    rw [Lib.atoi, h45, h43]
    unfold natv
    rw [hd]
    rfl
abbrev digitsS : ByteArray := { data := #[48, 49, 50, 51, 52, 53, 54, 55, 56, 57] }
theorem TrimD_calls (s : ByteArray) (w : World) (hs : s.size ≤ 9223372036854775807) :
    Calls Tryz.prog 127 #[.string s, .string digitsS] w fun e w' => e = .returned (.string ⟨(Lib.trimS s.data.toList digitsL).toArray⟩) ∧ Below w.heap.size w w' :=
  Any.strings_Trim_laid Tryz.lays160 (by kernel_rfl) s digitsS w hs (by decide) (ascii_of_all (by decide))
theorem natv_bd {l : List UInt8} (h : l.all digitB = true) (h0 : l ≠ []) (hl : l.length ≤ 18) : 0 ≤ natv l ∧ natv l < 1000000000000000000 := ⟨by unfold natv; omega, (Lib.atoi_bound (atoi_all h h0) hl).2⟩
theorem numF_bd (s : ByteArray) (d : Int) (h1 : 1 ≤ d) (h2 : d ≤ 18) : 0 ≤ (numF s d).1 ∧ (numF s d).1 < 1000000000000000000 := by
  unfold numF
  split
  · rename_i h
    have hl : s.size = s.data.toList.length := (Array.length_toList).symm
    exact natv_bd h.2 (fun he => by rw [he] at hl; have h0 : s.size = 0 := hl; omega) (by omega)
  · exact ⟨Int.le_refl _, by decide⟩
set_option maxHeartbeats 4000000 in
theorem number_lt (s : ByteArray) (d : Int) (w : World) (hd : 1 ≤ d) (hd2 : d ≤ 18) :
    Calls Tryz.prog 163 #[.string s, .int .i64 d] w fun e w' => e = .returned (.tuple #[.int .i64 (numF s d).1, .bool (numF s d).2]) ∧ Lt w w' := by
  have hsz : s.size = s.data.toList.length := (Array.length_toList).symm
  by_cases h1 : (s.size : Int) = d
  · have CT := Aside0.mk (TrimD_calls s w (by omega))
    have h1' : ((s.size : Int) == d) = true := beq_iff_eq.2 h1
    by_cases h2 : s.data.toList.all digitB = true
    · have hr : numF s d = (natv s.data.toList, true) := by unfold numF; rw [if_pos ⟨h1, h2⟩]
      rw [hr]
      have hne : s.data.toList ≠ [] := fun he => by rw [he] at hsz; have h0 : s.size = 0 := hsz; omega
      have CA := Aside0.mk (fun w => Tryz.strconv_Atoi s (natv s.data.toList) (by omega) (atoi_all h2 hne) w)
      have he : ((⟨(Lib.trimS s.data.toList digitsL).toArray⟩ : ByteArray)).toList.isEmpty = true := by
        rw [toList_data', List.isEmpty_iff]
        show Lib.trimS s.data.toList digitsL = []
        rw [trimS_nil]
        have hfun : (digitsL.contains ·) = digitB := by funext x; exact contains_digits x
        rw [hfun]
        exact h2
      generalize natv s.data.toList = v at *
      generalize (⟨(Lib.trimS s.data.toList digitsL).toArray⟩ : ByteArray) = t at *
      clear hr h2 hne hsz hd hd2
      go_enter Tryz.func163, Tryz.ntmps163
      go_wp2_with fail
      (with_reducible refine CT.out.mono ?_)
      rintro e w1 ⟨rfl, hb1⟩
      have HB1 := Aside0.mk hb1
      clear hb1
      go_wp2_with fail
      (with_reducible refine (CA.out _).mono ?_)
      rintro e w2 ⟨rfl, t2, rfl⟩
      go_wp2
      go_ret2
      exact ⟨rfl, (Lt.mk HB1.out).trans (lt_bytes _ _ _)⟩
    · have hr : numF s d = (0, false) := by unfold numF; rw [if_neg (fun h => h2 h.2)]
      rw [hr]
      have he : ((⟨(Lib.trimS s.data.toList digitsL).toArray⟩ : ByteArray)).toList.isEmpty = false := by
        rw [toList_data', Bool.eq_false_iff]
        intro hh
        rw [List.isEmpty_iff] at hh
        have hh : Lib.trimS s.data.toList digitsL = [] := hh
        rw [trimS_nil] at hh
        have hfun : (digitsL.contains ·) = digitB := by funext x; exact contains_digits x
        rw [hfun] at hh
        exact h2 hh
      generalize (⟨(Lib.trimS s.data.toList digitsL).toArray⟩ : ByteArray) = t at *
      clear hr h2 hsz hd hd2
      go_enter Tryz.func163, Tryz.ntmps163
      go_wp2_with fail
      (with_reducible refine CT.out.mono ?_)
      rintro e w1 ⟨rfl, hb1⟩
      have HB1 := Aside0.mk hb1
      clear hb1
      go_wp2
      go_ret2
      exact ⟨rfl, Lt.mk HB1.out⟩
  · have hr : numF s d = (0, false) := by unfold numF; rw [if_neg (fun h => h1 h.1)]
    rw [hr]
    have h1' : ((s.size : Int) == d) = false := beq_eq_false_iff_ne.2 h1
    clear hr hsz hd hd2
    go_enter Tryz.func163, Tryz.ntmps163
    go_wp2
    go_ret2
    exact ⟨rfl, Lt.refl _⟩
def padF (n : Int) (k : Nat) : List UInt8 := List.replicate (k - (Lib.itoa n).length) 48 ++ Lib.itoa n
end Go.Proofs.YtcinojbfjiohjaaGreatDoor.Civ
end

section
namespace Go.Proofs.YtcinojbfjiohjaaGreatDoor.Civ
open Go Go.RowKit Go.Proofs.YtcinojbfjiohjaaGreatDoor.PPrintTells Go.Proofs.YtcinojbfjiohjaaGreatDoorW.PrintWords Go.Proofs.YtcinojbfjiohjaaGreatDoorW.PrintLast Go.Proofs.YtcinojbfjiohjaaGreatDoorW.PrintMore Go.Proofs.YtcinojbfjiohjaaGreatDoor.Ex Go.Sort
set_option linter.unusedVariables false
set_option linter.unusedSimpArgs false
def partsL (y m d : Int) : List UInt8 := Lib.join [padF y 4, padF m 2, padF d 2] [45]
def ymdL (y m d : Int) : List UInt8 := if y < 0 then 45 :: partsL (-y) m d else partsL y m d
def textF (n : Int) : ByteArray × Int := if In n then (⟨(ymdL (yrF n) (moF n) (dyF n)).toArray⟩, 0) else (⟨#[]⟩, 30)
theorem partsL_eq (y m d : Int) : partsL y m d = padF y 4 ++ 45 :: (padF m 2 ++ 45 :: padF d 2) := by
  unfold partsL Lib.join
  simp [List.intercalate, List.intersperse]
end Go.Proofs.YtcinojbfjiohjaaGreatDoor.Civ
end

section
namespace Go.Proofs.YtcinojbfjiohjaaGreatDoor.Civ
open Go Go.RowKit Go.Proofs.YtcinojbfjiohjaaGreatDoor.PPrintTells Go.Proofs.YtcinojbfjiohjaaGreatDoorW.PrintWords Go.Proofs.YtcinojbfjiohjaaGreatDoorW.PrintLast Go.Proofs.YtcinojbfjiohjaaGreatDoorW.PrintMore Go.Proofs.YtcinojbfjiohjaaGreatDoor.Ex Go.Sort
set_option linter.unusedVariables false
set_option linter.unusedSimpArgs false
def monthsF (y : Int) (p q : ByteArray) : Int × Int := if (numF p 2).2 = true ∧ (numF q 2).2 = true then daysF y (numF p 2).1 (numF q 2).1 else (0, 30)
theorem cell_lt {w w' : World} {a : Addr} {v : Value} (h : Lt w w') (hc : w.cell? a = some v) : w'.cell? a = some v := (h.out.cell (World.block_lt_of_cell? w _ hc)).trans hc
set_option maxHeartbeats 4000000 in
theorem months_lt (y : Int) (a : Addr) (c : Nat) (p q : ByteArray) (w : World) (hC : Cal w) (h0 : w.cell? a = some (.string p)) (h1 : w.cell? ⟨a.block, a.off + 1, none⟩ = some (.string q)) :
    Calls Tryz.prog 191 #[.int .i64 y, .slice (some a) 2 c] w fun e w' => e = .returned (.tuple #[.int .i64 (monthsF y p q).1, .int .i64 (monthsF y p q).2]) ∧ Lt w w' := by
  have N1 := Aside0.mk (fun w => number_lt p 2 w (by omega) (by omega))
  have N2 := Aside0.mk (fun w => number_lt q 2 w (by omega) (by omega))
  have HC := Aside0.mk hC
  have H1 := Aside0.mk h1
  have b1 := numF_bd p 2 (by omega) (by omega)
  have b2 := numF_bd q 2 (by omega) (by omega)
  have hr : monthsF y p q = if (numF p 2).2 = true ∧ (numF q 2).2 = true then daysF y (numF p 2).1 (numF q 2).1 else (0, 30) := rfl
  rw [hr]
  clear hr h1
  generalize (numF p 2).1 = m at *
  generalize (numF p 2).2 = f at *
  generalize (numF q 2).1 = d at *
  generalize (numF q 2).2 = g at *
  have CD := Aside0.mk (fun w hM => Days_lt y m d w hM (by omega) (by omega))
  generalize daysF y m d = r at *
  obtain ⟨r1, r2⟩ := r
  clear b1 b2
  cases f
  · rw [if_neg (by simp)]
    go_enter Tryz.func191, Tryz.ntmps191
    go_wp2_with fail
    (with_reducible refine (N1.out _).mono ?_)
    rintro e w1 ⟨rfl, hl1⟩
    have h1 := cell_lt hl1 H1.out
    go_wp2_with fail
    (with_reducible refine (N2.out _).mono ?_)
    rintro e w2 ⟨rfl, hl2⟩
    go_wp2
    go_ret2
    exact ⟨rfl, hl1.trans hl2⟩
  · cases g
    · rw [if_neg (by simp)]
      go_enter Tryz.func191, Tryz.ntmps191
      go_wp2_with fail
      (with_reducible refine (N1.out _).mono ?_)
      rintro e w1 ⟨rfl, hl1⟩
      have h1 := cell_lt hl1 H1.out
      go_wp2_with fail
      (with_reducible refine (N2.out _).mono ?_)
      rintro e w2 ⟨rfl, hl2⟩
      go_wp2
      go_ret2
      exact ⟨rfl, hl1.trans hl2⟩
    · rw [if_pos ⟨rfl, rfl⟩]
      go_enter Tryz.func191, Tryz.ntmps191
      go_wp2_with fail
      (with_reducible refine (N1.out _).mono ?_)
      rintro e w1 ⟨rfl, hl1⟩
      have h1 := cell_lt hl1 H1.out
      go_wp2_with fail
      (with_reducible refine (N2.out _).mono ?_)
      rintro e w2 ⟨rfl, hl2⟩
      have hM2 := ((HC.out.l hl1).l hl2).months
      go_wp2_with fail
      (with_reducible refine (CD.out _ (by assumption)).mono ?_)
      rintro e w3 ⟨rfl, hl3, hM3⟩
      go_wp2
      go_ret2
      exact ⟨rfl, hl1.trans (hl2.trans hl3)⟩
def weeksF (y : Int) (p q : ByteArray) : Int × Int :=
  if Lib.hasPrefix p.data.toList [87] = true ∧ (numF ⟨(Lib.trimPrefix p.data.toList [87]).toArray⟩ 2).2 = true ∧ (numF q 1).2 = true then ofWeekF y (numF ⟨(Lib.trimPrefix p.data.toList [87]).toArray⟩ 2).1 (numF q 1).1 else (0, 30)
set_option maxHeartbeats 4000000 in
theorem weeks_lt (y : Int) (a : Addr) (c : Nat) (p q : ByteArray) (w : World) (hC : Cal w) (h0 : w.cell? a = some (.string p)) (h1 : w.cell? ⟨a.block, a.off + 1, none⟩ = some (.string q)) :
    Calls Tryz.prog 193 #[.int .i64 y, .slice (some a) 2 c] w fun e w' => e = .returned (.tuple #[.int .i64 (weeksF y p q).1, .int .i64 (weeksF y p q).2]) ∧ Lt w w' := by
  have CP := Aside0.mk (Tryz.strings_CutPrefix p ⟨#[87]⟩ w)
  have hr : weeksF y p q = if Lib.hasPrefix p.data.toList [87] = true ∧ (numF ⟨(Lib.trimPrefix p.data.toList [87]).toArray⟩ 2).2 = true ∧ (numF q 1).2 = true then ofWeekF y (numF ⟨(Lib.trimPrefix p.data.toList [87]).toArray⟩ 2).1 (numF q 1).1 else (0, 30) := rfl
  rw [hr]
  have e1 : (ByteArray.mk #[87]).data.toList = [87] := rfl
  rw [e1] at CP
  clear hr e1
  generalize Lib.hasPrefix p.data.toList [87] = pre at *
  generalize (⟨(Lib.trimPrefix p.data.toList [87]).toArray⟩ : ByteArray) = t at *
  have N1 := Aside0.mk (fun w => number_lt t 2 w (by omega) (by omega))
  have N2 := Aside0.mk (fun w => number_lt q 1 w (by omega) (by omega))
  have HC := Aside0.mk hC
  have H1 := Aside0.mk h1
  have b1 := numF_bd t 2 (by omega) (by omega)
  clear h1
  generalize (numF t 2).1 = m at *
  generalize (numF t 2).2 = f at *
  generalize (numF q 1).1 = d at *
  generalize (numF q 1).2 = g at *
  have CD := Aside0.mk (fun w hM => OfWeek_lt y m d w hM (by omega) (by omega))
  generalize ofWeekF y m d = r at *
  obtain ⟨r1, r2⟩ := r
  clear b1
  cases pre
  · rw [if_neg (by simp)]
    go_enter Tryz.func193, Tryz.ntmps193
    go_wp2_with fail
    (with_reducible refine CP.out.mono ?_)
    rintro e w0 ⟨rfl, rfl⟩
    go_wp2_with fail
    (with_reducible refine (N1.out _).mono ?_)
    rintro e w1 ⟨rfl, hl1⟩
    have h1 := cell_lt hl1 H1.out
    go_wp2_with fail
    (with_reducible refine (N2.out _).mono ?_)
    rintro e w2 ⟨rfl, hl2⟩
    go_wp2
    go_ret2
    exact ⟨rfl, hl1.trans hl2⟩
  · cases f
    · rw [if_neg (by simp)]
      go_enter Tryz.func193, Tryz.ntmps193
      go_wp2_with fail
      (with_reducible refine CP.out.mono ?_)
      rintro e w0 ⟨rfl, rfl⟩
      go_wp2_with fail
      (with_reducible refine (N1.out _).mono ?_)
      rintro e w1 ⟨rfl, hl1⟩
      have h1 := cell_lt hl1 H1.out
      go_wp2_with fail
      (with_reducible refine (N2.out _).mono ?_)
      rintro e w2 ⟨rfl, hl2⟩
      go_wp2
      go_ret2
      exact ⟨rfl, hl1.trans hl2⟩
    · cases g
      · rw [if_neg (by simp)]
        go_enter Tryz.func193, Tryz.ntmps193
        go_wp2_with fail
        (with_reducible refine CP.out.mono ?_)
        rintro e w0 ⟨rfl, rfl⟩
        go_wp2_with fail
        (with_reducible refine (N1.out _).mono ?_)
        rintro e w1 ⟨rfl, hl1⟩
        have h1 := cell_lt hl1 H1.out
        go_wp2_with fail
        (with_reducible refine (N2.out _).mono ?_)
        rintro e w2 ⟨rfl, hl2⟩
        go_wp2
        go_ret2
        exact ⟨rfl, hl1.trans hl2⟩
      · rw [if_pos ⟨rfl, rfl, rfl⟩]
        go_enter Tryz.func193, Tryz.ntmps193
        go_wp2_with fail
        (with_reducible refine CP.out.mono ?_)
        rintro e w0 ⟨rfl, rfl⟩
        go_wp2_with fail
        (with_reducible refine (N1.out _).mono ?_)
        rintro e w1 ⟨rfl, hl1⟩
        have h1 := cell_lt hl1 H1.out
        go_wp2_with fail
        (with_reducible refine (N2.out _).mono ?_)
        rintro e w2 ⟨rfl, hl2⟩
        have hM2 := ((HC.out.l hl1).l hl2).months
        go_wp2_with fail
        (with_reducible refine (CD.out _ (by assumption)).mono ?_)
        rintro e w3 ⟨rfl, hl3, hM3⟩
        go_wp2
        go_ret2
        exact ⟨rfl, hl1.trans (hl2.trans hl3)⟩
def daysOfF (y : Int) (p : ByteArray) : Int × Int := if (numF p 3).2 = true then ofNthF y (numF p 3).1 else (0, 30)
set_option maxHeartbeats 4000000 in
theorem daysOf_lt (y : Int) (a : Addr) (c : Nat) (p : ByteArray) (w : World) (hC : Cal w) (h0 : w.cell? a = some (.string p)) :
    Calls Tryz.prog 195 #[.int .i64 y, .slice (some a) 1 c] w fun e w' => e = .returned (.tuple #[.int .i64 (daysOfF y p).1, .int .i64 (daysOfF y p).2]) ∧ Lt w w' := by
  have N1 := Aside0.mk (fun w => number_lt p 3 w (by omega) (by omega))
  have HC := Aside0.mk hC
  have b1 := numF_bd p 3 (by omega) (by omega)
  have hr : daysOfF y p = if (numF p 3).2 = true then ofNthF y (numF p 3).1 else (0, 30) := rfl
  rw [hr]
  clear hr
  generalize (numF p 3).1 = m at *
  generalize (numF p 3).2 = f at *
  have CD := Aside0.mk (fun w hM => OfNth_lt y m w hM (by omega) (by omega))
  generalize ofNthF y m = r at *
  obtain ⟨r1, r2⟩ := r
  clear b1
  cases f
  · rw [if_neg (by simp)]
    go_enter Tryz.func195, Tryz.ntmps195
    go_wp2_with fail
    (with_reducible refine (N1.out _).mono ?_)
    rintro e w1 ⟨rfl, hl1⟩
    go_wp2
    go_ret2
    exact ⟨rfl, hl1⟩
  · rw [if_pos rfl]
    go_enter Tryz.func195, Tryz.ntmps195
    go_wp2_with fail
    (with_reducible refine (N1.out _).mono ?_)
    rintro e w1 ⟨rfl, hl1⟩
    have hM1 := (HC.out.l hl1).months
    go_wp2_with fail
    (with_reducible refine (CD.out _ (by assumption)).mono ?_)
    rintro e w2 ⟨rfl, hl2, hM2⟩
    go_wp2
    go_ret2
    exact ⟨rfl, hl1.trans hl2⟩
set_option maxHeartbeats 4000000 in
theorem shapes_calls (w : World) :
    Calls Tryz.prog 164 #[] w fun e w' => e = .returned (.slice (some ⟨w.heap.size, 0, none⟩) 3 3) ∧ w' = w.alloc (.cells #[.int .i64 2, .func (.func 191) #[] #[], .int .i64 2, .func (.func 193) #[] #[], .int .i64 1, .func (.func 195) #[] #[]] 204) := by
  go_enter Tryz.func164, Tryz.ntmps164
  go_wp2
  go_ret
  exact ⟨rfl, rfl⟩
end Go.Proofs.YtcinojbfjiohjaaGreatDoor.Civ
end

section
namespace Go.Proofs.YtcinojbfjiohjaaGreatDoor.Civ
open Go Go.RowKit Go.Proofs.YtcinojbfjiohjaaGreatDoor.PPrintTells Go.Proofs.YtcinojbfjiohjaaGreatDoorW.PrintWords Go.Proofs.YtcinojbfjiohjaaGreatDoorW.PrintLast Go.Proofs.YtcinojbfjiohjaaGreatDoorW.PrintMore Go.Proofs.YtcinojbfjiohjaaGreatDoor.Ex Go.Sort
set_option linter.unusedVariables false
set_option linter.unusedSimpArgs false
section
variable {P : Program} {ops : Array Oper} {Q : Exit → Act → World → Prop}
theorem goesV_ {oi : Oper} {N : Option Tmp} {a : Act} {w : World} {K : Act → World → Prop} {f : FuncId} {fn : Func} {o : Operand} {aas : Array Operand} {ts : Array TypeId} (hf : P.funcs[f]? = some fn) (hname : (fn.name == "runtime.NumGoroutine") = false) (hb : fn.body.isSome = true) (args : Array Value)
    (ho : a.eval o = .func (.func f) #[] #[]) (hw : Region.wanted oi (yielded ops a.tmps) = true) (hN : oi.dst = N) (hop : oi.op = .call { callee := .value o, args := aas, argTypes := ts }) (hargs : aas.map a.eval = args)
    (h : Calls P f args w fun e w' => ∃ v, e = .returned v ∧ K (a.put N v) w') : if Region.wanted oi (yielded ops a.tmps) = true then Oper.wp P oi a w K Q else K (a.put N undef) w := by
  refine call_ f args hw hN ?_ h
  have he := enters_ hf hname hb args w
  unfold execOp
  simp [hop, resolve, Deferred.ofValue, invoke, ho, hargs, he]
end
abbrev dash : ByteArray := ⟨#[45]⟩
def pieces (t : ByteArray) : List ByteArray := Lib.splitB dash 0 (Lib.countB t dash) t
theorem pieces_len (t : ByteArray) : (pieces t).length = Lib.countB t dash + 1 := Lib.splitB_all dash (by decide) 0 _ t rfl
def shapeF (y : Int) (L : List ByteArray) : Nat → Int × Int
  | 0 => if L.length = 3 then monthsF y (L.getD 1 ⟨#[]⟩) (L.getD 2 ⟨#[]⟩) else (0, 30)
  | 1 => if L.length = 3 then weeksF y (L.getD 1 ⟨#[]⟩) (L.getD 2 ⟨#[]⟩) else (0, 30)
  | _ => if L.length = 2 then daysOfF y (L.getD 1 ⟨#[]⟩) else (0, 30)
def tailF (y : Int) (L : List ByteArray) : Int × Int :=
  if (shapeF y L 0).2 = 0 then ((shapeF y L 0).1, 0) else if (shapeF y L 1).2 = 0 then ((shapeF y L 1).1, 0) else if (shapeF y L 2).2 = 0 then ((shapeF y L 2).1, 0) else (0, 30)
def readL (minus : Bool) (L : List ByteArray) : Int × Int :=
  if (numF (L.getD 0 ⟨#[]⟩) 4).2 = false ∨ (minus = true ∧ (numF (L.getD 0 ⟨#[]⟩) 4).1 = 0) then (0, 30)
  else tailF (if minus = true then -(numF (L.getD 0 ⟨#[]⟩) 4).1 else (numF (L.getD 0 ⟨#[]⟩) 4).1) L
def readF (s : ByteArray) : Int × Int := readL (Lib.hasPrefix s.data.toList [45]) (pieces ⟨(Lib.trimPrefix s.data.toList [45]).toArray⟩)
theorem trim_size (s : ByteArray) : (⟨(Lib.trimPrefix s.data.toList [45]).toArray⟩ : ByteArray).size ≤ s.size := by
  show (Lib.trimPrefix s.data.toList [45]).toArray.size ≤ _
  have hl : s.size = s.data.toList.length := (Array.length_toList).symm
  rw [List.size_toArray, hl]
  unfold Lib.trimPrefix
  split
  · rw [List.length_drop]; omega
  · exact Nat.le_refl _
theorem tail_at {y : Int} {L : List ByteArray} {k : Nat} (hk : k < 3) (hp : ∀ j, j < k → (shapeF y L j).2 ≠ 0) (h : (shapeF y L k).2 = 0) : tailF y L = ((shapeF y L k).1, 0) := by
  unfold tailF
  match k, hk with
  | 0, _ => rw [if_pos h]
  | 1, _ => rw [if_neg (hp 0 (by omega)), if_pos h]
  | 2, _ => rw [if_neg (hp 0 (by omega)), if_neg (hp 1 (by omega)), if_pos h]
theorem tail_none {y : Int} {L : List ByteArray} (hp : ∀ j, j < 3 → (shapeF y L j).2 ≠ 0) : tailF y L = (0, 30) := by
  unfold tailF
  rw [if_neg (hp 0 (by omega)), if_neg (hp 1 (by omega)), if_neg (hp 2 (by omega))]
theorem next_p {y : Int} {L : List ByteArray} {k : Nat} (hp : ∀ j, j < k → (shapeF y L j).2 ≠ 0) (h : (shapeF y L k).2 ≠ 0) : ∀ j, j < k + 1 → (shapeF y L j).2 ≠ 0 := by
  intro j hj
  rcases Nat.lt_or_ge j k with h1 | h1
  · exact hp j h1
  · obtain rfl : j = k := by omega
    exact h
theorem len2 {l : List ByteArray} (h : l.length = 2) : ∃ p q, l = [p, q] := by
  match l, h with
  | [p, q], _ => exact ⟨p, q, rfl⟩
theorem lt_new (w : World) (cs : Array Value) (t : TypeId) : Lt w (w.alloc (.cells cs t)) := (Lt.refl _).a _
set_option maxHeartbeats 16000000 in
set_option maxRecDepth 100000 in
theorem Read_lt (s : ByteArray) (w : World) (hC : Cal w) (hs : s.size < 4294967281) :
    Calls Tryz.prog 129 #[.string s] w fun e w' => e = .returned (.tuple #[.int .i64 (readF s).1, .int .i64 (readF s).2]) ∧ Lt w w' := by
  have CP := Aside0.mk (Tryz.strings_CutPrefix s ⟨#[45]⟩ w)
  have hts := trim_size s
  have e1 : (ByteArray.mk #[45]).data.toList = [45] := rfl
  rw [e1] at CP
  have hr : readF s = readL (Lib.hasPrefix s.data.toList [45]) (pieces ⟨(Lib.trimPrefix s.data.toList [45]).toArray⟩) := rfl
  rw [hr]
  clear hr e1
  generalize Lib.hasPrefix s.data.toList [45] = minus at *
  generalize (⟨(Lib.trimPrefix s.data.toList [45]).toArray⟩ : ByteArray) = t at *
  obtain ⟨ml, hml⟩ := hC.maxl
  have CS := Aside0.mk (Tryz.strings_Split t dash ml w (by omega) hml (by decide))
  have hpl := pieces_len t
  have hpe : Lib.splitB dash 0 (Lib.countB t dash) t = pieces t := rfl
  rw [hpe, ← hpl] at CS
  clear hpe hts hml
  generalize pieces t = L at *
  have hn1 : 1 ≤ L.length := by omega
  clear hpl
  obtain ⟨x0, r, rfl⟩ : ∃ x0 r, L = x0 :: r := by
    cases L with
    | nil => simp at hn1
    | cons a r => exact ⟨a, r, rfl⟩
  have N1 := Aside0.mk (fun w => number_lt x0 4 w (by omega) (by omega))
  have b1 := numF_bd x0 4 (by omega) (by omega)
  have hr : readL minus (x0 :: r) = if (numF x0 4).2 = false ∨ (minus = true ∧ (numF x0 4).1 = 0) then (0, 30) else tailF (if minus = true then -(numF x0 4).1 else (numF x0 4).1) (x0 :: r) := rfl
  rw [hr]
  clear hr
  generalize (numF x0 4).1 = n at *
  generalize (numF x0 4).2 = ok at *
  have HC := Aside0.mk hC
  obtain ⟨wB, hwB⟩ : ∃ wB, wB = w.alloc (.cells ((x0 :: r).map Value.string).toArray 9) := ⟨_, rfl⟩
  have hlB : Lt w wB := by rw [hwB]; exact (Lt.refl _).a _
  obtain ⟨B, hB⟩ : ∃ B, B = w.heap.size := ⟨_, rfl⟩
  have hcells : ∀ j, ∀ hj : j < (x0 :: r).length, wB.cell? ⟨B, j, none⟩ = some (.string (x0 :: r)[j]) := by
    intro j hj
    rw [hwB, hB, World.cell?_alloc_at _ _ _ _ rfl]
    simp only [List.getElem?_toArray, List.getElem?_map, List.getElem?_eq_getElem hj, Option.map_some]
  rw [← hwB, ← hB] at CS
  have c0 : wB.cell? ⟨B, 0, none⟩ = some (.string x0) := hcells 0 (by simp)
  have HCB := Aside0.mk (hC.l hlB)
  have HCE := Aside0.mk hcells
  have HLB := Aside0.mk hlB
  clear hwB hB hlB hcells
  obtain ⟨N, hN⟩ : ∃ N, N = (x0 :: r).length := ⟨_, rfl⟩
  rw [← hN] at CS
  have HN := Aside0.mk (show N = r.length + 1 from hN)
  have hNb : 1 ≤ N := by rw [hN]; exact hn1
  have hNb2 : (1 : Int) ≤ (N : Int) := by omega
  have hNb3 : (0 : Int) < (N : Int) := by omega
  clear hN hn1
  cases ok
  · rw [if_pos (.inl rfl)]
    go_enter Tryz.func129, Tryz.ntmps129
    go_wp2_with fail
    (with_reducible refine CP.out.mono ?_)
    rintro e w0 ⟨rfl, rfl⟩
    go_wp2_with fail
    (with_reducible refine CS.out.mono ?_)
    rintro e w0 ⟨rfl, rfl⟩
    go_wp2_with fail
    (with_reducible refine (N1.out _).mono ?_)
    rintro e w1 ⟨rfl, hl1⟩
    have HL1 := Aside0.mk hl1
    clear hl1
    go_wp2
    go_ret2
    exact ⟨rfl, HLB.out.trans HL1.out⟩
  · cases minus
    · rw [if_neg (by simp), if_neg (by simp)]
      generalize n = y at *
      obtain ⟨⟨T1, T2⟩, hT⟩ : ∃ q, tailF y (x0 :: r) = q := ⟨_, rfl⟩
      rw [hT]
      have HT := Aside0.mk hT
      clear hT
      go_enter Tryz.func129, Tryz.ntmps129
      go_wp2_with fail
      (with_reducible refine CP.out.mono ?_)
      rintro e w0 ⟨rfl, rfl⟩
      go_wp2_with fail
      (with_reducible refine CS.out.mono ?_)
      rintro e w0 ⟨rfl, rfl⟩
      go_wp2_with fail
      (with_reducible refine (N1.out _).mono ?_)
      rintro e w1 ⟨rfl, hl1⟩
      have HL1 := Aside0.mk hl1
      clear hl1
      go_wp2_with fail
      (with_reducible refine (shapes_calls _).mono ?_)
      rintro e w2 ⟨rfl, hw2⟩
      have sc : ∀ j v, (#[.int .i64 2, .func (.func 191) #[] #[], .int .i64 2, .func (.func 193) #[] #[], .int .i64 1, .func (.func 195) #[] #[]] : Array Value)[j]? = some v → w2.cell? ⟨w1.heap.size, j, none⟩ = some v := fun j v h => by
        rw [hw2, World.cell?_alloc_at _ _ _ _ rfl]
        exact h
      have hl2 : Lt w1 w2 := by rw [hw2]; exact (Lt.refl _).a _
      have HSC := Aside0.mk sc
      have HL2 := Aside0.mk hl2
      clear sc hl2 hw2
      generalize w1.heap.size = S0 at *
      go_wp2
      go_loopw [40] (fun i wr => ∃ k, k ≤ 3 ∧ i = .int .i64 (k : Nat) ∧ Lt w2 wr ∧ ∀ j, j < k → (shapeF y (x0 :: r) j).2 ≠ 0) (fun i _ => 3 - (intOf i).toNat)
      case atStart => exact ⟨0, Nat.zero_le _, rfl, Lt.refl _, fun j hj => by omega⟩
      case round =>
        obtain ⟨k, hk, rfl, hlr, hp⟩ := hrel
        have HLR := Aside0.mk hlr
        have HPP := Aside0.mk hp
        clear hlr hp
        rcases (show k = 0 ∨ k = 1 ∨ k = 2 ∨ k = 3 by omega) with rfl | rfl | rfl | rfl
        · have s0 := cell_lt HLR.out (HSC.out 0 _ rfl)
          have s1 := cell_lt HLR.out (HSC.out 1 _ rfl)
          by_cases hN3 : N = 3
          · subst hN3
            have hrl : r.length = 2 := by have := HN.out; omega
            obtain ⟨p, q, rfl⟩ := len2 hrl
            clear hrl
            have hF : shapeF y (x0 :: [p, q]) 0 = monthsF y p q := rfl
            obtain ⟨wv, hwv⟩ : ∃ wv, wv = wr.alloc (.cells #[.int .i64 2, .func (.func 191) #[] #[]] 204) := ⟨_, rfl⟩
            have hlv : Lt wr wv := by rw [hwv]; exact lt_new _ _ _
            have v0' : (wr.alloc (.cells #[.int .i64 2, .func (.func 191) #[] #[]] 204)).cell? ⟨wr.heap.size, 0, none⟩ = some (.int .i64 2) := by rw [World.cell?_alloc_at _ _ _ _ rfl]; rfl
            have v1' : (wr.alloc (.cells #[.int .i64 2, .func (.func 191) #[] #[]] 204)).cell? ⟨wr.heap.size, 1, none⟩ = some (.func (.func 191) #[] #[]) := by rw [World.cell?_alloc_at _ _ _ _ rfl]; rfl
            have v1 := v1'
            rw [← hwv] at v1
            have b1 : wv.drew.cell? ⟨B, 1, none⟩ = some (.string p) := cell_lt (w' := wv) ((HL1.out.trans (HL2.out.trans (HLR.out.trans hlv)))) (HCE.out 1 (by simp))
            have b2 : wv.drew.cell? ⟨B, 1 + 1, none⟩ = some (.string q) := cell_lt (w' := wv) ((HL1.out.trans (HL2.out.trans (HLR.out.trans hlv)))) (HCE.out 2 (by simp))
            have hCv : Cal wv.drew := (HCB.out.l ((HL1.out.trans (HL2.out.trans (HLR.out.trans hlv))))).l (Lt.refl _).d1
            have HLV := Aside0.mk hlv
            obtain ⟨⟨m1, m2⟩, hm⟩ : ∃ z, monthsF y p q = z := ⟨_, rfl⟩
            rw [hm] at hF
            have HF := Aside0.mk hF
            have HM := Aside0.mk hm
            obtain ⟨X, hX⟩ : ∃ X, X = wr.heap.size := ⟨_, rfl⟩
            rw [← hX] at v1
            clear hF hlv hm
            by_cases h0 : m2 = 0
            · have h0' : (m2 == 0) = true := beq_iff_eq.2 h0
              have HH := Aside0.mk h0
              clear h0
              go_wp2_with fail
              rw [← hwv, ← hX]
              clear hwv v0' v1' s0 s1 hX
              refine start_ (n := 11) (S := fun w' => w'.cell? ⟨X, 1, none⟩ = some (.func (.func 191) #[] #[])) (ds := []) #[false, false, false, false, false, false, false, false, false, false, false] (by kernel_rfl) rfl rfl (v1) (fun hHeld => ?_)
              refine pure_ (i := 0) (N := some 51) (v := ?_) (a' := ?_) #[true, false, false, false, false, false, false, false, false, false, false] rfl rfl (by kernel_rfl) (fun _ _ _ h => h) (Or.inl ⟨by rfl, ?_⟩) ?_ ?_
              rotate_left
              · intro w'
                go_simp
                with_reducible rfl
              rotate_left
              · simp only [Act.put, List.setIfInBounds_toArray, List.set_cons_zero, List.set_cons_succ, i64_w, i32_w]
                rfl
              refine pure_ (i := 2) (N := some 53) (v := ?_) (a' := ?_) #[true, false, true, false, false, false, false, false, false, false, false] rfl rfl (by kernel_rfl) (fun _ _ _ h => h) (Or.inl ⟨by rfl, ?_⟩) ?_ ?_
              rotate_left
              · intro w'
                go_simp
                with_reducible rfl
              rotate_left
              · simp only [Act.put, List.setIfInBounds_toArray, List.set_cons_zero, List.set_cons_succ, i64_w, i32_w]
                rfl
              refine pure_ (i := 3) (N := some 54) (v := ?_) (a' := ?_) #[true, false, true, true, false, false, false, false, false, false, false] rfl rfl (by kernel_rfl) (fun _ _ _ h => h) (Or.inl ⟨by rfl, ?_⟩) ?_ ?_
              rotate_left
              · intro w'
                go_simp
                with_reducible rfl
              rotate_left
              · simp only [Act.put, List.setIfInBounds_toArray, List.set_cons_zero, List.set_cons_succ, i64_w, i32_w]
                rfl
              refine pure_ (i := 4) (N := some 55) (v := ?_) (a' := ?_) #[true, false, true, true, true, false, false, false, false, false, false] rfl rfl (by kernel_rfl) (fun _ _ _ h => h) (Or.inl ⟨by rfl, ?_⟩) ?_ ?_
              rotate_left
              · intro w'
                go_simp
                with_reducible rfl
              rotate_left
              · simp only [Act.put, List.setIfInBounds_toArray, List.set_cons_zero, List.set_cons_succ, i64_w, i32_w]
                rfl
              refine take_ (i := 1) (N := some 52) (v := ?_) (a' := ?_) #[true, true, true, true, true, false, false, false, false, false, false] rfl rfl (by kernel_rfl) (fun _ _ _ h => h) (Or.inl ⟨by rfl, ?_⟩) hHeld ?_ ?_
              rotate_left
              · intro w' s0
                go_simp
                with_reducible rfl
              rotate_left
              · simp only [Act.put, List.setIfInBounds_toArray, List.set_cons_zero, List.set_cons_succ, i64_w, i32_w]
                rfl
              refine one_ (i := 5) (N := some 56) #[true, true, true, true, true, true, false, false, false, false, false] rfl rfl (by kernel_rfl) (by decide) (fun K hK => ?_)
              refine goesV_ Tryz.func191 (by kernel_rfl) rfl #[.int .i64 y, .slice (some ⟨B, 1, none⟩) 2 2] (by rfl) (by rfl) rfl rfl (by simp only [List.map_toArray, List.map_cons, List.map_nil]; rfl) ?_
              with_reducible refine (months_lt y ⟨B, 1, none⟩ 2 p q _ hCv b1 b2).mono ?_
              rintro e w3 ⟨rfl, hl3⟩
              refine ⟨_, rfl, ?_⟩
              refine hK.out _ _ (cell_lt hl3 hHeld) (fun hHeld => ?_)
              clear hK K
              refine norm_ (a' := ?_) ?_ ?_
              rotate_left
              · show Act.put _ (some 56) _ = _
                simp only [Act.put, List.setIfInBounds_toArray, List.set_cons_zero, List.set_cons_succ, i64_w, i32_w]
                rfl
              refine pure_ (i := 6) (N := some 50) (v := ?_) (a' := ?_) #[true, true, true, true, true, true, true, false, false, false, false] rfl rfl (by kernel_rfl) (fun _ _ _ h => h) (Or.inl ⟨by rfl, ?_⟩) ?_ ?_
              rotate_left
              · intro w'
                go_simp
                with_reducible rfl
              rotate_left
              · simp only [Act.put, List.setIfInBounds_toArray, List.set_cons_zero, List.set_cons_succ, i64_w, i32_w]
                rfl
              refine pure_ (i := 7) (N := some 57) (v := ?_) (a' := ?_) #[true, true, true, true, true, true, true, true, false, false, false] rfl rfl (by kernel_rfl) (fun _ _ _ h => h) (Or.inl ⟨by rfl, ?_⟩) ?_ ?_
              rotate_left
              · intro w'
                go_simp
                with_reducible rfl
              rotate_left
              · simp only [Act.put, List.setIfInBounds_toArray, List.set_cons_zero, List.set_cons_succ, i64_w, i32_w]
                rfl
              refine pure_ (i := 8) (N := some 58) (v := ?_) (a' := ?_) #[true, true, true, true, true, true, true, true, true, false, false] rfl rfl (by kernel_rfl) (fun _ _ _ h => h) (Or.inl ⟨by rfl, ?_⟩) ?_ ?_
              rotate_left
              · intro w'
                go_simp
                with_reducible rfl
              rotate_left
              · simp only [Act.put, List.setIfInBounds_toArray, List.set_cons_zero, List.set_cons_succ, i64_w, i32_w]
                rfl
              refine pure_ (i := 9) (N := some 10) (v := ?_) (a' := ?_) #[true, true, true, true, true, true, true, true, true, true, false] rfl rfl (by kernel_rfl) (fun _ _ _ h => h) (Or.inl ⟨by rfl, ?_⟩) ?_ ?_
              rotate_left
              · intro w'
                go_simp
                with_reducible rfl
              rotate_left
              · simp only [Act.put, List.setIfInBounds_toArray, List.set_cons_zero, List.set_cons_succ, i64_w, i32_w]
                rfl
              refine pure_ (i := 10) (N := some 11) (v := ?_) (a' := ?_) #[true, true, true, true, true, true, true, true, true, true, true] rfl rfl (by kernel_rfl) (fun _ _ _ h => h) (Or.inl ⟨by rfl, ?_⟩) ?_ ?_
              rotate_left
              · intro w'
                go_simp
                with_reducible rfl
              rotate_left
              · simp only [Act.put, List.setIfInBounds_toArray, List.set_cons_zero, List.set_cons_succ, i64_w, i32_w]
                rfl
              refine done_ (by kernel_rfl) ?_
              rw [HM.out] at *
              go_wp2_with fail
              go_ret2
              have hT := tail_at (by omega) HPP.out (by rw [HF.out]; exact HH.out)
              rw [HT.out, HF.out] at hT
              obtain ⟨rfl, rfl⟩ := Prod.mk.inj hT
              exact ⟨rfl, HLB.out.trans (HL1.out.trans (HL2.out.trans (HLR.out.trans (HLV.out.trans ((Lt.refl _).d1.trans hl3)))))⟩
            · have h0' : (m2 == 0) = false := beq_eq_false_iff_ne.2 h0
              have HH := Aside0.mk h0
              clear h0
              go_wp2_with fail
              rw [← hwv, ← hX]
              clear hwv v0' v1' s0 s1 hX
              refine start_ (n := 11) (S := fun w' => w'.cell? ⟨X, 1, none⟩ = some (.func (.func 191) #[] #[])) (ds := []) #[false, false, false, false, false, false, false, false, false, false, false] (by kernel_rfl) rfl rfl (v1) (fun hHeld => ?_)
              refine pure_ (i := 0) (N := some 51) (v := ?_) (a' := ?_) #[true, false, false, false, false, false, false, false, false, false, false] rfl rfl (by kernel_rfl) (fun _ _ _ h => h) (Or.inl ⟨by rfl, ?_⟩) ?_ ?_
              rotate_left
              · intro w'
                go_simp
                with_reducible rfl
              rotate_left
              · simp only [Act.put, List.setIfInBounds_toArray, List.set_cons_zero, List.set_cons_succ, i64_w, i32_w]
                rfl
              refine pure_ (i := 2) (N := some 53) (v := ?_) (a' := ?_) #[true, false, true, false, false, false, false, false, false, false, false] rfl rfl (by kernel_rfl) (fun _ _ _ h => h) (Or.inl ⟨by rfl, ?_⟩) ?_ ?_
              rotate_left
              · intro w'
                go_simp
                with_reducible rfl
              rotate_left
              · simp only [Act.put, List.setIfInBounds_toArray, List.set_cons_zero, List.set_cons_succ, i64_w, i32_w]
                rfl
              refine pure_ (i := 3) (N := some 54) (v := ?_) (a' := ?_) #[true, false, true, true, false, false, false, false, false, false, false] rfl rfl (by kernel_rfl) (fun _ _ _ h => h) (Or.inl ⟨by rfl, ?_⟩) ?_ ?_
              rotate_left
              · intro w'
                go_simp
                with_reducible rfl
              rotate_left
              · simp only [Act.put, List.setIfInBounds_toArray, List.set_cons_zero, List.set_cons_succ, i64_w, i32_w]
                rfl
              refine pure_ (i := 4) (N := some 55) (v := ?_) (a' := ?_) #[true, false, true, true, true, false, false, false, false, false, false] rfl rfl (by kernel_rfl) (fun _ _ _ h => h) (Or.inl ⟨by rfl, ?_⟩) ?_ ?_
              rotate_left
              · intro w'
                go_simp
                with_reducible rfl
              rotate_left
              · simp only [Act.put, List.setIfInBounds_toArray, List.set_cons_zero, List.set_cons_succ, i64_w, i32_w]
                rfl
              refine take_ (i := 1) (N := some 52) (v := ?_) (a' := ?_) #[true, true, true, true, true, false, false, false, false, false, false] rfl rfl (by kernel_rfl) (fun _ _ _ h => h) (Or.inl ⟨by rfl, ?_⟩) hHeld ?_ ?_
              rotate_left
              · intro w' s0
                go_simp
                with_reducible rfl
              rotate_left
              · simp only [Act.put, List.setIfInBounds_toArray, List.set_cons_zero, List.set_cons_succ, i64_w, i32_w]
                rfl
              refine one_ (i := 5) (N := some 56) #[true, true, true, true, true, true, false, false, false, false, false] rfl rfl (by kernel_rfl) (by decide) (fun K hK => ?_)
              refine goesV_ Tryz.func191 (by kernel_rfl) rfl #[.int .i64 y, .slice (some ⟨B, 1, none⟩) 2 2] (by rfl) (by rfl) rfl rfl (by simp only [List.map_toArray, List.map_cons, List.map_nil]; rfl) ?_
              with_reducible refine (months_lt y ⟨B, 1, none⟩ 2 p q _ hCv b1 b2).mono ?_
              rintro e w3 ⟨rfl, hl3⟩
              refine ⟨_, rfl, ?_⟩
              refine hK.out _ _ (cell_lt hl3 hHeld) (fun hHeld => ?_)
              clear hK K
              refine norm_ (a' := ?_) ?_ ?_
              rotate_left
              · show Act.put _ (some 56) _ = _
                simp only [Act.put, List.setIfInBounds_toArray, List.set_cons_zero, List.set_cons_succ, i64_w, i32_w]
                rfl
              refine pure_ (i := 6) (N := some 50) (v := ?_) (a' := ?_) #[true, true, true, true, true, true, true, false, false, false, false] rfl rfl (by kernel_rfl) (fun _ _ _ h => h) (Or.inl ⟨by rfl, ?_⟩) ?_ ?_
              rotate_left
              · intro w'
                go_simp
                with_reducible rfl
              rotate_left
              · simp only [Act.put, List.setIfInBounds_toArray, List.set_cons_zero, List.set_cons_succ, i64_w, i32_w]
                rfl
              refine pure_ (i := 7) (N := some 57) (v := ?_) (a' := ?_) #[true, true, true, true, true, true, true, true, false, false, false] rfl rfl (by kernel_rfl) (fun _ _ _ h => h) (Or.inl ⟨by rfl, ?_⟩) ?_ ?_
              rotate_left
              · intro w'
                go_simp
                with_reducible rfl
              rotate_left
              · simp only [Act.put, List.setIfInBounds_toArray, List.set_cons_zero, List.set_cons_succ, i64_w, i32_w]
                rfl
              refine pure_ (i := 8) (N := some 58) (v := ?_) (a' := ?_) #[true, true, true, true, true, true, true, true, true, false, false] rfl rfl (by kernel_rfl) (fun _ _ _ h => h) (Or.inl ⟨by rfl, ?_⟩) ?_ ?_
              rotate_left
              · intro w'
                go_simp
                with_reducible rfl
              rotate_left
              · simp only [Act.put, List.setIfInBounds_toArray, List.set_cons_zero, List.set_cons_succ, i64_w, i32_w]
                rfl
              refine pure_ (i := 9) (N := some 10) (v := ?_) (a' := ?_) #[true, true, true, true, true, true, true, true, true, true, false] rfl rfl (by kernel_rfl) (fun _ _ _ h => h) (Or.inl ⟨by rfl, ?_⟩) ?_ ?_
              rotate_left
              · intro w'
                go_simp
                with_reducible rfl
              rotate_left
              · simp only [Act.put, List.setIfInBounds_toArray, List.set_cons_zero, List.set_cons_succ, i64_w, i32_w]
                rfl
              refine pure_ (i := 10) (N := some 11) (v := ?_) (a' := ?_) #[true, true, true, true, true, true, true, true, true, true, true] rfl rfl (by kernel_rfl) (fun _ _ _ h => h) (Or.inl ⟨by rfl, ?_⟩) ?_ ?_
              rotate_left
              · intro w'
                go_simp
                with_reducible rfl
              rotate_left
              · simp only [Act.put, List.setIfInBounds_toArray, List.set_cons_zero, List.set_cons_succ, i64_w, i32_w]
                rfl
              refine done_ (by kernel_rfl) ?_
              rw [HM.out] at *
              go_wp2_with fail
              go_roundw
              case rel => exact ⟨1, by omega, by go_num, HLR.out.trans (HLV.out.trans ((Lt.refl _).d1.trans hl3)), next_p HPP.out (by rw [HF.out]; exact HH.out)⟩
              case measure => simp [intOf]
          · have hF : (shapeF y (x0 :: r) 0).2 ≠ 0 := by
              show (if r.length + 1 = 3 then _ else ((0 : Int), (30 : Int))).2 ≠ 0
              rw [if_neg (by have := HN.out; omega)]
              decide
            have HF := Aside0.mk hF
            have hne1 : ((N : Int) == 3) = false := beq_eq_false_iff_ne.2 (by omega)
            have hne2 : ¬ ((N : Int) = 3) := by omega
            clear hF
            go_wp2_with fail
            go_roundw
            case rel => exact ⟨1, by omega, by go_num, HLR.out.trans (lt_new _ _ _), next_p HPP.out HF.out⟩
            case measure => simp [intOf]
        · have s0 := cell_lt HLR.out (HSC.out 2 _ rfl)
          have s1 := cell_lt HLR.out (HSC.out 3 _ rfl)
          by_cases hN3 : N = 3
          · subst hN3
            have hrl : r.length = 2 := by have := HN.out; omega
            obtain ⟨p, q, rfl⟩ := len2 hrl
            clear hrl
            have hF : shapeF y (x0 :: [p, q]) 1 = weeksF y p q := rfl
            obtain ⟨wv, hwv⟩ : ∃ wv, wv = wr.alloc (.cells #[.int .i64 2, .func (.func 193) #[] #[]] 204) := ⟨_, rfl⟩
            have hlv : Lt wr wv := by rw [hwv]; exact lt_new _ _ _
            have v0' : (wr.alloc (.cells #[.int .i64 2, .func (.func 193) #[] #[]] 204)).cell? ⟨wr.heap.size, 0, none⟩ = some (.int .i64 2) := by rw [World.cell?_alloc_at _ _ _ _ rfl]; rfl
            have v1' : (wr.alloc (.cells #[.int .i64 2, .func (.func 193) #[] #[]] 204)).cell? ⟨wr.heap.size, 1, none⟩ = some (.func (.func 193) #[] #[]) := by rw [World.cell?_alloc_at _ _ _ _ rfl]; rfl
            have v1 := v1'
            rw [← hwv] at v1
            have b1 : wv.drew.cell? ⟨B, 1, none⟩ = some (.string p) := cell_lt (w' := wv) ((HL1.out.trans (HL2.out.trans (HLR.out.trans hlv)))) (HCE.out 1 (by simp))
            have b2 : wv.drew.cell? ⟨B, 1 + 1, none⟩ = some (.string q) := cell_lt (w' := wv) ((HL1.out.trans (HL2.out.trans (HLR.out.trans hlv)))) (HCE.out 2 (by simp))
            have hCv : Cal wv.drew := (HCB.out.l ((HL1.out.trans (HL2.out.trans (HLR.out.trans hlv))))).l (Lt.refl _).d1
            have HLV := Aside0.mk hlv
            obtain ⟨⟨m1, m2⟩, hm⟩ : ∃ z, weeksF y p q = z := ⟨_, rfl⟩
            rw [hm] at hF
            have HF := Aside0.mk hF
            have HM := Aside0.mk hm
            obtain ⟨X, hX⟩ : ∃ X, X = wr.heap.size := ⟨_, rfl⟩
            rw [← hX] at v1
            clear hF hlv hm
            by_cases h0 : m2 = 0
            · have h0' : (m2 == 0) = true := beq_iff_eq.2 h0
              have HH := Aside0.mk h0
              clear h0
              go_wp2_with fail
              rw [← hwv, ← hX]
              clear hwv v0' v1' s0 s1 hX
              refine start_ (n := 11) (S := fun w' => w'.cell? ⟨X, 1, none⟩ = some (.func (.func 193) #[] #[])) (ds := []) #[false, false, false, false, false, false, false, false, false, false, false] (by kernel_rfl) rfl rfl (v1) (fun hHeld => ?_)
              refine pure_ (i := 0) (N := some 51) (v := ?_) (a' := ?_) #[true, false, false, false, false, false, false, false, false, false, false] rfl rfl (by kernel_rfl) (fun _ _ _ h => h) (Or.inl ⟨by rfl, ?_⟩) ?_ ?_
              rotate_left
              · intro w'
                go_simp
                with_reducible rfl
              rotate_left
              · simp only [Act.put, List.setIfInBounds_toArray, List.set_cons_zero, List.set_cons_succ, i64_w, i32_w]
                rfl
              refine pure_ (i := 2) (N := some 53) (v := ?_) (a' := ?_) #[true, false, true, false, false, false, false, false, false, false, false] rfl rfl (by kernel_rfl) (fun _ _ _ h => h) (Or.inl ⟨by rfl, ?_⟩) ?_ ?_
              rotate_left
              · intro w'
                go_simp
                with_reducible rfl
              rotate_left
              · simp only [Act.put, List.setIfInBounds_toArray, List.set_cons_zero, List.set_cons_succ, i64_w, i32_w]
                rfl
              refine pure_ (i := 3) (N := some 54) (v := ?_) (a' := ?_) #[true, false, true, true, false, false, false, false, false, false, false] rfl rfl (by kernel_rfl) (fun _ _ _ h => h) (Or.inl ⟨by rfl, ?_⟩) ?_ ?_
              rotate_left
              · intro w'
                go_simp
                with_reducible rfl
              rotate_left
              · simp only [Act.put, List.setIfInBounds_toArray, List.set_cons_zero, List.set_cons_succ, i64_w, i32_w]
                rfl
              refine pure_ (i := 4) (N := some 55) (v := ?_) (a' := ?_) #[true, false, true, true, true, false, false, false, false, false, false] rfl rfl (by kernel_rfl) (fun _ _ _ h => h) (Or.inl ⟨by rfl, ?_⟩) ?_ ?_
              rotate_left
              · intro w'
                go_simp
                with_reducible rfl
              rotate_left
              · simp only [Act.put, List.setIfInBounds_toArray, List.set_cons_zero, List.set_cons_succ, i64_w, i32_w]
                rfl
              refine take_ (i := 1) (N := some 52) (v := ?_) (a' := ?_) #[true, true, true, true, true, false, false, false, false, false, false] rfl rfl (by kernel_rfl) (fun _ _ _ h => h) (Or.inl ⟨by rfl, ?_⟩) hHeld ?_ ?_
              rotate_left
              · intro w' s0
                go_simp
                with_reducible rfl
              rotate_left
              · simp only [Act.put, List.setIfInBounds_toArray, List.set_cons_zero, List.set_cons_succ, i64_w, i32_w]
                rfl
              refine one_ (i := 5) (N := some 56) #[true, true, true, true, true, true, false, false, false, false, false] rfl rfl (by kernel_rfl) (by decide) (fun K hK => ?_)
              refine goesV_ Tryz.func193 (by kernel_rfl) rfl #[.int .i64 y, .slice (some ⟨B, 1, none⟩) 2 2] (by rfl) (by rfl) rfl rfl (by simp only [List.map_toArray, List.map_cons, List.map_nil]; rfl) ?_
              with_reducible refine (weeks_lt y ⟨B, 1, none⟩ 2 p q _ hCv b1 b2).mono ?_
              rintro e w3 ⟨rfl, hl3⟩
              refine ⟨_, rfl, ?_⟩
              refine hK.out _ _ (cell_lt hl3 hHeld) (fun hHeld => ?_)
              clear hK K
              refine norm_ (a' := ?_) ?_ ?_
              rotate_left
              · show Act.put _ (some 56) _ = _
                simp only [Act.put, List.setIfInBounds_toArray, List.set_cons_zero, List.set_cons_succ, i64_w, i32_w]
                rfl
              refine pure_ (i := 6) (N := some 50) (v := ?_) (a' := ?_) #[true, true, true, true, true, true, true, false, false, false, false] rfl rfl (by kernel_rfl) (fun _ _ _ h => h) (Or.inl ⟨by rfl, ?_⟩) ?_ ?_
              rotate_left
              · intro w'
                go_simp
                with_reducible rfl
              rotate_left
              · simp only [Act.put, List.setIfInBounds_toArray, List.set_cons_zero, List.set_cons_succ, i64_w, i32_w]
                rfl
              refine pure_ (i := 7) (N := some 57) (v := ?_) (a' := ?_) #[true, true, true, true, true, true, true, true, false, false, false] rfl rfl (by kernel_rfl) (fun _ _ _ h => h) (Or.inl ⟨by rfl, ?_⟩) ?_ ?_
              rotate_left
              · intro w'
                go_simp
                with_reducible rfl
              rotate_left
              · simp only [Act.put, List.setIfInBounds_toArray, List.set_cons_zero, List.set_cons_succ, i64_w, i32_w]
                rfl
              refine pure_ (i := 8) (N := some 58) (v := ?_) (a' := ?_) #[true, true, true, true, true, true, true, true, true, false, false] rfl rfl (by kernel_rfl) (fun _ _ _ h => h) (Or.inl ⟨by rfl, ?_⟩) ?_ ?_
              rotate_left
              · intro w'
                go_simp
                with_reducible rfl
              rotate_left
              · simp only [Act.put, List.setIfInBounds_toArray, List.set_cons_zero, List.set_cons_succ, i64_w, i32_w]
                rfl
              refine pure_ (i := 9) (N := some 10) (v := ?_) (a' := ?_) #[true, true, true, true, true, true, true, true, true, true, false] rfl rfl (by kernel_rfl) (fun _ _ _ h => h) (Or.inl ⟨by rfl, ?_⟩) ?_ ?_
              rotate_left
              · intro w'
                go_simp
                with_reducible rfl
              rotate_left
              · simp only [Act.put, List.setIfInBounds_toArray, List.set_cons_zero, List.set_cons_succ, i64_w, i32_w]
                rfl
              refine pure_ (i := 10) (N := some 11) (v := ?_) (a' := ?_) #[true, true, true, true, true, true, true, true, true, true, true] rfl rfl (by kernel_rfl) (fun _ _ _ h => h) (Or.inl ⟨by rfl, ?_⟩) ?_ ?_
              rotate_left
              · intro w'
                go_simp
                with_reducible rfl
              rotate_left
              · simp only [Act.put, List.setIfInBounds_toArray, List.set_cons_zero, List.set_cons_succ, i64_w, i32_w]
                rfl
              refine done_ (by kernel_rfl) ?_
              rw [HM.out] at *
              go_wp2_with fail
              go_ret2
              have hT := tail_at (by omega) HPP.out (by rw [HF.out]; exact HH.out)
              rw [HT.out, HF.out] at hT
              obtain ⟨rfl, rfl⟩ := Prod.mk.inj hT
              exact ⟨rfl, HLB.out.trans (HL1.out.trans (HL2.out.trans (HLR.out.trans (HLV.out.trans ((Lt.refl _).d1.trans hl3)))))⟩
            · have h0' : (m2 == 0) = false := beq_eq_false_iff_ne.2 h0
              have HH := Aside0.mk h0
              clear h0
              go_wp2_with fail
              rw [← hwv, ← hX]
              clear hwv v0' v1' s0 s1 hX
              refine start_ (n := 11) (S := fun w' => w'.cell? ⟨X, 1, none⟩ = some (.func (.func 193) #[] #[])) (ds := []) #[false, false, false, false, false, false, false, false, false, false, false] (by kernel_rfl) rfl rfl (v1) (fun hHeld => ?_)
              refine pure_ (i := 0) (N := some 51) (v := ?_) (a' := ?_) #[true, false, false, false, false, false, false, false, false, false, false] rfl rfl (by kernel_rfl) (fun _ _ _ h => h) (Or.inl ⟨by rfl, ?_⟩) ?_ ?_
              rotate_left
              · intro w'
                go_simp
                with_reducible rfl
              rotate_left
              · simp only [Act.put, List.setIfInBounds_toArray, List.set_cons_zero, List.set_cons_succ, i64_w, i32_w]
                rfl
              refine pure_ (i := 2) (N := some 53) (v := ?_) (a' := ?_) #[true, false, true, false, false, false, false, false, false, false, false] rfl rfl (by kernel_rfl) (fun _ _ _ h => h) (Or.inl ⟨by rfl, ?_⟩) ?_ ?_
              rotate_left
              · intro w'
                go_simp
                with_reducible rfl
              rotate_left
              · simp only [Act.put, List.setIfInBounds_toArray, List.set_cons_zero, List.set_cons_succ, i64_w, i32_w]
                rfl
              refine pure_ (i := 3) (N := some 54) (v := ?_) (a' := ?_) #[true, false, true, true, false, false, false, false, false, false, false] rfl rfl (by kernel_rfl) (fun _ _ _ h => h) (Or.inl ⟨by rfl, ?_⟩) ?_ ?_
              rotate_left
              · intro w'
                go_simp
                with_reducible rfl
              rotate_left
              · simp only [Act.put, List.setIfInBounds_toArray, List.set_cons_zero, List.set_cons_succ, i64_w, i32_w]
                rfl
              refine pure_ (i := 4) (N := some 55) (v := ?_) (a' := ?_) #[true, false, true, true, true, false, false, false, false, false, false] rfl rfl (by kernel_rfl) (fun _ _ _ h => h) (Or.inl ⟨by rfl, ?_⟩) ?_ ?_
              rotate_left
              · intro w'
                go_simp
                with_reducible rfl
              rotate_left
              · simp only [Act.put, List.setIfInBounds_toArray, List.set_cons_zero, List.set_cons_succ, i64_w, i32_w]
                rfl
              refine take_ (i := 1) (N := some 52) (v := ?_) (a' := ?_) #[true, true, true, true, true, false, false, false, false, false, false] rfl rfl (by kernel_rfl) (fun _ _ _ h => h) (Or.inl ⟨by rfl, ?_⟩) hHeld ?_ ?_
              rotate_left
              · intro w' s0
                go_simp
                with_reducible rfl
              rotate_left
              · simp only [Act.put, List.setIfInBounds_toArray, List.set_cons_zero, List.set_cons_succ, i64_w, i32_w]
                rfl
              refine one_ (i := 5) (N := some 56) #[true, true, true, true, true, true, false, false, false, false, false] rfl rfl (by kernel_rfl) (by decide) (fun K hK => ?_)
              refine goesV_ Tryz.func193 (by kernel_rfl) rfl #[.int .i64 y, .slice (some ⟨B, 1, none⟩) 2 2] (by rfl) (by rfl) rfl rfl (by simp only [List.map_toArray, List.map_cons, List.map_nil]; rfl) ?_
              with_reducible refine (weeks_lt y ⟨B, 1, none⟩ 2 p q _ hCv b1 b2).mono ?_
              rintro e w3 ⟨rfl, hl3⟩
              refine ⟨_, rfl, ?_⟩
              refine hK.out _ _ (cell_lt hl3 hHeld) (fun hHeld => ?_)
              clear hK K
              refine norm_ (a' := ?_) ?_ ?_
              rotate_left
              · show Act.put _ (some 56) _ = _
                simp only [Act.put, List.setIfInBounds_toArray, List.set_cons_zero, List.set_cons_succ, i64_w, i32_w]
                rfl
              refine pure_ (i := 6) (N := some 50) (v := ?_) (a' := ?_) #[true, true, true, true, true, true, true, false, false, false, false] rfl rfl (by kernel_rfl) (fun _ _ _ h => h) (Or.inl ⟨by rfl, ?_⟩) ?_ ?_
              rotate_left
              · intro w'
                go_simp
                with_reducible rfl
              rotate_left
              · simp only [Act.put, List.setIfInBounds_toArray, List.set_cons_zero, List.set_cons_succ, i64_w, i32_w]
                rfl
              refine pure_ (i := 7) (N := some 57) (v := ?_) (a' := ?_) #[true, true, true, true, true, true, true, true, false, false, false] rfl rfl (by kernel_rfl) (fun _ _ _ h => h) (Or.inl ⟨by rfl, ?_⟩) ?_ ?_
              rotate_left
              · intro w'
                go_simp
                with_reducible rfl
              rotate_left
              · simp only [Act.put, List.setIfInBounds_toArray, List.set_cons_zero, List.set_cons_succ, i64_w, i32_w]
                rfl
              refine pure_ (i := 8) (N := some 58) (v := ?_) (a' := ?_) #[true, true, true, true, true, true, true, true, true, false, false] rfl rfl (by kernel_rfl) (fun _ _ _ h => h) (Or.inl ⟨by rfl, ?_⟩) ?_ ?_
              rotate_left
              · intro w'
                go_simp
                with_reducible rfl
              rotate_left
              · simp only [Act.put, List.setIfInBounds_toArray, List.set_cons_zero, List.set_cons_succ, i64_w, i32_w]
                rfl
              refine pure_ (i := 9) (N := some 10) (v := ?_) (a' := ?_) #[true, true, true, true, true, true, true, true, true, true, false] rfl rfl (by kernel_rfl) (fun _ _ _ h => h) (Or.inl ⟨by rfl, ?_⟩) ?_ ?_
              rotate_left
              · intro w'
                go_simp
                with_reducible rfl
              rotate_left
              · simp only [Act.put, List.setIfInBounds_toArray, List.set_cons_zero, List.set_cons_succ, i64_w, i32_w]
                rfl
              refine pure_ (i := 10) (N := some 11) (v := ?_) (a' := ?_) #[true, true, true, true, true, true, true, true, true, true, true] rfl rfl (by kernel_rfl) (fun _ _ _ h => h) (Or.inl ⟨by rfl, ?_⟩) ?_ ?_
              rotate_left
              · intro w'
                go_simp
                with_reducible rfl
              rotate_left
              · simp only [Act.put, List.setIfInBounds_toArray, List.set_cons_zero, List.set_cons_succ, i64_w, i32_w]
                rfl
              refine done_ (by kernel_rfl) ?_
              rw [HM.out] at *
              go_wp2_with fail
              go_roundw
              case rel => exact ⟨2, by omega, by go_num, HLR.out.trans (HLV.out.trans ((Lt.refl _).d1.trans hl3)), next_p HPP.out (by rw [HF.out]; exact HH.out)⟩
              case measure => simp [intOf]
          · have hF : (shapeF y (x0 :: r) 1).2 ≠ 0 := by
              show (if r.length + 1 = 3 then _ else ((0 : Int), (30 : Int))).2 ≠ 0
              rw [if_neg (by have := HN.out; omega)]
              decide
            have HF := Aside0.mk hF
            have hne1 : ((N : Int) == 3) = false := beq_eq_false_iff_ne.2 (by omega)
            have hne2 : ¬ ((N : Int) = 3) := by omega
            clear hF
            go_wp2_with fail
            go_roundw
            case rel => exact ⟨2, by omega, by go_num, HLR.out.trans (lt_new _ _ _), next_p HPP.out HF.out⟩
            case measure => simp [intOf]
        · have s0 := cell_lt HLR.out (HSC.out 4 _ rfl)
          have s1 := cell_lt HLR.out (HSC.out 5 _ rfl)
          by_cases hN3 : N = 2
          · subst hN3
            have hrl : r.length = 1 := by have := HN.out; omega
            obtain ⟨p, rfl⟩ := List.length_eq_one_iff.1 hrl
            clear hrl
            have hF : shapeF y (x0 :: [p]) 2 = daysOfF y p := rfl
            obtain ⟨wv, hwv⟩ : ∃ wv, wv = wr.alloc (.cells #[.int .i64 1, .func (.func 195) #[] #[]] 204) := ⟨_, rfl⟩
            have hlv : Lt wr wv := by rw [hwv]; exact lt_new _ _ _
            have v0' : (wr.alloc (.cells #[.int .i64 1, .func (.func 195) #[] #[]] 204)).cell? ⟨wr.heap.size, 0, none⟩ = some (.int .i64 1) := by rw [World.cell?_alloc_at _ _ _ _ rfl]; rfl
            have v1' : (wr.alloc (.cells #[.int .i64 1, .func (.func 195) #[] #[]] 204)).cell? ⟨wr.heap.size, 1, none⟩ = some (.func (.func 195) #[] #[]) := by rw [World.cell?_alloc_at _ _ _ _ rfl]; rfl
            have v1 := v1'
            rw [← hwv] at v1
            have b1 : wv.drew.cell? ⟨B, 1, none⟩ = some (.string p) := cell_lt (w' := wv) ((HL1.out.trans (HL2.out.trans (HLR.out.trans hlv)))) (HCE.out 1 (by simp))
            have hCv : Cal wv.drew := (HCB.out.l ((HL1.out.trans (HL2.out.trans (HLR.out.trans hlv))))).l (Lt.refl _).d1
            have HLV := Aside0.mk hlv
            obtain ⟨⟨m1, m2⟩, hm⟩ : ∃ z, daysOfF y p = z := ⟨_, rfl⟩
            rw [hm] at hF
            have HF := Aside0.mk hF
            have HM := Aside0.mk hm
            obtain ⟨X, hX⟩ : ∃ X, X = wr.heap.size := ⟨_, rfl⟩
            rw [← hX] at v1
            clear hF hlv hm
            by_cases h0 : m2 = 0
            · have h0' : (m2 == 0) = true := beq_iff_eq.2 h0
              have HH := Aside0.mk h0
              clear h0
              go_wp2_with fail
              rw [← hwv, ← hX]
              clear hwv v0' v1' s0 s1 hX
              refine start_ (n := 11) (S := fun w' => w'.cell? ⟨X, 1, none⟩ = some (.func (.func 195) #[] #[])) (ds := []) #[false, false, false, false, false, false, false, false, false, false, false] (by kernel_rfl) rfl rfl (v1) (fun hHeld => ?_)
              refine pure_ (i := 0) (N := some 51) (v := ?_) (a' := ?_) #[true, false, false, false, false, false, false, false, false, false, false] rfl rfl (by kernel_rfl) (fun _ _ _ h => h) (Or.inl ⟨by rfl, ?_⟩) ?_ ?_
              rotate_left
              · intro w'
                go_simp
                with_reducible rfl
              rotate_left
              · simp only [Act.put, List.setIfInBounds_toArray, List.set_cons_zero, List.set_cons_succ, i64_w, i32_w]
                rfl
              refine pure_ (i := 2) (N := some 53) (v := ?_) (a' := ?_) #[true, false, true, false, false, false, false, false, false, false, false] rfl rfl (by kernel_rfl) (fun _ _ _ h => h) (Or.inl ⟨by rfl, ?_⟩) ?_ ?_
              rotate_left
              · intro w'
                go_simp
                with_reducible rfl
              rotate_left
              · simp only [Act.put, List.setIfInBounds_toArray, List.set_cons_zero, List.set_cons_succ, i64_w, i32_w]
                rfl
              refine pure_ (i := 3) (N := some 54) (v := ?_) (a' := ?_) #[true, false, true, true, false, false, false, false, false, false, false] rfl rfl (by kernel_rfl) (fun _ _ _ h => h) (Or.inl ⟨by rfl, ?_⟩) ?_ ?_
              rotate_left
              · intro w'
                go_simp
                with_reducible rfl
              rotate_left
              · simp only [Act.put, List.setIfInBounds_toArray, List.set_cons_zero, List.set_cons_succ, i64_w, i32_w]
                rfl
              refine pure_ (i := 4) (N := some 55) (v := ?_) (a' := ?_) #[true, false, true, true, true, false, false, false, false, false, false] rfl rfl (by kernel_rfl) (fun _ _ _ h => h) (Or.inl ⟨by rfl, ?_⟩) ?_ ?_
              rotate_left
              · intro w'
                go_simp
                with_reducible rfl
              rotate_left
              · simp only [Act.put, List.setIfInBounds_toArray, List.set_cons_zero, List.set_cons_succ, i64_w, i32_w]
                rfl
              refine take_ (i := 1) (N := some 52) (v := ?_) (a' := ?_) #[true, true, true, true, true, false, false, false, false, false, false] rfl rfl (by kernel_rfl) (fun _ _ _ h => h) (Or.inl ⟨by rfl, ?_⟩) hHeld ?_ ?_
              rotate_left
              · intro w' s0
                go_simp
                with_reducible rfl
              rotate_left
              · simp only [Act.put, List.setIfInBounds_toArray, List.set_cons_zero, List.set_cons_succ, i64_w, i32_w]
                rfl
              refine one_ (i := 5) (N := some 56) #[true, true, true, true, true, true, false, false, false, false, false] rfl rfl (by kernel_rfl) (by decide) (fun K hK => ?_)
              refine goesV_ Tryz.func195 (by kernel_rfl) rfl #[.int .i64 y, .slice (some ⟨B, 1, none⟩) 1 1] (by rfl) (by rfl) rfl rfl (by simp only [List.map_toArray, List.map_cons, List.map_nil]; rfl) ?_
              with_reducible refine (daysOf_lt y ⟨B, 1, none⟩ 1 p _ hCv b1).mono ?_
              rintro e w3 ⟨rfl, hl3⟩
              refine ⟨_, rfl, ?_⟩
              refine hK.out _ _ (cell_lt hl3 hHeld) (fun hHeld => ?_)
              clear hK K
              refine norm_ (a' := ?_) ?_ ?_
              rotate_left
              · show Act.put _ (some 56) _ = _
                simp only [Act.put, List.setIfInBounds_toArray, List.set_cons_zero, List.set_cons_succ, i64_w, i32_w]
                rfl
              refine pure_ (i := 6) (N := some 50) (v := ?_) (a' := ?_) #[true, true, true, true, true, true, true, false, false, false, false] rfl rfl (by kernel_rfl) (fun _ _ _ h => h) (Or.inl ⟨by rfl, ?_⟩) ?_ ?_
              rotate_left
              · intro w'
                go_simp
                with_reducible rfl
              rotate_left
              · simp only [Act.put, List.setIfInBounds_toArray, List.set_cons_zero, List.set_cons_succ, i64_w, i32_w]
                rfl
              refine pure_ (i := 7) (N := some 57) (v := ?_) (a' := ?_) #[true, true, true, true, true, true, true, true, false, false, false] rfl rfl (by kernel_rfl) (fun _ _ _ h => h) (Or.inl ⟨by rfl, ?_⟩) ?_ ?_
              rotate_left
              · intro w'
                go_simp
                with_reducible rfl
              rotate_left
              · simp only [Act.put, List.setIfInBounds_toArray, List.set_cons_zero, List.set_cons_succ, i64_w, i32_w]
                rfl
              refine pure_ (i := 8) (N := some 58) (v := ?_) (a' := ?_) #[true, true, true, true, true, true, true, true, true, false, false] rfl rfl (by kernel_rfl) (fun _ _ _ h => h) (Or.inl ⟨by rfl, ?_⟩) ?_ ?_
              rotate_left
              · intro w'
                go_simp
                with_reducible rfl
              rotate_left
              · simp only [Act.put, List.setIfInBounds_toArray, List.set_cons_zero, List.set_cons_succ, i64_w, i32_w]
                rfl
              refine pure_ (i := 9) (N := some 10) (v := ?_) (a' := ?_) #[true, true, true, true, true, true, true, true, true, true, false] rfl rfl (by kernel_rfl) (fun _ _ _ h => h) (Or.inl ⟨by rfl, ?_⟩) ?_ ?_
              rotate_left
              · intro w'
                go_simp
                with_reducible rfl
              rotate_left
              · simp only [Act.put, List.setIfInBounds_toArray, List.set_cons_zero, List.set_cons_succ, i64_w, i32_w]
                rfl
              refine pure_ (i := 10) (N := some 11) (v := ?_) (a' := ?_) #[true, true, true, true, true, true, true, true, true, true, true] rfl rfl (by kernel_rfl) (fun _ _ _ h => h) (Or.inl ⟨by rfl, ?_⟩) ?_ ?_
              rotate_left
              · intro w'
                go_simp
                with_reducible rfl
              rotate_left
              · simp only [Act.put, List.setIfInBounds_toArray, List.set_cons_zero, List.set_cons_succ, i64_w, i32_w]
                rfl
              refine done_ (by kernel_rfl) ?_
              rw [HM.out] at *
              go_wp2_with fail
              go_ret2
              have hT := tail_at (by omega) HPP.out (by rw [HF.out]; exact HH.out)
              rw [HT.out, HF.out] at hT
              obtain ⟨rfl, rfl⟩ := Prod.mk.inj hT
              exact ⟨rfl, HLB.out.trans (HL1.out.trans (HL2.out.trans (HLR.out.trans (HLV.out.trans ((Lt.refl _).d1.trans hl3)))))⟩
            · have h0' : (m2 == 0) = false := beq_eq_false_iff_ne.2 h0
              have HH := Aside0.mk h0
              clear h0
              go_wp2_with fail
              rw [← hwv, ← hX]
              clear hwv v0' v1' s0 s1 hX
              refine start_ (n := 11) (S := fun w' => w'.cell? ⟨X, 1, none⟩ = some (.func (.func 195) #[] #[])) (ds := []) #[false, false, false, false, false, false, false, false, false, false, false] (by kernel_rfl) rfl rfl (v1) (fun hHeld => ?_)
              refine pure_ (i := 0) (N := some 51) (v := ?_) (a' := ?_) #[true, false, false, false, false, false, false, false, false, false, false] rfl rfl (by kernel_rfl) (fun _ _ _ h => h) (Or.inl ⟨by rfl, ?_⟩) ?_ ?_
              rotate_left
              · intro w'
                go_simp
                with_reducible rfl
              rotate_left
              · simp only [Act.put, List.setIfInBounds_toArray, List.set_cons_zero, List.set_cons_succ, i64_w, i32_w]
                rfl
              refine pure_ (i := 2) (N := some 53) (v := ?_) (a' := ?_) #[true, false, true, false, false, false, false, false, false, false, false] rfl rfl (by kernel_rfl) (fun _ _ _ h => h) (Or.inl ⟨by rfl, ?_⟩) ?_ ?_
              rotate_left
              · intro w'
                go_simp
                with_reducible rfl
              rotate_left
              · simp only [Act.put, List.setIfInBounds_toArray, List.set_cons_zero, List.set_cons_succ, i64_w, i32_w]
                rfl
              refine pure_ (i := 3) (N := some 54) (v := ?_) (a' := ?_) #[true, false, true, true, false, false, false, false, false, false, false] rfl rfl (by kernel_rfl) (fun _ _ _ h => h) (Or.inl ⟨by rfl, ?_⟩) ?_ ?_
              rotate_left
              · intro w'
                go_simp
                with_reducible rfl
              rotate_left
              · simp only [Act.put, List.setIfInBounds_toArray, List.set_cons_zero, List.set_cons_succ, i64_w, i32_w]
                rfl
              refine pure_ (i := 4) (N := some 55) (v := ?_) (a' := ?_) #[true, false, true, true, true, false, false, false, false, false, false] rfl rfl (by kernel_rfl) (fun _ _ _ h => h) (Or.inl ⟨by rfl, ?_⟩) ?_ ?_
              rotate_left
              · intro w'
                go_simp
                with_reducible rfl
              rotate_left
              · simp only [Act.put, List.setIfInBounds_toArray, List.set_cons_zero, List.set_cons_succ, i64_w, i32_w]
                rfl
              refine take_ (i := 1) (N := some 52) (v := ?_) (a' := ?_) #[true, true, true, true, true, false, false, false, false, false, false] rfl rfl (by kernel_rfl) (fun _ _ _ h => h) (Or.inl ⟨by rfl, ?_⟩) hHeld ?_ ?_
              rotate_left
              · intro w' s0
                go_simp
                with_reducible rfl
              rotate_left
              · simp only [Act.put, List.setIfInBounds_toArray, List.set_cons_zero, List.set_cons_succ, i64_w, i32_w]
                rfl
              refine one_ (i := 5) (N := some 56) #[true, true, true, true, true, true, false, false, false, false, false] rfl rfl (by kernel_rfl) (by decide) (fun K hK => ?_)
              refine goesV_ Tryz.func195 (by kernel_rfl) rfl #[.int .i64 y, .slice (some ⟨B, 1, none⟩) 1 1] (by rfl) (by rfl) rfl rfl (by simp only [List.map_toArray, List.map_cons, List.map_nil]; rfl) ?_
              with_reducible refine (daysOf_lt y ⟨B, 1, none⟩ 1 p _ hCv b1).mono ?_
              rintro e w3 ⟨rfl, hl3⟩
              refine ⟨_, rfl, ?_⟩
              refine hK.out _ _ (cell_lt hl3 hHeld) (fun hHeld => ?_)
              clear hK K
              refine norm_ (a' := ?_) ?_ ?_
              rotate_left
              · show Act.put _ (some 56) _ = _
                simp only [Act.put, List.setIfInBounds_toArray, List.set_cons_zero, List.set_cons_succ, i64_w, i32_w]
                rfl
              refine pure_ (i := 6) (N := some 50) (v := ?_) (a' := ?_) #[true, true, true, true, true, true, true, false, false, false, false] rfl rfl (by kernel_rfl) (fun _ _ _ h => h) (Or.inl ⟨by rfl, ?_⟩) ?_ ?_
              rotate_left
              · intro w'
                go_simp
                with_reducible rfl
              rotate_left
              · simp only [Act.put, List.setIfInBounds_toArray, List.set_cons_zero, List.set_cons_succ, i64_w, i32_w]
                rfl
              refine pure_ (i := 7) (N := some 57) (v := ?_) (a' := ?_) #[true, true, true, true, true, true, true, true, false, false, false] rfl rfl (by kernel_rfl) (fun _ _ _ h => h) (Or.inl ⟨by rfl, ?_⟩) ?_ ?_
              rotate_left
              · intro w'
                go_simp
                with_reducible rfl
              rotate_left
              · simp only [Act.put, List.setIfInBounds_toArray, List.set_cons_zero, List.set_cons_succ, i64_w, i32_w]
                rfl
              refine pure_ (i := 8) (N := some 58) (v := ?_) (a' := ?_) #[true, true, true, true, true, true, true, true, true, false, false] rfl rfl (by kernel_rfl) (fun _ _ _ h => h) (Or.inl ⟨by rfl, ?_⟩) ?_ ?_
              rotate_left
              · intro w'
                go_simp
                with_reducible rfl
              rotate_left
              · simp only [Act.put, List.setIfInBounds_toArray, List.set_cons_zero, List.set_cons_succ, i64_w, i32_w]
                rfl
              refine pure_ (i := 9) (N := some 10) (v := ?_) (a' := ?_) #[true, true, true, true, true, true, true, true, true, true, false] rfl rfl (by kernel_rfl) (fun _ _ _ h => h) (Or.inl ⟨by rfl, ?_⟩) ?_ ?_
              rotate_left
              · intro w'
                go_simp
                with_reducible rfl
              rotate_left
              · simp only [Act.put, List.setIfInBounds_toArray, List.set_cons_zero, List.set_cons_succ, i64_w, i32_w]
                rfl
              refine pure_ (i := 10) (N := some 11) (v := ?_) (a' := ?_) #[true, true, true, true, true, true, true, true, true, true, true] rfl rfl (by kernel_rfl) (fun _ _ _ h => h) (Or.inl ⟨by rfl, ?_⟩) ?_ ?_
              rotate_left
              · intro w'
                go_simp
                with_reducible rfl
              rotate_left
              · simp only [Act.put, List.setIfInBounds_toArray, List.set_cons_zero, List.set_cons_succ, i64_w, i32_w]
                rfl
              refine done_ (by kernel_rfl) ?_
              rw [HM.out] at *
              go_wp2_with fail
              go_roundw
              case rel => exact ⟨3, by omega, by go_num, HLR.out.trans (HLV.out.trans ((Lt.refl _).d1.trans hl3)), next_p HPP.out (by rw [HF.out]; exact HH.out)⟩
              case measure => simp [intOf]
          · have hF : (shapeF y (x0 :: r) 2).2 ≠ 0 := by
              show (if r.length + 1 = 2 then _ else ((0 : Int), (30 : Int))).2 ≠ 0
              rw [if_neg (by have := HN.out; omega)]
              decide
            have HF := Aside0.mk hF
            have hne1 : ((N : Int) == 2) = false := beq_eq_false_iff_ne.2 (by omega)
            have hne2 : ¬ ((N : Int) = 2) := by omega
            clear hF
            go_wp2_with fail
            go_roundw
            case rel => exact ⟨3, by omega, by go_num, HLR.out.trans (lt_new _ _ _), next_p HPP.out HF.out⟩
            case measure => simp [intOf]
        · go_wp2_with fail
          go_ret2
          have hT := tail_none HPP.out
          rw [HT.out] at hT
          obtain ⟨rfl, rfl⟩ := Prod.mk.inj hT
          exact ⟨rfl, HLB.out.trans (HL1.out.trans (HL2.out.trans HLR.out))⟩
    · by_cases hn0 : n = 0
      · rw [if_pos (.inr ⟨rfl, hn0⟩)]
        have hn0' : (n == 0) = true := beq_iff_eq.2 hn0
        clear hn0
        go_enter Tryz.func129, Tryz.ntmps129
        go_wp2_with fail
        (with_reducible refine CP.out.mono ?_)
        rintro e w0 ⟨rfl, rfl⟩
        go_wp2_with fail
        (with_reducible refine CS.out.mono ?_)
        rintro e w0 ⟨rfl, rfl⟩
        go_wp2_with fail
        (with_reducible refine (N1.out _).mono ?_)
        rintro e w1 ⟨rfl, hl1⟩
        have HL1 := Aside0.mk hl1
        clear hl1
        go_wp2
        go_ret2
        exact ⟨rfl, HLB.out.trans HL1.out⟩
      · rw [if_neg (by simp [hn0]), if_pos rfl]
        have hn0' : (n == 0) = false := beq_eq_false_iff_ne.2 hn0
        have hneg : wrap64 (-n) = -n := w64 (by omega) (by omega)
        obtain ⟨y, hy1, hy2⟩ : ∃ y, wrap64 (-n) = y ∧ -n = y := ⟨_, hneg, rfl⟩
        rw [hy2]
        clear hneg hn0 hy2 b1
        obtain ⟨⟨T1, T2⟩, hT⟩ : ∃ q, tailF y (x0 :: r) = q := ⟨_, rfl⟩
        rw [hT]
        have HT := Aside0.mk hT
        clear hT
        go_enter Tryz.func129, Tryz.ntmps129
        go_wp2_with fail
        (with_reducible refine CP.out.mono ?_)
        rintro e w0 ⟨rfl, rfl⟩
        go_wp2_with fail
        (with_reducible refine CS.out.mono ?_)
        rintro e w0 ⟨rfl, rfl⟩
        go_wp2_with fail
        (with_reducible refine (N1.out _).mono ?_)
        rintro e w1 ⟨rfl, hl1⟩
        have HL1 := Aside0.mk hl1
        clear hl1
        go_wp2_with fail
        (with_reducible refine (shapes_calls _).mono ?_)
        rintro e w2 ⟨rfl, hw2⟩
        have sc : ∀ j v, (#[.int .i64 2, .func (.func 191) #[] #[], .int .i64 2, .func (.func 193) #[] #[], .int .i64 1, .func (.func 195) #[] #[]] : Array Value)[j]? = some v → w2.cell? ⟨w1.heap.size, j, none⟩ = some v := fun j v h => by
          rw [hw2, World.cell?_alloc_at _ _ _ _ rfl]
          exact h
        have hl2 : Lt w1 w2 := by rw [hw2]; exact (Lt.refl _).a _
        have HSC := Aside0.mk sc
        have HL2 := Aside0.mk hl2
        clear sc hl2 hw2
        generalize w1.heap.size = S0 at *
        go_wp2
        go_loopw [40] (fun i wr => ∃ k, k ≤ 3 ∧ i = .int .i64 (k : Nat) ∧ Lt w2 wr ∧ ∀ j, j < k → (shapeF y (x0 :: r) j).2 ≠ 0) (fun i _ => 3 - (intOf i).toNat)
        case atStart => exact ⟨0, Nat.zero_le _, rfl, Lt.refl _, fun j hj => by omega⟩
        case round =>
          obtain ⟨k, hk, rfl, hlr, hp⟩ := hrel
          have HLR := Aside0.mk hlr
          have HPP := Aside0.mk hp
          clear hlr hp
          rcases (show k = 0 ∨ k = 1 ∨ k = 2 ∨ k = 3 by omega) with rfl | rfl | rfl | rfl
          · have s0 := cell_lt HLR.out (HSC.out 0 _ rfl)
            have s1 := cell_lt HLR.out (HSC.out 1 _ rfl)
            by_cases hN3 : N = 3
            · subst hN3
              have hrl : r.length = 2 := by have := HN.out; omega
              obtain ⟨p, q, rfl⟩ := len2 hrl
              clear hrl
              have hF : shapeF y (x0 :: [p, q]) 0 = monthsF y p q := rfl
              obtain ⟨wv, hwv⟩ : ∃ wv, wv = wr.alloc (.cells #[.int .i64 2, .func (.func 191) #[] #[]] 204) := ⟨_, rfl⟩
              have hlv : Lt wr wv := by rw [hwv]; exact lt_new _ _ _
              have v0' : (wr.alloc (.cells #[.int .i64 2, .func (.func 191) #[] #[]] 204)).cell? ⟨wr.heap.size, 0, none⟩ = some (.int .i64 2) := by rw [World.cell?_alloc_at _ _ _ _ rfl]; rfl
              have v1' : (wr.alloc (.cells #[.int .i64 2, .func (.func 191) #[] #[]] 204)).cell? ⟨wr.heap.size, 1, none⟩ = some (.func (.func 191) #[] #[]) := by rw [World.cell?_alloc_at _ _ _ _ rfl]; rfl
              have v1 := v1'
              rw [← hwv] at v1
              have b1 : wv.drew.cell? ⟨B, 1, none⟩ = some (.string p) := cell_lt (w' := wv) ((HL1.out.trans (HL2.out.trans (HLR.out.trans hlv)))) (HCE.out 1 (by simp))
              have b2 : wv.drew.cell? ⟨B, 1 + 1, none⟩ = some (.string q) := cell_lt (w' := wv) ((HL1.out.trans (HL2.out.trans (HLR.out.trans hlv)))) (HCE.out 2 (by simp))
              have hCv : Cal wv.drew := (HCB.out.l ((HL1.out.trans (HL2.out.trans (HLR.out.trans hlv))))).l (Lt.refl _).d1
              have HLV := Aside0.mk hlv
              obtain ⟨⟨m1, m2⟩, hm⟩ : ∃ z, monthsF y p q = z := ⟨_, rfl⟩
              rw [hm] at hF
              have HF := Aside0.mk hF
              have HM := Aside0.mk hm
              obtain ⟨X, hX⟩ : ∃ X, X = wr.heap.size := ⟨_, rfl⟩
              rw [← hX] at v1
              clear hF hlv hm
              by_cases h0 : m2 = 0
              · have h0' : (m2 == 0) = true := beq_iff_eq.2 h0
                have HH := Aside0.mk h0
                clear h0
                go_wp2_with fail
                rw [← hwv, ← hX]
                clear hwv v0' v1' s0 s1 hX
                refine start_ (n := 11) (S := fun w' => w'.cell? ⟨X, 1, none⟩ = some (.func (.func 191) #[] #[])) (ds := []) #[false, false, false, false, false, false, false, false, false, false, false] (by kernel_rfl) rfl rfl (v1) (fun hHeld => ?_)
                refine pure_ (i := 0) (N := some 51) (v := ?_) (a' := ?_) #[true, false, false, false, false, false, false, false, false, false, false] rfl rfl (by kernel_rfl) (fun _ _ _ h => h) (Or.inl ⟨by rfl, ?_⟩) ?_ ?_
                rotate_left
                · intro w'
                  go_simp
                  with_reducible rfl
                rotate_left
                · simp only [Act.put, List.setIfInBounds_toArray, List.set_cons_zero, List.set_cons_succ, i64_w, i32_w]
                  rfl
                refine pure_ (i := 2) (N := some 53) (v := ?_) (a' := ?_) #[true, false, true, false, false, false, false, false, false, false, false] rfl rfl (by kernel_rfl) (fun _ _ _ h => h) (Or.inl ⟨by rfl, ?_⟩) ?_ ?_
                rotate_left
                · intro w'
                  go_simp
                  with_reducible rfl
                rotate_left
                · simp only [Act.put, List.setIfInBounds_toArray, List.set_cons_zero, List.set_cons_succ, i64_w, i32_w]
                  rfl
                refine pure_ (i := 3) (N := some 54) (v := ?_) (a' := ?_) #[true, false, true, true, false, false, false, false, false, false, false] rfl rfl (by kernel_rfl) (fun _ _ _ h => h) (Or.inl ⟨by rfl, ?_⟩) ?_ ?_
                rotate_left
                · intro w'
                  go_simp
                  with_reducible rfl
                rotate_left
                · simp only [Act.put, List.setIfInBounds_toArray, List.set_cons_zero, List.set_cons_succ, i64_w, i32_w]
                  rfl
                refine pure_ (i := 4) (N := some 55) (v := ?_) (a' := ?_) #[true, false, true, true, true, false, false, false, false, false, false] rfl rfl (by kernel_rfl) (fun _ _ _ h => h) (Or.inl ⟨by rfl, ?_⟩) ?_ ?_
                rotate_left
                · intro w'
                  go_simp
                  with_reducible rfl
                rotate_left
                · simp only [Act.put, List.setIfInBounds_toArray, List.set_cons_zero, List.set_cons_succ, i64_w, i32_w]
                  rfl
                refine take_ (i := 1) (N := some 52) (v := ?_) (a' := ?_) #[true, true, true, true, true, false, false, false, false, false, false] rfl rfl (by kernel_rfl) (fun _ _ _ h => h) (Or.inl ⟨by rfl, ?_⟩) hHeld ?_ ?_
                rotate_left
                · intro w' s0
                  go_simp
                  with_reducible rfl
                rotate_left
                · simp only [Act.put, List.setIfInBounds_toArray, List.set_cons_zero, List.set_cons_succ, i64_w, i32_w]
                  rfl
                refine one_ (i := 5) (N := some 56) #[true, true, true, true, true, true, false, false, false, false, false] rfl rfl (by kernel_rfl) (by decide) (fun K hK => ?_)
                refine goesV_ Tryz.func191 (by kernel_rfl) rfl #[.int .i64 y, .slice (some ⟨B, 1, none⟩) 2 2] (by rfl) (by rfl) rfl rfl (by simp only [List.map_toArray, List.map_cons, List.map_nil]; rfl) ?_
                with_reducible refine (months_lt y ⟨B, 1, none⟩ 2 p q _ hCv b1 b2).mono ?_
                rintro e w3 ⟨rfl, hl3⟩
                refine ⟨_, rfl, ?_⟩
                refine hK.out _ _ (cell_lt hl3 hHeld) (fun hHeld => ?_)
                clear hK K
                refine norm_ (a' := ?_) ?_ ?_
                rotate_left
                · show Act.put _ (some 56) _ = _
                  simp only [Act.put, List.setIfInBounds_toArray, List.set_cons_zero, List.set_cons_succ, i64_w, i32_w]
                  rfl
                refine pure_ (i := 6) (N := some 50) (v := ?_) (a' := ?_) #[true, true, true, true, true, true, true, false, false, false, false] rfl rfl (by kernel_rfl) (fun _ _ _ h => h) (Or.inl ⟨by rfl, ?_⟩) ?_ ?_
                rotate_left
                · intro w'
                  go_simp
                  with_reducible rfl
                rotate_left
                · simp only [Act.put, List.setIfInBounds_toArray, List.set_cons_zero, List.set_cons_succ, i64_w, i32_w]
                  rfl
                refine pure_ (i := 7) (N := some 57) (v := ?_) (a' := ?_) #[true, true, true, true, true, true, true, true, false, false, false] rfl rfl (by kernel_rfl) (fun _ _ _ h => h) (Or.inl ⟨by rfl, ?_⟩) ?_ ?_
                rotate_left
                · intro w'
                  go_simp
                  with_reducible rfl
                rotate_left
                · simp only [Act.put, List.setIfInBounds_toArray, List.set_cons_zero, List.set_cons_succ, i64_w, i32_w]
                  rfl
                refine pure_ (i := 8) (N := some 58) (v := ?_) (a' := ?_) #[true, true, true, true, true, true, true, true, true, false, false] rfl rfl (by kernel_rfl) (fun _ _ _ h => h) (Or.inl ⟨by rfl, ?_⟩) ?_ ?_
                rotate_left
                · intro w'
                  go_simp
                  with_reducible rfl
                rotate_left
                · simp only [Act.put, List.setIfInBounds_toArray, List.set_cons_zero, List.set_cons_succ, i64_w, i32_w]
                  rfl
                refine pure_ (i := 9) (N := some 10) (v := ?_) (a' := ?_) #[true, true, true, true, true, true, true, true, true, true, false] rfl rfl (by kernel_rfl) (fun _ _ _ h => h) (Or.inl ⟨by rfl, ?_⟩) ?_ ?_
                rotate_left
                · intro w'
                  go_simp
                  with_reducible rfl
                rotate_left
                · simp only [Act.put, List.setIfInBounds_toArray, List.set_cons_zero, List.set_cons_succ, i64_w, i32_w]
                  rfl
                refine pure_ (i := 10) (N := some 11) (v := ?_) (a' := ?_) #[true, true, true, true, true, true, true, true, true, true, true] rfl rfl (by kernel_rfl) (fun _ _ _ h => h) (Or.inl ⟨by rfl, ?_⟩) ?_ ?_
                rotate_left
                · intro w'
                  go_simp
                  with_reducible rfl
                rotate_left
                · simp only [Act.put, List.setIfInBounds_toArray, List.set_cons_zero, List.set_cons_succ, i64_w, i32_w]
                  rfl
                refine done_ (by kernel_rfl) ?_
                rw [HM.out] at *
                go_wp2_with fail
                go_ret2
                have hT := tail_at (by omega) HPP.out (by rw [HF.out]; exact HH.out)
                rw [HT.out, HF.out] at hT
                obtain ⟨rfl, rfl⟩ := Prod.mk.inj hT
                exact ⟨rfl, HLB.out.trans (HL1.out.trans (HL2.out.trans (HLR.out.trans (HLV.out.trans ((Lt.refl _).d1.trans hl3)))))⟩
              · have h0' : (m2 == 0) = false := beq_eq_false_iff_ne.2 h0
                have HH := Aside0.mk h0
                clear h0
                go_wp2_with fail
                rw [← hwv, ← hX]
                clear hwv v0' v1' s0 s1 hX
                refine start_ (n := 11) (S := fun w' => w'.cell? ⟨X, 1, none⟩ = some (.func (.func 191) #[] #[])) (ds := []) #[false, false, false, false, false, false, false, false, false, false, false] (by kernel_rfl) rfl rfl (v1) (fun hHeld => ?_)
                refine pure_ (i := 0) (N := some 51) (v := ?_) (a' := ?_) #[true, false, false, false, false, false, false, false, false, false, false] rfl rfl (by kernel_rfl) (fun _ _ _ h => h) (Or.inl ⟨by rfl, ?_⟩) ?_ ?_
                rotate_left
                · intro w'
                  go_simp
                  with_reducible rfl
                rotate_left
                · simp only [Act.put, List.setIfInBounds_toArray, List.set_cons_zero, List.set_cons_succ, i64_w, i32_w]
                  rfl
                refine pure_ (i := 2) (N := some 53) (v := ?_) (a' := ?_) #[true, false, true, false, false, false, false, false, false, false, false] rfl rfl (by kernel_rfl) (fun _ _ _ h => h) (Or.inl ⟨by rfl, ?_⟩) ?_ ?_
                rotate_left
                · intro w'
                  go_simp
                  with_reducible rfl
                rotate_left
                · simp only [Act.put, List.setIfInBounds_toArray, List.set_cons_zero, List.set_cons_succ, i64_w, i32_w]
                  rfl
                refine pure_ (i := 3) (N := some 54) (v := ?_) (a' := ?_) #[true, false, true, true, false, false, false, false, false, false, false] rfl rfl (by kernel_rfl) (fun _ _ _ h => h) (Or.inl ⟨by rfl, ?_⟩) ?_ ?_
                rotate_left
                · intro w'
                  go_simp
                  with_reducible rfl
                rotate_left
                · simp only [Act.put, List.setIfInBounds_toArray, List.set_cons_zero, List.set_cons_succ, i64_w, i32_w]
                  rfl
                refine pure_ (i := 4) (N := some 55) (v := ?_) (a' := ?_) #[true, false, true, true, true, false, false, false, false, false, false] rfl rfl (by kernel_rfl) (fun _ _ _ h => h) (Or.inl ⟨by rfl, ?_⟩) ?_ ?_
                rotate_left
                · intro w'
                  go_simp
                  with_reducible rfl
                rotate_left
                · simp only [Act.put, List.setIfInBounds_toArray, List.set_cons_zero, List.set_cons_succ, i64_w, i32_w]
                  rfl
                refine take_ (i := 1) (N := some 52) (v := ?_) (a' := ?_) #[true, true, true, true, true, false, false, false, false, false, false] rfl rfl (by kernel_rfl) (fun _ _ _ h => h) (Or.inl ⟨by rfl, ?_⟩) hHeld ?_ ?_
                rotate_left
                · intro w' s0
                  go_simp
                  with_reducible rfl
                rotate_left
                · simp only [Act.put, List.setIfInBounds_toArray, List.set_cons_zero, List.set_cons_succ, i64_w, i32_w]
                  rfl
                refine one_ (i := 5) (N := some 56) #[true, true, true, true, true, true, false, false, false, false, false] rfl rfl (by kernel_rfl) (by decide) (fun K hK => ?_)
                refine goesV_ Tryz.func191 (by kernel_rfl) rfl #[.int .i64 y, .slice (some ⟨B, 1, none⟩) 2 2] (by rfl) (by rfl) rfl rfl (by simp only [List.map_toArray, List.map_cons, List.map_nil]; rfl) ?_
                with_reducible refine (months_lt y ⟨B, 1, none⟩ 2 p q _ hCv b1 b2).mono ?_
                rintro e w3 ⟨rfl, hl3⟩
                refine ⟨_, rfl, ?_⟩
                refine hK.out _ _ (cell_lt hl3 hHeld) (fun hHeld => ?_)
                clear hK K
                refine norm_ (a' := ?_) ?_ ?_
                rotate_left
                · show Act.put _ (some 56) _ = _
                  simp only [Act.put, List.setIfInBounds_toArray, List.set_cons_zero, List.set_cons_succ, i64_w, i32_w]
                  rfl
                refine pure_ (i := 6) (N := some 50) (v := ?_) (a' := ?_) #[true, true, true, true, true, true, true, false, false, false, false] rfl rfl (by kernel_rfl) (fun _ _ _ h => h) (Or.inl ⟨by rfl, ?_⟩) ?_ ?_
                rotate_left
                · intro w'
                  go_simp
                  with_reducible rfl
                rotate_left
                · simp only [Act.put, List.setIfInBounds_toArray, List.set_cons_zero, List.set_cons_succ, i64_w, i32_w]
                  rfl
                refine pure_ (i := 7) (N := some 57) (v := ?_) (a' := ?_) #[true, true, true, true, true, true, true, true, false, false, false] rfl rfl (by kernel_rfl) (fun _ _ _ h => h) (Or.inl ⟨by rfl, ?_⟩) ?_ ?_
                rotate_left
                · intro w'
                  go_simp
                  with_reducible rfl
                rotate_left
                · simp only [Act.put, List.setIfInBounds_toArray, List.set_cons_zero, List.set_cons_succ, i64_w, i32_w]
                  rfl
                refine pure_ (i := 8) (N := some 58) (v := ?_) (a' := ?_) #[true, true, true, true, true, true, true, true, true, false, false] rfl rfl (by kernel_rfl) (fun _ _ _ h => h) (Or.inl ⟨by rfl, ?_⟩) ?_ ?_
                rotate_left
                · intro w'
                  go_simp
                  with_reducible rfl
                rotate_left
                · simp only [Act.put, List.setIfInBounds_toArray, List.set_cons_zero, List.set_cons_succ, i64_w, i32_w]
                  rfl
                refine pure_ (i := 9) (N := some 10) (v := ?_) (a' := ?_) #[true, true, true, true, true, true, true, true, true, true, false] rfl rfl (by kernel_rfl) (fun _ _ _ h => h) (Or.inl ⟨by rfl, ?_⟩) ?_ ?_
                rotate_left
                · intro w'
                  go_simp
                  with_reducible rfl
                rotate_left
                · simp only [Act.put, List.setIfInBounds_toArray, List.set_cons_zero, List.set_cons_succ, i64_w, i32_w]
                  rfl
                refine pure_ (i := 10) (N := some 11) (v := ?_) (a' := ?_) #[true, true, true, true, true, true, true, true, true, true, true] rfl rfl (by kernel_rfl) (fun _ _ _ h => h) (Or.inl ⟨by rfl, ?_⟩) ?_ ?_
                rotate_left
                · intro w'
                  go_simp
                  with_reducible rfl
                rotate_left
                · simp only [Act.put, List.setIfInBounds_toArray, List.set_cons_zero, List.set_cons_succ, i64_w, i32_w]
                  rfl
                refine done_ (by kernel_rfl) ?_
                rw [HM.out] at *
                go_wp2_with fail
                go_roundw
                case rel => exact ⟨1, by omega, by go_num, HLR.out.trans (HLV.out.trans ((Lt.refl _).d1.trans hl3)), next_p HPP.out (by rw [HF.out]; exact HH.out)⟩
                case measure => simp [intOf]
            · have hF : (shapeF y (x0 :: r) 0).2 ≠ 0 := by
                show (if r.length + 1 = 3 then _ else ((0 : Int), (30 : Int))).2 ≠ 0
                rw [if_neg (by have := HN.out; omega)]
                decide
              have HF := Aside0.mk hF
              have hne1 : ((N : Int) == 3) = false := beq_eq_false_iff_ne.2 (by omega)
              have hne2 : ¬ ((N : Int) = 3) := by omega
              clear hF
              go_wp2_with fail
              go_roundw
              case rel => exact ⟨1, by omega, by go_num, HLR.out.trans (lt_new _ _ _), next_p HPP.out HF.out⟩
              case measure => simp [intOf]
          · have s0 := cell_lt HLR.out (HSC.out 2 _ rfl)
            have s1 := cell_lt HLR.out (HSC.out 3 _ rfl)
            by_cases hN3 : N = 3
            · subst hN3
              have hrl : r.length = 2 := by have := HN.out; omega
              obtain ⟨p, q, rfl⟩ := len2 hrl
              clear hrl
              have hF : shapeF y (x0 :: [p, q]) 1 = weeksF y p q := rfl
              obtain ⟨wv, hwv⟩ : ∃ wv, wv = wr.alloc (.cells #[.int .i64 2, .func (.func 193) #[] #[]] 204) := ⟨_, rfl⟩
              have hlv : Lt wr wv := by rw [hwv]; exact lt_new _ _ _
              have v0' : (wr.alloc (.cells #[.int .i64 2, .func (.func 193) #[] #[]] 204)).cell? ⟨wr.heap.size, 0, none⟩ = some (.int .i64 2) := by rw [World.cell?_alloc_at _ _ _ _ rfl]; rfl
              have v1' : (wr.alloc (.cells #[.int .i64 2, .func (.func 193) #[] #[]] 204)).cell? ⟨wr.heap.size, 1, none⟩ = some (.func (.func 193) #[] #[]) := by rw [World.cell?_alloc_at _ _ _ _ rfl]; rfl
              have v1 := v1'
              rw [← hwv] at v1
              have b1 : wv.drew.cell? ⟨B, 1, none⟩ = some (.string p) := cell_lt (w' := wv) ((HL1.out.trans (HL2.out.trans (HLR.out.trans hlv)))) (HCE.out 1 (by simp))
              have b2 : wv.drew.cell? ⟨B, 1 + 1, none⟩ = some (.string q) := cell_lt (w' := wv) ((HL1.out.trans (HL2.out.trans (HLR.out.trans hlv)))) (HCE.out 2 (by simp))
              have hCv : Cal wv.drew := (HCB.out.l ((HL1.out.trans (HL2.out.trans (HLR.out.trans hlv))))).l (Lt.refl _).d1
              have HLV := Aside0.mk hlv
              obtain ⟨⟨m1, m2⟩, hm⟩ : ∃ z, weeksF y p q = z := ⟨_, rfl⟩
              rw [hm] at hF
              have HF := Aside0.mk hF
              have HM := Aside0.mk hm
              obtain ⟨X, hX⟩ : ∃ X, X = wr.heap.size := ⟨_, rfl⟩
              rw [← hX] at v1
              clear hF hlv hm
              by_cases h0 : m2 = 0
              · have h0' : (m2 == 0) = true := beq_iff_eq.2 h0
                have HH := Aside0.mk h0
                clear h0
                go_wp2_with fail
                rw [← hwv, ← hX]
                clear hwv v0' v1' s0 s1 hX
                refine start_ (n := 11) (S := fun w' => w'.cell? ⟨X, 1, none⟩ = some (.func (.func 193) #[] #[])) (ds := []) #[false, false, false, false, false, false, false, false, false, false, false] (by kernel_rfl) rfl rfl (v1) (fun hHeld => ?_)
                refine pure_ (i := 0) (N := some 51) (v := ?_) (a' := ?_) #[true, false, false, false, false, false, false, false, false, false, false] rfl rfl (by kernel_rfl) (fun _ _ _ h => h) (Or.inl ⟨by rfl, ?_⟩) ?_ ?_
                rotate_left
                · intro w'
                  go_simp
                  with_reducible rfl
                rotate_left
                · simp only [Act.put, List.setIfInBounds_toArray, List.set_cons_zero, List.set_cons_succ, i64_w, i32_w]
                  rfl
                refine pure_ (i := 2) (N := some 53) (v := ?_) (a' := ?_) #[true, false, true, false, false, false, false, false, false, false, false] rfl rfl (by kernel_rfl) (fun _ _ _ h => h) (Or.inl ⟨by rfl, ?_⟩) ?_ ?_
                rotate_left
                · intro w'
                  go_simp
                  with_reducible rfl
                rotate_left
                · simp only [Act.put, List.setIfInBounds_toArray, List.set_cons_zero, List.set_cons_succ, i64_w, i32_w]
                  rfl
                refine pure_ (i := 3) (N := some 54) (v := ?_) (a' := ?_) #[true, false, true, true, false, false, false, false, false, false, false] rfl rfl (by kernel_rfl) (fun _ _ _ h => h) (Or.inl ⟨by rfl, ?_⟩) ?_ ?_
                rotate_left
                · intro w'
                  go_simp
                  with_reducible rfl
                rotate_left
                · simp only [Act.put, List.setIfInBounds_toArray, List.set_cons_zero, List.set_cons_succ, i64_w, i32_w]
                  rfl
                refine pure_ (i := 4) (N := some 55) (v := ?_) (a' := ?_) #[true, false, true, true, true, false, false, false, false, false, false] rfl rfl (by kernel_rfl) (fun _ _ _ h => h) (Or.inl ⟨by rfl, ?_⟩) ?_ ?_
                rotate_left
                · intro w'
                  go_simp
                  with_reducible rfl
                rotate_left
                · simp only [Act.put, List.setIfInBounds_toArray, List.set_cons_zero, List.set_cons_succ, i64_w, i32_w]
                  rfl
                refine take_ (i := 1) (N := some 52) (v := ?_) (a' := ?_) #[true, true, true, true, true, false, false, false, false, false, false] rfl rfl (by kernel_rfl) (fun _ _ _ h => h) (Or.inl ⟨by rfl, ?_⟩) hHeld ?_ ?_
                rotate_left
                · intro w' s0
                  go_simp
                  with_reducible rfl
                rotate_left
                · simp only [Act.put, List.setIfInBounds_toArray, List.set_cons_zero, List.set_cons_succ, i64_w, i32_w]
                  rfl
                refine one_ (i := 5) (N := some 56) #[true, true, true, true, true, true, false, false, false, false, false] rfl rfl (by kernel_rfl) (by decide) (fun K hK => ?_)
                refine goesV_ Tryz.func193 (by kernel_rfl) rfl #[.int .i64 y, .slice (some ⟨B, 1, none⟩) 2 2] (by rfl) (by rfl) rfl rfl (by simp only [List.map_toArray, List.map_cons, List.map_nil]; rfl) ?_
                with_reducible refine (weeks_lt y ⟨B, 1, none⟩ 2 p q _ hCv b1 b2).mono ?_
                rintro e w3 ⟨rfl, hl3⟩
                refine ⟨_, rfl, ?_⟩
                refine hK.out _ _ (cell_lt hl3 hHeld) (fun hHeld => ?_)
                clear hK K
                refine norm_ (a' := ?_) ?_ ?_
                rotate_left
                · show Act.put _ (some 56) _ = _
                  simp only [Act.put, List.setIfInBounds_toArray, List.set_cons_zero, List.set_cons_succ, i64_w, i32_w]
                  rfl
                refine pure_ (i := 6) (N := some 50) (v := ?_) (a' := ?_) #[true, true, true, true, true, true, true, false, false, false, false] rfl rfl (by kernel_rfl) (fun _ _ _ h => h) (Or.inl ⟨by rfl, ?_⟩) ?_ ?_
                rotate_left
                · intro w'
                  go_simp
                  with_reducible rfl
                rotate_left
                · simp only [Act.put, List.setIfInBounds_toArray, List.set_cons_zero, List.set_cons_succ, i64_w, i32_w]
                  rfl
                refine pure_ (i := 7) (N := some 57) (v := ?_) (a' := ?_) #[true, true, true, true, true, true, true, true, false, false, false] rfl rfl (by kernel_rfl) (fun _ _ _ h => h) (Or.inl ⟨by rfl, ?_⟩) ?_ ?_
                rotate_left
                · intro w'
                  go_simp
                  with_reducible rfl
                rotate_left
                · simp only [Act.put, List.setIfInBounds_toArray, List.set_cons_zero, List.set_cons_succ, i64_w, i32_w]
                  rfl
                refine pure_ (i := 8) (N := some 58) (v := ?_) (a' := ?_) #[true, true, true, true, true, true, true, true, true, false, false] rfl rfl (by kernel_rfl) (fun _ _ _ h => h) (Or.inl ⟨by rfl, ?_⟩) ?_ ?_
                rotate_left
                · intro w'
                  go_simp
                  with_reducible rfl
                rotate_left
                · simp only [Act.put, List.setIfInBounds_toArray, List.set_cons_zero, List.set_cons_succ, i64_w, i32_w]
                  rfl
                refine pure_ (i := 9) (N := some 10) (v := ?_) (a' := ?_) #[true, true, true, true, true, true, true, true, true, true, false] rfl rfl (by kernel_rfl) (fun _ _ _ h => h) (Or.inl ⟨by rfl, ?_⟩) ?_ ?_
                rotate_left
                · intro w'
                  go_simp
                  with_reducible rfl
                rotate_left
                · simp only [Act.put, List.setIfInBounds_toArray, List.set_cons_zero, List.set_cons_succ, i64_w, i32_w]
                  rfl
                refine pure_ (i := 10) (N := some 11) (v := ?_) (a' := ?_) #[true, true, true, true, true, true, true, true, true, true, true] rfl rfl (by kernel_rfl) (fun _ _ _ h => h) (Or.inl ⟨by rfl, ?_⟩) ?_ ?_
                rotate_left
                · intro w'
                  go_simp
                  with_reducible rfl
                rotate_left
                · simp only [Act.put, List.setIfInBounds_toArray, List.set_cons_zero, List.set_cons_succ, i64_w, i32_w]
                  rfl
                refine done_ (by kernel_rfl) ?_
                rw [HM.out] at *
                go_wp2_with fail
                go_ret2
                have hT := tail_at (by omega) HPP.out (by rw [HF.out]; exact HH.out)
                rw [HT.out, HF.out] at hT
                obtain ⟨rfl, rfl⟩ := Prod.mk.inj hT
                exact ⟨rfl, HLB.out.trans (HL1.out.trans (HL2.out.trans (HLR.out.trans (HLV.out.trans ((Lt.refl _).d1.trans hl3)))))⟩
              · have h0' : (m2 == 0) = false := beq_eq_false_iff_ne.2 h0
                have HH := Aside0.mk h0
                clear h0
                go_wp2_with fail
                rw [← hwv, ← hX]
                clear hwv v0' v1' s0 s1 hX
                refine start_ (n := 11) (S := fun w' => w'.cell? ⟨X, 1, none⟩ = some (.func (.func 193) #[] #[])) (ds := []) #[false, false, false, false, false, false, false, false, false, false, false] (by kernel_rfl) rfl rfl (v1) (fun hHeld => ?_)
                refine pure_ (i := 0) (N := some 51) (v := ?_) (a' := ?_) #[true, false, false, false, false, false, false, false, false, false, false] rfl rfl (by kernel_rfl) (fun _ _ _ h => h) (Or.inl ⟨by rfl, ?_⟩) ?_ ?_
                rotate_left
                · intro w'
                  go_simp
                  with_reducible rfl
                rotate_left
                · simp only [Act.put, List.setIfInBounds_toArray, List.set_cons_zero, List.set_cons_succ, i64_w, i32_w]
                  rfl
                refine pure_ (i := 2) (N := some 53) (v := ?_) (a' := ?_) #[true, false, true, false, false, false, false, false, false, false, false] rfl rfl (by kernel_rfl) (fun _ _ _ h => h) (Or.inl ⟨by rfl, ?_⟩) ?_ ?_
                rotate_left
                · intro w'
                  go_simp
                  with_reducible rfl
                rotate_left
                · simp only [Act.put, List.setIfInBounds_toArray, List.set_cons_zero, List.set_cons_succ, i64_w, i32_w]
                  rfl
                refine pure_ (i := 3) (N := some 54) (v := ?_) (a' := ?_) #[true, false, true, true, false, false, false, false, false, false, false] rfl rfl (by kernel_rfl) (fun _ _ _ h => h) (Or.inl ⟨by rfl, ?_⟩) ?_ ?_
                rotate_left
                · intro w'
                  go_simp
                  with_reducible rfl
                rotate_left
                · simp only [Act.put, List.setIfInBounds_toArray, List.set_cons_zero, List.set_cons_succ, i64_w, i32_w]
                  rfl
                refine pure_ (i := 4) (N := some 55) (v := ?_) (a' := ?_) #[true, false, true, true, true, false, false, false, false, false, false] rfl rfl (by kernel_rfl) (fun _ _ _ h => h) (Or.inl ⟨by rfl, ?_⟩) ?_ ?_
                rotate_left
                · intro w'
                  go_simp
                  with_reducible rfl
                rotate_left
                · simp only [Act.put, List.setIfInBounds_toArray, List.set_cons_zero, List.set_cons_succ, i64_w, i32_w]
                  rfl
                refine take_ (i := 1) (N := some 52) (v := ?_) (a' := ?_) #[true, true, true, true, true, false, false, false, false, false, false] rfl rfl (by kernel_rfl) (fun _ _ _ h => h) (Or.inl ⟨by rfl, ?_⟩) hHeld ?_ ?_
                rotate_left
                · intro w' s0
                  go_simp
                  with_reducible rfl
                rotate_left
                · simp only [Act.put, List.setIfInBounds_toArray, List.set_cons_zero, List.set_cons_succ, i64_w, i32_w]
                  rfl
                refine one_ (i := 5) (N := some 56) #[true, true, true, true, true, true, false, false, false, false, false] rfl rfl (by kernel_rfl) (by decide) (fun K hK => ?_)
                refine goesV_ Tryz.func193 (by kernel_rfl) rfl #[.int .i64 y, .slice (some ⟨B, 1, none⟩) 2 2] (by rfl) (by rfl) rfl rfl (by simp only [List.map_toArray, List.map_cons, List.map_nil]; rfl) ?_
                with_reducible refine (weeks_lt y ⟨B, 1, none⟩ 2 p q _ hCv b1 b2).mono ?_
                rintro e w3 ⟨rfl, hl3⟩
                refine ⟨_, rfl, ?_⟩
                refine hK.out _ _ (cell_lt hl3 hHeld) (fun hHeld => ?_)
                clear hK K
                refine norm_ (a' := ?_) ?_ ?_
                rotate_left
                · show Act.put _ (some 56) _ = _
                  simp only [Act.put, List.setIfInBounds_toArray, List.set_cons_zero, List.set_cons_succ, i64_w, i32_w]
                  rfl
                refine pure_ (i := 6) (N := some 50) (v := ?_) (a' := ?_) #[true, true, true, true, true, true, true, false, false, false, false] rfl rfl (by kernel_rfl) (fun _ _ _ h => h) (Or.inl ⟨by rfl, ?_⟩) ?_ ?_
                rotate_left
                · intro w'
                  go_simp
                  with_reducible rfl
                rotate_left
                · simp only [Act.put, List.setIfInBounds_toArray, List.set_cons_zero, List.set_cons_succ, i64_w, i32_w]
                  rfl
                refine pure_ (i := 7) (N := some 57) (v := ?_) (a' := ?_) #[true, true, true, true, true, true, true, true, false, false, false] rfl rfl (by kernel_rfl) (fun _ _ _ h => h) (Or.inl ⟨by rfl, ?_⟩) ?_ ?_
                rotate_left
                · intro w'
                  go_simp
                  with_reducible rfl
                rotate_left
                · simp only [Act.put, List.setIfInBounds_toArray, List.set_cons_zero, List.set_cons_succ, i64_w, i32_w]
                  rfl
                refine pure_ (i := 8) (N := some 58) (v := ?_) (a' := ?_) #[true, true, true, true, true, true, true, true, true, false, false] rfl rfl (by kernel_rfl) (fun _ _ _ h => h) (Or.inl ⟨by rfl, ?_⟩) ?_ ?_
                rotate_left
                · intro w'
                  go_simp
                  with_reducible rfl
                rotate_left
                · simp only [Act.put, List.setIfInBounds_toArray, List.set_cons_zero, List.set_cons_succ, i64_w, i32_w]
                  rfl
                refine pure_ (i := 9) (N := some 10) (v := ?_) (a' := ?_) #[true, true, true, true, true, true, true, true, true, true, false] rfl rfl (by kernel_rfl) (fun _ _ _ h => h) (Or.inl ⟨by rfl, ?_⟩) ?_ ?_
                rotate_left
                · intro w'
                  go_simp
                  with_reducible rfl
                rotate_left
                · simp only [Act.put, List.setIfInBounds_toArray, List.set_cons_zero, List.set_cons_succ, i64_w, i32_w]
                  rfl
                refine pure_ (i := 10) (N := some 11) (v := ?_) (a' := ?_) #[true, true, true, true, true, true, true, true, true, true, true] rfl rfl (by kernel_rfl) (fun _ _ _ h => h) (Or.inl ⟨by rfl, ?_⟩) ?_ ?_
                rotate_left
                · intro w'
                  go_simp
                  with_reducible rfl
                rotate_left
                · simp only [Act.put, List.setIfInBounds_toArray, List.set_cons_zero, List.set_cons_succ, i64_w, i32_w]
                  rfl
                refine done_ (by kernel_rfl) ?_
                rw [HM.out] at *
                go_wp2_with fail
                go_roundw
                case rel => exact ⟨2, by omega, by go_num, HLR.out.trans (HLV.out.trans ((Lt.refl _).d1.trans hl3)), next_p HPP.out (by rw [HF.out]; exact HH.out)⟩
                case measure => simp [intOf]
            · have hF : (shapeF y (x0 :: r) 1).2 ≠ 0 := by
                show (if r.length + 1 = 3 then _ else ((0 : Int), (30 : Int))).2 ≠ 0
                rw [if_neg (by have := HN.out; omega)]
                decide
              have HF := Aside0.mk hF
              have hne1 : ((N : Int) == 3) = false := beq_eq_false_iff_ne.2 (by omega)
              have hne2 : ¬ ((N : Int) = 3) := by omega
              clear hF
              go_wp2_with fail
              go_roundw
              case rel => exact ⟨2, by omega, by go_num, HLR.out.trans (lt_new _ _ _), next_p HPP.out HF.out⟩
              case measure => simp [intOf]
          · have s0 := cell_lt HLR.out (HSC.out 4 _ rfl)
            have s1 := cell_lt HLR.out (HSC.out 5 _ rfl)
            by_cases hN3 : N = 2
            · subst hN3
              have hrl : r.length = 1 := by have := HN.out; omega
              obtain ⟨p, rfl⟩ := List.length_eq_one_iff.1 hrl
              clear hrl
              have hF : shapeF y (x0 :: [p]) 2 = daysOfF y p := rfl
              obtain ⟨wv, hwv⟩ : ∃ wv, wv = wr.alloc (.cells #[.int .i64 1, .func (.func 195) #[] #[]] 204) := ⟨_, rfl⟩
              have hlv : Lt wr wv := by rw [hwv]; exact lt_new _ _ _
              have v0' : (wr.alloc (.cells #[.int .i64 1, .func (.func 195) #[] #[]] 204)).cell? ⟨wr.heap.size, 0, none⟩ = some (.int .i64 1) := by rw [World.cell?_alloc_at _ _ _ _ rfl]; rfl
              have v1' : (wr.alloc (.cells #[.int .i64 1, .func (.func 195) #[] #[]] 204)).cell? ⟨wr.heap.size, 1, none⟩ = some (.func (.func 195) #[] #[]) := by rw [World.cell?_alloc_at _ _ _ _ rfl]; rfl
              have v1 := v1'
              rw [← hwv] at v1
              have b1 : wv.drew.cell? ⟨B, 1, none⟩ = some (.string p) := cell_lt (w' := wv) ((HL1.out.trans (HL2.out.trans (HLR.out.trans hlv)))) (HCE.out 1 (by simp))
              have hCv : Cal wv.drew := (HCB.out.l ((HL1.out.trans (HL2.out.trans (HLR.out.trans hlv))))).l (Lt.refl _).d1
              have HLV := Aside0.mk hlv
              obtain ⟨⟨m1, m2⟩, hm⟩ : ∃ z, daysOfF y p = z := ⟨_, rfl⟩
              rw [hm] at hF
              have HF := Aside0.mk hF
              have HM := Aside0.mk hm
              obtain ⟨X, hX⟩ : ∃ X, X = wr.heap.size := ⟨_, rfl⟩
              rw [← hX] at v1
              clear hF hlv hm
              by_cases h0 : m2 = 0
              · have h0' : (m2 == 0) = true := beq_iff_eq.2 h0
                have HH := Aside0.mk h0
                clear h0
                go_wp2_with fail
                rw [← hwv, ← hX]
                clear hwv v0' v1' s0 s1 hX
                refine start_ (n := 11) (S := fun w' => w'.cell? ⟨X, 1, none⟩ = some (.func (.func 195) #[] #[])) (ds := []) #[false, false, false, false, false, false, false, false, false, false, false] (by kernel_rfl) rfl rfl (v1) (fun hHeld => ?_)
                refine pure_ (i := 0) (N := some 51) (v := ?_) (a' := ?_) #[true, false, false, false, false, false, false, false, false, false, false] rfl rfl (by kernel_rfl) (fun _ _ _ h => h) (Or.inl ⟨by rfl, ?_⟩) ?_ ?_
                rotate_left
                · intro w'
                  go_simp
                  with_reducible rfl
                rotate_left
                · simp only [Act.put, List.setIfInBounds_toArray, List.set_cons_zero, List.set_cons_succ, i64_w, i32_w]
                  rfl
                refine pure_ (i := 2) (N := some 53) (v := ?_) (a' := ?_) #[true, false, true, false, false, false, false, false, false, false, false] rfl rfl (by kernel_rfl) (fun _ _ _ h => h) (Or.inl ⟨by rfl, ?_⟩) ?_ ?_
                rotate_left
                · intro w'
                  go_simp
                  with_reducible rfl
                rotate_left
                · simp only [Act.put, List.setIfInBounds_toArray, List.set_cons_zero, List.set_cons_succ, i64_w, i32_w]
                  rfl
                refine pure_ (i := 3) (N := some 54) (v := ?_) (a' := ?_) #[true, false, true, true, false, false, false, false, false, false, false] rfl rfl (by kernel_rfl) (fun _ _ _ h => h) (Or.inl ⟨by rfl, ?_⟩) ?_ ?_
                rotate_left
                · intro w'
                  go_simp
                  with_reducible rfl
                rotate_left
                · simp only [Act.put, List.setIfInBounds_toArray, List.set_cons_zero, List.set_cons_succ, i64_w, i32_w]
                  rfl
                refine pure_ (i := 4) (N := some 55) (v := ?_) (a' := ?_) #[true, false, true, true, true, false, false, false, false, false, false] rfl rfl (by kernel_rfl) (fun _ _ _ h => h) (Or.inl ⟨by rfl, ?_⟩) ?_ ?_
                rotate_left
                · intro w'
                  go_simp
                  with_reducible rfl
                rotate_left
                · simp only [Act.put, List.setIfInBounds_toArray, List.set_cons_zero, List.set_cons_succ, i64_w, i32_w]
                  rfl
                refine take_ (i := 1) (N := some 52) (v := ?_) (a' := ?_) #[true, true, true, true, true, false, false, false, false, false, false] rfl rfl (by kernel_rfl) (fun _ _ _ h => h) (Or.inl ⟨by rfl, ?_⟩) hHeld ?_ ?_
                rotate_left
                · intro w' s0
                  go_simp
                  with_reducible rfl
                rotate_left
                · simp only [Act.put, List.setIfInBounds_toArray, List.set_cons_zero, List.set_cons_succ, i64_w, i32_w]
                  rfl
                refine one_ (i := 5) (N := some 56) #[true, true, true, true, true, true, false, false, false, false, false] rfl rfl (by kernel_rfl) (by decide) (fun K hK => ?_)
                refine goesV_ Tryz.func195 (by kernel_rfl) rfl #[.int .i64 y, .slice (some ⟨B, 1, none⟩) 1 1] (by rfl) (by rfl) rfl rfl (by simp only [List.map_toArray, List.map_cons, List.map_nil]; rfl) ?_
                with_reducible refine (daysOf_lt y ⟨B, 1, none⟩ 1 p _ hCv b1).mono ?_
                rintro e w3 ⟨rfl, hl3⟩
                refine ⟨_, rfl, ?_⟩
                refine hK.out _ _ (cell_lt hl3 hHeld) (fun hHeld => ?_)
                clear hK K
                refine norm_ (a' := ?_) ?_ ?_
                rotate_left
                · show Act.put _ (some 56) _ = _
                  simp only [Act.put, List.setIfInBounds_toArray, List.set_cons_zero, List.set_cons_succ, i64_w, i32_w]
                  rfl
                refine pure_ (i := 6) (N := some 50) (v := ?_) (a' := ?_) #[true, true, true, true, true, true, true, false, false, false, false] rfl rfl (by kernel_rfl) (fun _ _ _ h => h) (Or.inl ⟨by rfl, ?_⟩) ?_ ?_
                rotate_left
                · intro w'
                  go_simp
                  with_reducible rfl
                rotate_left
                · simp only [Act.put, List.setIfInBounds_toArray, List.set_cons_zero, List.set_cons_succ, i64_w, i32_w]
                  rfl
                refine pure_ (i := 7) (N := some 57) (v := ?_) (a' := ?_) #[true, true, true, true, true, true, true, true, false, false, false] rfl rfl (by kernel_rfl) (fun _ _ _ h => h) (Or.inl ⟨by rfl, ?_⟩) ?_ ?_
                rotate_left
                · intro w'
                  go_simp
                  with_reducible rfl
                rotate_left
                · simp only [Act.put, List.setIfInBounds_toArray, List.set_cons_zero, List.set_cons_succ, i64_w, i32_w]
                  rfl
                refine pure_ (i := 8) (N := some 58) (v := ?_) (a' := ?_) #[true, true, true, true, true, true, true, true, true, false, false] rfl rfl (by kernel_rfl) (fun _ _ _ h => h) (Or.inl ⟨by rfl, ?_⟩) ?_ ?_
                rotate_left
                · intro w'
                  go_simp
                  with_reducible rfl
                rotate_left
                · simp only [Act.put, List.setIfInBounds_toArray, List.set_cons_zero, List.set_cons_succ, i64_w, i32_w]
                  rfl
                refine pure_ (i := 9) (N := some 10) (v := ?_) (a' := ?_) #[true, true, true, true, true, true, true, true, true, true, false] rfl rfl (by kernel_rfl) (fun _ _ _ h => h) (Or.inl ⟨by rfl, ?_⟩) ?_ ?_
                rotate_left
                · intro w'
                  go_simp
                  with_reducible rfl
                rotate_left
                · simp only [Act.put, List.setIfInBounds_toArray, List.set_cons_zero, List.set_cons_succ, i64_w, i32_w]
                  rfl
                refine pure_ (i := 10) (N := some 11) (v := ?_) (a' := ?_) #[true, true, true, true, true, true, true, true, true, true, true] rfl rfl (by kernel_rfl) (fun _ _ _ h => h) (Or.inl ⟨by rfl, ?_⟩) ?_ ?_
                rotate_left
                · intro w'
                  go_simp
                  with_reducible rfl
                rotate_left
                · simp only [Act.put, List.setIfInBounds_toArray, List.set_cons_zero, List.set_cons_succ, i64_w, i32_w]
                  rfl
                refine done_ (by kernel_rfl) ?_
                rw [HM.out] at *
                go_wp2_with fail
                go_ret2
                have hT := tail_at (by omega) HPP.out (by rw [HF.out]; exact HH.out)
                rw [HT.out, HF.out] at hT
                obtain ⟨rfl, rfl⟩ := Prod.mk.inj hT
                exact ⟨rfl, HLB.out.trans (HL1.out.trans (HL2.out.trans (HLR.out.trans (HLV.out.trans ((Lt.refl _).d1.trans hl3)))))⟩
              · have h0' : (m2 == 0) = false := beq_eq_false_iff_ne.2 h0
                have HH := Aside0.mk h0
                clear h0
                go_wp2_with fail
                rw [← hwv, ← hX]
                clear hwv v0' v1' s0 s1 hX
                refine start_ (n := 11) (S := fun w' => w'.cell? ⟨X, 1, none⟩ = some (.func (.func 195) #[] #[])) (ds := []) #[false, false, false, false, false, false, false, false, false, false, false] (by kernel_rfl) rfl rfl (v1) (fun hHeld => ?_)
                refine pure_ (i := 0) (N := some 51) (v := ?_) (a' := ?_) #[true, false, false, false, false, false, false, false, false, false, false] rfl rfl (by kernel_rfl) (fun _ _ _ h => h) (Or.inl ⟨by rfl, ?_⟩) ?_ ?_
                rotate_left
                · intro w'
                  go_simp
                  with_reducible rfl
                rotate_left
                · simp only [Act.put, List.setIfInBounds_toArray, List.set_cons_zero, List.set_cons_succ, i64_w, i32_w]
                  rfl
                refine pure_ (i := 2) (N := some 53) (v := ?_) (a' := ?_) #[true, false, true, false, false, false, false, false, false, false, false] rfl rfl (by kernel_rfl) (fun _ _ _ h => h) (Or.inl ⟨by rfl, ?_⟩) ?_ ?_
                rotate_left
                · intro w'
                  go_simp
                  with_reducible rfl
                rotate_left
                · simp only [Act.put, List.setIfInBounds_toArray, List.set_cons_zero, List.set_cons_succ, i64_w, i32_w]
                  rfl
                refine pure_ (i := 3) (N := some 54) (v := ?_) (a' := ?_) #[true, false, true, true, false, false, false, false, false, false, false] rfl rfl (by kernel_rfl) (fun _ _ _ h => h) (Or.inl ⟨by rfl, ?_⟩) ?_ ?_
                rotate_left
                · intro w'
                  go_simp
                  with_reducible rfl
                rotate_left
                · simp only [Act.put, List.setIfInBounds_toArray, List.set_cons_zero, List.set_cons_succ, i64_w, i32_w]
                  rfl
                refine pure_ (i := 4) (N := some 55) (v := ?_) (a' := ?_) #[true, false, true, true, true, false, false, false, false, false, false] rfl rfl (by kernel_rfl) (fun _ _ _ h => h) (Or.inl ⟨by rfl, ?_⟩) ?_ ?_
                rotate_left
                · intro w'
                  go_simp
                  with_reducible rfl
                rotate_left
                · simp only [Act.put, List.setIfInBounds_toArray, List.set_cons_zero, List.set_cons_succ, i64_w, i32_w]
                  rfl
                refine take_ (i := 1) (N := some 52) (v := ?_) (a' := ?_) #[true, true, true, true, true, false, false, false, false, false, false] rfl rfl (by kernel_rfl) (fun _ _ _ h => h) (Or.inl ⟨by rfl, ?_⟩) hHeld ?_ ?_
                rotate_left
                · intro w' s0
                  go_simp
                  with_reducible rfl
                rotate_left
                · simp only [Act.put, List.setIfInBounds_toArray, List.set_cons_zero, List.set_cons_succ, i64_w, i32_w]
                  rfl
                refine one_ (i := 5) (N := some 56) #[true, true, true, true, true, true, false, false, false, false, false] rfl rfl (by kernel_rfl) (by decide) (fun K hK => ?_)
                refine goesV_ Tryz.func195 (by kernel_rfl) rfl #[.int .i64 y, .slice (some ⟨B, 1, none⟩) 1 1] (by rfl) (by rfl) rfl rfl (by simp only [List.map_toArray, List.map_cons, List.map_nil]; rfl) ?_
                with_reducible refine (daysOf_lt y ⟨B, 1, none⟩ 1 p _ hCv b1).mono ?_
                rintro e w3 ⟨rfl, hl3⟩
                refine ⟨_, rfl, ?_⟩
                refine hK.out _ _ (cell_lt hl3 hHeld) (fun hHeld => ?_)
                clear hK K
                refine norm_ (a' := ?_) ?_ ?_
                rotate_left
                · show Act.put _ (some 56) _ = _
                  simp only [Act.put, List.setIfInBounds_toArray, List.set_cons_zero, List.set_cons_succ, i64_w, i32_w]
                  rfl
                refine pure_ (i := 6) (N := some 50) (v := ?_) (a' := ?_) #[true, true, true, true, true, true, true, false, false, false, false] rfl rfl (by kernel_rfl) (fun _ _ _ h => h) (Or.inl ⟨by rfl, ?_⟩) ?_ ?_
                rotate_left
                · intro w'
                  go_simp
                  with_reducible rfl
                rotate_left
                · simp only [Act.put, List.setIfInBounds_toArray, List.set_cons_zero, List.set_cons_succ, i64_w, i32_w]
                  rfl
                refine pure_ (i := 7) (N := some 57) (v := ?_) (a' := ?_) #[true, true, true, true, true, true, true, true, false, false, false] rfl rfl (by kernel_rfl) (fun _ _ _ h => h) (Or.inl ⟨by rfl, ?_⟩) ?_ ?_
                rotate_left
                · intro w'
                  go_simp
                  with_reducible rfl
                rotate_left
                · simp only [Act.put, List.setIfInBounds_toArray, List.set_cons_zero, List.set_cons_succ, i64_w, i32_w]
                  rfl
                refine pure_ (i := 8) (N := some 58) (v := ?_) (a' := ?_) #[true, true, true, true, true, true, true, true, true, false, false] rfl rfl (by kernel_rfl) (fun _ _ _ h => h) (Or.inl ⟨by rfl, ?_⟩) ?_ ?_
                rotate_left
                · intro w'
                  go_simp
                  with_reducible rfl
                rotate_left
                · simp only [Act.put, List.setIfInBounds_toArray, List.set_cons_zero, List.set_cons_succ, i64_w, i32_w]
                  rfl
                refine pure_ (i := 9) (N := some 10) (v := ?_) (a' := ?_) #[true, true, true, true, true, true, true, true, true, true, false] rfl rfl (by kernel_rfl) (fun _ _ _ h => h) (Or.inl ⟨by rfl, ?_⟩) ?_ ?_
                rotate_left
                · intro w'
                  go_simp
                  with_reducible rfl
                rotate_left
                · simp only [Act.put, List.setIfInBounds_toArray, List.set_cons_zero, List.set_cons_succ, i64_w, i32_w]
                  rfl
                refine pure_ (i := 10) (N := some 11) (v := ?_) (a' := ?_) #[true, true, true, true, true, true, true, true, true, true, true] rfl rfl (by kernel_rfl) (fun _ _ _ h => h) (Or.inl ⟨by rfl, ?_⟩) ?_ ?_
                rotate_left
                · intro w'
                  go_simp
                  with_reducible rfl
                rotate_left
                · simp only [Act.put, List.setIfInBounds_toArray, List.set_cons_zero, List.set_cons_succ, i64_w, i32_w]
                  rfl
                refine done_ (by kernel_rfl) ?_
                rw [HM.out] at *
                go_wp2_with fail
                go_roundw
                case rel => exact ⟨3, by omega, by go_num, HLR.out.trans (HLV.out.trans ((Lt.refl _).d1.trans hl3)), next_p HPP.out (by rw [HF.out]; exact HH.out)⟩
                case measure => simp [intOf]
            · have hF : (shapeF y (x0 :: r) 2).2 ≠ 0 := by
                show (if r.length + 1 = 2 then _ else ((0 : Int), (30 : Int))).2 ≠ 0
                rw [if_neg (by have := HN.out; omega)]
                decide
              have HF := Aside0.mk hF
              have hne1 : ((N : Int) == 2) = false := beq_eq_false_iff_ne.2 (by omega)
              have hne2 : ¬ ((N : Int) = 2) := by omega
              clear hF
              go_wp2_with fail
              go_roundw
              case rel => exact ⟨3, by omega, by go_num, HLR.out.trans (lt_new _ _ _), next_p HPP.out HF.out⟩
              case measure => simp [intOf]
          · go_wp2_with fail
            go_ret2
            have hT := tail_none HPP.out
            rw [HT.out] at hT
            obtain ⟨rfl, rfl⟩ := Prod.mk.inj hT
            exact ⟨rfl, HLB.out.trans (HL1.out.trans (HL2.out.trans HLR.out))⟩
end Go.Proofs.YtcinojbfjiohjaaGreatDoor.Civ
end

section
namespace Go.Proofs.YtcinojbfjiohjaaGreatDoor.Civ
open Go Go.Proofs.YtcinojbfjiohjaaGreatDoor.Ex
set_option linter.unusedVariables false
set_option linter.unusedSimpArgs false
def cut : List UInt8 → List (List UInt8)
  | [] => [[]]
  | b :: l => if b = 45 then [] :: cut l else match cut l with
    | [] => [[b]]
    | p :: r => (b :: p) :: r
theorem cut_none : ∀ l : List UInt8, 45 ∉ l → cut l = [l] := by
  intro l
  induction l with
  | nil => intro _; rfl
  | cons b l ih =>
    intro h
    rw [cut, if_neg (fun he => h (by rw [he]; simp)), ih (fun hh => h (by simp [hh]))]
theorem cut_dash (b : List UInt8) : ∀ a : List UInt8, 45 ∉ a → cut (a ++ 45 :: b) = a :: cut b := by
  intro a
  induction a with
  | nil => intro _; rw [List.nil_append, cut, if_pos rfl]
  | cons x a ih =>
    intro h
    rw [List.cons_append, cut, if_neg (fun he => h (by rw [he]; simp)), ih (fun hh => h (by simp [hh]))]
theorem first_dash (l : List UInt8) : 45 ∉ l ∨ ∃ a b, l = a ++ 45 :: b ∧ 45 ∉ a := by
  induction l with
  | nil => exact .inl (by simp)
  | cons x l ih =>
    by_cases hx : x = 45
    · exact .inr ⟨[], l, by rw [hx]; rfl, by simp⟩
    · rcases ih with h | ⟨a, b, rfl, h⟩
      · refine .inl ?_
        intro hm
        rcases List.mem_cons.1 hm with h1 | h1
        · exact hx h1.symm
        · exact h h1
      · refine .inr ⟨x :: a, b, rfl, ?_⟩
        intro hm
        rcases List.mem_cons.1 hm with h1 | h1
        · exact hx h1.symm
        · exact h h1
theorem index_dash (b : List UInt8) : ∀ a : List UInt8, 45 ∉ a → Lib.index (a ++ 45 :: b) [45] = a.length := by
  intro a
  induction a with
  | nil => intro _; rw [List.nil_append, Lib.index, if_pos (by simp [List.isPrefixOf])]; rfl
  | cons x a ih =>
    intro h
    have hx : x ≠ 45 := fun he => h (by rw [he]; simp)
    have hi := ih (fun hh => h (by simp [hh]))
    have h1 : ¬ ((Lib.index (a ++ 45 :: b) [45] == -1) = true) := by rw [hi]; simp
    rw [List.cons_append, Lib.index, if_neg (by simp [List.isPrefixOf, Ne.symm hx]), if_neg h1, hi, List.length_cons]
    omega
theorem splitK_cut : ∀ (k : Nat) (l : List UInt8), l.count 45 = k → Lib.splitK [45] 0 k l = cut l := by
  intro k
  induction k with
  | zero =>
    intro l h
    rw [cut_none l (List.count_eq_zero.1 h)]
    rfl
  | succ k ih =>
    intro l h
    rcases first_dash l with hn | ⟨a, b, rfl, ha⟩
    · rw [List.count_eq_zero.2 hn] at h; cases h
    · have hc : b.count 45 = k := by
        rw [List.count_append, List.count_eq_zero.2 ha, List.count_cons_self] at h
        omega
      have hix := index_dash b a ha
      have h1 : ¬ ((Lib.index (a ++ 45 :: b) [45] == -1) = true) := by rw [hix]; simp
      rw [Lib.splitK, if_neg h1, hix, cut_dash b a ha]
      have e1 : (a ++ 45 :: b).take ((a.length : Int).toNat + 0) = a := by simp
      have e2 : (a ++ 45 :: b).drop ((a.length : Int).toNat + ([45] : List UInt8).length) = b := by
        show (a ++ 45 :: b).drop (a.length + 1) = b
        rw [List.drop_append]
        simp
      rw [e1, e2, ih b hc]
theorem pieces_cut (t : ByteArray) : pieces t = (cut t.data.toList).map (fun l => ⟨l.toArray⟩) := by
  have h := Lib.splitB_data dash 0 (Lib.countB t dash) t
  have hc : Lib.countB t dash = t.data.toList.count 45 := Lib.count_one 45 t.data.toList
  have hd : dash.data.toList = [45] := rfl
  rw [hd, hc, splitK_cut _ _ rfl, ← hc] at h
  rw [← h, List.map_map]
  unfold pieces
  conv => lhs; rw [← List.map_id (Lib.splitB dash 0 (Lib.countB t dash) t)]
  apply List.map_congr_left
  intro x _
  rfl
def numL (l : List UInt8) (d : Nat) : Int × Bool := if l.length = d ∧ l.all digitB = true then (natv l, true) else (0, false)
theorem numF_L (l : List UInt8) (d : Nat) : numF ⟨l.toArray⟩ d = numL l d := by
  unfold numF numL
  have h1 : (⟨l.toArray⟩ : ByteArray).size = l.length := by show l.toArray.size = _; simp
  rw [h1]
  by_cases h : l.length = d ∧ l.all digitB = true
  · rw [if_pos h, if_pos ⟨by omega, h.2⟩]
  · rw [if_neg h, if_neg (fun k => h ⟨by omega, k.2⟩)]
theorem digit_of (d : Nat) (h : d < 10) : digitB (UInt8.ofNat (48 + d)) = true ∧ Lib.digitVal (UInt8.ofNat (48 + d)) = some d ∧ UInt8.ofNat (48 + d) ≠ 45 := by
  have : ∀ d : Fin 10, digitB (UInt8.ofNat (48 + d.val)) = true ∧ Lib.digitVal (UInt8.ofNat (48 + d.val)) = some d.val ∧ UInt8.ofNat (48 + d.val) ≠ 45 := by decide
  exact this ⟨d, h⟩
theorem digit_ne {b : UInt8} (h : digitB b = true) : b ≠ 45 ∧ b ≠ 87 := by
  have := byte_all (fun b => !digitB b || (decide (b ≠ 45) && decide (b ≠ 87))) (by decide +kernel) b
  rw [h] at this
  simpa using this
theorem decFrom_append (l r : List UInt8) : ∀ acc, Lib.decFrom acc (l ++ r) = (Lib.decFrom acc l).bind (fun n => Lib.decFrom n r) := by
  induction l with
  | nil => intro acc; rfl
  | cons b l ih =>
    intro acc
    rw [List.cons_append, Lib.decFrom, Lib.decFrom]
    cases Lib.digitVal b with
    | none => rfl
    | some d => exact ih _
theorem decDigits_spec (u : Nat) : (Lib.decDigits u).all digitB = true ∧ ∀ acc, Lib.decFrom acc (Lib.decDigits u) = some (acc * 10 ^ (Lib.decDigits u).length + u) := by
  induction u using Nat.strongRecOn with
  | ind u ih =>
    by_cases h : u < 10
    · have hd := digit_of u h
      rw [Lib.decDigits_one h]
      refine ⟨by rw [List.all_cons, hd.1]; rfl, fun acc => ?_⟩
      rw [Lib.decFrom, hd.2.1]
      simp [Lib.decFrom]
    · obtain ⟨h1, h2⟩ := ih (u / 10) (by omega)
      have hd := digit_of (u % 10) (by omega)
      rw [Lib.decDigits, dif_neg h]
      refine ⟨by rw [List.all_append, h1, List.all_cons, hd.1]; rfl, fun acc => ?_⟩
      rw [decFrom_append, h2]
      show Lib.decFrom _ [UInt8.ofNat (48 + u % 10)] = _
      rw [Lib.decFrom, hd.2.1, List.length_append, List.length_singleton, Nat.pow_succ]
      show some _ = _
      congr 1
      have := Nat.div_add_mod u 10
      rw [Nat.add_mul, Nat.mul_assoc]
      omega
theorem decDigits_len (k : Nat) : ∀ u, u < 10 ^ k → 1 ≤ k → (Lib.decDigits u).length ≤ k := by
  induction k with
  | zero => intro u _ h; omega
  | succ k ih =>
    intro u hu _
    by_cases h : u < 10
    · rw [Lib.decDigits_one h]; simp
    · rw [Lib.decDigits, dif_neg h, List.length_append, List.length_singleton]
      have hk : 1 ≤ k := by
        rcases Nat.eq_zero_or_pos k with rfl | hk
        · simp at hu; omega
        · exact hk
      have := ih (u / 10) (by rw [Nat.pow_succ] at hu; omega) hk
      omega
theorem zeros_dec (j : Nat) : Lib.decFrom 0 (List.replicate j 48) = some 0 := by
  induction j with
  | zero => rfl
  | succ j ih =>
    rw [List.replicate_succ, Lib.decFrom]
    exact ih
theorem padF_spec (n : Int) (k : Nat) (h0 : 0 ≤ n) (h1 : n < 10 ^ k) (hk : 1 ≤ k) : (padF n k).length = k ∧ (padF n k).all digitB = true ∧ natv (padF n k) = n := by
  obtain ⟨u, rfl⟩ : ∃ u : Nat, n = u := ⟨n.toNat, by omega⟩
  have hu : u < 10 ^ k := by exact_mod_cast h1
  have hi : Lib.itoa (u : Int) = Lib.decDigits u := by unfold Lib.itoa; rw [if_neg (by omega)]; simp
  have hl := decDigits_len k u hu hk
  obtain ⟨s1, s2⟩ := decDigits_spec u
  unfold padF
  rw [hi]
  refine ⟨by rw [List.length_append, List.length_replicate]; omega, ?_, ?_⟩
  · rw [List.all_append, s1, Bool.and_true, List.all_eq_true]
    intro b hb
    rw [(List.mem_replicate.1 hb).2]
    decide
  · unfold natv Lib.decNat
    have hne : (List.replicate (k - (Lib.decDigits u).length) 48 ++ Lib.decDigits u).isEmpty = false := by
      cases h : (List.replicate (k - (Lib.decDigits u).length) 48 ++ Lib.decDigits u) with
      | nil =>
        have := congrArg List.length h
        rw [List.length_append, List.length_replicate, List.length_nil] at this
        omega
      | cons a l => rfl
    rw [hne]
    show (((Lib.decFrom 0 _).getD 0 : Nat) : Int) = _
    rw [decFrom_append, zeros_dec]
    show (((Lib.decFrom 0 (Lib.decDigits u)).getD 0 : Nat) : Int) = _
    rw [s2]
    simp
theorem padF_num (n : Int) (k : Nat) (h0 : 0 ≤ n) (h1 : n < 10 ^ k) (hk : 1 ≤ k) : numL (padF n k) k = (n, true) := by
  obtain ⟨a, b, c⟩ := padF_spec n k h0 h1 hk
  unfold numL
  rw [if_pos ⟨a, b⟩, c]
theorem no_dash {l : List UInt8} (h : l.all digitB = true) : 45 ∉ l := fun hm => (digit_ne (List.all_eq_true.1 h _ hm)).1 rfl
theorem text_read {n : Int} (hn : In n) : readF (textF n).1 = (n, 0) := by
  have hok := (date_ok hn).1
  have hdn := (date_ok hn).2
  have ht : (textF n).1 = ⟨(ymdL (yrF n) (moF n) (dyF n)).toArray⟩ := by unfold textF; rw [if_pos hn]
  rw [ht]
  have hm := hok.month
  have hd : 1 ≤ dyF n ∧ dyF n ≤ 31 := ⟨hok.2.2.2.2.1, by have := hok.2.2.2.2.2; have := len_le (yrF n) (moF n); omega⟩
  have hy0 := hok.1
  have hy1 := hok.2.1
  have hday := daysF_ok hok
  rw [hdn] at hday
  generalize yrF n = y at *
  generalize moF n = m at *
  generalize dyF n = d at *
  have key : ∀ z : Int, 0 ≤ z → z ≤ 9999 → pieces ⟨(partsL z m d).toArray⟩ = [⟨(padF z 4).toArray⟩, ⟨(padF m 2).toArray⟩, ⟨(padF d 2).toArray⟩] := by
    intro z hz0 hz1
    have p1 := padF_spec z 4 hz0 (by omega) (by omega)
    have p2 := padF_spec m 2 (by omega) (by omega) (by omega)
    have p3 := padF_spec d 2 (by omega) (by omega) (by omega)
    rw [pieces_cut]
    show (cut (partsL z m d).toArray.toList).map _ = _
    rw [List.toList_toArray, partsL_eq, cut_dash _ _ (no_dash p1.2.1), cut_dash _ _ (no_dash p2.2.1), cut_none _ (no_dash p3.2.1)]
    rfl
  have tl : ∀ z : Int, 0 ≤ z → z ≤ 9999 → ∀ yy : Int, yy = y → tailF yy [⟨(padF z 4).toArray⟩, ⟨(padF m 2).toArray⟩, ⟨(padF d 2).toArray⟩] = (n, 0) := by
    intro z _ _ yy hyy
    subst hyy
    have h0 : shapeF yy [⟨(padF z 4).toArray⟩, ⟨(padF m 2).toArray⟩, ⟨(padF d 2).toArray⟩] 0 = (n, 0) := by
      show monthsF yy ⟨(padF m 2).toArray⟩ ⟨(padF d 2).toArray⟩ = _
      have e1 : numF ⟨(padF m 2).toArray⟩ 2 = (m, true) := (numF_L _ 2).trans (padF_num m 2 (by omega) (by omega) (by omega))
      have e2 : numF ⟨(padF d 2).toArray⟩ 2 = (d, true) := (numF_L _ 2).trans (padF_num d 2 (by omega) (by omega) (by omega))
      unfold monthsF
      rw [e1, e2, if_pos ⟨rfl, rfl⟩]
      exact hday
    unfold tailF
    rw [h0, if_pos rfl]
  by_cases hy : y < 0
  · have hs : ymdL y m d = 45 :: partsL (-y) m d := by unfold ymdL; rw [if_pos hy]
    rw [hs]
    have hpre : Lib.hasPrefix (45 :: partsL (-y) m d) [45] = true := by simp [Lib.hasPrefix, List.isPrefixOf]
    have htr : Lib.trimPrefix (45 :: partsL (-y) m d) [45] = partsL (-y) m d := by unfold Lib.trimPrefix; rw [if_pos hpre]; rfl
    unfold readF
    show readL (Lib.hasPrefix (45 :: partsL (-y) m d) [45]) (pieces ⟨(Lib.trimPrefix (45 :: partsL (-y) m d) [45]).toArray⟩) = _
    rw [hpre, htr, key (-y) (by omega) (by omega)]
    have e0 : numF ⟨(padF (-y) 4).toArray⟩ 4 = (-y, true) := (numF_L _ 4).trans (padF_num (-y) 4 (by omega) (by omega) (by omega))
    unfold readL
    show (if (numF ⟨(padF (-y) 4).toArray⟩ 4).2 = false ∨ (true = true ∧ (numF ⟨(padF (-y) 4).toArray⟩ 4).1 = 0) then ((0 : Int), (30 : Int)) else tailF (if true = true then -(numF ⟨(padF (-y) 4).toArray⟩ 4).1 else (numF ⟨(padF (-y) 4).toArray⟩ 4).1) _) = _
    rw [e0, if_neg (by intro h; rcases h with h | ⟨_, h⟩ <;> simp at h; omega), if_pos rfl]
    exact tl (-y) (by omega) (by omega) _ (by omega)
  · have hs : ymdL y m d = partsL y m d := by unfold ymdL; rw [if_neg hy]
    rw [hs]
    have hp1 := padF_spec y 4 (by omega) (by omega) (by omega)
    have hpre : Lib.hasPrefix (partsL y m d) [45] = false := by
      rw [partsL_eq]
      cases hq : padF y 4 with
      | nil => rw [hq] at hp1; simp at hp1
      | cons b l =>
        have hb : digitB b = true := by
          have := hp1.2.1
          rw [hq, List.all_cons, Bool.and_eq_true] at this
          exact this.1
        have := (digit_ne hb).1
        simp [Lib.hasPrefix, List.isPrefixOf, Ne.symm this]
    have htr : Lib.trimPrefix (partsL y m d) [45] = partsL y m d := by unfold Lib.trimPrefix; rw [if_neg (by rw [hpre]; simp)]
    unfold readF
    show readL (Lib.hasPrefix (partsL y m d) [45]) (pieces ⟨(Lib.trimPrefix (partsL y m d) [45]).toArray⟩) = _
    rw [hpre, htr, key y (by omega) (by omega)]
    have e0 : numF ⟨(padF y 4).toArray⟩ 4 = (y, true) := (numF_L _ 4).trans (padF_num y 4 (by omega) (by omega) (by omega))
    unfold readL
    show (if (numF ⟨(padF y 4).toArray⟩ 4).2 = false ∨ (false = true ∧ (numF ⟨(padF y 4).toArray⟩ 4).1 = 0) then ((0 : Int), (30 : Int)) else tailF (if false = true then -(numF ⟨(padF y 4).toArray⟩ 4).1 else (numF ⟨(padF y 4).toArray⟩ 4).1) _) = _
    rw [e0, if_neg (by simp), if_neg (by simp)]
    exact tl y (by omega) (by omega) _ rfl
end Go.Proofs.YtcinojbfjiohjaaGreatDoor.Civ
end

section
namespace Go.Proofs.YtcinojbfjiohjaaGreatDoor.Civ
open Go Go.Proofs.YtcinojbfjiohjaaGreatDoor.Ex
set_option linter.unusedVariables false
set_option linter.unusedSimpArgs false
def val (l : List UInt8) : Nat := (Lib.decFrom 0 l).getD 0
theorem digit_val {b : UInt8} (h : digitB b = true) : ∃ d, d < 10 ∧ Lib.digitVal b = some d ∧ b = UInt8.ofNat (48 + d) := by
  have := byte_all (fun b => !digitB b || ((Lib.digitVal b).any fun d => decide (d < 10) && decide (b = UInt8.ofNat (48 + d)))) (by decide +kernel) b
  rw [h] at this
  simp only [Bool.not_true, Bool.false_or] at this
  cases hd : Lib.digitVal b with
  | none => rw [hd] at this; cases this
  | some d =>
    rw [hd] at this
    simp only [Option.any_some, Bool.and_eq_true, decide_eq_true_eq] at this
    exact ⟨d, this.1, rfl, this.2⟩
theorem val_acc (l : List UInt8) : l.all digitB = true → val l < 10 ^ l.length ∧ ∀ acc, Lib.decFrom acc l = some (acc * 10 ^ l.length + val l) := by
  induction l with
  | nil => intro _; exact ⟨by decide, fun acc => by simp [Lib.decFrom, val]⟩
  | cons b l ih =>
    intro h
    rw [List.all_cons, Bool.and_eq_true] at h
    obtain ⟨i1, i2⟩ := ih h.2
    obtain ⟨d, d1, d2, _⟩ := digit_val h.1
    have hv : val (b :: l) = d * 10 ^ l.length + val l := by
      unfold val
      rw [Lib.decFrom, d2]
      show (Lib.decFrom (0 * 10 + d) l).getD 0 = _
      rw [i2]
      simp [val]
    refine ⟨?_, fun acc => ?_⟩
    · rw [hv, List.length_cons, Nat.pow_succ]
      have : (d + 1) * 10 ^ l.length ≤ 10 * 10 ^ l.length := Nat.mul_le_mul_right _ (by omega)
      rw [Nat.add_mul] at this
      omega
    · rw [Lib.decFrom, d2]
      show Lib.decFrom (acc * 10 + d) l = _
      rw [i2, hv, List.length_cons, Nat.pow_succ]
      congr 1
      rw [Nat.add_mul, Nat.mul_assoc, Nat.mul_comm 10]
      omega
theorem val_inj (l : List UInt8) : ∀ r : List UInt8, l.length = r.length → l.all digitB = true → r.all digitB = true → val l = val r → l = r := by
  induction l with
  | nil => intro r h _ _ _; cases r with
    | nil => rfl
    | cons b r => cases h
  | cons a l ih =>
    intro r hl ha hr hv
    cases r with
    | nil => cases hl
    | cons b r =>
      have hl' : l.length = r.length := by simpa using hl
      rw [List.all_cons, Bool.and_eq_true] at ha hr
      obtain ⟨d, d1, d2, d3⟩ := digit_val ha.1
      obtain ⟨e, e1, e2, e3⟩ := digit_val hr.1
      have h1 : val (a :: l) = d * 10 ^ l.length + val l := by
        unfold val
        rw [Lib.decFrom, d2]
        show (Lib.decFrom (0 * 10 + d) l).getD 0 = _
        rw [(val_acc l ha.2).2]
        simp [val]
      have h2 : val (b :: r) = e * 10 ^ l.length + val r := by
        unfold val
        rw [Lib.decFrom, e2]
        show (Lib.decFrom (0 * 10 + e) r).getD 0 = _
        rw [(val_acc r hr.2).2, hl']
        simp [val]
      rw [h1, h2] at hv
      have b1 := (val_acc l ha.2).1
      have b2 := (val_acc r hr.2).1
      rw [← hl'] at b2
      have hde : d = e := by
        rcases Nat.lt_trichotomy d e with h | h | h
        · have : (d + 1) * 10 ^ l.length ≤ e * 10 ^ l.length := Nat.mul_le_mul_right _ h
          rw [Nat.add_mul] at this
          omega
        · exact h
        · have : (e + 1) * 10 ^ l.length ≤ d * 10 ^ l.length := Nat.mul_le_mul_right _ h
          rw [Nat.add_mul] at this
          omega
      subst hde
      rw [d3, e3, ih r hl' ha.2 hr.2 (by omega)]
theorem natv_val {l : List UInt8} (h : l ≠ []) : natv l = (val l : Nat) := by
  unfold natv val Lib.decNat
  cases l with
  | nil => exact absurd rfl h
  | cons b l => rfl
theorem pad_of {l : List UInt8} {k : Nat} (hk : 1 ≤ k) (hl : l.length = k) (ha : l.all digitB = true) : padF (natv l) k = l ∧ 0 ≤ natv l ∧ natv l < 10 ^ k := by
  have hne : l ≠ [] := fun he => by rw [he] at hl; simp at hl; omega
  have hv := natv_val hne
  have hb := (val_acc l ha).1
  rw [hl] at hb
  have h0 : 0 ≤ natv l := by rw [hv]; omega
  have h1 : natv l < 10 ^ k := by rw [hv]; exact_mod_cast hb
  obtain ⟨p1, p2, p3⟩ := padF_spec (natv l) k h0 h1 hk
  refine ⟨val_inj _ _ (by rw [p1, hl]) p2 ha ?_, h0, h1⟩
  have hpne : padF (natv l) k ≠ [] := fun he => by rw [he] at p1; simp at p1; omega
  have hq := natv_val hpne
  have hq' : ((val (padF (natv l) k) : Nat) : Int) = (val l : Nat) := by rw [← hq, p3, hv]
  exact_mod_cast hq'
theorem numL_true {l : List UInt8} {d : Nat} {v : Int} (hd : 1 ≤ d) (h : numL l d = (v, true)) : l = padF v d ∧ 0 ≤ v ∧ v < 10 ^ d ∧ l.length = d ∧ l.all digitB = true := by
  unfold numL at h
  split at h
  · rename_i hc
    have hv : natv l = v := (Prod.mk.inj h).1
    obtain ⟨a, b, c⟩ := pad_of hd hc.1 hc.2
    rw [hv] at a b c
    exact ⟨a.symm, b, c, hc⟩
  · have := (Prod.mk.inj h).2
    cases this
theorem cut_cons {l a : List UInt8} {r : List (List UInt8)} (h : cut l = a :: r) : (r = [] ∧ l = a) ∨ ∃ b, l = a ++ 45 :: b ∧ cut b = r := by
  rcases first_dash l with hn | ⟨x, b, rfl, hx⟩
  · rw [cut_none l hn] at h
    obtain ⟨h1, h2⟩ := List.cons.inj h
    exact .inl ⟨h2.symm, h1⟩
  · rw [cut_dash b x hx] at h
    obtain ⟨h1, h2⟩ := List.cons.inj h
    exact .inr ⟨b, by rw [h1], h2⟩
theorem cut_ne (l : List UInt8) : cut l ≠ [] := by
  rcases first_dash l with hn | ⟨x, b, rfl, hx⟩
  · rw [cut_none l hn]; simp
  · rw [cut_dash b x hx]; simp
def yearL (y : Int) : List UInt8 := if y < 0 then 45 :: padF (-y) 4 else padF y 4
def form1 (n : Int) : List UInt8 := yearL (yrF n) ++ 45 :: (padF (moF n) 2 ++ 45 :: padF (dyF n) 2)
def form2 (n : Int) : List UInt8 := yearL (yrF n) ++ 45 :: padF (n - beg (yrF n) + 1) 3
def form3 (n : Int) : List UInt8 := yearL (wyr n) ++ 45 :: (87 :: padF ((n - fst (wyr n)) / 7 + 1) 2 ++ 45 :: padF (wdF n) 1)
def shapeL (y : Int) (L : List (List UInt8)) : Nat → Int × Int
  | 0 => if L.length = 3 then (if (numL (L.getD 1 []) 2).2 = true ∧ (numL (L.getD 2 []) 2).2 = true then daysF y (numL (L.getD 1 []) 2).1 (numL (L.getD 2 []) 2).1 else (0, 30)) else (0, 30)
  | 1 => if L.length = 3 then (if Lib.hasPrefix (L.getD 1 []) [87] = true ∧ (numL (Lib.trimPrefix (L.getD 1 []) [87]) 2).2 = true ∧ (numL (L.getD 2 []) 1).2 = true then ofWeekF y (numL (Lib.trimPrefix (L.getD 1 []) [87]) 2).1 (numL (L.getD 2 []) 1).1 else (0, 30)) else (0, 30)
  | _ => if L.length = 2 then (if (numL (L.getD 1 []) 3).2 = true then ofNthF y (numL (L.getD 1 []) 3).1 else (0, 30)) else (0, 30)
def toB (l : List UInt8) : ByteArray := ⟨l.toArray⟩
theorem getD_map (L : List (List UInt8)) (i : Nat) : (L.map toB).getD i ⟨#[]⟩ = toB (L.getD i []) := by
  rw [List.getD_eq_getElem?_getD, List.getD_eq_getElem?_getD, List.getElem?_map]
  cases L[i]? <;> rfl
theorem shape_L (y : Int) (L : List (List UInt8)) (k : Nat) : shapeF y (L.map toB) k = shapeL y L k := by
  have n2 : ∀ l, numF (toB l) 2 = numL l 2 := fun l => numF_L l 2
  have n1 : ∀ l, numF (toB l) 1 = numL l 1 := fun l => numF_L l 1
  have n3 : ∀ l, numF (toB l) 3 = numL l 3 := fun l => numF_L l 3
  match k with
  | 0 =>
    show (if (L.map toB).length = 3 then monthsF y ((L.map toB).getD 1 ⟨#[]⟩) ((L.map toB).getD 2 ⟨#[]⟩) else (0, 30)) = _
    rw [List.length_map, getD_map, getD_map]
    unfold monthsF
    rw [n2, n2]
    rfl
  | 1 =>
    show (if (L.map toB).length = 3 then weeksF y ((L.map toB).getD 1 ⟨#[]⟩) ((L.map toB).getD 2 ⟨#[]⟩) else (0, 30)) = _
    rw [List.length_map, getD_map, getD_map]
    unfold weeksF
    have e : ∀ l : List UInt8, (toB l).data.toList = l := fun l => by show l.toArray.toList = l; simp
    rw [e]
    have e2 : numF ⟨(Lib.trimPrefix (L.getD 1 []) [87]).toArray⟩ 2 = numL (Lib.trimPrefix (L.getD 1 []) [87]) 2 := n2 _
    rw [e2, n1]
    rfl
  | k + 2 =>
    show (if (L.map toB).length = 2 then daysOfF y ((L.map toB).getD 1 ⟨#[]⟩) else (0, 30)) = _
    rw [List.length_map, getD_map]
    unfold daysOfF
    rw [n3]
    rfl
theorem tail_some {y n : Int} {L : List ByteArray} (h : tailF y L = (n, 0)) : ∃ k, k < 3 ∧ shapeF y L k = (n, 0) := by
  unfold tailF at h
  split at h
  · rename_i h0
    exact ⟨0, by omega, Prod.ext (Prod.mk.inj h).1 h0⟩
  · split at h
    · rename_i h0
      exact ⟨1, by omega, Prod.ext (Prod.mk.inj h).1 h0⟩
    · split at h
      · rename_i h0
        exact ⟨2, by omega, Prod.ext (Prod.mk.inj h).1 h0⟩
      · have := (Prod.mk.inj h).2
        cases this
theorem shape_form {y n : Int} {x0 : List UInt8} {r : List (List UInt8)} {k : Nat} (hk : k < 3) (h : shapeL y (x0 :: r) k = (n, 0)) :
    In n ∧ ((yrF n = y ∧ r = [padF (moF n) 2, padF (dyF n) 2]) ∨ (yrF n = y ∧ r = [padF (n - beg (yrF n) + 1) 3]) ∨ (wyr n = y ∧ InY y ∧ r = [87 :: padF ((n - fst (wyr n)) / 7 + 1) 2, padF (wdF n) 1])) := by
  match k, hk, h with
  | 0, _, h =>
    have h : (if (x0 :: r).length = 3 then (if (numL ((x0 :: r).getD 1 []) 2).2 = true ∧ (numL ((x0 :: r).getD 2 []) 2).2 = true then daysF y (numL ((x0 :: r).getD 1 []) 2).1 (numL ((x0 :: r).getD 2 []) 2).1 else (0, 30)) else (0, 30)) = (n, 0) := h
    split at h
    · rename_i hl
      split at h
      · rename_i hc
        obtain ⟨p, q, rfl⟩ : ∃ p q, r = [p, q] := by
          match r, hl with
          | [p, q], _ => exact ⟨p, q, rfl⟩
        have hp : numL p 2 = ((numL p 2).1, true) := Prod.ext rfl hc.1
        have hq : numL q 2 = ((numL q 2).1, true) := Prod.ext rfl hc.2
        obtain ⟨p1, _⟩ := numL_true (by omega) hp
        obtain ⟨q1, _⟩ := numL_true (by omega) hq
        have h : daysF y (numL p 2).1 (numL q 2).1 = (n, 0) := h
        by_cases hok : Ok y (numL p 2).1 (numL q 2).1
        · rw [daysF_ok hok] at h
          have hn : dn y (numL p 2).1 (numL q 2).1 = n := (Prod.mk.inj h).1
          have hin := dn_in hok
          obtain ⟨d1, d2, d3⟩ := date_dn hok
          rw [hn] at hin d1 d2 d3
          refine ⟨hin, .inl ⟨d1, ?_⟩⟩
          rw [d2, d3, ← p1, ← q1]
        · rw [daysF_not hok] at h
          have := (Prod.mk.inj h).2
          cases this
      · have := (Prod.mk.inj h).2
        cases this
    · have := (Prod.mk.inj h).2
      cases this
  | 1, _, h =>
    have h : (if (x0 :: r).length = 3 then (if Lib.hasPrefix ((x0 :: r).getD 1 []) [87] = true ∧ (numL (Lib.trimPrefix ((x0 :: r).getD 1 []) [87]) 2).2 = true ∧ (numL ((x0 :: r).getD 2 []) 1).2 = true then ofWeekF y (numL (Lib.trimPrefix ((x0 :: r).getD 1 []) [87]) 2).1 (numL ((x0 :: r).getD 2 []) 1).1 else (0, 30)) else (0, 30)) = (n, 0) := h
    split at h
    · rename_i hl
      split at h
      · rename_i hc
        obtain ⟨p, q, rfl⟩ : ∃ p q, r = [p, q] := by
          match r, hl with
          | [p, q], _ => exact ⟨p, q, rfl⟩
        obtain ⟨c1, c2, c3⟩ := hc
        have c1 : Lib.hasPrefix p [87] = true := c1
        obtain ⟨p', rfl⟩ : ∃ p', p = 87 :: p' := by
          cases p with
          | nil => simp [Lib.hasPrefix, List.isPrefixOf] at c1
          | cons b p' =>
            simp [Lib.hasPrefix, List.isPrefixOf] at c1
            exact ⟨p', by rw [← c1]⟩
        have ht : Lib.trimPrefix (87 :: p') [87] = p' := by unfold Lib.trimPrefix; rw [if_pos c1]; rfl
        have c2 : (numL (Lib.trimPrefix (87 :: p') [87]) 2).2 = true := c2
        have c3 : (numL q 1).2 = true := c3
        have h : ofWeekF y (numL (Lib.trimPrefix (87 :: p') [87]) 2).1 (numL q 1).1 = (n, 0) := h
        rw [ht] at c2 h
        obtain ⟨p1, _⟩ := numL_true (by omega) (show numL p' 2 = ((numL p' 2).1, true) from Prod.ext rfl c2)
        obtain ⟨q1, _⟩ := numL_true (by omega) (show numL q 1 = ((numL q 1).1, true) from Prod.ext rfl c3)
        generalize (numL p' 2).1 = a at *
        generalize (numL q 1).1 = b at *
        unfold ofWeekF at h
        split at h
        · rename_i hw
          have hn : fst y + 7 * (a - 1) + b - 1 = n := (Prod.mk.inj h).1
          have hww := week_ofWeek hw.1 hw.2.1 hw.2.2.1 hw.2.2.2.1 hw.2.2.2.2
          have hin := hw.2.2.2.2
          rw [hn] at hww hin
          by_cases hi : InY (wyr n)
          · rw [weekF_in hin hi] at hww
            simp only [Prod.mk.injEq] at hww
            obtain ⟨e1, e2, e3, _⟩ := hww
            refine ⟨hin, .inr (.inr ⟨e1, by rw [← e1]; exact hi, ?_⟩)⟩
            rw [e2, e3, ← p1, ← q1]
          · rw [weekF_not (fun h => hi h.2)] at hww
            simp only [Prod.mk.injEq] at hww
            have := hww.2.2.2
            omega
        · have := (Prod.mk.inj h).2
          cases this
      · have := (Prod.mk.inj h).2
        cases this
    · have := (Prod.mk.inj h).2
      cases this
  | 2, _, h =>
    have h : (if (x0 :: r).length = 2 then (if (numL ((x0 :: r).getD 1 []) 3).2 = true then ofNthF y (numL ((x0 :: r).getD 1 []) 3).1 else (0, 30)) else (0, 30)) = (n, 0) := h
    split at h
    · rename_i hl
      split at h
      · rename_i hc
        obtain ⟨p, rfl⟩ : ∃ p, r = [p] := by
          match r, hl with
          | [p], _ => exact ⟨p, rfl⟩
        obtain ⟨p1, _⟩ := numL_true (by omega) (show numL p 3 = ((numL p 3).1, true) from Prod.ext rfl hc)
        have h : ofNthF y (numL p 3).1 = (n, 0) := h
        generalize (numL p 3).1 = a at *
        unfold ofNthF at h
        split at h
        · rename_i hw
          have hn : beg y + a - 1 = n := (Prod.mk.inj h).1
          have hq := nth_ofNth hw.1 hw.2.1 hw.2.2
          rw [hn] at hq
          have hin : In n := by
            rw [← hn]
            exact in_year hw.1 (by omega) (by have := beg_succ y; omega)
          rw [nthF_in hin] at hq
          simp only [Prod.mk.injEq] at hq
          refine ⟨hin, .inr (.inl ⟨hq.1, ?_⟩)⟩
          rw [hq.2.1, ← p1]
        · have := (Prod.mk.inj h).2
          cases this
      · have := (Prod.mk.inj h).2
        cases this
    · have := (Prod.mk.inj h).2
      cases this
theorem read_form {l : List UInt8} {n : Int} (h : readF (toB l) = (n, 0)) : In n ∧ (l = form1 n ∨ l = form2 n ∨ (InY (wyr n) ∧ l = form3 n)) := by
  have e : (toB l).data.toList = l := by show l.toArray.toList = l; simp
  unfold readF at h
  rw [e] at h
  have hpc := pieces_cut (toB (Lib.trimPrefix l [45]))
  have e2 : (toB (Lib.trimPrefix l [45])).data.toList = Lib.trimPrefix l [45] := by show (Lib.trimPrefix l [45]).toArray.toList = _; simp
  rw [e2] at hpc
  have hpc : pieces ⟨(Lib.trimPrefix l [45]).toArray⟩ = (cut (Lib.trimPrefix l [45])).map toB := hpc
  rw [hpc] at h
  obtain ⟨x0, r, hcut⟩ : ∃ x0 r, cut (Lib.trimPrefix l [45]) = x0 :: r := by
    cases hc : cut (Lib.trimPrefix l [45]) with
    | nil => exact absurd hc (cut_ne _)
    | cons a b => exact ⟨a, b, rfl⟩
  rw [hcut] at h
  unfold readL at h
  rw [getD_map] at h
  have e3 : (x0 :: r).getD 0 [] = x0 := rfl
  have e4 : numF (toB x0) 4 = numL x0 4 := numF_L x0 4
  rw [e3, e4] at h
  split at h
  · have := (Prod.mk.inj h).2
    cases this
  · rename_i hc
    have hok : (numL x0 4).2 = true := by
      cases hv : (numL x0 4).2 with
      | true => rfl
      | false => exact absurd (.inl hv) hc
    obtain ⟨a1, a2, a3, _⟩ := numL_true (by omega) (show numL x0 4 = ((numL x0 4).1, true) from Prod.ext rfl hok)
    obtain ⟨k, hk, hs⟩ := tail_some h
    rw [shape_L] at hs
    have hf := shape_form hk hs
    -- the year
    have hyear : ∀ y : Int, y = (if Lib.hasPrefix l [45] = true then -(numL x0 4).1 else (numL x0 4).1) → l = yearL y ++ (Lib.trimPrefix l [45]).drop x0.length ∨ ¬ (x0 <+: Lib.trimPrefix l [45]) := by
      intro y hy
      by_cases hpx : x0 <+: Lib.trimPrefix l [45]
      · refine .inl ?_
        obtain ⟨t, ht⟩ := hpx
        have hd : (Lib.trimPrefix l [45]).drop x0.length = t := by rw [← ht]; simp
        rw [hd]
        by_cases hm : Lib.hasPrefix l [45] = true
        · rw [if_pos hm] at hy
          obtain ⟨l', rfl⟩ : ∃ l', l = 45 :: l' := by
            cases l with
            | nil => simp [Lib.hasPrefix, List.isPrefixOf] at hm
            | cons b l' =>
              simp [Lib.hasPrefix, List.isPrefixOf] at hm
              exact ⟨l', by rw [← hm]⟩
          have htr : Lib.trimPrefix (45 :: l') [45] = l' := by unfold Lib.trimPrefix; rw [if_pos hm]; rfl
          rw [htr] at ht
          have hne : (numL x0 4).1 ≠ 0 := fun h0 => hc (.inr ⟨hm, h0⟩)
          unfold yearL
          rw [if_pos (by omega), hy, Int.neg_neg, ← a1, List.cons_append, ht]
        · rw [if_neg hm] at hy
          have htr : Lib.trimPrefix l [45] = l := by unfold Lib.trimPrefix; rw [if_neg hm]
          rw [htr] at ht
          unfold yearL
          rw [if_neg (by omega), hy, ← a1, ht]
      · exact .inr hpx
    have hjoin : ∀ y : Int, y = (if Lib.hasPrefix l [45] = true then -(numL x0 4).1 else (numL x0 4).1) → (∀ b, Lib.trimPrefix l [45] = x0 ++ b → l = yearL y ++ b) := by
      intro y hy b hb
      rcases hyear y hy with h1 | h1
      · rw [hb] at h1
        have : (x0 ++ b).drop x0.length = b := by simp
        rw [this] at h1
        exact h1
      · exact absurd ⟨b, hb.symm⟩ h1
    refine ⟨hf.1, ?_⟩
    rcases hf.2 with ⟨f1, f2⟩ | ⟨f1, f2⟩ | ⟨f1, f2, f3⟩
    · refine .inl ?_
      rw [f2] at hcut
      rcases cut_cons hcut with ⟨h1, _⟩ | ⟨b, h1, h2⟩
      · cases h1
      rcases cut_cons h2 with ⟨h3, _⟩ | ⟨b', h3, h4⟩
      · cases h3
      rcases cut_cons h4 with ⟨_, h5⟩ | ⟨b'', h5, h6⟩
      · rw [hjoin _ f1 _ h1, h3, h5]
        rfl
      · exact absurd h6 (cut_ne _)
    · refine .inr (.inl ?_)
      rw [f2] at hcut
      rcases cut_cons hcut with ⟨h1, _⟩ | ⟨b, h1, h2⟩
      · cases h1
      rcases cut_cons h2 with ⟨_, h3⟩ | ⟨b', h3, h4⟩
      · rw [hjoin _ f1 _ h1, h3]
        rfl
      · exact absurd h4 (cut_ne _)
    · refine .inr (.inr ⟨by rw [f1]; exact f2, ?_⟩)
      rw [f3] at hcut
      rcases cut_cons hcut with ⟨h1, _⟩ | ⟨b, h1, h2⟩
      · cases h1
      rcases cut_cons h2 with ⟨h3, _⟩ | ⟨b', h3, h4⟩
      · cases h3
      rcases cut_cons h4 with ⟨_, h5⟩ | ⟨b'', h5, h6⟩
      · rw [hjoin _ f1 _ h1, h3, h5]
        rfl
      · exact absurd h6 (cut_ne _)
end Go.Proofs.YtcinojbfjiohjaaGreatDoor.Civ
end

section
namespace Go.Proofs.YtcinojbfjiohjaaGreatDoor.Civ
open Go Go.Proofs.YtcinojbfjiohjaaGreatDoor.Ex
set_option linter.unusedVariables false
set_option linter.unusedSimpArgs false
end Go.Proofs.YtcinojbfjiohjaaGreatDoor.Civ
end

section
namespace Go.Proofs.YtcinojbfjiohjaaGreatDoor.Civ
open Go Go.Proofs.YtcinojbfjiohjaaGreatDoor.Ex
set_option linter.unusedVariables false
set_option linter.unusedSimpArgs false
theorem toB_list (l : List UInt8) : (toB l).data.toList = l := by show l.toArray.toList = l; simp
end Go.Proofs.YtcinojbfjiohjaaGreatDoor.Civ
end

section
namespace Go.Proofs.YtcinojbfjiohjaaGreatDoor.PPrintTells
open Go.RowKit Go.Proofs.YtcinojbfjiohjaaGreatDoorW.PrintWords Go.Proofs.YtcinojbfjiohjaaGreatDoorW.PrintLast Go.Proofs.YtcinojbfjiohjaaGreatDoorW.PrintMore
attribute [local go_sem] max2_int min2_int max_two min_two max_three min_three max_four min_four   -- for this text's walks alone
set_option linter.unusedVariables false
set_option linter.unusedSimpArgs false
def lex_letter.f (a0 : Int) : Option (Bool) := if a0 = 95 then (some true) else (if a0 ≥ 48 then (if a0 ≤ 57 then (some true) else (if (Go.bits .or .i32 a0 32) ≥ 97 then (if (Go.bits .or .i32 a0 32) ≤ 122 then (some (decide (a0 < 128))) else (some false)) else (some false))) else (if (Go.bits .or .i32 a0 32) ≥ 97 then (if (Go.bits .or .i32 a0 32) ≤ 122 then (some (decide (a0 < 128))) else (some false)) else (some false)))
set_option maxHeartbeats 8000000 in
set_option maxRecDepth 100000 in
theorem lex_letter.calls (a0 : Int) (r : Bool) (w : World) (h : lex_letter.f a0 = some r) :
    Calls Tryz.prog 88 #[.int .i32 a0] w fun e w' => e = .returned (.bool r) ∧ Drawn0 w w' := by
  have H : (if a0 = 95 then (some true) else (if a0 ≥ 48 then (if a0 ≤ 57 then (some true) else (if (Go.bits .or .i32 a0 32) ≥ 97 then (if (Go.bits .or .i32 a0 32) ≤ 122 then (some (decide (a0 < 128))) else (some false)) else (some false))) else (if (Go.bits .or .i32 a0 32) ≥ 97 then (if (Go.bits .or .i32 a0 32) ≤ 122 then (some (decide (a0 < 128))) else (some false)) else (some false)))) = some r := h
  clear h
  by_cases c2 : a0 = 95
  · rw [if_pos c2] at H
    have c2b0 : (a0 == 95) = true := beq_iff_eq.mpr c2
    have c2b1 : (a0 != 95) = false := bne_eq_false_iff_eq.mpr c2
    clear c2
    obtain rfl := Option.some.inj H
    go_enter Tryz.func88, Tryz.ntmps88
    go_wp2
    go_ret
    exact ⟨by first | rfl | (simp; done) | (simp [*]; done), by repeat (first | exact Drawn0.refl _ | apply Drawn0.step)⟩
  · rw [if_neg c2] at H
    have c2b0 : (a0 == 95) = false := beq_eq_false_iff_ne.mpr c2
    have c2b1 : (a0 != 95) = true := bne_iff_ne.mpr c2
    by_cases c3 : a0 ≥ 48
    · rw [if_pos c3] at H
      have c3b0 : decide (48 ≤ a0) = true := decide_eq_true c3
      clear c3
      by_cases c4 : a0 ≤ 57
      · rw [if_pos c4] at H
        have c4b0 : decide (a0 ≤ 57) = true := decide_eq_true c4
        clear c4
        obtain rfl := Option.some.inj H
        go_enter Tryz.func88, Tryz.ntmps88
        go_wp2
        go_ret
        exact ⟨by first | rfl | (simp; done) | (simp [*]; done), by repeat (first | exact Drawn0.refl _ | apply Drawn0.step)⟩
      · rw [if_neg c4] at H
        have c4b0 : decide (a0 ≤ 57) = false := decide_eq_false c4
        clear c4
        by_cases c5 : (Go.bits .or .i32 a0 32) ≥ 97
        · rw [if_pos c5] at H
          have c5b0 : decide (97 ≤ (Go.bits .or .i32 a0 32)) = true := decide_eq_true c5
          clear c5
          by_cases c6 : (Go.bits .or .i32 a0 32) ≤ 122
          · rw [if_pos c6] at H
            have c6b0 : decide ((Go.bits .or .i32 a0 32) ≤ 122) = true := decide_eq_true c6
            clear c6
            obtain rfl := Option.some.inj H
            go_enter Tryz.func88, Tryz.ntmps88
            go_wp2
            go_ret
            exact ⟨by first | rfl | (simp; done) | (simp [*]; done), by repeat (first | exact Drawn0.refl _ | apply Drawn0.step)⟩
          · rw [if_neg c6] at H
            have c6b0 : decide ((Go.bits .or .i32 a0 32) ≤ 122) = false := decide_eq_false c6
            clear c6
            obtain rfl := Option.some.inj H
            go_enter Tryz.func88, Tryz.ntmps88
            go_wp2
            go_ret
            exact ⟨by first | rfl | (simp; done) | (simp [*]; done), by repeat (first | exact Drawn0.refl _ | apply Drawn0.step)⟩
        · rw [if_neg c5] at H
          have c5b0 : decide (97 ≤ (Go.bits .or .i32 a0 32)) = false := decide_eq_false c5
          clear c5
          obtain rfl := Option.some.inj H
          go_enter Tryz.func88, Tryz.ntmps88
          go_wp2
          go_ret
          exact ⟨by first | rfl | (simp; done) | (simp [*]; done), by repeat (first | exact Drawn0.refl _ | apply Drawn0.step)⟩
    · rw [if_neg c3] at H
      have c3b0 : decide (48 ≤ a0) = false := decide_eq_false c3
      clear c3
      by_cases c7 : (Go.bits .or .i32 a0 32) ≥ 97
      · rw [if_pos c7] at H
        have c7b0 : decide (97 ≤ (Go.bits .or .i32 a0 32)) = true := decide_eq_true c7
        clear c7
        by_cases c8 : (Go.bits .or .i32 a0 32) ≤ 122
        · rw [if_pos c8] at H
          have c8b0 : decide ((Go.bits .or .i32 a0 32) ≤ 122) = true := decide_eq_true c8
          clear c8
          obtain rfl := Option.some.inj H
          go_enter Tryz.func88, Tryz.ntmps88
          go_wp2
          go_ret
          exact ⟨by first | rfl | (simp; done) | (simp [*]; done), by repeat (first | exact Drawn0.refl _ | apply Drawn0.step)⟩
        · rw [if_neg c8] at H
          have c8b0 : decide ((Go.bits .or .i32 a0 32) ≤ 122) = false := decide_eq_false c8
          clear c8
          obtain rfl := Option.some.inj H
          go_enter Tryz.func88, Tryz.ntmps88
          go_wp2
          go_ret
          exact ⟨by first | rfl | (simp; done) | (simp [*]; done), by repeat (first | exact Drawn0.refl _ | apply Drawn0.step)⟩
      · rw [if_neg c7] at H
        have c7b0 : decide (97 ≤ (Go.bits .or .i32 a0 32)) = false := decide_eq_false c7
        clear c7
        obtain rfl := Option.some.inj H
        go_enter Tryz.func88, Tryz.ntmps88
        go_wp2
        go_ret
        exact ⟨by first | rfl | (simp; done) | (simp [*]; done), by repeat (first | exact Drawn0.refl _ | apply Drawn0.step)⟩
end Go.Proofs.YtcinojbfjiohjaaGreatDoor.PPrintTells
end

section
namespace Go.Proofs.YtcinojbfjiohjaaGreatDoor.Lx
open Go Go.RowKit Go.Proofs.YtcinojbfjiohjaaGreatDoor.PPrintTells Go.Proofs.YtcinojbfjiohjaaGreatDoor.Ex Go.Proofs.YtcinojbfjiohjaaGreatDoor.Civ Go.Proofs.YtcinojbfjiohjaaGreatDoorW.PrintWords Go.Proofs.YtcinojbfjiohjaaGreatDoorW.PrintLast Go.Proofs.YtcinojbfjiohjaaGreatDoorW.PrintMore
set_option linter.unusedVariables false
set_option linter.unusedSimpArgs false
abbrev Tok := S51
abbrev kTk : Kd Tok := k51
abbrev TT : TypeId := 51
abbrev tokV (t : Tok) : Value := .agg #[.int .u8 t.f0, .string t.f1, .int .i64 t.f2]
abbrev tokC (t : Tok) : Obj := .cells #[.int .u8 t.f0, .string t.f1, .int .i64 t.f2] TT
abbrev nil8 : ByteArray := { data := #[] }
def spanN (p : UInt8 → Bool) : List UInt8 → Nat
  | [] => 0
  | b :: l => if p b = true then spanN p l + 1 else 0
theorem span_le (p : UInt8 → Bool) : ∀ l : List UInt8, spanN p l ≤ l.length
  | [] => Nat.le_refl _
  | b :: l => by
    unfold spanN
    split
    · have := span_le p l; rw [List.length_cons]; omega
    · exact Nat.zero_le _
theorem span_at (p : UInt8 → Bool) : ∀ (l : List UInt8) (k : Nat), k < spanN p l → ∃ h : k < l.length, p l[k] = true
  | [], k, h => by simp [spanN] at h
  | b :: l, k, h => by
    unfold spanN at h
    split at h
    · rename_i hb
      cases k with
      | zero => exact ⟨by simp, hb⟩
      | succ k =>
        obtain ⟨h1, h2⟩ := span_at p l k (by omega)
        exact ⟨by simp; omega, by simpa using h2⟩
    · omega
theorem span_end (p : UInt8 → Bool) : ∀ (l : List UInt8) (h : spanN p l < l.length), p l[spanN p l] = false
  | [], h => by simp at h
  | b :: l, h => by
    by_cases hb : p b = true
    · have e : spanN p (b :: l) = spanN p l + 1 := by show (if p b = true then spanN p l + 1 else 0) = _; rw [if_pos hb]
      simp only [e]
      rw [e] at h
      simp only [List.getElem_cons_succ]
      exact span_end p l (by rw [List.length_cons] at h; omega)
    · have e : spanN p (b :: l) = 0 := by show (if p b = true then spanN p l + 1 else 0) = _; rw [if_neg hb]
      simp only [e]
      simpa using hb
theorem letter_byte (b : UInt8) : lex_letter.f (b.toNat : Int) = some (letterB b) := by
  have := byte_all (fun b => lex_letter.f (b.toNat : Int) == some (letterB b)) (by decide +kernel) b
  exact eq_of_beq this
def dashB (b : UInt8) : Bool := decide (b.toNat = 45) || letterB b
theorem letter_calls (b : UInt8) (w : World) : Calls Tryz.prog 88 #[.int .i32 (b.toNat : Int)] w fun e w' => e = .returned (.bool (letterB b)) ∧ Lt w w' :=
  (lex_letter.calls (b.toNat : Int) _ w (letter_byte b)).mono fun _ _ ⟨he, h⟩ => ⟨he, Drawn0.lt h⟩
theorem dash_calls (b : UInt8) (w : World) : Calls Tryz.prog 87 #[.int .i32 (b.toNat : Int)] w fun e w' => e = .returned (.bool (dashB b)) ∧ Lt w w' := by
  have CL := fun w => Aside0.mk (letter_calls b w)
  have hd : dashB b = (decide (b.toNat = 45) || letterB b) := rfl
  rw [hd]
  clear hd
  generalize letterB b = r at *
  obtain ⟨n, hn⟩ : ∃ n, n = b.toNat := ⟨_, rfl⟩
  rw [← hn] at CL ⊢
  clear hn
  by_cases h : n = 45
  · have e1 : ((n : Int) == 45) = true := beq_iff_eq.2 (by omega)
    rw [decide_eq_true h]
    clear h
    go_enter Tryz.func87, Tryz.ntmps87
    go_wp2
    go_ret
    exact ⟨rfl, Lt.refl _⟩
  · have e1 : ((n : Int) == 45) = false := beq_eq_false_iff_ne.2 (by omega)
    rw [decide_eq_false h, Bool.false_or]
    clear h
    go_enter Tryz.func87, Tryz.ntmps87
    go_wp2_with fail
    (with_reducible refine (CL _).out.mono ?_)
    rintro e w1 ⟨rfl, hl⟩
    go_wp2
    go_ret
    exact ⟨rfl, hl⟩
set_option maxHeartbeats 4000000 in
theorem run_calls (p : UInt8 → Bool) (g : FuncId) (eg : ∀ args w, (callFunc g args).run Tryz.prog w = .ok (.enter g args) w) (hp : ∀ (b : UInt8) w, Calls Tryz.prog g #[.int .i32 (b.toNat : Int)] w fun e w' => e = .returned (.bool (p b)) ∧ Lt w w')
    (s : ByteArray) (at0 : Nat) (ha : at0 ≤ s.size) (hs : s.size ≤ 9223372036854775807) (w : World) :
    Calls Tryz.prog 86 #[.string s, .int .i64 (at0 : Int), .func (.func g) #[] #[]] w fun e w' => e = .returned (.int .i64 ((at0 + spanN p (s.data.toList.drop at0) : Nat) : Int)) ∧ Lt w w' := by
  obtain ⟨L, hL⟩ : ∃ L, L = s.data.toList.drop at0 := ⟨_, rfl⟩
  have hlen : L.length = s.size - at0 := by rw [hL, List.length_drop, Array.length_toList]; rfl
  obtain ⟨n, hn⟩ : ∃ n, n = spanN p L := ⟨_, rfl⟩
  have hn1 := span_le p L
  have SA := Aside0.mk (span_at p L)
  have SE := Aside0.mk (span_end p L)
  have HP := Aside0.mk hp
  rw [← hL, ← hn]
  rw [← hn] at hn1 SA
  have HN := Aside0.mk hn
  have HL := Aside0.mk hL
  clear hL hn hp
  go_enter Tryz.func86, Tryz.ntmps86
  go_wp2_with fail
  go_loopw [7] (fun i wr => ∃ k : Nat, k ≤ n ∧ i = .int .i64 ((at0 + k : Nat) : Int) ∧ Lt w wr) (fun i _ => at0 + n - (intOf i).toNat)
  case atStart => exact ⟨0, Nat.zero_le _, rfl, Lt.refl _⟩
  case round =>
    obtain ⟨k, hk, rfl, hlt⟩ := hrel
    have HT := Aside0.mk hlt
    clear hlt
    by_cases hkL : k < L.length
    · have h1 : ((at0 + k : Nat) : Int) < (s.size : Int) := by omega
      have h2 : decide (((at0 + k : Nat) : Int) < (s.size : Int)) = true := decide_eq_true h1
      have h3 : at0 + k < s.size := by omega
      have hb : s[at0 + k] = L[k] := by
        have e : s.data.toList[at0 + k]? = L[k]? := by rw [HL.out, List.getElem?_drop]
        rw [List.getElem?_eq_getElem (by rw [Array.length_toList]; exact h3), List.getElem?_eq_getElem hkL] at e
        exact Option.some.inj e
      obtain ⟨b, hbL⟩ : ∃ b, b = L[k] := ⟨_, rfl⟩
      rw [← hbL] at hb
      have hw : wrap32 (b.toNat : Int) = (b.toNat : Int) := by have := UInt8.toNat_lt b; unfold wrap32; omega
      have CB := Aside0.mk (HP.out b wr)
      by_cases hkn : k < n
      · have hpb : p b = true := by obtain ⟨_, h⟩ := SA.out k hkn; rw [hbL]; exact h
        rw [hpb] at CB
        clear hbL hpb
        go_wp2_with fail
        (with_reducible refine CB.out.mono ?_)
        rintro e w1 ⟨rfl, hl⟩
        have HT := Aside0.mk (HT.out.trans hl)
        clear hl CB
        go_wp2
        go_roundw
        case rel => exact ⟨k + 1, by omega, by go_num, HT.out⟩
        case measure => simp [intOf]; omega
      · obtain rfl : k = n := by omega
        have hpb : p b = false := by
          have h := SE.out (by rw [← HN.out]; exact hkL)
          rw [hbL]
          have e : ∀ (i j : Nat) (hi : i < L.length) (hj : j < L.length), i = j → p L[j] = false → p L[i] = false := fun i j hi hj hij hf => by subst hij; exact hf
          exact e _ _ _ _ HN.out h
        rw [hpb] at CB
        clear hbL hpb
        go_wp2_with fail
        (with_reducible refine CB.out.mono ?_)
        rintro e w1 ⟨rfl, hl⟩
        have HT := Aside0.mk (HT.out.trans hl)
        clear hl CB
        go_wp2_with fail
        go_ret
        exact ⟨by first | rfl | go_num, HT.out⟩
    · obtain rfl : k = n := by omega
      have h1 : ¬ ((at0 + k : Nat) : Int) < (s.size : Int) := by omega
      have h2 : decide (((at0 + k : Nat) : Int) < (s.size : Int)) = false := decide_eq_false h1
      go_wp2_with fail
      go_ret
      exact ⟨rfl, HT.out⟩
end Go.Proofs.YtcinojbfjiohjaaGreatDoor.Lx
end

section
namespace Go.Proofs.YtcinojbfjiohjaaGreatDoor.Lx
open Go Go.RowKit Go.Proofs.YtcinojbfjiohjaaGreatDoor.PPrintTells Go.Proofs.YtcinojbfjiohjaaGreatDoor.Ex Go.Proofs.YtcinojbfjiohjaaGreatDoor.Civ Go.Proofs.YtcinojbfjiohjaaGreatDoorW.PrintWords Go.Proofs.YtcinojbfjiohjaaGreatDoorW.PrintLast Go.Proofs.YtcinojbfjiohjaaGreatDoorW.PrintMore
set_option linter.unusedVariables false
set_option linter.unusedSimpArgs false
structure LCal (w : World) : Prop where
  cal : Cal w
  eS : ∃ te pe, w.cell? ⟨5, 0, none⟩ = some (.iface te pe)
  eR : ∃ te pe, w.cell? ⟨6, 0, none⟩ = some (.iface te pe)
theorem cell_lt {w w' : World} (h : Lt w w') {a : Addr} {v : Value} (hc : w.cell? a = some v) : w'.cell? a = some v := (h.out.cell (World.block_lt_of_cell? w _ hc)).trans hc
theorem LCal.l {w w' : World} (h : LCal w) (k : Lt w w') : LCal w' := by
  obtain ⟨a, b, hs⟩ := h.eS
  obtain ⟨c, d, hr⟩ := h.eR
  exact ⟨h.cal.l k, ⟨a, b, cell_lt k hs⟩, ⟨c, d, cell_lt k hr⟩⟩
theorem blk_lt_on {W W2 : World} {k : Nat} {o : Obj} (hb : Lt W W2) (h : W.heap[k]? = some o) : W2.heap[k]? = some o := (hb.out.block k (blk_lt h)).trans h
theorem Lt_s {w W : World} (h : Lt w W) {g j : Nat} {v : Value} (hg : w.heap.size ≤ g) : Lt w (W.setCell ⟨g, j, none⟩ v) := ⟨below_set h.out hg⟩
theorem info_tk : (Tryz.prog.info? TT).map (·.size) = some 3 := by kernel_rfl
abbrev zTok : Obj := .cells #[.int .u8 0, .string nil8, .int .i64 0] TT
theorem cells3 {W : World} {j : Nat} {t : TypeId} {c0 c1 c2 : Value} (h : W.heap[j]? = some (.cells #[c0, c1, c2] t (0, 0))) : W.cell? ⟨j, 0, none⟩ = some c0 ∧ W.cell? ⟨j, 1, none⟩ = some c1 ∧ W.cell? ⟨j, 2, none⟩ = some c2 :=
  ⟨(blk_cell h 0).trans rfl, (blk_cell h 1).trans rfl, (blk_cell h 2).trans rfl⟩
theorem free3 {W : World} {j : Nat} {t : TypeId} {cs : Array Value} (h : W.heap[j]? = some (.cells cs t (0, 0))) : W.frozen? ⟨j, 0, none⟩ = false ∧ W.frozen? ⟨j, 1, none⟩ = false ∧ W.frozen? ⟨j, 2, none⟩ = false :=
  ⟨blk_frozen h 0, blk_frozen h 1, blk_frozen h 2⟩
abbrev DIGS : ByteArray := ⟨#[48, 49, 50, 51, 52, 53, 54, 55, 56, 57]⟩
def namedL : List UInt8 → Bool
  | [] => false
  | b :: l => decide (l.length < 30) && !digitB b
set_option maxHeartbeats 4000000 in
theorem named_calls (s : ByteArray) (w : World) (hs : s.size ≤ 9223372036854775807) :
    Calls Tryz.prog 91 #[.string s] w fun e w' => e = .returned (.tuple #[tokV ⟨1, s, 0⟩, .bool (namedL s.data.toList)]) ∧ Lt w w' := by
  have bz := blk_new w zTok
  have hsz : s.size = s.data.toList.length := (Array.length_toList).symm
  cases hL : s.data.toList with
  | nil =>
    have h0 : s = nil8 := by
      cases s with
      | mk a => rw [show a = #[] from Array.toList_eq_nil_iff.1 hL]
    subst h0
    clear hL hsz hs
    go_enter Tryz.func91, Tryz.ntmps91
    go_wp2_with fail
    refine bodyPost_ret (results_ct rfl _ _ _ TT _ (0, 0) _ rfl (blk_new w _) Tryz.underlying51 rfl info_tk) rfl ?_
    exact ⟨rfl, (Lt.refl _).a _⟩
  | cons b l =>
    have hl : s.size = l.length + 1 := by rw [hsz, hL]; rfl
    have hN : namedL (b :: l) = (decide (l.length < 30) && !digitB b) := rfl
    have hne : ¬ (s = nil8) := fun h => by rw [h] at hl; cases hl
    have hne1 : (s.toList == []) = false := by rw [Lib.toList_data, hL]; rfl
    have hne2 : (s.toList != []) = true := by rw [bne, hne1]; rfl
    have hne3 : s.toList.isEmpty = false := by rw [Lib.toList_data, hL]; rfl
    rw [hN]
    by_cases h30 : l.length < 30
    · have h1 : (s.size : Int) ≤ 30 := by omega
      have h2 : decide ((s.size : Int) ≤ 30) = true := decide_eq_true h1
      have h0 : 0 < s.size := by omega
      have h3 : (0 : Int) < (s.size : Int) := by omega
      have hb : s[0] = b := by
        have e : s.data.toList[0]? = some b := by rw [hL]; rfl
        rw [List.getElem?_eq_getElem (by rw [Array.length_toList]; exact h0)] at e
        exact Option.some.inj e
      have CI := Aside0.mk (fun w => Tryz.strings_IndexByte DIGS (b.toNat : Int) w)
      have hbb : ((b.toNat : Int).toNat.toUInt8) = b := by simp
      rw [hbb] at CI
      have hd : decide (Lib.indexByte DIGS.data.toList b < 0) = !digitB b := by
        rw [← contains_digits b, Bool.eq_iff_iff, decide_eq_true_eq, Bool.not_eq_true', Bool.eq_false_iff]
        have h := indexByte_ge digitsL b
        exact ⟨fun h1 h2 => by have := h.2 h2; exact absurd (show (0 : Int) ≤ Lib.indexByte digitsL b from this) (by have h1' : Lib.indexByte digitsL b < 0 := h1; omega), fun h1 => by
          have h3 : ¬ (0 ≤ Lib.indexByte digitsL b) := fun h4 => h1 (h.1 h4)
          show Lib.indexByte digitsL b < 0
          omega⟩
      generalize Lib.indexByte DIGS.data.toList b = j at *
      rw [decide_eq_true h30, Bool.true_and, ← hd]
      clear hL hsz hs hl hne hN h30 hbb hd
      go_enter Tryz.func91, Tryz.ntmps91
      go_wp2_with fail
      (with_reducible refine (CI.out _).mono ?_)
      rintro e w2 ⟨rfl, rfl⟩
      go_wp2_with fail
      refine bodyPost_ret (results_ct rfl _ _ _ TT _ (0, 0) _ rfl (blk_new w _) Tryz.underlying51 rfl info_tk) rfl ?_
      exact ⟨rfl, (Lt.refl _).a _⟩
    · have h1 : ¬ (s.size : Int) ≤ 30 := by omega
      have h2 : decide ((s.size : Int) ≤ 30) = false := decide_eq_false h1
      rw [decide_eq_false h30, Bool.false_and]
      clear hL hsz hs hl hne hN h30
      go_enter Tryz.func91, Tryz.ntmps91
      go_wp2_with fail
      refine bodyPost_ret (results_ct rfl _ _ _ TT _ (0, 0) _ rfl (blk_new w _) Tryz.underlying51 rfl info_tk) rfl ?_
      exact ⟨rfl, (Lt.refl _).a _⟩
theorem dated_calls (s : ByteArray) (w : World) (hC : LCal w) (hs : s.size < 4294967281) :
    Calls Tryz.prog 89 #[.string s] w fun e w' => e = .returned (.tuple #[tokV ⟨3, nil8, (readF s).1⟩, .bool (decide ((readF s).2 = 0))]) ∧ Lt w w' := by
  have bz := blk_new w zTok
  have CR := Aside0.mk (Read_lt s (w.alloc zTok) (hC.cal.l ((Lt.refl _).a _)) hs)
  obtain ⟨n, e0, hne⟩ : ∃ n e0, readF s = (n, e0) := ⟨_, _, rfl⟩
  rw [hne] at CR ⊢
  dsimp only at CR ⊢
  have hd : decide (e0 = 0) = (e0 == 0) := rfl
  rw [hd]
  have HB := Aside0.mk ((Lt.refl w).a zTok)
  clear hne hd hC
  go_enter Tryz.func89, Tryz.ntmps89
  go_wp2_with fail
  (with_reducible refine CR.out.mono ?_)
  rintro e w1 ⟨rfl, hl⟩
  have b1 := blk_lt_on hl bz
  have HB := Aside0.mk (HB.out.trans hl)
  obtain ⟨z0, z1, z2⟩ := cells3 b1
  obtain ⟨y0, y1, y2⟩ := free3 b1
  clear hl CR bz
  go_wp2_with fail
  refine bodyPost_ret (results_ct rfl _ _ _ TT _ (0, 0) _ rfl (blk_put (blk_put (blk_put b1 0 _ rfl) 1 _ rfl) 2 _ rfl) Tryz.underlying51 rfl info_tk) rfl ?_
  exact ⟨rfl, Lt_s (Lt_s (Lt_s HB.out (Nat.le_refl _)) (Nat.le_refl _)) (Nat.le_refl _)⟩
end Go.Proofs.YtcinojbfjiohjaaGreatDoor.Lx
end

section
namespace Go.Proofs.YtcinojbfjiohjaaGreatDoor.Lx
open Go Go.RowKit Go.Proofs.YtcinojbfjiohjaaGreatDoor.PPrintTells Go.Proofs.YtcinojbfjiohjaaGreatDoor.Ex Go.Proofs.YtcinojbfjiohjaaGreatDoor.Civ Go.Proofs.YtcinojbfjiohjaaGreatDoorW.PrintWords Go.Proofs.YtcinojbfjiohjaaGreatDoorW.PrintLast Go.Proofs.YtcinojbfjiohjaaGreatDoorW.PrintMore
set_option linter.unusedVariables false
set_option linter.unusedSimpArgs false
def numE (l : List UInt8) (r : Lib.NumEnd Int) : Int × Bool :=
  match r with
  | .ok v => (v, decide (Lib.itoa v = l))
  | .range => (Lib.intSat 64 l, false)
  | _ => (0, false)
def numT (l : List UInt8) : Int × Bool := numE l (Lib.parseIntB 64 l)
theorem lt_ok {w w' : World} {t : List UInt8 → Prop} {e : TypeId} (h : w' = w ∨ ∃ t : ByteArray, w' = Lib.bytesWorld w e t) : Lt w w' := by
  rcases h with rfl | ⟨t, rfl⟩
  · exact Lt.refl _
  · exact lt_bytes _ _ _
set_option maxHeartbeats 4000000 in
theorem numbered_calls (s : ByteArray) (w : World) (hC : LCal w) (hs : s.size ≤ 281474976710656) :
    Calls Tryz.prog 90 #[.string s] w fun e w' => e = .returned (.tuple #[tokV ⟨2, nil8, (numT s.data.toList).1⟩, .bool (numT s.data.toList).2]) ∧ Lt w w' := by
  have bz := blk_new w zTok
  have hC1 := hC.l ((Lt.refl w).a zTok)
  have HB := Aside0.mk ((Lt.refl w).a zTok)
  obtain ⟨r, hr⟩ : ∃ r, Lib.parseIntB 64 s.data.toList = r := ⟨_, rfl⟩
  have hN : numT s.data.toList = numE s.data.toList r := by unfold numT; rw [hr]
  rw [hN]
  clear hN
  cases r
  case ok v =>
    have hv := Lib.parseIntB_bounds hr
    have CP := Aside0.mk (Tryz.strconv_ParseInt_10_at64_ok s (by omega) v hr (w.alloc zTok))
    have CF := fun W (h : LCal W) => Aside0.mk (Tryz.strconv_FormatInt_10 v (by omega) (by omega) W h.cal.pow)
    have HC := Aside0.mk hC1
    obtain ⟨t, ht⟩ : ∃ t : ByteArray, t = ⟨(Lib.itoa v).toArray⟩ := ⟨_, rfl⟩
    rw [← ht] at CF
    have h1 : t.toList = Lib.itoa v := by rw [Lib.toList_data, ht]
    have h2 : s.toList = s.data.toList := Lib.toList_data s
    have hd : decide (Lib.itoa v = s.data.toList) = (t.toList == s.toList) := by
      rw [h1, h2, Bool.eq_iff_iff]
      simp
    have hE : numE s.data.toList (.ok v) = (v, decide (Lib.itoa v = s.data.toList)) := rfl
    rw [hE, hd]
    clear h1 h2 hE
    dsimp only
    clear hv hr ht hd hC hC1 hs
    go_enter Tryz.func90, Tryz.ntmps90
    go_wp2_with fail
    (with_reducible refine CP.out.mono ?_)
    rintro e w1 ⟨rfl, hw⟩
    have hl : Lt (w.alloc zTok) w1 := lt_ok (t := fun _ => True) hw
    have b1 := blk_lt_on hl bz
    have HC := Aside0.mk (HC.out.l hl)
    have HB := Aside0.mk (HB.out.trans hl)
    clear hl hw CP bz
    go_wp2_with fail
    (with_reducible refine (CF _ HC.out).out.mono ?_)
    rintro e w2 ⟨rfl, kk, os, hw⟩
    have hl : Lt w1 w2 := hw ▸ lt_grow _ _ _
    have b1 := blk_lt_on hl b1
    have HB := Aside0.mk (HB.out.trans hl)
    clear hl hw CF
    obtain ⟨z0, z1, z2⟩ := cells3 b1
    obtain ⟨y0, y1, y2⟩ := free3 b1
    go_wp2_with fail
    refine bodyPost_ret (results_ct rfl _ _ _ TT _ (0, 0) _ rfl (blk_put (blk_put (blk_put b1 0 _ rfl) 1 _ rfl) 2 _ rfl) Tryz.underlying51 rfl info_tk) rfl ?_
    exact ⟨rfl, Lt_s (Lt_s (Lt_s HB.out (Nat.le_refl _)) (Nat.le_refl _)) (Nat.le_refl _)⟩
  rotate_left
  case range =>
    have hE : numE s.data.toList .range = (Lib.intSat 64 s.data.toList, false) := rfl
    rw [hE]
    clear hE
    obtain ⟨te, pe, he⟩ := hC1.eR
    have CP := Aside0.mk (Tryz.strconv_ParseInt_10_at64_range s hs hr _ (w.alloc zTok) he (.inr ⟨te, pe, rfl⟩))
    dsimp only
    generalize Lib.intSat 64 s.data.toList = v at *
    clear hr hC hC1 hs
    go_enter Tryz.func90, Tryz.ntmps90
    go_wp2_with fail
    (with_reducible refine CP.out.mono ?_)
    rintro e w1 ⟨N, rfl, _, _, hb⟩
    have hl : Lt (w.alloc zTok) w1 := ⟨hb⟩
    have b1 := blk_lt_on hl bz
    have HB := Aside0.mk (HB.out.trans hl)
    clear hl hb CP bz he
    obtain ⟨z0, z1, z2⟩ := cells3 b1
    obtain ⟨y0, y1, y2⟩ := free3 b1
    go_wp2_with fail
    refine bodyPost_ret (results_ct rfl _ _ _ TT _ (0, 0) _ rfl (blk_put (blk_put (blk_put b1 0 _ rfl) 1 _ rfl) 2 _ rfl) Tryz.underlying51 rfl info_tk) rfl ?_
    exact ⟨rfl, Lt_s (Lt_s (Lt_s HB.out (Nat.le_refl _)) (Nat.le_refl _)) (Nat.le_refl _)⟩
  · unfold numE
    obtain ⟨te, pe, he⟩ := hC1.eS
    have CP := Aside0.mk (show Calls Tryz.prog 130 #[.string s, .int .i64 10, .int .i64 64] (w.alloc zTok) fun e w' => ∃ tp pv, e = .returned (.tuple #[.int .i64 0, .iface tp pv]) ∧ Below (w.alloc zTok).heap.size (w.alloc zTok) w' from
      (Any.strconv_ParseInt_10_at64_syntax Tryz.laysC174 s hs hr _ (w.alloc zTok) he (.inr ⟨te, pe, rfl⟩)).mono fun e w' ⟨N, he, _, _, hb⟩ => ⟨_, _, he, hb⟩)
    dsimp only
    clear hr hC hC1 hs
    go_enter Tryz.func90, Tryz.ntmps90
    go_wp2_with fail
    (with_reducible refine CP.out.mono ?_)
    rintro e w1 ⟨tp, pv, rfl, hb⟩
    have hl : Lt (w.alloc zTok) w1 := ⟨hb⟩
    have b1 := blk_lt_on hl bz
    have HB := Aside0.mk (HB.out.trans hl)
    clear hl hb CP bz he
    obtain ⟨z0, z1, z2⟩ := cells3 b1
    obtain ⟨y0, y1, y2⟩ := free3 b1
    go_wp2_with fail
    refine bodyPost_ret (results_ct rfl _ _ _ TT _ (0, 0) _ rfl (blk_put (blk_put (blk_put b1 0 _ rfl) 1 _ rfl) 2 _ rfl) Tryz.underlying51 rfl info_tk) rfl ?_
    exact ⟨rfl, Lt_s (Lt_s (Lt_s HB.out (Nat.le_refl _)) (Nat.le_refl _)) (Nat.le_refl _)⟩
end Go.Proofs.YtcinojbfjiohjaaGreatDoor.Lx
end
