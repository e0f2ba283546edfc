/-
  Part 4 of what the row stands on, put together by a program: PLx7, PLx8, CivP, CivC, CivD, DatM, DatW, DatS, DatT, DatR, DatQ, DatB, DatF, DatG, DatH, PLxL, LxA, LxB, LxC, LxD, LxE, LxF, LxG, LxH, LxP, LxT, DatE, DatD, PLx9, DatK, PLx10, LxN, LxU.
-/
import Derived.IntWalk
import Derived.Laws.EntriesVeiled
import Derived.Lib.AtoiAllCases
import Derived.Lib.AtoiBound
import Derived.Lib.IndexBytes
import Derived.Lib.ItoaLen
import Derived.Lib.ItoaMem
import Derived.Lib.ParseIntBTie
import Derived.Lib.SliceRun
import Derived.Lib.SplitLaws
import Derived.WalkMore
import Derived.WalkSmall
import Derived.WalkSpells
import Derived.Test.YtcinojbfjiohjaaGreatDoorPqC
section
namespace Go.Proofs.YtcinojbfjiohjaaGreatDoor.PPrintTells
open Go.RowKit Go.Proofs.YtcinojbfjiohjaaGreatDoorW.PrintWords Go.Proofs.YtcinojbfjiohjaaGreatDoorW.PrintLast Go.Proofs.YtcinojbfjiohjaaGreatDoorW.PrintMore
attribute [local go_sem] max2_int min2_int max_two min_two max_three min_three max_four min_four   -- for this text's walks alone
set_option linter.unusedVariables false
set_option linter.unusedSimpArgs false
mutual
def epactref03_begin.l0 : Nat → Int → Int → Int → Option (Int)
  | 0, _, _, _ => none
  | k + 1, x0, x3, x4 => if (wrap64 (x4 + 400)) ≤ x0 then (epactref03_begin.l0 k x0 (wrap64 (x3 + 146097)) (wrap64 (x4 + 400))) else (epactref03_begin.l1 k x0 x3 x4)
def epactref03_begin.l1 : Nat → Int → Int → Int → Option (Int)
  | 0, _, _, _ => none
  | k + 1, x0, x3, x4 => if (wrap64 (x4 - 400)) ≥ x0 then (epactref03_begin.l1 k x0 (wrap64 (x3 - 146097)) (wrap64 (x4 - 400))) else (epactref03_begin.l2 k x0 x3 x4)
def epactref03_begin.l2 : Nat → Int → Int → Int → Option (Int)
  | 0, _, _, _ => none
  | k + 1, x0, x3, x4 => if x4 < x0 then ((epactref03_whole.f x4).bind fun t168 => (epactref03_begin.l2 k x0 (wrap64 (x3 + t168)) (wrap64 (x4 + 1)))) else (epactref03_begin.l3 k x0 x3 x4)
def epactref03_begin.l3 : Nat → Int → Int → Int → Option (Int)
  | 0, _, _, _ => none
  | k + 1, x0, x3, x4 => if x4 > x0 then ((epactref03_whole.f (wrap64 (x4 - 1))).bind fun t169 => (epactref03_begin.l3 k x0 (wrap64 (x3 - t169)) (wrap64 (x4 - 1)))) else (some x3)
end
def epactref03_begin.f (k : Nat) (a0 : Int) : Option (Int) := epactref03_begin.l0 k a0 0 1970
set_option maxHeartbeats 8000000 in
set_option maxRecDepth 100000 in
theorem epactref03_begin.calls (k : Nat) (a0 : Int) (r : Int) (w : World) (h : epactref03_begin.f k a0 = some r) :
    Calls Tryz.prog 149 #[.int .i64 a0] w fun e w' => e = .returned (.int .i64 r) ∧ Drawn0 w w' := by
  have H : (epactref03_begin.l0 k a0 0 1970) = some r := h
  clear h
  have H' := Aside0.mk H
  clear H
  go_enter Tryz.func149, Tryz.ntmps149
  go_wp2
  go_loopg [3, 4] k (fun kq v3 v4 w' => ∃ (x3_1 : Int) (x4_1 : Int), v3 = .int .i64 x3_1 ∧ v4 = .int .i64 x4_1 ∧ Aside0 (epactref03_begin.l0 kq a0 x3_1 x4_1 = some r) ∧ Aside0 (kq ≤ k) ∧ Drawn0 w w')
  case atStart => exact ⟨(0), (1970), (by first | rfl | (simp; done) | (simp [*]; done)), (by first | rfl | (simp; done) | (simp [*]; done)), H', ⟨Nat.le_refl _⟩, by repeat (first | exact Drawn0.refl _ | apply Drawn0.step)⟩
  case round =>
    clear H'
    try clear c1
    obtain ⟨x3_1, x4_1, rfl, rfl, HA, HK1, ⟨m1, rfl⟩⟩ := hrel
    cases gk with
    | zero => exact absurd HA.out (by simp [epactref03_begin.l0])
    | succ k1 =>
      have H := HA.out
      clear HA
      simp only [epactref03_begin.l0] at H
      by_cases c2 : (wrap64 (x4_1 + 400)) ≤ a0
      · rw [if_pos c2] at H
        have c2b0 : decide ((wrap64 (x4_1 + 400)) ≤ a0) = true := decide_eq_true c2
        clear c2
        have H' := Aside0.mk H
        clear H
        go_wp2
        go_roundg k1
        case measure => have := HK1.out; omega
        case rel => exact ⟨(wrap64 (x3_1 + 146097)), (wrap64 (x4_1 + 400)), (by first | rfl | (simp; done) | (simp [*]; done)), (by first | rfl | (simp; done) | (simp [*]; done)), H', ⟨by have := HK1.out; omega⟩, by repeat (first | exact Drawn0.refl _ | apply Drawn0.step)⟩
      · rw [if_neg c2] at H
        have c2b0 : decide ((wrap64 (x4_1 + 400)) ≤ a0) = false := decide_eq_false c2
        clear c2
        have H' := Aside0.mk H
        clear H
        go_wp2
        go_loopg [3, 4] k1 (fun kq v3 v4 w' => ∃ (x3_2 : Int) (x4_2 : Int), v3 = .int .i64 x3_2 ∧ v4 = .int .i64 x4_2 ∧ Aside0 (epactref03_begin.l1 kq a0 x3_2 x4_2 = some r) ∧ Aside0 (kq ≤ k1) ∧ Drawn0 w w')
        case atStart => exact ⟨(x3_1), (x4_1), (by first | rfl | (simp; done) | (simp [*]; done)), (by first | rfl | (simp; done) | (simp [*]; done)), H', ⟨Nat.le_refl _⟩, by repeat (first | exact Drawn0.refl _ | apply Drawn0.step)⟩
        case round =>
          clear H'
          try clear c1
          try clear c2
          try clear c2b0
          try clear p2
          obtain ⟨x3_2, x4_2, rfl, rfl, HA, HK2, ⟨m2, rfl⟩⟩ := hrel
          cases gk with
          | zero => exact absurd HA.out (by simp [epactref03_begin.l1])
          | succ k2 =>
            have H := HA.out
            clear HA
            simp only [epactref03_begin.l1] at H
            by_cases c3 : (wrap64 (x4_2 - 400)) ≥ a0
            · rw [if_pos c3] at H
              have c3b0 : decide (a0 ≤ (wrap64 (x4_2 - 400))) = true := decide_eq_true c3
              clear c3
              have H' := Aside0.mk H
              clear H
              go_wp2
              go_roundg k2
              case measure => have := HK1.out; have := HK2.out; omega
              case rel => exact ⟨(wrap64 (x3_2 - 146097)), (wrap64 (x4_2 - 400)), (by first | rfl | (simp; done) | (simp [*]; done)), (by first | rfl | (simp; done) | (simp [*]; done)), H', ⟨by have := HK1.out; have := HK2.out; omega⟩, by repeat (first | exact Drawn0.refl _ | apply Drawn0.step)⟩
            · rw [if_neg c3] at H
              have c3b0 : decide (a0 ≤ (wrap64 (x4_2 - 400))) = false := decide_eq_false c3
              clear c3
              have H' := Aside0.mk H
              clear H
              go_wp2
              go_loopg [3, 4] k2 (fun kq v3 v4 w' => ∃ (x3_3 : Int) (x4_3 : Int), v3 = .int .i64 x3_3 ∧ v4 = .int .i64 x4_3 ∧ Aside0 (epactref03_begin.l2 kq a0 x3_3 x4_3 = some r) ∧ Aside0 (kq ≤ k2) ∧ Drawn0 w w')
              case atStart => exact ⟨(x3_2), (x4_2), (by first | rfl | (simp; done) | (simp [*]; done)), (by first | rfl | (simp; done) | (simp [*]; done)), H', ⟨Nat.le_refl _⟩, by repeat (first | exact Drawn0.refl _ | apply Drawn0.step)⟩
              case round =>
                clear H'
                try clear c1
                try clear c2
                try clear c2b0
                try clear p2
                try clear c3
                try clear c3b0
                try clear p2
                obtain ⟨x3_3, x4_3, rfl, rfl, HA, HK3, ⟨m3, rfl⟩⟩ := hrel
                cases gk with
                | zero => exact absurd HA.out (by simp [epactref03_begin.l2])
                | succ k3 =>
                  have H := HA.out
                  clear HA
                  simp only [epactref03_begin.l2] at H
                  by_cases c4 : x4_3 < a0
                  · rw [if_pos c4] at H
                    have c4b0 : decide (x4_3 < a0) = true := decide_eq_true c4
                    clear c4
                    replace H := Option.bind_eq_some_iff.mp H
                    obtain ⟨t168, A50, H⟩ := H
                    replace H : (epactref03_begin.l2 k3 a0 (wrap64 (x3_3 + t168)) (wrap64 (x4_3 + 1))) = some r := H
                    have A5 := Aside0.mk A50
                    clear A50
                    have H' := Aside0.mk H
                    clear H
                    go_wp2_with (first | ((with_reducible refine gate_callee (f := 181) rfl ?_); refine goesL_ (some 26) rfl rfl Tryz.func181 (by kernel_rfl) rfl #[.int .i64 x4_3] rfl (by (try simp only [List.map_toArray, List.map_cons, List.map_nil]); first | done | rfl | (simp only [List.length_drop, List.length_take]; rfl)) ?_; (with_reducible refine (epactref03_whole.calls x4_3 t168 _ A5.out).mono ?_); rintro e w' ⟨rfl, ⟨nd, rfl⟩⟩; refine ⟨_, rfl, ?_⟩))
                    go_roundg k3
                    case measure => have := HK1.out; have := HK2.out; have := HK3.out; omega
                    case rel => exact ⟨(wrap64 (x3_3 + t168)), (wrap64 (x4_3 + 1)), (by first | rfl | (simp; done) | (simp [*]; done)), (by first | rfl | (simp; done) | (simp [*]; done)), H', ⟨by have := HK1.out; have := HK2.out; have := HK3.out; omega⟩, by repeat (first | exact Drawn0.refl _ | apply Drawn0.step)⟩
                  · rw [if_neg c4] at H
                    have c4b0 : decide (x4_3 < a0) = false := decide_eq_false c4
                    clear c4
                    have H' := Aside0.mk H
                    clear H
                    go_wp2
                    go_loopg [3, 4] k3 (fun kq v3 v4 w' => ∃ (x3_4 : Int) (x4_4 : Int), v3 = .int .i64 x3_4 ∧ v4 = .int .i64 x4_4 ∧ Aside0 (epactref03_begin.l3 kq a0 x3_4 x4_4 = some r) ∧ Aside0 (kq ≤ k3) ∧ Drawn0 w w')
                    case atStart => exact ⟨(x3_3), (x4_3), (by first | rfl | (simp; done) | (simp [*]; done)), (by first | rfl | (simp; done) | (simp [*]; done)), H', ⟨Nat.le_refl _⟩, by repeat (first | exact Drawn0.refl _ | apply Drawn0.step)⟩
                    case round =>
                      clear H'
                      try clear c1
                      try clear c2
                      try clear c2b0
                      try clear p2
                      try clear c3
                      try clear c3b0
                      try clear c4
                      try clear c4b0
                      try clear p2
                      obtain ⟨x3_4, x4_4, rfl, rfl, HA, HK4, ⟨m4, rfl⟩⟩ := hrel
                      cases gk with
                      | zero => exact absurd HA.out (by simp [epactref03_begin.l3])
                      | succ k4 =>
                        have H := HA.out
                        clear HA
                        simp only [epactref03_begin.l3] at H
                        by_cases c6 : x4_4 > a0
                        · rw [if_pos c6] at H
                          have c6b0 : decide (a0 < x4_4) = true := decide_eq_true c6
                          clear c6
                          replace H := Option.bind_eq_some_iff.mp H
                          obtain ⟨t169, A70, H⟩ := H
                          replace H : (epactref03_begin.l3 k4 a0 (wrap64 (x3_4 - t169)) (wrap64 (x4_4 - 1))) = some r := H
                          have A7 := Aside0.mk A70
                          clear A70
                          have H' := Aside0.mk H
                          clear H
                          go_wp2_with (first | ((with_reducible refine gate_callee (f := 181) rfl ?_); refine goesL_ (some 37) rfl rfl Tryz.func181 (by kernel_rfl) rfl #[.int .i64 (wrap64 (x4_4 - 1))] rfl (by (try simp only [List.map_toArray, List.map_cons, List.map_nil]); first | done | rfl | (simp only [List.length_drop, List.length_take]; rfl)) ?_; (with_reducible refine (epactref03_whole.calls (wrap64 (x4_4 - 1)) t169 _ A7.out).mono ?_); rintro e w' ⟨rfl, ⟨nd, rfl⟩⟩; refine ⟨_, rfl, ?_⟩))
                          go_roundg k4
                          case measure => have := HK1.out; have := HK2.out; have := HK3.out; have := HK4.out; omega
                          case rel => exact ⟨(wrap64 (x3_4 - t169)), (wrap64 (x4_4 - 1)), (by first | rfl | (simp; done) | (simp [*]; done)), (by first | rfl | (simp; done) | (simp [*]; done)), H', ⟨by have := HK1.out; have := HK2.out; have := HK3.out; have := HK4.out; omega⟩, by repeat (first | exact Drawn0.refl _ | apply Drawn0.step)⟩
                        · rw [if_neg c6] at H
                          have c6b0 : decide (a0 < x4_4) = false := decide_eq_false c6
                          clear c6
                          obtain rfl := Option.some.inj H
                          go_wp2
                          go_ret
                          exact ⟨by first | rfl | (simp; done) | (simp [*]; done), by repeat (first | exact Drawn0.refl _ | apply Drawn0.step)⟩
def epactref03_Length.j0 : Nat → Int → Bool → Option (Int)
  | 0, _, _ => none
  | k + 1, x5, x10 => if x10 = true then (some 30) else (if x5 = 1 then (some 31) else (if x5 = 3 then (some 31) else (if x5 = 5 then (some 31) else (if x5 = 7 then (some 31) else (if x5 = 8 then (some 31) else (if x5 = 10 then (some 31) else (if x5 = 12 then (some 31) else (some 0))))))))
def epactref03_Length.f (k : Nat) (a0 : Int) (a1 : Int) : Option (Int) := if a1 = 2 then ((epactref03_Leap.f a0).bind fun t170 => (if t170 = true then (some 29) else (some 28))) else (if a1 = 4 then (epactref03_Length.j0 k a1 (a1 == 4)) else (if a1 = 6 then (epactref03_Length.j0 k a1 (a1 == 6)) else (if a1 = 9 then (epactref03_Length.j0 k a1 (a1 == 9)) else (epactref03_Length.j0 k a1 (a1 == 11)))))
set_option maxHeartbeats 8000000 in
set_option maxRecDepth 100000 in
theorem epactref03_Length.calls (k : Nat) (a0 : Int) (a1 : Int) (r : Int) (w : World) (h : epactref03_Length.f k a0 a1 = some r) :
    Calls Tryz.prog 150 #[.int .i64 a0, .int .i64 a1] w fun e w' => e = .returned (.int .i64 r) ∧ Drawn0 w w' := by
  have H : (if a1 = 2 then ((epactref03_Leap.f a0).bind fun t170 => (if t170 = true then (some 29) else (some 28))) else (if a1 = 4 then (epactref03_Length.j0 k a1 (a1 == 4)) else (if a1 = 6 then (epactref03_Length.j0 k a1 (a1 == 6)) else (if a1 = 9 then (epactref03_Length.j0 k a1 (a1 == 9)) else (epactref03_Length.j0 k a1 (a1 == 11)))))) = some r := h
  clear h
  by_cases c3 : a1 = 2
  · rw [if_pos c3] at H
    have c3b0 : (a1 == 2) = true := beq_iff_eq.mpr c3
    have c3b1 : (a1 != 2) = false := bne_eq_false_iff_eq.mpr c3
    clear c3
    replace H := Option.bind_eq_some_iff.mp H
    obtain ⟨t170, A40, H⟩ := H
    replace H : (if t170 = true then (some 29) else (some 28)) = some r := H
    have A4 := Aside0.mk A40
    clear A40
    by_cases c5 : t170 = true
    · subst c5
      have H1 : (some 29) = some r := by rw [if_pos rfl] at H; exact H
      clear H
      have H := H1
      clear H1
      obtain rfl := Option.some.inj H
      go_enter Tryz.func150, Tryz.ntmps150
      go_wp2_with (first | ((with_reducible refine gate_callee (f := 182) rfl ?_); refine goesL_ (some 9) rfl rfl Tryz.func182 (by kernel_rfl) rfl #[.int .i64 a0] rfl (by (try simp only [List.map_toArray, List.map_cons, List.map_nil]); first | done | rfl | (simp only [List.length_drop, List.length_take]; rfl)) ?_; (with_reducible refine (epactref03_Leap.calls a0 true _ A4.out).mono ?_); rintro e w' ⟨rfl, ⟨nd, rfl⟩⟩; refine ⟨_, rfl, ?_⟩))
      go_ret
      exact ⟨by first | rfl | (simp; done) | (simp [*]; done), by repeat (first | exact Drawn0.refl _ | apply Drawn0.step)⟩
    · replace c5 := Bool.eq_false_iff.mpr c5
      subst c5
      have H1 : (some 28) = some r := by rw [if_neg (show ¬ (false = true) by decide)] at H; exact H
      clear H
      have H := H1
      clear H1
      obtain rfl := Option.some.inj H
      go_enter Tryz.func150, Tryz.ntmps150
      go_wp2_with (first | ((with_reducible refine gate_callee (f := 182) rfl ?_); refine goesL_ (some 9) rfl rfl Tryz.func182 (by kernel_rfl) rfl #[.int .i64 a0] rfl (by (try simp only [List.map_toArray, List.map_cons, List.map_nil]); first | done | rfl | (simp only [List.length_drop, List.length_take]; rfl)) ?_; (with_reducible refine (epactref03_Leap.calls a0 false _ A4.out).mono ?_); rintro e w' ⟨rfl, ⟨nd, rfl⟩⟩; refine ⟨_, rfl, ?_⟩))
      go_ret
      exact ⟨by first | rfl | (simp; done) | (simp [*]; done), by repeat (first | exact Drawn0.refl _ | apply Drawn0.step)⟩
  · rw [if_neg c3] at H
    have c3b0 : (a1 == 2) = false := beq_eq_false_iff_ne.mpr c3
    have c3b1 : (a1 != 2) = true := bne_iff_ne.mpr c3
    have HC6 := Aside0.mk H
    clear H
    go_enter Tryz.func150, Tryz.ntmps150
    go_upto_if 10 with (fail)
    go_cut [10] (fun v10 wc => ∃ (kq : Nat) (x10_5 : Bool), v10 = .bool x10_5 ∧ Aside0 (epactref03_Length.j0 kq a1 x10_5 = some r) ∧ Aside0 (kq ≤ k) ∧ Drawn0 w wc)
    case first =>
      have H := HC6.out
      clear HC6
      by_cases c7 : a1 = 4
      · rw [if_pos c7] at H
        have c7b0 : (a1 == 4) = true := beq_iff_eq.mpr c7
        have c7b1 : (a1 != 4) = false := bne_eq_false_iff_eq.mpr c7
        clear c7
        (first | rw [c7b0] | (simp only [i64_w, i32_w]; rw [c7b0]) | skip)
        have H' := Aside0.mk H
        clear H
        go_wp2
        go_meet
        case rel => exact ⟨_, ((a1 == 4)), (by first | rfl | (simp; done) | (simp [*]; done)), H', ⟨by first | omega | exact Nat.le_refl _⟩, by repeat (first | exact Drawn0.refl _ | apply Drawn0.step)⟩
      · rw [if_neg c7] at H
        have c7b0 : (a1 == 4) = false := beq_eq_false_iff_ne.mpr c7
        have c7b1 : (a1 != 4) = true := bne_iff_ne.mpr c7
        (first | rw [c7b0] | (simp only [i64_w, i32_w]; rw [c7b0]) | skip)
        by_cases c8 : a1 = 6
        · rw [if_pos c8] at H
          have c8b0 : (a1 == 6) = true := beq_iff_eq.mpr c8
          have c8b1 : (a1 != 6) = false := bne_eq_false_iff_eq.mpr c8
          clear c8
          have H' := Aside0.mk H
          clear H
          go_wp2
          go_meet
          case rel => exact ⟨_, ((a1 == 6)), (by first | rfl | (simp; done) | (simp [*]; done)), H', ⟨by first | omega | exact Nat.le_refl _⟩, by repeat (first | exact Drawn0.refl _ | apply Drawn0.step)⟩
        · rw [if_neg c8] at H
          have c8b0 : (a1 == 6) = false := beq_eq_false_iff_ne.mpr c8
          have c8b1 : (a1 != 6) = true := bne_iff_ne.mpr c8
          by_cases c9 : a1 = 9
          · rw [if_pos c9] at H
            have c9b0 : (a1 == 9) = true := beq_iff_eq.mpr c9
            have c9b1 : (a1 != 9) = false := bne_eq_false_iff_eq.mpr c9
            clear c9
            have H' := Aside0.mk H
            clear H
            go_wp2
            go_meet
            case rel => exact ⟨_, ((a1 == 9)), (by first | rfl | (simp; done) | (simp [*]; done)), H', ⟨by first | omega | exact Nat.le_refl _⟩, by repeat (first | exact Drawn0.refl _ | apply Drawn0.step)⟩
          · rw [if_neg c9] at H
            have c9b0 : (a1 == 9) = false := beq_eq_false_iff_ne.mpr c9
            have c9b1 : (a1 != 9) = true := bne_iff_ne.mpr c9
            have H' := Aside0.mk H
            clear H
            go_wp2
            go_meet
            case rel => exact ⟨_, ((a1 == 11)), (by first | rfl | (simp; done) | (simp [*]; done)), H', ⟨by first | omega | exact Nat.le_refl _⟩, by repeat (first | exact Drawn0.refl _ | apply Drawn0.step)⟩
    case rest =>
      clear HC6
      try clear c1
      try clear p2
      try clear c3
      try clear c3b0
      try clear c3b1
      try clear c5
      try clear c7
      try clear c7b0
      try clear c7b1
      try clear c8
      try clear c8b0
      try clear c8b1
      try clear c9
      try clear c9b0
      try clear c9b1
      obtain ⟨kq, x10_5, rfl, HA, HJ5, ⟨mc5, rfl⟩⟩ := hcut
      cases kq with
      | zero => exact absurd HA.out (by simp [epactref03_Length.j0])
      | succ kj5 =>
        have H := HA.out
        clear HA
        simp only [epactref03_Length.j0] at H
        by_cases c10 : x10_5 = true
        · subst c10
          have H1 : (some 30) = some r := by rw [if_pos rfl] at H; exact H
          clear H
          have H := H1
          clear H1
          obtain rfl := Option.some.inj H
          go_wp2
          go_ret
          exact ⟨by first | rfl | (simp; done) | (simp [*]; done), by repeat (first | exact Drawn0.refl _ | apply Drawn0.step)⟩
        · replace c10 := Bool.eq_false_iff.mpr c10
          subst c10
          have H1 : (if a1 = 1 then (some 31) else (if a1 = 3 then (some 31) else (if a1 = 5 then (some 31) else (if a1 = 7 then (some 31) else (if a1 = 8 then (some 31) else (if a1 = 10 then (some 31) else (if a1 = 12 then (some 31) else (some 0)))))))) = some r := by rw [if_neg (show ¬ (false = true) by decide)] at H; exact H
          clear H
          have H := H1
          clear H1
          by_cases c11 : a1 = 1
          · rw [if_pos c11] at H
            have c11b0 : (a1 == 1) = true := beq_iff_eq.mpr c11
            have c11b1 : (a1 != 1) = false := bne_eq_false_iff_eq.mpr c11
            clear c11
            obtain rfl := Option.some.inj H
            go_wp2
            go_ret
            exact ⟨by first | rfl | (simp; done) | (simp [*]; done), by repeat (first | exact Drawn0.refl _ | apply Drawn0.step)⟩
          · rw [if_neg c11] at H
            have c11b0 : (a1 == 1) = false := beq_eq_false_iff_ne.mpr c11
            have c11b1 : (a1 != 1) = true := bne_iff_ne.mpr c11
            by_cases c12 : a1 = 3
            · rw [if_pos c12] at H
              have c12b0 : (a1 == 3) = true := beq_iff_eq.mpr c12
              have c12b1 : (a1 != 3) = false := bne_eq_false_iff_eq.mpr c12
              clear c12
              obtain rfl := Option.some.inj H
              go_wp2
              go_ret
              exact ⟨by first | rfl | (simp; done) | (simp [*]; done), by repeat (first | exact Drawn0.refl _ | apply Drawn0.step)⟩
            · rw [if_neg c12] at H
              have c12b0 : (a1 == 3) = false := beq_eq_false_iff_ne.mpr c12
              have c12b1 : (a1 != 3) = true := bne_iff_ne.mpr c12
              by_cases c13 : a1 = 5
              · rw [if_pos c13] at H
                have c13b0 : (a1 == 5) = true := beq_iff_eq.mpr c13
                have c13b1 : (a1 != 5) = false := bne_eq_false_iff_eq.mpr c13
                clear c13
                obtain rfl := Option.some.inj H
                go_wp2
                go_ret
                exact ⟨by first | rfl | (simp; done) | (simp [*]; done), by repeat (first | exact Drawn0.refl _ | apply Drawn0.step)⟩
              · rw [if_neg c13] at H
                have c13b0 : (a1 == 5) = false := beq_eq_false_iff_ne.mpr c13
                have c13b1 : (a1 != 5) = true := bne_iff_ne.mpr c13
                by_cases c14 : a1 = 7
                · rw [if_pos c14] at H
                  have c14b0 : (a1 == 7) = true := beq_iff_eq.mpr c14
                  have c14b1 : (a1 != 7) = false := bne_eq_false_iff_eq.mpr c14
                  clear c14
                  obtain rfl := Option.some.inj H
                  go_wp2
                  go_ret
                  exact ⟨by first | rfl | (simp; done) | (simp [*]; done), by repeat (first | exact Drawn0.refl _ | apply Drawn0.step)⟩
                · rw [if_neg c14] at H
                  have c14b0 : (a1 == 7) = false := beq_eq_false_iff_ne.mpr c14
                  have c14b1 : (a1 != 7) = true := bne_iff_ne.mpr c14
                  by_cases c15 : a1 = 8
                  · rw [if_pos c15] at H
                    have c15b0 : (a1 == 8) = true := beq_iff_eq.mpr c15
                    have c15b1 : (a1 != 8) = false := bne_eq_false_iff_eq.mpr c15
                    clear c15
                    obtain rfl := Option.some.inj H
                    go_wp2
                    go_ret
                    exact ⟨by first | rfl | (simp; done) | (simp [*]; done), by repeat (first | exact Drawn0.refl _ | apply Drawn0.step)⟩
                  · rw [if_neg c15] at H
                    have c15b0 : (a1 == 8) = false := beq_eq_false_iff_ne.mpr c15
                    have c15b1 : (a1 != 8) = true := bne_iff_ne.mpr c15
                    by_cases c16 : a1 = 10
                    · rw [if_pos c16] at H
                      have c16b0 : (a1 == 10) = true := beq_iff_eq.mpr c16
                      have c16b1 : (a1 != 10) = false := bne_eq_false_iff_eq.mpr c16
                      clear c16
                      obtain rfl := Option.some.inj H
                      go_wp2
                      go_ret
                      exact ⟨by first | rfl | (simp; done) | (simp [*]; done), by repeat (first | exact Drawn0.refl _ | apply Drawn0.step)⟩
                    · rw [if_neg c16] at H
                      have c16b0 : (a1 == 10) = false := beq_eq_false_iff_ne.mpr c16
                      have c16b1 : (a1 != 10) = true := bne_iff_ne.mpr c16
                      by_cases c17 : a1 = 12
                      · rw [if_pos c17] at H
                        have c17b0 : (a1 == 12) = true := beq_iff_eq.mpr c17
                        have c17b1 : (a1 != 12) = false := bne_eq_false_iff_eq.mpr c17
                        clear c17
                        obtain rfl := Option.some.inj H
                        go_wp2
                        go_ret
                        exact ⟨by first | rfl | (simp; done) | (simp [*]; done), by repeat (first | exact Drawn0.refl _ | apply Drawn0.step)⟩
                      · rw [if_neg c17] at H
                        have c17b0 : (a1 == 12) = false := beq_eq_false_iff_ne.mpr c17
                        have c17b1 : (a1 != 12) = true := bne_iff_ne.mpr c17
                        obtain rfl := Option.some.inj H
                        go_wp2
                        go_ret
                        exact ⟨by first | rfl | (simp; done) | (simp [*]; done), by repeat (first | exact Drawn0.refl _ | apply Drawn0.step)⟩
mutual
def epactref03_Date.j0 : Nat → Int → Bool → Option (Int × Int × Int × Int)
  | 0, _, _ => none
  | k + 1, x0, x18 => if x18 = true then (some (0, 0, 0, 30)) else (epactref03_Date.l0 k x0 (-9999) 9999)
def epactref03_Date.l0 : Nat → Int → Int → Int → Option (Int × Int × Int × Int)
  | 0, _, _, _ => none
  | k + 1, x0, x6, x7 => if x6 < x7 then ((epactref03_begin.f k (wrap64 (x6 + (wrap64 (Int.tdiv (wrap64 ((wrap64 (x7 - x6)) + 1)) 2))))).bind fun t173 => (if t173 ≤ x0 then (epactref03_Date.l0 k x0 (wrap64 (x6 + (wrap64 (Int.tdiv (wrap64 ((wrap64 (x7 - x6)) + 1)) 2)))) x7) else (epactref03_Date.l0 k x0 x6 (wrap64 ((wrap64 (x6 + (wrap64 (Int.tdiv (wrap64 ((wrap64 (x7 - x6)) + 1)) 2)))) - 1))))) else ((epactref03_begin.f k x6).bind fun t174 => (epactref03_Date.l1 k x6 (wrap64 (x0 - t174)) 1))
def epactref03_Date.l1 : Nat → Int → Int → Int → Option (Int × Int × Int × Int)
  | 0, _, _, _ => none
  | k + 1, x6, x9, x10 => (epactref03_Length.f k x6 x10).bind fun t175 => (if x9 ≥ t175 then ((epactref03_Length.f k x6 x10).bind fun t176 => (epactref03_Date.l1 k x6 (wrap64 (x9 - t176)) (wrap64 (x10 + 1)))) else (some (x6, x10, wrap64 (x9 + 1), 0)))
end
def epactref03_Date.f (k : Nat) (a0 : Int) : Option (Int × Int × Int × Int) := (epactref03_begin.f k (-9999)).bind fun t171 => (if a0 < t171 then (epactref03_Date.j0 k a0 true) else ((epactref03_begin.f k 10000).bind fun t172 => (epactref03_Date.j0 k a0 (decide (a0 ≥ t172)))))
set_option maxHeartbeats 8000000 in
set_option maxRecDepth 100000 in
theorem epactref03_Date.calls (k : Nat) (a0 : Int) (r1 : Int) (r2 : Int) (r3 : Int) (r4 : Int) (w : World) (h : epactref03_Date.f k a0 = some (r1, r2, r3, r4)) :
    Calls Tryz.prog 115 #[.int .i64 a0] w fun e w' => e = .returned (.tuple #[.int .i64 r1, .int .i64 r2, .int .i64 r3, .int .i64 r4]) ∧ Drawn0 w w' := by
  have H : ((epactref03_begin.f k (-9999)).bind fun t171 => (if a0 < t171 then (epactref03_Date.j0 k a0 true) else ((epactref03_begin.f k 10000).bind fun t172 => (epactref03_Date.j0 k a0 (decide (a0 ≥ t172)))))) = some (r1, r2, r3, r4) := h
  clear h
  have HC2 := Aside0.mk H
  clear H
  go_enter Tryz.func115, Tryz.ntmps115
  go_upto_region 1 with (fail)
  go_cut [18] (fun v18 wc => ∃ (kq : Nat) (x18_1 : Bool), v18 = .bool x18_1 ∧ Aside0 (epactref03_Date.j0 kq a0 x18_1 = some (r1, r2, r3, r4)) ∧ Aside0 (kq ≤ k) ∧ Drawn0 w wc)
  case first =>
    have H := HC2.out
    clear HC2
    replace H := Option.bind_eq_some_iff.mp H
    obtain ⟨t171, A30, H⟩ := H
    replace H : (if a0 < t171 then (epactref03_Date.j0 k a0 true) else ((epactref03_begin.f k 10000).bind fun t172 => (epactref03_Date.j0 k a0 (decide (a0 ≥ t172))))) = some (r1, r2, r3, r4) := H
    have A3 := Aside0.mk A30
    clear A30
    by_cases c4 : a0 < t171
    · rw [if_pos c4] at H
      have c4b0 : decide (a0 < t171) = true := decide_eq_true c4
      clear c4
      (first | rw [c4b0] | (simp only [i64_w, i32_w]; rw [c4b0]) | skip)
      have H' := Aside0.mk H
      clear H
      go_wp2_with (first | ((with_reducible refine gate_callee (f := 149) rfl ?_); refine goesL_ (some 12) rfl rfl Tryz.func149 (by kernel_rfl) rfl #[.int .i64 (-9999)] rfl (by (try simp only [List.map_toArray, List.map_cons, List.map_nil]); first | done | rfl | (simp only [List.length_drop, List.length_take]; rfl)) ?_; (with_reducible refine (epactref03_begin.calls k (-9999) t171 _ A3.out).mono ?_); rintro e w' ⟨rfl, ⟨nd, rfl⟩⟩; refine ⟨_, rfl, ?_⟩))
      go_meet
      case rel => exact ⟨_, (true), (by first | rfl | (simp; done) | (simp [*]; done)), H', ⟨by first | omega | exact Nat.le_refl _⟩, by repeat (first | exact Drawn0.refl _ | apply Drawn0.step)⟩
    · rw [if_neg c4] at H
      have c4b0 : decide (a0 < t171) = false := decide_eq_false c4
      clear c4
      (first | rw [c4b0] | (simp only [i64_w, i32_w]; rw [c4b0]) | skip)
      replace H := Option.bind_eq_some_iff.mp H
      obtain ⟨t172, A50, H⟩ := H
      replace H : (epactref03_Date.j0 k a0 (decide (a0 ≥ t172))) = some (r1, r2, r3, r4) := H
      have A5 := Aside0.mk A50
      clear A50
      have H' := Aside0.mk H
      clear H
      go_wp2_with (first | ((with_reducible refine gate_callee (f := 149) rfl ?_); refine goesL_ (some 12) rfl rfl Tryz.func149 (by kernel_rfl) rfl #[.int .i64 (-9999)] rfl (by (try simp only [List.map_toArray, List.map_cons, List.map_nil]); first | done | rfl | (simp only [List.length_drop, List.length_take]; rfl)) ?_; (with_reducible refine (epactref03_begin.calls k (-9999) t171 _ A3.out).mono ?_); rintro e w' ⟨rfl, ⟨nd, rfl⟩⟩; refine ⟨_, rfl, ?_⟩) | (go_at_call 149; (with_reducible refine (epactref03_begin.calls k 10000 t172 _ A5.out).mono ?_); rintro e w' ⟨rfl, ⟨nd, rfl⟩⟩))
      go_meet
      case rel => exact ⟨_, (decide (a0 ≥ t172)), (by first | rfl | (simp; done) | (simp [*]; done)), H', ⟨by first | omega | exact Nat.le_refl _⟩, by repeat (first | exact Drawn0.refl _ | apply Drawn0.step)⟩
  case rest =>
    clear HC2
    try clear c1
    try clear p2
    try clear c4
    try clear c4b0
    obtain ⟨kq, x18_1, rfl, HA, HJ1, ⟨mc1, rfl⟩⟩ := hcut
    cases kq with
    | zero => exact absurd HA.out (by simp [epactref03_Date.j0])
    | succ kj1 =>
      have H := HA.out
      clear HA
      simp only [epactref03_Date.j0] at H
      by_cases c6 : x18_1 = true
      · subst c6
        have H1 : (some (0, 0, 0, 30)) = some (r1, r2, r3, r4) := by rw [if_pos rfl] at H; exact H
        clear H
        have H := H1
        clear H1
        simp only [Option.some.injEq, Prod.mk.injEq] at H
        obtain ⟨rfl, rfl, rfl, rfl⟩ := H
        go_wp2
        refine bodyPost_ret (results_list (rs := [.tmp 2, .tmp 3, .tmp 4, .tmp 5]) rfl (by simp) (.tmp (.tmp (.tmp (.tmp .nil))))) rfl ?_
        exact ⟨by first | rfl | (simp; done) | (simp [*]; done), by repeat (first | exact Drawn0.refl _ | apply Drawn0.step)⟩
      · replace c6 := Bool.eq_false_iff.mpr c6
        subst c6
        have H1 : (epactref03_Date.l0 kj1 a0 (-9999) 9999) = some (r1, r2, r3, r4) := by rw [if_neg (show ¬ (false = true) by decide)] at H; exact H
        clear H
        have H := H1
        clear H1
        have H' := Aside0.mk H
        clear H
        go_wp2
        go_loopg [6, 7] kj1 (fun kq v6 v7 w' => ∃ (x6_2 : Int) (x7_2 : Int), v6 = .int .i64 x6_2 ∧ v7 = .int .i64 x7_2 ∧ Aside0 (epactref03_Date.l0 kq a0 x6_2 x7_2 = some (r1, r2, r3, r4)) ∧ Aside0 (kq ≤ kj1) ∧ Drawn0 w w')
        case atStart => exact ⟨((-9999)), (9999), (by first | rfl | (simp; done) | (simp [*]; done)), (by first | rfl | (simp; done) | (simp [*]; done)), H', ⟨Nat.le_refl _⟩, by repeat (first | exact Drawn0.refl _ | apply Drawn0.step)⟩
        case round =>
          clear H'
          try clear c1
          try clear p2
          try clear c4
          try clear c4b0
          try clear c6
          try clear p2
          obtain ⟨x6_2, x7_2, rfl, rfl, HA, HK2, ⟨m2, rfl⟩⟩ := hrel
          cases gk with
          | zero => exact absurd HA.out (by simp [epactref03_Date.l0])
          | succ k2 =>
            have H := HA.out
            clear HA
            simp only [epactref03_Date.l0] at H
            by_cases c7 : x6_2 < x7_2
            · rw [if_pos c7] at H
              have c7b0 : decide (x6_2 < x7_2) = true := decide_eq_true c7
              clear c7
              replace H := Option.bind_eq_some_iff.mp H
              obtain ⟨t173, A80, H⟩ := H
              replace H : (if t173 ≤ a0 then (epactref03_Date.l0 k2 a0 (wrap64 (x6_2 + (wrap64 (Int.tdiv (wrap64 ((wrap64 (x7_2 - x6_2)) + 1)) 2)))) x7_2) else (epactref03_Date.l0 k2 a0 x6_2 (wrap64 ((wrap64 (x6_2 + (wrap64 (Int.tdiv (wrap64 ((wrap64 (x7_2 - x6_2)) + 1)) 2)))) - 1)))) = some (r1, r2, r3, r4) := H
              have A8 := Aside0.mk A80
              clear A80
              by_cases c9 : t173 ≤ a0
              · rw [if_pos c9] at H
                have c9b0 : decide (t173 ≤ a0) = true := decide_eq_true c9
                clear c9
                have H' := Aside0.mk H
                clear H
                go_wp2_with (first | ((with_reducible refine gate_callee (f := 149) rfl ?_); refine goesL_ (some 30) rfl rfl Tryz.func149 (by kernel_rfl) rfl #[.int .i64 (wrap64 (x6_2 + (wrap64 (Int.tdiv (wrap64 ((wrap64 (x7_2 - x6_2)) + 1)) 2))))] rfl (by (try simp only [List.map_toArray, List.map_cons, List.map_nil]); first | done | rfl | (simp only [List.length_drop, List.length_take]; rfl)) ?_; (with_reducible refine (epactref03_begin.calls k2 (wrap64 (x6_2 + (wrap64 (Int.tdiv (wrap64 ((wrap64 (x7_2 - x6_2)) + 1)) 2)))) t173 _ A8.out).mono ?_); rintro e w' ⟨rfl, ⟨nd, rfl⟩⟩; refine ⟨_, rfl, ?_⟩))
                go_roundg k2
                case measure => have := HJ1.out; have := HK2.out; omega
                case rel => exact ⟨(wrap64 (x6_2 + (wrap64 (Int.tdiv (wrap64 ((wrap64 (x7_2 - x6_2)) + 1)) 2)))), (x7_2), (by first | rfl | (simp; done) | (simp [*]; done)), (by first | rfl | (simp; done) | (simp [*]; done)), H', ⟨by have := HJ1.out; have := HK2.out; omega⟩, by repeat (first | exact Drawn0.refl _ | apply Drawn0.step)⟩
              · rw [if_neg c9] at H
                have c9b0 : decide (t173 ≤ a0) = false := decide_eq_false c9
                clear c9
                have H' := Aside0.mk H
                clear H
                go_wp2_with (first | ((with_reducible refine gate_callee (f := 149) rfl ?_); refine goesL_ (some 30) rfl rfl Tryz.func149 (by kernel_rfl) rfl #[.int .i64 (wrap64 (x6_2 + (wrap64 (Int.tdiv (wrap64 ((wrap64 (x7_2 - x6_2)) + 1)) 2))))] rfl (by (try simp only [List.map_toArray, List.map_cons, List.map_nil]); first | done | rfl | (simp only [List.length_drop, List.length_take]; rfl)) ?_; (with_reducible refine (epactref03_begin.calls k2 (wrap64 (x6_2 + (wrap64 (Int.tdiv (wrap64 ((wrap64 (x7_2 - x6_2)) + 1)) 2)))) t173 _ A8.out).mono ?_); rintro e w' ⟨rfl, ⟨nd, rfl⟩⟩; refine ⟨_, rfl, ?_⟩))
                go_roundg k2
                case measure => have := HJ1.out; have := HK2.out; omega
                case rel => exact ⟨(x6_2), (wrap64 ((wrap64 (x6_2 + (wrap64 (Int.tdiv (wrap64 ((wrap64 (x7_2 - x6_2)) + 1)) 2)))) - 1)), (by first | rfl | (simp; done) | (simp [*]; done)), (by first | rfl | (simp; done) | (simp [*]; done)), H', ⟨by have := HJ1.out; have := HK2.out; omega⟩, by repeat (first | exact Drawn0.refl _ | apply Drawn0.step)⟩
            · rw [if_neg c7] at H
              have c7b0 : decide (x6_2 < x7_2) = false := decide_eq_false c7
              clear c7
              replace H := Option.bind_eq_some_iff.mp H
              obtain ⟨t174, A100, H⟩ := H
              replace H : (epactref03_Date.l1 k2 x6_2 (wrap64 (a0 - t174)) 1) = some (r1, r2, r3, r4) := H
              have A10 := Aside0.mk A100
              clear A100
              have H' := Aside0.mk H
              clear H
              go_wp2_with (first | ((with_reducible refine gate_callee (f := 149) rfl ?_); refine goesL_ (some 38) rfl rfl Tryz.func149 (by kernel_rfl) rfl #[.int .i64 x6_2] rfl (by (try simp only [List.map_toArray, List.map_cons, List.map_nil]); first | done | rfl | (simp only [List.length_drop, List.length_take]; rfl)) ?_; (with_reducible refine (epactref03_begin.calls k2 x6_2 t174 _ A10.out).mono ?_); rintro e w' ⟨rfl, ⟨nd, rfl⟩⟩; refine ⟨_, rfl, ?_⟩))
              go_loopg [9, 10] k2 (fun kq v9 v10 w' => ∃ (x9_3 : Int) (x10_3 : Int), v9 = .int .i64 x9_3 ∧ v10 = .int .i64 x10_3 ∧ Aside0 (epactref03_Date.l1 kq x6_2 x9_3 x10_3 = some (r1, r2, r3, r4)) ∧ Aside0 (kq ≤ k2) ∧ Drawn0 w w')
              case atStart => exact ⟨(wrap64 (a0 - t174)), (1), (by first | rfl | (simp; done) | (simp [*]; done)), (by first | rfl | (simp; done) | (simp [*]; done)), H', ⟨Nat.le_refl _⟩, by repeat (first | exact Drawn0.refl _ | apply Drawn0.step)⟩
              case round =>
                clear H'
                try clear c1
                try clear p2
                try clear c4
                try clear c4b0
                try clear c6
                try clear p6
                try clear c7
                try clear c7b0
                try clear c9
                try clear c9b0
                try clear p2
                obtain ⟨x9_3, x10_3, rfl, rfl, HA, HK3, ⟨m3, rfl⟩⟩ := hrel
                cases gk with
                | zero => exact absurd HA.out (by simp [epactref03_Date.l1])
                | succ k3 =>
                  have H := HA.out
                  clear HA
                  simp only [epactref03_Date.l1] at H
                  replace H := Option.bind_eq_some_iff.mp H
                  obtain ⟨t175, A110, H⟩ := H
                  replace H : (if x9_3 ≥ t175 then ((epactref03_Length.f k3 x6_2 x10_3).bind fun t176 => (epactref03_Date.l1 k3 x6_2 (wrap64 (x9_3 - t176)) (wrap64 (x10_3 + 1)))) else (some (x6_2, x10_3, wrap64 (x9_3 + 1), 0))) = some (r1, r2, r3, r4) := H
                  have A11 := Aside0.mk A110
                  clear A110
                  by_cases c12 : x9_3 ≥ t175
                  · rw [if_pos c12] at H
                    have c12b0 : decide (t175 ≤ x9_3) = true := decide_eq_true c12
                    clear c12
                    replace H := Option.bind_eq_some_iff.mp H
                    obtain ⟨t176, A130, H⟩ := H
                    replace H : (epactref03_Date.l1 k3 x6_2 (wrap64 (x9_3 - t176)) (wrap64 (x10_3 + 1))) = some (r1, r2, r3, r4) := H
                    have A13 := Aside0.mk A130
                    clear A130
                    have H' := Aside0.mk H
                    clear H
                    go_wp2_with (first | ((with_reducible refine gate_callee (f := 150) rfl ?_); refine goesL_ (some 43) rfl rfl Tryz.func150 (by kernel_rfl) rfl #[.int .i64 x6_2, .int .i64 x10_3] rfl (by (try simp only [List.map_toArray, List.map_cons, List.map_nil]); first | done | rfl | (simp only [List.length_drop, List.length_take]; rfl)) ?_; (with_reducible refine (epactref03_Length.calls k3 x6_2 x10_3 t175 _ A11.out).mono ?_); rintro e w' ⟨rfl, ⟨nd, rfl⟩⟩; refine ⟨_, rfl, ?_⟩) | ((with_reducible refine gate_callee (f := 150) rfl ?_); refine goesL_ (some 48) rfl rfl Tryz.func150 (by kernel_rfl) rfl #[.int .i64 x6_2, .int .i64 x10_3] rfl (by (try simp only [List.map_toArray, List.map_cons, List.map_nil]); first | done | rfl | (simp only [List.length_drop, List.length_take]; rfl)) ?_; (with_reducible refine (epactref03_Length.calls k3 x6_2 x10_3 t176 _ A13.out).mono ?_); rintro e w' ⟨rfl, ⟨nd, rfl⟩⟩; refine ⟨_, rfl, ?_⟩))
                    go_roundg k3
                    case measure => have := HJ1.out; have := HK2.out; have := HK3.out; omega
                    case rel => exact ⟨(wrap64 (x9_3 - t176)), (wrap64 (x10_3 + 1)), (by first | rfl | (simp; done) | (simp [*]; done)), (by first | rfl | (simp; done) | (simp [*]; done)), H', ⟨by have := HJ1.out; have := HK2.out; have := HK3.out; omega⟩, by repeat (first | exact Drawn0.refl _ | apply Drawn0.step)⟩
                  · rw [if_neg c12] at H
                    have c12b0 : decide (t175 ≤ x9_3) = false := decide_eq_false c12
                    clear c12
                    simp only [Option.some.injEq, Prod.mk.injEq] at H
                    obtain ⟨rfl, rfl, rfl, rfl⟩ := H
                    go_wp2_with (first | ((with_reducible refine gate_callee (f := 150) rfl ?_); refine goesL_ (some 43) rfl rfl Tryz.func150 (by kernel_rfl) rfl #[.int .i64 x6_2, .int .i64 x10_3] rfl (by (try simp only [List.map_toArray, List.map_cons, List.map_nil]); first | done | rfl | (simp only [List.length_drop, List.length_take]; rfl)) ?_; (with_reducible refine (epactref03_Length.calls k3 x6_2 x10_3 t175 _ A11.out).mono ?_); rintro e w' ⟨rfl, ⟨nd, rfl⟩⟩; refine ⟨_, rfl, ?_⟩))
                    refine bodyPost_ret (results_list (rs := [.tmp 2, .tmp 3, .tmp 4, .tmp 5]) rfl (by simp) (.tmp (.tmp (.tmp (.tmp .nil))))) rfl ?_
                    exact ⟨by first | rfl | (simp; done) | (simp [*]; done), by repeat (first | exact Drawn0.refl _ | apply Drawn0.step)⟩
def epactref04_digits.l0 : Nat → Int → Int → ByteArray → Int → Option (ByteArray)
  | 0, _, _, _, _ => none
  | k + 1, x0, x1, x5, x6 => if x6 < x1 then ((some (([(48 + ((Int.tmod x0 10) % 256)) % 256] : List Int) : List Int)).bind fun y177 => (if (strOfNums y177).size + x5.size ≤ 9223372036854775807 then (epactref04_digits.l0 k (wrap64 (Int.tdiv x0 10)) x1 ((strOfNums y177) ++ x5) (wrap64 (x6 + 1))) else (none))) else (some x5)
def epactref04_digits.f (k : Nat) (a0 : Int) (a1 : Int) : Option (ByteArray) := epactref04_digits.l0 k a0 a1 (⟨#[]⟩ : ByteArray) 0
set_option maxHeartbeats 8000000 in
set_option maxRecDepth 100000 in
theorem epactref04_digits.calls (k : Nat) (a0 : Int) (a1 : Int) (r : ByteArray) (w : World) (h : epactref04_digits.f k a0 a1 = some r) :
    Calls Tryz.prog 117 #[.int .i64 a0, .int .i64 a1] w fun e w' => e = .returned (.string r) ∧ Below w.heap.size w w' := by
  have HB := Aside0.mk (Below.refl w.heap.size w)
  have H : (epactref04_digits.l0 k a0 a1 (⟨#[]⟩ : ByteArray) 0) = some r := h
  clear h
  have H' := Aside0.mk H
  clear H
  go_enter Tryz.func117, Tryz.ntmps117
  go_wp2
  go_loopg [0, 5, 6] k (fun kq v0 v5 v6 w' => ∃ (x0_1 : Int) (x5_1 : ByteArray) (x6_1 : Int), v0 = .int .i64 x0_1 ∧ v5 = .string x5_1 ∧ v6 = .int .i64 x6_1 ∧ Aside0 (epactref04_digits.l0 kq x0_1 a1 x5_1 x6_1 = some r) ∧ Aside0 (kq ≤ k) ∧ Aside0 (Below w.heap.size w w'))
  case atStart => exact ⟨(a0), ((⟨#[]⟩ : ByteArray)), (0), (by first | rfl | (simp; done) | (simp [*]; done)), (by first | rfl | (simp; done) | (simp [*]; done)), (by first | rfl | (simp; done) | (simp [*]; done)), H', ⟨Nat.le_refl _⟩, ⟨by repeat (first | (with_reducible first | exact HB.out | apply below_alloc | apply pw_below_drewN | apply below_drew1) | exact HB.out)⟩⟩
  case round =>
    clear H'
    try clear c1
    try clear p2
    obtain ⟨x0_1, x5_1, x6_1, rfl, rfl, rfl, HA, HK1, HB⟩ := hrel
    cases gk with
    | zero => exact absurd HA.out (by simp [epactref04_digits.l0])
    | succ k1 =>
      have H := HA.out
      clear HA
      simp only [epactref04_digits.l0] at H
      by_cases c3 : x6_1 < a1
      · rw [if_pos c3] at H
        have c3b0 : decide (x6_1 < a1) = true := decide_eq_true c3
        clear c3
        obtain ⟨y177, hy177⟩ : ∃ y_ : List Int, y_ = (([(48 + ((Int.tmod x0_1 10) % 256)) % 256] : List Int)) := ⟨_, rfl⟩
        replace H : (if (strOfNums y177).size + x5_1.size ≤ 9223372036854775807 then (epactref04_digits.l0 k1 (wrap64 (Int.tdiv x0_1 10)) a1 ((strOfNums y177) ++ x5_1) (wrap64 (x6_1 + 1))) else (none)) = some r := by first | (rw [hy177]; with_reducible exact H) | (have H2_ := (Option.bind_some _ _).symm.trans H; rw [hy177]; with_reducible exact H2_) | (have H2_ := (Option.bind_some _ _).symm.trans H; with_reducible exact H2_) | with_reducible exact H | (rw [hy177]; exact H) | exact H
        have Ny177 := Aside0.mk hy177
        clear hy177
        by_cases c4 : (strOfNums y177).size + x5_1.size ≤ 9223372036854775807
        · rw [if_pos c4] at H
          have c4b0 := eq_true c4
          have c4b1 : decide ((strOfNums y177).size + x5_1.size ≤ 9223372036854775807) = true := decide_eq_true c4
          try have c4b2 : (9223372036854775807 < (strOfNums y177).size + x5_1.size) = False := eq_false (Nat.not_lt.2 c4)
          have H' := Aside0.mk H
          clear H
          go_wp2_with (first | ((with_reducible refine gate_dst (N := 16) rfl ?_); refine Kd.R_lit (Kd.int .u8) _ 5 ?hg (N := 16) ?hd (xs := ([(48 + ((Int.tmod x0_1 10) % 256)) % 256] : List Int)) (inner := [.int .u8 ((48 + ((Int.tmod x0_1 10) % 256)) % 256)]) (ok := fun _ => True) (okp := fun _ => True) ?hr ?hp (fun _ hk => hk) trivial (Below.refl _ _) (Nat.le_refl _) (by simp) ?_; (case hd => rfl); (case hg => rfl); (case hr => first | (go_simp; done) | (go_simp; rfl)); (case hp => exact (Reps.one (show Kd.M (Kd.int .u8) _ _ _ ((48 + ((Int.tmod x0_1 10) % 256)) % 256) [.int .u8 ((48 + ((Int.tmod x0_1 10) % 256)) % 256)] from rfl) (Reps.none _ _))); intro v178 w5 ho6 hb hg_ hnew_; clear hg_ hnew_; (first | rw [← Ny177.out] at ho6 | (simp only [Int.reduceToNat] at ho6; rw [← Ny177.out] at ho6)); have n0_ := Aside0.mk (Kd.R_lower ho6 (below_size (by repeat (first | (with_reducible first | exact HB.out | apply below_alloc | apply pw_below_drewN | apply below_drew1) | exact HB.out)))); have n1_ := Aside0.mk (below_step (by repeat (first | (with_reducible first | exact HB.out | apply below_alloc | apply pw_below_drewN | apply below_drew1) | exact HB.out)) hb); clear HB; have HO179 := n0_; have HB := n1_; clear n0_ n1_; clear hb ho6; have hcv7 := own_string (P := Tryz.prog) Tryz.underlying69 Tryz.underlying5 Tryz.underlying9 (Kd.own_of_R HO179.out)))
          go_roundg k1
          case measure => have := HK1.out; omega
          case rel => exact ⟨(wrap64 (Int.tdiv x0_1 10)), ((strOfNums y177) ++ x5_1), (wrap64 (x6_1 + 1)), (by first | rfl | (simp; done) | (simp [*]; done)), (by first | rfl | (simp; done) | (simp [*]; done)), (by first | rfl | (simp; done) | (simp [*]; done)), H', ⟨by have := HK1.out; omega⟩, ⟨by repeat (first | (with_reducible first | exact HB.out | apply below_alloc | apply pw_below_drewN | apply below_drew1) | exact HB.out)⟩⟩
        · rw [if_neg c4] at H
          exact absurd H (by simp)
      · rw [if_neg c3] at H
        have c3b0 : decide (x6_1 < a1) = false := decide_eq_false c3
        clear c3
        obtain rfl := Option.some.inj H
        go_wp2
        go_ret
        exact ⟨by first | rfl | (simp [errW_none, errW_some] <;> rfl) | (simp [*, errW_none, errW_some] <;> rfl), by repeat (first | (with_reducible first | exact HB.out | apply below_alloc | apply pw_below_drewN | apply below_drew1) | exact HB.out)⟩
end Go.Proofs.YtcinojbfjiohjaaGreatDoor.PPrintTells
end

section
namespace Go.Proofs.YtcinojbfjiohjaaGreatDoor.PPrintTells
open Go.RowKit Go.Proofs.YtcinojbfjiohjaaGreatDoorW.PrintWords Go.Proofs.YtcinojbfjiohjaaGreatDoorW.PrintLast Go.Proofs.YtcinojbfjiohjaaGreatDoorW.PrintMore
attribute [local go_sem] max2_int min2_int max_two min_two max_three min_three max_four min_four   -- for this text's walks alone
set_option linter.unusedVariables false
set_option linter.unusedSimpArgs false
def epactref04_year.f (k : Nat) (a0 : Int) : Option (ByteArray) := if a0 < 0 then ((epactref04_digits.f k (wrap64 (-a0)) 4).bind fun t180 => (if 1 + t180.size ≤ 9223372036854775807 then (some ((⟨#[45]⟩ : ByteArray) ++ t180)) else (none))) else ((epactref04_digits.f k a0 4).bind fun t181 => (some t181))
set_option maxHeartbeats 8000000 in
set_option maxRecDepth 100000 in
theorem epactref04_year.calls (k : Nat) (a0 : Int) (r : ByteArray) (w : World) (h : epactref04_year.f k a0 = some r) :
    Calls Tryz.prog 116 #[.int .i64 a0] w fun e w' => e = .returned (.string r) ∧ Below w.heap.size w w' := by
  have HB := Aside0.mk (Below.refl w.heap.size w)
  have H : (if a0 < 0 then ((epactref04_digits.f k (wrap64 (-a0)) 4).bind fun t180 => (if 1 + t180.size ≤ 9223372036854775807 then (some ((⟨#[45]⟩ : ByteArray) ++ t180)) else (none))) else ((epactref04_digits.f k a0 4).bind fun t181 => (some t181))) = some r := h
  clear h
  by_cases c2 : a0 < 0
  · rw [if_pos c2] at H
    have c2b0 : decide (a0 < 0) = true := decide_eq_true c2
    clear c2
    replace H := Option.bind_eq_some_iff.mp H
    obtain ⟨t180, A30, H⟩ := H
    replace H : (if 1 + t180.size ≤ 9223372036854775807 then (some ((⟨#[45]⟩ : ByteArray) ++ t180)) else (none)) = some r := H
    have A3 := Aside0.mk A30
    clear A30
    by_cases c4 : 1 + t180.size ≤ 9223372036854775807
    · rw [if_pos c4] at H
      have c4b0 := eq_true c4
      have c4b1 : decide (1 + t180.size ≤ 9223372036854775807) = true := decide_eq_true c4
      try have c4b2 : (9223372036854775807 < 1 + t180.size) = False := eq_false (Nat.not_lt.2 c4)
      obtain rfl := Option.some.inj H
      go_enter Tryz.func116, Tryz.ntmps116
      go_wp2_with (first | ((with_reducible refine gate_callee (f := 117) rfl ?_); refine goesL_ (some 7) rfl rfl Tryz.func117 (by kernel_rfl) rfl #[.int .i64 (wrap64 (-a0)), .int .i64 4] rfl (by (try simp only [List.map_toArray, List.map_cons, List.map_nil]); first | done | rfl | (simp only [List.length_drop, List.length_take]; rfl)) ?_; (with_reducible refine (epactref04_digits.calls k (wrap64 (-a0)) 4 t180 _ A3.out).mono ?_); rintro e w5 ⟨rfl, hb⟩; refine ⟨_, rfl, ?_⟩; have n0_ := Aside0.mk (below_step (by repeat (first | (with_reducible first | exact HB.out | apply below_alloc | apply pw_below_drewN | apply below_drew1) | exact HB.out)) hb); clear HB; have HB := n0_; clear n0_; (try clear hb); (try clear hb2); (try clear hk); (try clear hi)))
      go_ret
      exact ⟨by first | rfl | (simp [errW_none, errW_some] <;> rfl) | (simp [*, errW_none, errW_some] <;> rfl), by repeat (first | (with_reducible first | exact HB.out | apply below_alloc | apply pw_below_drewN | apply below_drew1) | exact HB.out)⟩
    · rw [if_neg c4] at H
      exact absurd H (by simp)
  · rw [if_neg c2] at H
    have c2b0 : decide (a0 < 0) = false := decide_eq_false c2
    clear c2
    replace H := Option.bind_eq_some_iff.mp H
    obtain ⟨t181, A60, H⟩ := H
    replace H : (some t181) = some r := H
    have A6 := Aside0.mk A60
    clear A60
    obtain rfl := Option.some.inj H
    go_enter Tryz.func116, Tryz.ntmps116
    go_wp2_with (first | ((with_reducible refine gate_callee (f := 117) rfl ?_); refine goesL_ (some 10) rfl rfl Tryz.func117 (by kernel_rfl) rfl #[.int .i64 a0, .int .i64 4] rfl (by (try simp only [List.map_toArray, List.map_cons, List.map_nil]); first | done | rfl | (simp only [List.length_drop, List.length_take]; rfl)) ?_; (with_reducible refine (epactref04_digits.calls k a0 4 t181 _ A6.out).mono ?_); rintro e w7 ⟨rfl, hb⟩; refine ⟨_, rfl, ?_⟩; have n0_ := Aside0.mk (below_step (by repeat (first | (with_reducible first | exact HB.out | apply below_alloc | apply pw_below_drewN | apply below_drew1) | exact HB.out)) hb); clear HB; have HB := n0_; clear n0_; (try clear hb); (try clear hb2); (try clear hk); (try clear hi)))
    go_ret
    exact ⟨by first | rfl | (simp [errW_none, errW_some] <;> rfl) | (simp [*, errW_none, errW_some] <;> rfl), by repeat (first | (with_reducible first | exact HB.out | apply below_alloc | apply pw_below_drewN | apply below_drew1) | exact HB.out)⟩
mutual
def epactref03_Days.j0 : Nat → Int → Int → Int → Bool → Option (Int × Int)
  | 0, _, _, _, _ => none
  | k + 1, x0, x1, x2, x26 => if x26 = true then (some (0, 30)) else ((epactref03_begin.f k x0).bind fun t183 => (epactref03_Days.l0 k x0 x1 x2 t183 1))
def epactref03_Days.l0 : Nat → Int → Int → Int → Int → Int → Option (Int × Int)
  | 0, _, _, _, _, _ => none
  | k + 1, x0, x1, x2, x8, x9 => if x9 < x1 then ((epactref03_Length.f k x0 x9).bind fun t184 => (epactref03_Days.l0 k x0 x1 x2 (wrap64 (x8 + t184)) (wrap64 (x9 + 1)))) else (some (wrap64 ((wrap64 (x8 + x2)) - 1), 0))
end
def epactref03_Days.f (k : Nat) (a0 : Int) (a1 : Int) (a2 : Int) : Option (Int × Int) := if a0 < (-9999) then (epactref03_Days.j0 k a0 a1 a2 true) else (if a0 > 9999 then (epactref03_Days.j0 k a0 a1 a2 true) else (if a2 < 1 then (epactref03_Days.j0 k a0 a1 a2 true) else ((epactref03_Length.f k a0 a1).bind fun t182 => (epactref03_Days.j0 k a0 a1 a2 (decide (a2 > t182))))))
set_option maxHeartbeats 8000000 in
set_option maxRecDepth 100000 in
theorem epactref03_Days.calls (k : Nat) (a0 : Int) (a1 : Int) (a2 : Int) (r1 : Int) (r2 : Int) (w : World) (h : epactref03_Days.f k a0 a1 a2 = some (r1, r2)) :
    Calls Tryz.prog 146 #[.int .i64 a0, .int .i64 a1, .int .i64 a2] w fun e w' => e = .returned (.tuple #[.int .i64 r1, .int .i64 r2]) ∧ Drawn0 w w' := by
  have H : (if a0 < (-9999) then (epactref03_Days.j0 k a0 a1 a2 true) else (if a0 > 9999 then (epactref03_Days.j0 k a0 a1 a2 true) else (if a2 < 1 then (epactref03_Days.j0 k a0 a1 a2 true) else ((epactref03_Length.f k a0 a1).bind fun t182 => (epactref03_Days.j0 k a0 a1 a2 (decide (a2 > t182))))))) = some (r1, r2) := h
  clear h
  have HC4 := Aside0.mk H
  clear H
  go_enter Tryz.func146, Tryz.ntmps146
  go_upto_region 1 with (fail)
  go_cut [26] (fun v26 wc => ∃ (kq : Nat) (x26_3 : Bool), v26 = .bool x26_3 ∧ Aside0 (epactref03_Days.j0 kq a0 a1 a2 x26_3 = some (r1, r2)) ∧ Aside0 (kq ≤ k) ∧ Drawn0 w wc)
  case first =>
    have H := HC4.out
    clear HC4
    by_cases c5 : a0 < (-9999)
    · rw [if_pos c5] at H
      have c5b0 : decide (a0 < (-9999)) = true := decide_eq_true c5
      clear c5
      (first | rw [c5b0] | (simp only [i64_w, i32_w]; rw [c5b0]) | skip)
      have H' := Aside0.mk H
      clear H
      go_wp2
      go_meet
      case rel => exact ⟨_, (true), (by first | rfl | (simp; done) | (simp [*]; done)), H', ⟨by first | omega | exact Nat.le_refl _⟩, by repeat (first | exact Drawn0.refl _ | apply Drawn0.step)⟩
    · rw [if_neg c5] at H
      have c5b0 : decide (a0 < (-9999)) = false := decide_eq_false c5
      clear c5
      (first | rw [c5b0] | (simp only [i64_w, i32_w]; rw [c5b0]) | skip)
      by_cases c6 : a0 > 9999
      · rw [if_pos c6] at H
        have c6b0 : decide (9999 < a0) = true := decide_eq_true c6
        clear c6
        have H' := Aside0.mk H
        clear H
        go_wp2
        go_meet
        case rel => exact ⟨_, (true), (by first | rfl | (simp; done) | (simp [*]; done)), H', ⟨by first | omega | exact Nat.le_refl _⟩, by repeat (first | exact Drawn0.refl _ | apply Drawn0.step)⟩
      · rw [if_neg c6] at H
        have c6b0 : decide (9999 < a0) = false := decide_eq_false c6
        clear c6
        by_cases c7 : a2 < 1
        · rw [if_pos c7] at H
          have c7b0 : decide (a2 < 1) = true := decide_eq_true c7
          clear c7
          have H' := Aside0.mk H
          clear H
          go_wp2
          go_meet
          case rel => exact ⟨_, (true), (by first | rfl | (simp; done) | (simp [*]; done)), H', ⟨by first | omega | exact Nat.le_refl _⟩, by repeat (first | exact Drawn0.refl _ | apply Drawn0.step)⟩
        · rw [if_neg c7] at H
          have c7b0 : decide (a2 < 1) = false := decide_eq_false c7
          clear c7
          replace H := Option.bind_eq_some_iff.mp H
          obtain ⟨t182, A80, H⟩ := H
          replace H : (epactref03_Days.j0 k a0 a1 a2 (decide (a2 > t182))) = some (r1, r2) := H
          have A8 := Aside0.mk A80
          clear A80
          have H' := Aside0.mk H
          clear H
          go_wp2_with (first | (go_at_call 150; (with_reducible refine (epactref03_Length.calls k a0 a1 t182 _ A8.out).mono ?_); rintro e w' ⟨rfl, ⟨nd, rfl⟩⟩))
          go_meet
          case rel => exact ⟨_, (decide (a2 > t182)), (by first | rfl | (simp; done) | (simp [*]; done)), H', ⟨by first | omega | exact Nat.le_refl _⟩, by repeat (first | exact Drawn0.refl _ | apply Drawn0.step)⟩
  case rest =>
    clear HC4
    try clear c1
    try clear p2
    try clear c5
    try clear c5b0
    try clear c6
    try clear c6b0
    try clear c7
    try clear c7b0
    obtain ⟨kq, x26_3, rfl, HA, HJ3, ⟨mc3, rfl⟩⟩ := hcut
    cases kq with
    | zero => exact absurd HA.out (by simp [epactref03_Days.j0])
    | succ kj3 =>
      have H := HA.out
      clear HA
      simp only [epactref03_Days.j0] at H
      by_cases c9 : x26_3 = true
      · subst c9
        have H1 : (some (0, 30)) = some (r1, r2) := by rw [if_pos rfl] at H; exact H
        clear H
        have H := H1
        clear H1
        simp only [Option.some.injEq, Prod.mk.injEq] at H
        obtain ⟨rfl, rfl⟩ := H
        go_wp2
        go_ret2
        exact ⟨by first | rfl | (simp; done) | (simp [*]; done), by repeat (first | exact Drawn0.refl _ | apply Drawn0.step)⟩
      · replace c9 := Bool.eq_false_iff.mpr c9
        subst c9
        have H1 : ((epactref03_begin.f kj3 a0).bind fun t183 => (epactref03_Days.l0 kj3 a0 a1 a2 t183 1)) = some (r1, r2) := by rw [if_neg (show ¬ (false = true) by decide)] at H; exact H
        clear H
        have H := H1
        clear H1
        replace H := Option.bind_eq_some_iff.mp H
        obtain ⟨t183, A100, H⟩ := H
        replace H : (epactref03_Days.l0 kj3 a0 a1 a2 t183 1) = some (r1, r2) := H
        have A10 := Aside0.mk A100
        clear A100
        have H' := Aside0.mk H
        clear H
        go_wp2_with (first | ((with_reducible refine gate_callee (f := 149) rfl ?_); refine goesL_ (some 28) rfl rfl Tryz.func149 (by kernel_rfl) rfl #[.int .i64 a0] rfl (by (try simp only [List.map_toArray, List.map_cons, List.map_nil]); first | done | rfl | (simp only [List.length_drop, List.length_take]; rfl)) ?_; (with_reducible refine (epactref03_begin.calls kj3 a0 t183 _ A10.out).mono ?_); rintro e w' ⟨rfl, ⟨nd, rfl⟩⟩; refine ⟨_, rfl, ?_⟩))
        go_loopg [8, 9] kj3 (fun kq v8 v9 w' => ∃ (x8_2 : Int) (x9_2 : Int), v8 = .int .i64 x8_2 ∧ v9 = .int .i64 x9_2 ∧ Aside0 (epactref03_Days.l0 kq a0 a1 a2 x8_2 x9_2 = some (r1, r2)) ∧ Aside0 (kq ≤ kj3) ∧ Drawn0 w w')
        case atStart => exact ⟨(t183), (1), (by first | rfl | (simp; done) | (simp [*]; done)), (by first | rfl | (simp; done) | (simp [*]; done)), H', ⟨Nat.le_refl _⟩, by repeat (first | exact Drawn0.refl _ | apply Drawn0.step)⟩
        case round =>
          clear H'
          try clear c1
          try clear p2
          try clear c3
          try clear c5
          try clear c5b0
          try clear c6
          try clear c6b0
          try clear c7
          try clear c7b0
          try clear c9
          try clear p2
          obtain ⟨x8_2, x9_2, rfl, rfl, HA, HK2, ⟨m2, rfl⟩⟩ := hrel
          cases gk with
          | zero => exact absurd HA.out (by simp [epactref03_Days.l0])
          | succ k2 =>
            have H := HA.out
            clear HA
            simp only [epactref03_Days.l0] at H
            by_cases c11 : x9_2 < a1
            · rw [if_pos c11] at H
              have c11b0 : decide (x9_2 < a1) = true := decide_eq_true c11
              clear c11
              replace H := Option.bind_eq_some_iff.mp H
              obtain ⟨t184, A120, H⟩ := H
              replace H : (epactref03_Days.l0 k2 a0 a1 a2 (wrap64 (x8_2 + t184)) (wrap64 (x9_2 + 1))) = some (r1, r2) := H
              have A12 := Aside0.mk A120
              clear A120
              have H' := Aside0.mk H
              clear H
              go_wp2_with (first | ((with_reducible refine gate_callee (f := 150) rfl ?_); refine goesL_ (some 37) rfl rfl Tryz.func150 (by kernel_rfl) rfl #[.int .i64 a0, .int .i64 x9_2] rfl (by (try simp only [List.map_toArray, List.map_cons, List.map_nil]); first | done | rfl | (simp only [List.length_drop, List.length_take]; rfl)) ?_; (with_reducible refine (epactref03_Length.calls k2 a0 x9_2 t184 _ A12.out).mono ?_); rintro e w' ⟨rfl, ⟨nd, rfl⟩⟩; refine ⟨_, rfl, ?_⟩))
              go_roundg k2
              case measure => have := HJ3.out; have := HK2.out; omega
              case rel => exact ⟨(wrap64 (x8_2 + t184)), (wrap64 (x9_2 + 1)), (by first | rfl | (simp; done) | (simp [*]; done)), (by first | rfl | (simp; done) | (simp [*]; done)), H', ⟨by have := HJ3.out; have := HK2.out; omega⟩, by repeat (first | exact Drawn0.refl _ | apply Drawn0.step)⟩
            · rw [if_neg c11] at H
              have c11b0 : decide (x9_2 < a1) = false := decide_eq_false c11
              clear c11
              simp only [Option.some.injEq, Prod.mk.injEq] at H
              obtain ⟨rfl, rfl⟩ := H
              go_wp2
              go_ret2
              exact ⟨by first | rfl | (simp; done) | (simp [*]; done), by repeat (first | exact Drawn0.refl _ | apply Drawn0.step)⟩
def epactref04_Nth.f (k : Nat) (a0 : Int) : Option (Int × Int × Int) := (epactref03_Date.f k a0).bind fun bt185 => (if bt185.2.2.2 = 0 then ((epactref03_Days.f k bt185.1 1 1).bind fun bt189 => (some (bt185.1, wrap64 ((wrap64 (a0 - bt189.1)) + 1), 0))) else (some (0, 0, 30)))
set_option maxHeartbeats 8000000 in
set_option maxRecDepth 100000 in
theorem epactref04_Nth.calls (k : Nat) (a0 : Int) (r1 : Int) (r2 : Int) (r3 : Int) (w : World) (h : epactref04_Nth.f k a0 = some (r1, r2, r3)) :
    Calls Tryz.prog 118 #[.int .i64 a0] w fun e w' => e = .returned (.tuple #[.int .i64 r1, .int .i64 r2, .int .i64 r3]) ∧ Drawn0 w w' := by
  have H : ((epactref03_Date.f k a0).bind fun bt185 => (if bt185.2.2.2 = 0 then ((epactref03_Days.f k bt185.1 1 1).bind fun bt189 => (some (bt185.1, wrap64 ((wrap64 (a0 - bt189.1)) + 1), 0))) else (some (0, 0, 30)))) = some (r1, r2, r3) := h
  clear h
  replace H := Option.bind_eq_some_iff.mp H
  obtain ⟨⟨t185, t186, t187, t188⟩, A20, H⟩ := H
  replace H : (if t188 = 0 then ((epactref03_Days.f k t185 1 1).bind fun bt189 => (some (t185, wrap64 ((wrap64 (a0 - bt189.1)) + 1), 0))) else (some (0, 0, 30))) = some (r1, r2, r3) := H
  have A2 := Aside0.mk A20
  clear A20
  by_cases c3 : t188 = 0
  · rw [if_pos c3] at H
    have c3b0 : (t188 == 0) = true := beq_iff_eq.mpr c3
    have c3b1 : (t188 != 0) = false := bne_eq_false_iff_eq.mpr c3
    clear c3
    replace H := Option.bind_eq_some_iff.mp H
    obtain ⟨⟨t189, t190⟩, A40, H⟩ := H
    replace H : (some (t185, wrap64 ((wrap64 (a0 - t189)) + 1), 0)) = some (r1, r2, r3) := H
    have A4 := Aside0.mk A40
    clear A40
    simp only [Option.some.injEq, Prod.mk.injEq] at H
    obtain ⟨rfl, rfl, rfl⟩ := H
    go_enter Tryz.func118, Tryz.ntmps118
    go_wp2_with (first | ((with_reducible refine gate_callee (f := 115) rfl ?_); refine goesL_ (some 13) rfl rfl Tryz.func115 (by kernel_rfl) rfl #[.int .i64 a0] rfl (by (try simp only [List.map_toArray, List.map_cons, List.map_nil]); first | done | rfl | (simp only [List.length_drop, List.length_take]; rfl)) ?_; (with_reducible refine (epactref03_Date.calls k a0 t185 t186 t187 t188 _ A2.out).mono ?_); rintro e w' ⟨rfl, ⟨nd, rfl⟩⟩; refine ⟨_, rfl, ?_⟩) | ((with_reducible refine gate_callee (f := 146) rfl ?_); refine goesL_ (some 22) rfl rfl Tryz.func146 (by kernel_rfl) rfl #[.int .i64 t185, .int .i64 1, .int .i64 1] rfl (by (try simp only [List.map_toArray, List.map_cons, List.map_nil]); first | done | rfl | (simp only [List.length_drop, List.length_take]; rfl)) ?_; (with_reducible refine (epactref03_Days.calls k t185 1 1 t189 t190 _ A4.out).mono ?_); rintro e w' ⟨rfl, ⟨nd, rfl⟩⟩; refine ⟨_, rfl, ?_⟩))
    go_ret3
    exact ⟨by first | rfl | (simp; done) | (simp [*]; done), by repeat (first | exact Drawn0.refl _ | apply Drawn0.step)⟩
  · rw [if_neg c3] at H
    have c3b0 : (t188 == 0) = false := beq_eq_false_iff_ne.mpr c3
    have c3b1 : (t188 != 0) = true := bne_iff_ne.mpr c3
    simp only [Option.some.injEq, Prod.mk.injEq] at H
    obtain ⟨rfl, rfl, rfl⟩ := H
    go_enter Tryz.func118, Tryz.ntmps118
    go_wp2_with (first | ((with_reducible refine gate_callee (f := 115) rfl ?_); refine goesL_ (some 13) rfl rfl Tryz.func115 (by kernel_rfl) rfl #[.int .i64 a0] rfl (by (try simp only [List.map_toArray, List.map_cons, List.map_nil]); first | done | rfl | (simp only [List.length_drop, List.length_take]; rfl)) ?_; (with_reducible refine (epactref03_Date.calls k a0 t185 t186 t187 t188 _ A2.out).mono ?_); rintro e w' ⟨rfl, ⟨nd, rfl⟩⟩; refine ⟨_, rfl, ?_⟩))
    go_ret3
    exact ⟨by first | rfl | (simp; done) | (simp [*]; done), by repeat (first | exact Drawn0.refl _ | apply Drawn0.step)⟩
def epactref04_inside.f (a0 : Int) : Option (Bool) := if a0 ≥ (-9999) then (some (decide (a0 ≤ 9999))) else (some false)
set_option maxHeartbeats 8000000 in
set_option maxRecDepth 100000 in
theorem epactref04_inside.calls (a0 : Int) (r : Bool) (w : World) (h : epactref04_inside.f a0 = some r) :
    Calls Tryz.prog 151 #[.int .i64 a0] w fun e w' => e = .returned (.bool r) ∧ Drawn0 w w' := by
  have H : (if a0 ≥ (-9999) then (some (decide (a0 ≤ 9999))) else (some false)) = some r := h
  clear h
  by_cases c2 : a0 ≥ (-9999)
  · rw [if_pos c2] at H
    have c2b0 : decide ((-9999) ≤ a0) = true := decide_eq_true c2
    clear c2
    obtain rfl := Option.some.inj H
    go_enter Tryz.func151, Tryz.ntmps151
    go_wp2
    go_ret
    exact ⟨by first | rfl | (simp; done) | (simp [*]; done), by repeat (first | exact Drawn0.refl _ | apply Drawn0.step)⟩
  · rw [if_neg c2] at H
    have c2b0 : decide ((-9999) ≤ a0) = false := decide_eq_false c2
    clear c2
    obtain rfl := Option.some.inj H
    go_enter Tryz.func151, Tryz.ntmps151
    go_wp2
    go_ret
    exact ⟨by first | rfl | (simp; done) | (simp [*]; done), by repeat (first | exact Drawn0.refl _ | apply Drawn0.step)⟩
def epactref03_Weekday.f (a0 : Int) : Option (Int) := if (Int.tmod a0 7) < 0 then (some (wrap64 ((Int.tmod (wrap64 ((wrap64 ((Int.tmod a0 7) + 7)) + 3)) 7) + 1))) else (some (wrap64 ((Int.tmod (wrap64 ((Int.tmod a0 7) + 3)) 7) + 1)))
set_option maxHeartbeats 8000000 in
set_option maxRecDepth 100000 in
theorem epactref03_Weekday.calls (a0 : Int) (r : Int) (w : World) (h : epactref03_Weekday.f a0 = some r) :
    Calls Tryz.prog 183 #[.int .i64 a0] w fun e w' => e = .returned (.int .i64 r) ∧ Drawn0 w w' := by
  have H : (if (Int.tmod a0 7) < 0 then (some (wrap64 ((Int.tmod (wrap64 ((wrap64 ((Int.tmod a0 7) + 7)) + 3)) 7) + 1))) else (some (wrap64 ((Int.tmod (wrap64 ((Int.tmod a0 7) + 3)) 7) + 1)))) = some r := h
  clear h
  by_cases c2 : (Int.tmod a0 7) < 0
  · rw [if_pos c2] at H
    have c2b0 : decide ((Int.tmod a0 7) < 0) = true := decide_eq_true c2
    clear c2
    obtain rfl := Option.some.inj H
    go_enter Tryz.func183, Tryz.ntmps183
    go_wp2
    go_ret
    exact ⟨by first | rfl | (simp; done) | (simp [*]; done), by repeat (first | exact Drawn0.refl _ | apply Drawn0.step)⟩
  · rw [if_neg c2] at H
    have c2b0 : decide ((Int.tmod a0 7) < 0) = false := decide_eq_false c2
    clear c2
    obtain rfl := Option.some.inj H
    go_enter Tryz.func183, Tryz.ntmps183
    go_wp2
    go_ret
    exact ⟨by first | rfl | (simp; done) | (simp [*]; done), by repeat (first | exact Drawn0.refl _ | apply Drawn0.step)⟩
def epactref04_first.f (k : Nat) (a0 : Int) : Option (Int) := (epactref04_inside.f a0).bind fun t191 => (if t191 = true then ((epactref03_Days.f k a0 1 4).bind fun bt192 => ((epactref03_Weekday.f bt192.1).bind fun t194 => (some (wrap64 ((wrap64 (bt192.1 - t194)) + 1))))) else (if a0 > 9999 then ((epactref03_Days.f k 9999 12 31).bind fun bt195 => ((epactref03_Weekday.f (wrap64 (bt195.1 + 4))).bind fun t197 => (some (wrap64 ((wrap64 ((wrap64 (bt195.1 + 4)) - t197)) + 1))))) else ((epactref03_Weekday.f 0).bind fun t198 => (some (wrap64 ((wrap64 (-t198)) + 1))))))
set_option maxHeartbeats 8000000 in
set_option maxRecDepth 100000 in
theorem epactref04_first.calls (k : Nat) (a0 : Int) (r : Int) (w : World) (h : epactref04_first.f k a0 = some r) :
    Calls Tryz.prog 152 #[.int .i64 a0] w fun e w' => e = .returned (.int .i64 r) ∧ Drawn0 w w' := by
  have H : ((epactref04_inside.f a0).bind fun t191 => (if t191 = true then ((epactref03_Days.f k a0 1 4).bind fun bt192 => ((epactref03_Weekday.f bt192.1).bind fun t194 => (some (wrap64 ((wrap64 (bt192.1 - t194)) + 1))))) else (if a0 > 9999 then ((epactref03_Days.f k 9999 12 31).bind fun bt195 => ((epactref03_Weekday.f (wrap64 (bt195.1 + 4))).bind fun t197 => (some (wrap64 ((wrap64 ((wrap64 (bt195.1 + 4)) - t197)) + 1))))) else ((epactref03_Weekday.f 0).bind fun t198 => (some (wrap64 ((wrap64 (-t198)) + 1))))))) = some r := h
  clear h
  replace H := Option.bind_eq_some_iff.mp H
  obtain ⟨t191, A20, H⟩ := H
  replace H : (if t191 = true then ((epactref03_Days.f k a0 1 4).bind fun bt192 => ((epactref03_Weekday.f bt192.1).bind fun t194 => (some (wrap64 ((wrap64 (bt192.1 - t194)) + 1))))) else (if a0 > 9999 then ((epactref03_Days.f k 9999 12 31).bind fun bt195 => ((epactref03_Weekday.f (wrap64 (bt195.1 + 4))).bind fun t197 => (some (wrap64 ((wrap64 ((wrap64 (bt195.1 + 4)) - t197)) + 1))))) else ((epactref03_Weekday.f 0).bind fun t198 => (some (wrap64 ((wrap64 (-t198)) + 1)))))) = some r := H
  have A2 := Aside0.mk A20
  clear A20
  by_cases c3 : t191 = true
  · subst c3
    have H1 : ((epactref03_Days.f k a0 1 4).bind fun bt192 => ((epactref03_Weekday.f bt192.1).bind fun t194 => (some (wrap64 ((wrap64 (bt192.1 - t194)) + 1))))) = some r := by rw [if_pos rfl] at H; exact H
    clear H
    have H := H1
    clear H1
    replace H := Option.bind_eq_some_iff.mp H
    obtain ⟨⟨t192, t193⟩, A40, H⟩ := H
    replace H : ((epactref03_Weekday.f t192).bind fun t194 => (some (wrap64 ((wrap64 (t192 - t194)) + 1)))) = some r := H
    have A4 := Aside0.mk A40
    clear A40
    replace H := Option.bind_eq_some_iff.mp H
    obtain ⟨t194, A50, H⟩ := H
    replace H : (some (wrap64 ((wrap64 (t192 - t194)) + 1))) = some r := H
    have A5 := Aside0.mk A50
    clear A50
    obtain rfl := Option.some.inj H
    go_enter Tryz.func152, Tryz.ntmps152
    go_wp2_with (first | ((with_reducible refine gate_callee (f := 151) rfl ?_); refine goesL_ (some 5) rfl rfl Tryz.func151 (by kernel_rfl) rfl #[.int .i64 a0] rfl (by (try simp only [List.map_toArray, List.map_cons, List.map_nil]); first | done | rfl | (simp only [List.length_drop, List.length_take]; rfl)) ?_; (with_reducible refine (epactref04_inside.calls a0 true _ A2.out).mono ?_); rintro e w' ⟨rfl, ⟨nd, rfl⟩⟩; refine ⟨_, rfl, ?_⟩) | ((with_reducible refine gate_callee (f := 146) rfl ?_); refine goesL_ (some 8) rfl rfl Tryz.func146 (by kernel_rfl) rfl #[.int .i64 a0, .int .i64 1, .int .i64 4] rfl (by (try simp only [List.map_toArray, List.map_cons, List.map_nil]); first | done | rfl | (simp only [List.length_drop, List.length_take]; rfl)) ?_; (with_reducible refine (epactref03_Days.calls k a0 1 4 t192 t193 _ A4.out).mono ?_); rintro e w' ⟨rfl, ⟨nd, rfl⟩⟩; refine ⟨_, rfl, ?_⟩) | ((with_reducible refine gate_callee (f := 183) rfl ?_); refine goesL_ (some 21) rfl rfl Tryz.func183 (by kernel_rfl) rfl #[.int .i64 t192] rfl (by (try simp only [List.map_toArray, List.map_cons, List.map_nil]); first | done | rfl | (simp only [List.length_drop, List.length_take]; rfl)) ?_; (with_reducible refine (epactref03_Weekday.calls t192 t194 _ A5.out).mono ?_); rintro e w' ⟨rfl, ⟨nd, rfl⟩⟩; refine ⟨_, rfl, ?_⟩))
    go_ret
    exact ⟨by first | rfl | (simp; done) | (simp [*]; done), by repeat (first | exact Drawn0.refl _ | apply Drawn0.step)⟩
  · replace c3 := Bool.eq_false_iff.mpr c3
    subst c3
    have H1 : (if a0 > 9999 then ((epactref03_Days.f k 9999 12 31).bind fun bt195 => ((epactref03_Weekday.f (wrap64 (bt195.1 + 4))).bind fun t197 => (some (wrap64 ((wrap64 ((wrap64 (bt195.1 + 4)) - t197)) + 1))))) else ((epactref03_Weekday.f 0).bind fun t198 => (some (wrap64 ((wrap64 (-t198)) + 1))))) = some r := by rw [if_neg (show ¬ (false = true) by decide)] at H; exact H
    clear H
    have H := H1
    clear H1
    by_cases c6 : a0 > 9999
    · rw [if_pos c6] at H
      have c6b0 : decide (9999 < a0) = true := decide_eq_true c6
      clear c6
      replace H := Option.bind_eq_some_iff.mp H
      obtain ⟨⟨t195, t196⟩, A70, H⟩ := H
      replace H : ((epactref03_Weekday.f (wrap64 (t195 + 4))).bind fun t197 => (some (wrap64 ((wrap64 ((wrap64 (t195 + 4)) - t197)) + 1)))) = some r := H
      have A7 := Aside0.mk A70
      clear A70
      replace H := Option.bind_eq_some_iff.mp H
      obtain ⟨t197, A80, H⟩ := H
      replace H : (some (wrap64 ((wrap64 ((wrap64 (t195 + 4)) - t197)) + 1))) = some r := H
      have A8 := Aside0.mk A80
      clear A80
      obtain rfl := Option.some.inj H
      go_enter Tryz.func152, Tryz.ntmps152
      go_wp2_with (first | ((with_reducible refine gate_callee (f := 151) rfl ?_); refine goesL_ (some 5) rfl rfl Tryz.func151 (by kernel_rfl) rfl #[.int .i64 a0] rfl (by (try simp only [List.map_toArray, List.map_cons, List.map_nil]); first | done | rfl | (simp only [List.length_drop, List.length_take]; rfl)) ?_; (with_reducible refine (epactref04_inside.calls a0 false _ A2.out).mono ?_); rintro e w' ⟨rfl, ⟨nd, rfl⟩⟩; refine ⟨_, rfl, ?_⟩) | ((with_reducible refine gate_callee (f := 146) rfl ?_); refine goesL_ (some 14) rfl rfl Tryz.func146 (by kernel_rfl) rfl #[.int .i64 9999, .int .i64 12, .int .i64 31] rfl (by (try simp only [List.map_toArray, List.map_cons, List.map_nil]); first | done | rfl | (simp only [List.length_drop, List.length_take]; rfl)) ?_; (with_reducible refine (epactref03_Days.calls k 9999 12 31 t195 t196 _ A7.out).mono ?_); rintro e w' ⟨rfl, ⟨nd, rfl⟩⟩; refine ⟨_, rfl, ?_⟩) | ((with_reducible refine gate_callee (f := 183) rfl ?_); refine goesL_ (some 21) rfl rfl Tryz.func183 (by kernel_rfl) rfl #[.int .i64 (wrap64 (t195 + 4))] rfl (by (try simp only [List.map_toArray, List.map_cons, List.map_nil]); first | done | rfl | (simp only [List.length_drop, List.length_take]; rfl)) ?_; (with_reducible refine (epactref03_Weekday.calls (wrap64 (t195 + 4)) t197 _ A8.out).mono ?_); rintro e w' ⟨rfl, ⟨nd, rfl⟩⟩; refine ⟨_, rfl, ?_⟩))
      go_ret
      exact ⟨by first | rfl | (simp; done) | (simp [*]; done), by repeat (first | exact Drawn0.refl _ | apply Drawn0.step)⟩
    · rw [if_neg c6] at H
      have c6b0 : decide (9999 < a0) = false := decide_eq_false c6
      clear c6
      replace H := Option.bind_eq_some_iff.mp H
      obtain ⟨t198, A90, H⟩ := H
      replace H : (some (wrap64 ((wrap64 (-t198)) + 1))) = some r := H
      have A9 := Aside0.mk A90
      clear A90
      obtain rfl := Option.some.inj H
      go_enter Tryz.func152, Tryz.ntmps152
      go_wp2_with (first | ((with_reducible refine gate_callee (f := 151) rfl ?_); refine goesL_ (some 5) rfl rfl Tryz.func151 (by kernel_rfl) rfl #[.int .i64 a0] rfl (by (try simp only [List.map_toArray, List.map_cons, List.map_nil]); first | done | rfl | (simp only [List.length_drop, List.length_take]; rfl)) ?_; (with_reducible refine (epactref04_inside.calls a0 false _ A2.out).mono ?_); rintro e w' ⟨rfl, ⟨nd, rfl⟩⟩; refine ⟨_, rfl, ?_⟩) | ((with_reducible refine gate_callee (f := 183) rfl ?_); refine goesL_ (some 21) rfl rfl Tryz.func183 (by kernel_rfl) rfl #[.int .i64 0] rfl (by (try simp only [List.map_toArray, List.map_cons, List.map_nil]); first | done | rfl | (simp only [List.length_drop, List.length_take]; rfl)) ?_; (with_reducible refine (epactref03_Weekday.calls 0 t198 _ A9.out).mono ?_); rintro e w' ⟨rfl, ⟨nd, rfl⟩⟩; refine ⟨_, rfl, ?_⟩))
      go_ret
      exact ⟨by first | rfl | (simp; done) | (simp [*]; done), by repeat (first | exact Drawn0.refl _ | apply Drawn0.step)⟩
def epactref04_Week.l0 : Nat → Int → Int → Int → Option (Int × Int × Int × Int)
  | 0, _, _, _ => none
  | k + 1, x0, x6, x10 => if x10 ≤ (wrap64 (x6 + 1)) then ((epactref04_inside.f x10).bind fun t203 => (if t203 = true then ((epactref04_first.f k x10).bind fun t204 => (if x0 ≥ t204 then ((epactref04_first.f k (wrap64 (x10 + 1))).bind fun t205 => (if x0 < t205 then ((epactref04_first.f k x10).bind fun t206 => (some (x10, wrap64 ((wrap64 (Int.tdiv (wrap64 (x0 - t206)) 7)) + 1), wrap64 ((Int.tmod (wrap64 (x0 - t206)) 7) + 1), 0))) else (epactref04_Week.l0 k x0 x6 (wrap64 (x10 + 1))))) else (epactref04_Week.l0 k x0 x6 (wrap64 (x10 + 1))))) else (epactref04_Week.l0 k x0 x6 (wrap64 (x10 + 1))))) else (some (0, 0, 0, 30))
def epactref04_Week.f (k : Nat) (a0 : Int) : Option (Int × Int × Int × Int) := (epactref03_Date.f k a0).bind fun bt199 => (if bt199.2.2.2 = 0 then (epactref04_Week.l0 k a0 bt199.1 (wrap64 (bt199.1 - 1))) else (some (0, 0, 0, 30)))
set_option maxHeartbeats 8000000 in
set_option maxRecDepth 100000 in
theorem epactref04_Week.calls (k : Nat) (a0 : Int) (r1 : Int) (r2 : Int) (r3 : Int) (r4 : Int) (w : World) (h : epactref04_Week.f k a0 = some (r1, r2, r3, r4)) :
    Calls Tryz.prog 119 #[.int .i64 a0] w fun e w' => e = .returned (.tuple #[.int .i64 r1, .int .i64 r2, .int .i64 r3, .int .i64 r4]) ∧ Drawn0 w w' := by
  have H : ((epactref03_Date.f k a0).bind fun bt199 => (if bt199.2.2.2 = 0 then (epactref04_Week.l0 k a0 bt199.1 (wrap64 (bt199.1 - 1))) else (some (0, 0, 0, 30)))) = some (r1, r2, r3, r4) := h
  clear h
  replace H := Option.bind_eq_some_iff.mp H
  obtain ⟨⟨t199, t200, t201, t202⟩, A20, H⟩ := H
  replace H : (if t202 = 0 then (epactref04_Week.l0 k a0 t199 (wrap64 (t199 - 1))) else (some (0, 0, 0, 30))) = some (r1, r2, r3, r4) := H
  have A2 := Aside0.mk A20
  clear A20
  by_cases c3 : t202 = 0
  · rw [if_pos c3] at H
    have c3b0 : (t202 == 0) = true := beq_iff_eq.mpr c3
    have c3b1 : (t202 != 0) = false := bne_eq_false_iff_eq.mpr c3
    clear c3
    have H' := Aside0.mk H
    clear H
    go_enter Tryz.func119, Tryz.ntmps119
    go_wp2_with (first | ((with_reducible refine gate_callee (f := 115) rfl ?_); refine goesL_ (some 14) rfl rfl Tryz.func115 (by kernel_rfl) rfl #[.int .i64 a0] rfl (by (try simp only [List.map_toArray, List.map_cons, List.map_nil]); first | done | rfl | (simp only [List.length_drop, List.length_take]; rfl)) ?_; (with_reducible refine (epactref03_Date.calls k a0 t199 t200 t201 t202 _ A2.out).mono ?_); rintro e w' ⟨rfl, ⟨nd, rfl⟩⟩; refine ⟨_, rfl, ?_⟩))
    go_loopg [10] k (fun kq v10 w' => ∃ (x10_1 : Int), v10 = .int .i64 x10_1 ∧ Aside0 (epactref04_Week.l0 kq a0 t199 x10_1 = some (r1, r2, r3, r4)) ∧ Aside0 (kq ≤ k) ∧ Drawn0 w w')
    case atStart => exact ⟨(wrap64 (t199 - 1)), (by first | rfl | (simp; done) | (simp [*]; done)), H', ⟨Nat.le_refl _⟩, by repeat (first | exact Drawn0.refl _ | apply Drawn0.step)⟩
    case round =>
      clear H'
      try clear c1
      try clear p2
      try clear c3
      try clear c3b0
      try clear c3b1
      obtain ⟨x10_1, rfl, HA, HK1, ⟨m1, rfl⟩⟩ := hrel
      cases gk with
      | zero => exact absurd HA.out (by simp [epactref04_Week.l0])
      | succ k1 =>
        have H := HA.out
        clear HA
        simp only [epactref04_Week.l0] at H
        by_cases c4 : x10_1 ≤ (wrap64 (t199 + 1))
        · rw [if_pos c4] at H
          have c4b0 : decide (x10_1 ≤ (wrap64 (t199 + 1))) = true := decide_eq_true c4
          clear c4
          replace H := Option.bind_eq_some_iff.mp H
          obtain ⟨t203, A50, H⟩ := H
          replace H : (if t203 = true then ((epactref04_first.f k1 x10_1).bind fun t204 => (if a0 ≥ t204 then ((epactref04_first.f k1 (wrap64 (x10_1 + 1))).bind fun t205 => (if a0 < t205 then ((epactref04_first.f k1 x10_1).bind fun t206 => (some (x10_1, wrap64 ((wrap64 (Int.tdiv (wrap64 (a0 - t206)) 7)) + 1), wrap64 ((Int.tmod (wrap64 (a0 - t206)) 7) + 1), 0))) else (epactref04_Week.l0 k1 a0 t199 (wrap64 (x10_1 + 1))))) else (epactref04_Week.l0 k1 a0 t199 (wrap64 (x10_1 + 1))))) else (epactref04_Week.l0 k1 a0 t199 (wrap64 (x10_1 + 1)))) = some (r1, r2, r3, r4) := H
          have A5 := Aside0.mk A50
          clear A50
          by_cases c6 : t203 = true
          · subst c6
            have H1 : ((epactref04_first.f k1 x10_1).bind fun t204 => (if a0 ≥ t204 then ((epactref04_first.f k1 (wrap64 (x10_1 + 1))).bind fun t205 => (if a0 < t205 then ((epactref04_first.f k1 x10_1).bind fun t206 => (some (x10_1, wrap64 ((wrap64 (Int.tdiv (wrap64 (a0 - t206)) 7)) + 1), wrap64 ((Int.tmod (wrap64 (a0 - t206)) 7) + 1), 0))) else (epactref04_Week.l0 k1 a0 t199 (wrap64 (x10_1 + 1))))) else (epactref04_Week.l0 k1 a0 t199 (wrap64 (x10_1 + 1))))) = some (r1, r2, r3, r4) := by rw [if_pos rfl] at H; exact H
            clear H
            have H := H1
            clear H1
            replace H := Option.bind_eq_some_iff.mp H
            obtain ⟨t204, A70, H⟩ := H
            replace H : (if a0 ≥ t204 then ((epactref04_first.f k1 (wrap64 (x10_1 + 1))).bind fun t205 => (if a0 < t205 then ((epactref04_first.f k1 x10_1).bind fun t206 => (some (x10_1, wrap64 ((wrap64 (Int.tdiv (wrap64 (a0 - t206)) 7)) + 1), wrap64 ((Int.tmod (wrap64 (a0 - t206)) 7) + 1), 0))) else (epactref04_Week.l0 k1 a0 t199 (wrap64 (x10_1 + 1))))) else (epactref04_Week.l0 k1 a0 t199 (wrap64 (x10_1 + 1)))) = some (r1, r2, r3, r4) := H
            have A7 := Aside0.mk A70
            clear A70
            by_cases c8 : a0 ≥ t204
            · rw [if_pos c8] at H
              have c8b0 : decide (t204 ≤ a0) = true := decide_eq_true c8
              clear c8
              replace H := Option.bind_eq_some_iff.mp H
              obtain ⟨t205, A90, H⟩ := H
              replace H : (if a0 < t205 then ((epactref04_first.f k1 x10_1).bind fun t206 => (some (x10_1, wrap64 ((wrap64 (Int.tdiv (wrap64 (a0 - t206)) 7)) + 1), wrap64 ((Int.tmod (wrap64 (a0 - t206)) 7) + 1), 0))) else (epactref04_Week.l0 k1 a0 t199 (wrap64 (x10_1 + 1)))) = some (r1, r2, r3, r4) := H
              have A9 := Aside0.mk A90
              clear A90
              by_cases c10 : a0 < t205
              · rw [if_pos c10] at H
                have c10b0 : decide (a0 < t205) = true := decide_eq_true c10
                clear c10
                replace H := Option.bind_eq_some_iff.mp H
                obtain ⟨t206, A110, H⟩ := H
                replace H : (some (x10_1, wrap64 ((wrap64 (Int.tdiv (wrap64 (a0 - t206)) 7)) + 1), wrap64 ((Int.tmod (wrap64 (a0 - t206)) 7) + 1), 0)) = some (r1, r2, r3, r4) := H
                have A11 := Aside0.mk A110
                clear A110
                simp only [Option.some.injEq, Prod.mk.injEq] at H
                obtain ⟨rfl, rfl, rfl, rfl⟩ := H
                go_wp2_with (first | ((with_reducible refine gate_callee (f := 151) rfl ?_); refine goesL_ (some 30) rfl rfl Tryz.func151 (by kernel_rfl) rfl #[.int .i64 x10_1] rfl (by (try simp only [List.map_toArray, List.map_cons, List.map_nil]); first | done | rfl | (simp only [List.length_drop, List.length_take]; rfl)) ?_; (with_reducible refine (epactref04_inside.calls x10_1 true _ A5.out).mono ?_); rintro e w' ⟨rfl, ⟨nd, rfl⟩⟩; refine ⟨_, rfl, ?_⟩) | (go_at_call 152; (with_reducible refine (epactref04_first.calls k1 x10_1 t204 _ A7.out).mono ?_); rintro e w' ⟨rfl, ⟨nd, rfl⟩⟩) | (go_at_call 152; (with_reducible refine (epactref04_first.calls k1 (wrap64 (x10_1 + 1)) t205 _ A9.out).mono ?_); rintro e w' ⟨rfl, ⟨nd, rfl⟩⟩) | ((with_reducible refine gate_callee (f := 152) rfl ?_); refine goesL_ (some 46) rfl rfl Tryz.func152 (by kernel_rfl) rfl #[.int .i64 x10_1] rfl (by (try simp only [List.map_toArray, List.map_cons, List.map_nil]); first | done | rfl | (simp only [List.length_drop, List.length_take]; rfl)) ?_; (with_reducible refine (epactref04_first.calls k1 x10_1 t206 _ A11.out).mono ?_); rintro e w' ⟨rfl, ⟨nd, rfl⟩⟩; refine ⟨_, rfl, ?_⟩))
                refine bodyPost_ret (results_list (rs := [.tmp 2, .tmp 3, .tmp 4, .tmp 5]) rfl (by simp) (.tmp (.tmp (.tmp (.tmp .nil))))) rfl ?_
                exact ⟨by first | rfl | (simp; done) | (simp [*]; done), by repeat (first | exact Drawn0.refl _ | apply Drawn0.step)⟩
              · rw [if_neg c10] at H
                have c10b0 : decide (a0 < t205) = false := decide_eq_false c10
                clear c10
                have H' := Aside0.mk H
                clear H
                go_wp2_with (first | ((with_reducible refine gate_callee (f := 151) rfl ?_); refine goesL_ (some 30) rfl rfl Tryz.func151 (by kernel_rfl) rfl #[.int .i64 x10_1] rfl (by (try simp only [List.map_toArray, List.map_cons, List.map_nil]); first | done | rfl | (simp only [List.length_drop, List.length_take]; rfl)) ?_; (with_reducible refine (epactref04_inside.calls x10_1 true _ A5.out).mono ?_); rintro e w' ⟨rfl, ⟨nd, rfl⟩⟩; refine ⟨_, rfl, ?_⟩) | (go_at_call 152; (with_reducible refine (epactref04_first.calls k1 x10_1 t204 _ A7.out).mono ?_); rintro e w' ⟨rfl, ⟨nd, rfl⟩⟩) | (go_at_call 152; (with_reducible refine (epactref04_first.calls k1 (wrap64 (x10_1 + 1)) t205 _ A9.out).mono ?_); rintro e w' ⟨rfl, ⟨nd, rfl⟩⟩))
                go_roundg k1
                case measure => have := HK1.out; omega
                case rel => exact ⟨(wrap64 (x10_1 + 1)), (by first | rfl | (simp; done) | (simp [*]; done)), H', ⟨by have := HK1.out; omega⟩, by repeat (first | exact Drawn0.refl _ | apply Drawn0.step)⟩
            · rw [if_neg c8] at H
              have c8b0 : decide (t204 ≤ a0) = false := decide_eq_false c8
              clear c8
              have H' := Aside0.mk H
              clear H
              go_wp2_with (first | ((with_reducible refine gate_callee (f := 151) rfl ?_); refine goesL_ (some 30) rfl rfl Tryz.func151 (by kernel_rfl) rfl #[.int .i64 x10_1] rfl (by (try simp only [List.map_toArray, List.map_cons, List.map_nil]); first | done | rfl | (simp only [List.length_drop, List.length_take]; rfl)) ?_; (with_reducible refine (epactref04_inside.calls x10_1 true _ A5.out).mono ?_); rintro e w' ⟨rfl, ⟨nd, rfl⟩⟩; refine ⟨_, rfl, ?_⟩) | (go_at_call 152; (with_reducible refine (epactref04_first.calls k1 x10_1 t204 _ A7.out).mono ?_); rintro e w' ⟨rfl, ⟨nd, rfl⟩⟩))
              go_roundg k1
              case measure => have := HK1.out; omega
              case rel => exact ⟨(wrap64 (x10_1 + 1)), (by first | rfl | (simp; done) | (simp [*]; done)), H', ⟨by have := HK1.out; omega⟩, by repeat (first | exact Drawn0.refl _ | apply Drawn0.step)⟩
          · replace c6 := Bool.eq_false_iff.mpr c6
            subst c6
            have H1 : (epactref04_Week.l0 k1 a0 t199 (wrap64 (x10_1 + 1))) = some (r1, r2, r3, r4) := by rw [if_neg (show ¬ (false = true) by decide)] at H; exact H
            clear H
            have H := H1
            clear H1
            have H' := Aside0.mk H
            clear H
            go_wp2_with (first | ((with_reducible refine gate_callee (f := 151) rfl ?_); refine goesL_ (some 30) rfl rfl Tryz.func151 (by kernel_rfl) rfl #[.int .i64 x10_1] rfl (by (try simp only [List.map_toArray, List.map_cons, List.map_nil]); first | done | rfl | (simp only [List.length_drop, List.length_take]; rfl)) ?_; (with_reducible refine (epactref04_inside.calls x10_1 false _ A5.out).mono ?_); rintro e w' ⟨rfl, ⟨nd, rfl⟩⟩; refine ⟨_, rfl, ?_⟩))
            go_roundg k1
            case measure => have := HK1.out; omega
            case rel => exact ⟨(wrap64 (x10_1 + 1)), (by first | rfl | (simp; done) | (simp [*]; done)), H', ⟨by have := HK1.out; omega⟩, by repeat (first | exact Drawn0.refl _ | apply Drawn0.step)⟩
        · rw [if_neg c4] at H
          have c4b0 : decide (x10_1 ≤ (wrap64 (t199 + 1))) = false := decide_eq_false c4
          clear c4
          simp only [Option.some.injEq, Prod.mk.injEq] at H
          obtain ⟨rfl, rfl, rfl, rfl⟩ := H
          go_wp2
          refine bodyPost_ret (results_list (rs := [.tmp 2, .tmp 3, .tmp 4, .tmp 5]) rfl (by simp) (.tmp (.tmp (.tmp (.tmp .nil))))) rfl ?_
          exact ⟨by first | rfl | (simp; done) | (simp [*]; done), by repeat (first | exact Drawn0.refl _ | apply Drawn0.step)⟩
  · rw [if_neg c3] at H
    have c3b0 : (t202 == 0) = false := beq_eq_false_iff_ne.mpr c3
    have c3b1 : (t202 != 0) = true := bne_iff_ne.mpr c3
    simp only [Option.some.injEq, Prod.mk.injEq] at H
    obtain ⟨rfl, rfl, rfl, rfl⟩ := H
    go_enter Tryz.func119, Tryz.ntmps119
    go_wp2_with (first | ((with_reducible refine gate_callee (f := 115) rfl ?_); refine goesL_ (some 14) rfl rfl Tryz.func115 (by kernel_rfl) rfl #[.int .i64 a0] rfl (by (try simp only [List.map_toArray, List.map_cons, List.map_nil]); first | done | rfl | (simp only [List.length_drop, List.length_take]; rfl)) ?_; (with_reducible refine (epactref03_Date.calls k a0 t199 t200 t201 t202 _ A2.out).mono ?_); rintro e w' ⟨rfl, ⟨nd, rfl⟩⟩; refine ⟨_, rfl, ?_⟩))
    refine bodyPost_ret (results_list (rs := [.tmp 2, .tmp 3, .tmp 4, .tmp 5]) rfl (by simp) (.tmp (.tmp (.tmp (.tmp .nil))))) rfl ?_
    exact ⟨by first | rfl | (simp; done) | (simp [*]; done), by repeat (first | exact Drawn0.refl _ | apply Drawn0.step)⟩
def epactref04_Texts.f (k : Nat) (a0 : Int) : Option (List ByteArray) := (epactref03_Date.f k a0).bind fun bt207 => (if bt207.2.2.2 = 0 then ((epactref04_year.f k bt207.1).bind fun t211 => (if t211.size + 1 ≤ 9223372036854775807 then ((epactref04_digits.f k bt207.2.1 2).bind fun t212 => (if (t211 ++ (⟨#[45]⟩ : ByteArray)).size + t212.size ≤ 9223372036854775807 then (if ((t211 ++ (⟨#[45]⟩ : ByteArray)) ++ t212).size + 1 ≤ 9223372036854775807 then ((epactref04_digits.f k bt207.2.2.1 2).bind fun t213 => (if (((t211 ++ (⟨#[45]⟩ : ByteArray)) ++ t212) ++ (⟨#[45]⟩ : ByteArray)).size + t213.size ≤ 9223372036854775807 then ((some (([(((t211 ++ (⟨#[45]⟩ : ByteArray)) ++ t212) ++ (⟨#[45]⟩ : ByteArray)) ++ t213] : List ByteArray) : List ByteArray)).bind fun y214 => ((epactref04_Nth.f k a0).bind fun bt217 => ((epactref04_year.f k bt207.1).bind fun t220 => (if t220.size + 1 ≤ 9223372036854775807 then ((epactref04_digits.f k bt217.2.1 3).bind fun t221 => (if (t220 ++ (⟨#[45]⟩ : ByteArray)).size + t221.size ≤ 9223372036854775807 then (if y214.length < 8796093022208 then ((some (y214 ++ [(t220 ++ (⟨#[45]⟩ : ByteArray)) ++ t221] : List ByteArray)).bind fun y222 => ((epactref04_Week.f k a0).bind fun bt225 => (if bt225.2.2.2 = 0 then ((epactref04_year.f k bt225.1).bind fun t229 => (if t229.size + 2 ≤ 9223372036854775807 then ((epactref04_digits.f k bt225.2.1 2).bind fun t230 => (if (t229 ++ (⟨#[45, 87]⟩ : ByteArray)).size + t230.size ≤ 9223372036854775807 then (if ((t229 ++ (⟨#[45, 87]⟩ : ByteArray)) ++ t230).size + 1 ≤ 9223372036854775807 then ((epactref04_digits.f k bt225.2.2.1 1).bind fun t231 => (if (((t229 ++ (⟨#[45, 87]⟩ : ByteArray)) ++ t230) ++ (⟨#[45]⟩ : ByteArray)).size + t231.size ≤ 9223372036854775807 then (if y222.length < 8796093022208 then (some (y222 ++ [(((t229 ++ (⟨#[45, 87]⟩ : ByteArray)) ++ t230) ++ (⟨#[45]⟩ : ByteArray)) ++ t231])) else (none)) else (none))) else (none)) else (none))) else (none))) else (some y222)))) else (none)) else (none))) else (none))))) else (none))) else (none)) else (none))) else (none))) else (some ([] : List ByteArray)))
set_option maxHeartbeats 8000000 in
set_option maxRecDepth 100000 in
theorem epactref04_Texts.calls (k : Nat) (a0 : Int) (r : List ByteArray) (w : World) (h : epactref04_Texts.f k a0 = some r) :
    Calls Tryz.prog 70 #[.int .i64 a0] w fun e w' => ∃ v0_ : Value, e = .returned (v0_) ∧ Kd.R Kd.string 9 w' w.heap.size (fun _ => True) v0_ r ∧ Below w.heap.size w w' := by
  have HB := Aside0.mk (Below.refl w.heap.size w)
  have H : ((epactref03_Date.f k a0).bind fun bt207 => (if bt207.2.2.2 = 0 then ((epactref04_year.f k bt207.1).bind fun t211 => (if t211.size + 1 ≤ 9223372036854775807 then ((epactref04_digits.f k bt207.2.1 2).bind fun t212 => (if (t211 ++ (⟨#[45]⟩ : ByteArray)).size + t212.size ≤ 9223372036854775807 then (if ((t211 ++ (⟨#[45]⟩ : ByteArray)) ++ t212).size + 1 ≤ 9223372036854775807 then ((epactref04_digits.f k bt207.2.2.1 2).bind fun t213 => (if (((t211 ++ (⟨#[45]⟩ : ByteArray)) ++ t212) ++ (⟨#[45]⟩ : ByteArray)).size + t213.size ≤ 9223372036854775807 then ((some (([(((t211 ++ (⟨#[45]⟩ : ByteArray)) ++ t212) ++ (⟨#[45]⟩ : ByteArray)) ++ t213] : List ByteArray) : List ByteArray)).bind fun y214 => ((epactref04_Nth.f k a0).bind fun bt217 => ((epactref04_year.f k bt207.1).bind fun t220 => (if t220.size + 1 ≤ 9223372036854775807 then ((epactref04_digits.f k bt217.2.1 3).bind fun t221 => (if (t220 ++ (⟨#[45]⟩ : ByteArray)).size + t221.size ≤ 9223372036854775807 then (if y214.length < 8796093022208 then ((some (y214 ++ [(t220 ++ (⟨#[45]⟩ : ByteArray)) ++ t221] : List ByteArray)).bind fun y222 => ((epactref04_Week.f k a0).bind fun bt225 => (if bt225.2.2.2 = 0 then ((epactref04_year.f k bt225.1).bind fun t229 => (if t229.size + 2 ≤ 9223372036854775807 then ((epactref04_digits.f k bt225.2.1 2).bind fun t230 => (if (t229 ++ (⟨#[45, 87]⟩ : ByteArray)).size + t230.size ≤ 9223372036854775807 then (if ((t229 ++ (⟨#[45, 87]⟩ : ByteArray)) ++ t230).size + 1 ≤ 9223372036854775807 then ((epactref04_digits.f k bt225.2.2.1 1).bind fun t231 => (if (((t229 ++ (⟨#[45, 87]⟩ : ByteArray)) ++ t230) ++ (⟨#[45]⟩ : ByteArray)).size + t231.size ≤ 9223372036854775807 then (if y222.length < 8796093022208 then (some (y222 ++ [(((t229 ++ (⟨#[45, 87]⟩ : ByteArray)) ++ t230) ++ (⟨#[45]⟩ : ByteArray)) ++ t231])) else (none)) else (none))) else (none)) else (none))) else (none))) else (some y222)))) else (none)) else (none))) else (none))))) else (none))) else (none)) else (none))) else (none))) else (some ([] : List ByteArray)))) = some r := h
  clear h
  replace H := Option.bind_eq_some_iff.mp H
  obtain ⟨⟨t207, t208, t209, t210⟩, A20, H⟩ := H
  replace H : (if t210 = 0 then ((epactref04_year.f k t207).bind fun t211 => (if t211.size + 1 ≤ 9223372036854775807 then ((epactref04_digits.f k t208 2).bind fun t212 => (if (t211 ++ (⟨#[45]⟩ : ByteArray)).size + t212.size ≤ 9223372036854775807 then (if ((t211 ++ (⟨#[45]⟩ : ByteArray)) ++ t212).size + 1 ≤ 9223372036854775807 then ((epactref04_digits.f k t209 2).bind fun t213 => (if (((t211 ++ (⟨#[45]⟩ : ByteArray)) ++ t212) ++ (⟨#[45]⟩ : ByteArray)).size + t213.size ≤ 9223372036854775807 then ((some (([(((t211 ++ (⟨#[45]⟩ : ByteArray)) ++ t212) ++ (⟨#[45]⟩ : ByteArray)) ++ t213] : List ByteArray) : List ByteArray)).bind fun y214 => ((epactref04_Nth.f k a0).bind fun bt217 => ((epactref04_year.f k t207).bind fun t220 => (if t220.size + 1 ≤ 9223372036854775807 then ((epactref04_digits.f k bt217.2.1 3).bind fun t221 => (if (t220 ++ (⟨#[45]⟩ : ByteArray)).size + t221.size ≤ 9223372036854775807 then (if y214.length < 8796093022208 then ((some (y214 ++ [(t220 ++ (⟨#[45]⟩ : ByteArray)) ++ t221] : List ByteArray)).bind fun y222 => ((epactref04_Week.f k a0).bind fun bt225 => (if bt225.2.2.2 = 0 then ((epactref04_year.f k bt225.1).bind fun t229 => (if t229.size + 2 ≤ 9223372036854775807 then ((epactref04_digits.f k bt225.2.1 2).bind fun t230 => (if (t229 ++ (⟨#[45, 87]⟩ : ByteArray)).size + t230.size ≤ 9223372036854775807 then (if ((t229 ++ (⟨#[45, 87]⟩ : ByteArray)) ++ t230).size + 1 ≤ 9223372036854775807 then ((epactref04_digits.f k bt225.2.2.1 1).bind fun t231 => (if (((t229 ++ (⟨#[45, 87]⟩ : ByteArray)) ++ t230) ++ (⟨#[45]⟩ : ByteArray)).size + t231.size ≤ 9223372036854775807 then (if y222.length < 8796093022208 then (some (y222 ++ [(((t229 ++ (⟨#[45, 87]⟩ : ByteArray)) ++ t230) ++ (⟨#[45]⟩ : ByteArray)) ++ t231])) else (none)) else (none))) else (none)) else (none))) else (none))) else (some y222)))) else (none)) else (none))) else (none))))) else (none))) else (none)) else (none))) else (none))) else (some ([] : List ByteArray))) = some r := H
  have A2 := Aside0.mk A20
  clear A20
  by_cases c3 : t210 = 0
  · rw [if_pos c3] at H
    have c3b0 : (t210 == 0) = true := beq_iff_eq.mpr c3
    have c3b1 : (t210 != 0) = false := bne_eq_false_iff_eq.mpr c3
    clear c3
    replace H := Option.bind_eq_some_iff.mp H
    obtain ⟨t211, A40, H⟩ := H
    replace H : (if t211.size + 1 ≤ 9223372036854775807 then ((epactref04_digits.f k t208 2).bind fun t212 => (if (t211 ++ (⟨#[45]⟩ : ByteArray)).size + t212.size ≤ 9223372036854775807 then (if ((t211 ++ (⟨#[45]⟩ : ByteArray)) ++ t212).size + 1 ≤ 9223372036854775807 then ((epactref04_digits.f k t209 2).bind fun t213 => (if (((t211 ++ (⟨#[45]⟩ : ByteArray)) ++ t212) ++ (⟨#[45]⟩ : ByteArray)).size + t213.size ≤ 9223372036854775807 then ((some (([(((t211 ++ (⟨#[45]⟩ : ByteArray)) ++ t212) ++ (⟨#[45]⟩ : ByteArray)) ++ t213] : List ByteArray) : List ByteArray)).bind fun y214 => ((epactref04_Nth.f k a0).bind fun bt217 => ((epactref04_year.f k t207).bind fun t220 => (if t220.size + 1 ≤ 9223372036854775807 then ((epactref04_digits.f k bt217.2.1 3).bind fun t221 => (if (t220 ++ (⟨#[45]⟩ : ByteArray)).size + t221.size ≤ 9223372036854775807 then (if y214.length < 8796093022208 then ((some (y214 ++ [(t220 ++ (⟨#[45]⟩ : ByteArray)) ++ t221] : List ByteArray)).bind fun y222 => ((epactref04_Week.f k a0).bind fun bt225 => (if bt225.2.2.2 = 0 then ((epactref04_year.f k bt225.1).bind fun t229 => (if t229.size + 2 ≤ 9223372036854775807 then ((epactref04_digits.f k bt225.2.1 2).bind fun t230 => (if (t229 ++ (⟨#[45, 87]⟩ : ByteArray)).size + t230.size ≤ 9223372036854775807 then (if ((t229 ++ (⟨#[45, 87]⟩ : ByteArray)) ++ t230).size + 1 ≤ 9223372036854775807 then ((epactref04_digits.f k bt225.2.2.1 1).bind fun t231 => (if (((t229 ++ (⟨#[45, 87]⟩ : ByteArray)) ++ t230) ++ (⟨#[45]⟩ : ByteArray)).size + t231.size ≤ 9223372036854775807 then (if y222.length < 8796093022208 then (some (y222 ++ [(((t229 ++ (⟨#[45, 87]⟩ : ByteArray)) ++ t230) ++ (⟨#[45]⟩ : ByteArray)) ++ t231])) else (none)) else (none))) else (none)) else (none))) else (none))) else (some y222)))) else (none)) else (none))) else (none))))) else (none))) else (none)) else (none))) else (none)) = some r := H
    have A4 := Aside0.mk A40
    clear A40
    by_cases c5 : t211.size + 1 ≤ 9223372036854775807
    · rw [if_pos c5] at H
      have c5b0 := eq_true c5
      have c5b1 : decide (t211.size + 1 ≤ 9223372036854775807) = true := decide_eq_true c5
      try have c5b2 : (9223372036854775807 < t211.size + 1) = False := eq_false (Nat.not_lt.2 c5)
      replace H := Option.bind_eq_some_iff.mp H
      obtain ⟨t212, A60, H⟩ := H
      replace H : (if (t211 ++ (⟨#[45]⟩ : ByteArray)).size + t212.size ≤ 9223372036854775807 then (if ((t211 ++ (⟨#[45]⟩ : ByteArray)) ++ t212).size + 1 ≤ 9223372036854775807 then ((epactref04_digits.f k t209 2).bind fun t213 => (if (((t211 ++ (⟨#[45]⟩ : ByteArray)) ++ t212) ++ (⟨#[45]⟩ : ByteArray)).size + t213.size ≤ 9223372036854775807 then ((some (([(((t211 ++ (⟨#[45]⟩ : ByteArray)) ++ t212) ++ (⟨#[45]⟩ : ByteArray)) ++ t213] : List ByteArray) : List ByteArray)).bind fun y214 => ((epactref04_Nth.f k a0).bind fun bt217 => ((epactref04_year.f k t207).bind fun t220 => (if t220.size + 1 ≤ 9223372036854775807 then ((epactref04_digits.f k bt217.2.1 3).bind fun t221 => (if (t220 ++ (⟨#[45]⟩ : ByteArray)).size + t221.size ≤ 9223372036854775807 then (if y214.length < 8796093022208 then ((some (y214 ++ [(t220 ++ (⟨#[45]⟩ : ByteArray)) ++ t221] : List ByteArray)).bind fun y222 => ((epactref04_Week.f k a0).bind fun bt225 => (if bt225.2.2.2 = 0 then ((epactref04_year.f k bt225.1).bind fun t229 => (if t229.size + 2 ≤ 9223372036854775807 then ((epactref04_digits.f k bt225.2.1 2).bind fun t230 => (if (t229 ++ (⟨#[45, 87]⟩ : ByteArray)).size + t230.size ≤ 9223372036854775807 then (if ((t229 ++ (⟨#[45, 87]⟩ : ByteArray)) ++ t230).size + 1 ≤ 9223372036854775807 then ((epactref04_digits.f k bt225.2.2.1 1).bind fun t231 => (if (((t229 ++ (⟨#[45, 87]⟩ : ByteArray)) ++ t230) ++ (⟨#[45]⟩ : ByteArray)).size + t231.size ≤ 9223372036854775807 then (if y222.length < 8796093022208 then (some (y222 ++ [(((t229 ++ (⟨#[45, 87]⟩ : ByteArray)) ++ t230) ++ (⟨#[45]⟩ : ByteArray)) ++ t231])) else (none)) else (none))) else (none)) else (none))) else (none))) else (some y222)))) else (none)) else (none))) else (none))))) else (none))) else (none)) else (none)) = some r := H
      have A6 := Aside0.mk A60
      clear A60
      by_cases c7 : (t211 ++ (⟨#[45]⟩ : ByteArray)).size + t212.size ≤ 9223372036854775807
      · rw [if_pos c7] at H
        have c7b0 := eq_true c7
        have c7b1 : decide ((t211 ++ (⟨#[45]⟩ : ByteArray)).size + t212.size ≤ 9223372036854775807) = true := decide_eq_true c7
        try have c7b2 : (9223372036854775807 < (t211 ++ (⟨#[45]⟩ : ByteArray)).size + t212.size) = False := eq_false (Nat.not_lt.2 c7)
        have c7b7 : (9223372036854775807 < t211.size + 1 + t212.size) = False := eq_false (Nat.not_lt.2 (by have h_ := c7; simp only [ByteArray.size_append, show (⟨#[45]⟩ : ByteArray).size = 1 from rfl, show (⟨#[45, 87]⟩ : ByteArray).size = 2 from rfl] at h_; omega))
        by_cases c8 : ((t211 ++ (⟨#[45]⟩ : ByteArray)) ++ t212).size + 1 ≤ 9223372036854775807
        · rw [if_pos c8] at H
          have c8b0 := eq_true c8
          have c8b1 : decide (((t211 ++ (⟨#[45]⟩ : ByteArray)) ++ t212).size + 1 ≤ 9223372036854775807) = true := decide_eq_true c8
          try have c8b2 : (9223372036854775807 < ((t211 ++ (⟨#[45]⟩ : ByteArray)) ++ t212).size + 1) = False := eq_false (Nat.not_lt.2 c8)
          have c8b7 : (9223372036854775807 < t211.size + 1 + t212.size + 1) = False := eq_false (Nat.not_lt.2 (by have h_ := c8; simp only [ByteArray.size_append, show (⟨#[45]⟩ : ByteArray).size = 1 from rfl, show (⟨#[45, 87]⟩ : ByteArray).size = 2 from rfl] at h_; omega))
          replace H := Option.bind_eq_some_iff.mp H
          obtain ⟨t213, A90, H⟩ := H
          replace H : (if (((t211 ++ (⟨#[45]⟩ : ByteArray)) ++ t212) ++ (⟨#[45]⟩ : ByteArray)).size + t213.size ≤ 9223372036854775807 then ((some (([(((t211 ++ (⟨#[45]⟩ : ByteArray)) ++ t212) ++ (⟨#[45]⟩ : ByteArray)) ++ t213] : List ByteArray) : List ByteArray)).bind fun y214 => ((epactref04_Nth.f k a0).bind fun bt217 => ((epactref04_year.f k t207).bind fun t220 => (if t220.size + 1 ≤ 9223372036854775807 then ((epactref04_digits.f k bt217.2.1 3).bind fun t221 => (if (t220 ++ (⟨#[45]⟩ : ByteArray)).size + t221.size ≤ 9223372036854775807 then (if y214.length < 8796093022208 then ((some (y214 ++ [(t220 ++ (⟨#[45]⟩ : ByteArray)) ++ t221] : List ByteArray)).bind fun y222 => ((epactref04_Week.f k a0).bind fun bt225 => (if bt225.2.2.2 = 0 then ((epactref04_year.f k bt225.1).bind fun t229 => (if t229.size + 2 ≤ 9223372036854775807 then ((epactref04_digits.f k bt225.2.1 2).bind fun t230 => (if (t229 ++ (⟨#[45, 87]⟩ : ByteArray)).size + t230.size ≤ 9223372036854775807 then (if ((t229 ++ (⟨#[45, 87]⟩ : ByteArray)) ++ t230).size + 1 ≤ 9223372036854775807 then ((epactref04_digits.f k bt225.2.2.1 1).bind fun t231 => (if (((t229 ++ (⟨#[45, 87]⟩ : ByteArray)) ++ t230) ++ (⟨#[45]⟩ : ByteArray)).size + t231.size ≤ 9223372036854775807 then (if y222.length < 8796093022208 then (some (y222 ++ [(((t229 ++ (⟨#[45, 87]⟩ : ByteArray)) ++ t230) ++ (⟨#[45]⟩ : ByteArray)) ++ t231])) else (none)) else (none))) else (none)) else (none))) else (none))) else (some y222)))) else (none)) else (none))) else (none))))) else (none)) = some r := H
          have A9 := Aside0.mk A90
          clear A90
          by_cases c10 : (((t211 ++ (⟨#[45]⟩ : ByteArray)) ++ t212) ++ (⟨#[45]⟩ : ByteArray)).size + t213.size ≤ 9223372036854775807
          · rw [if_pos c10] at H
            have c10b0 := eq_true c10
            have c10b1 : decide ((((t211 ++ (⟨#[45]⟩ : ByteArray)) ++ t212) ++ (⟨#[45]⟩ : ByteArray)).size + t213.size ≤ 9223372036854775807) = true := decide_eq_true c10
            try have c10b2 : (9223372036854775807 < (((t211 ++ (⟨#[45]⟩ : ByteArray)) ++ t212) ++ (⟨#[45]⟩ : ByteArray)).size + t213.size) = False := eq_false (Nat.not_lt.2 c10)
            have c10b7 : (9223372036854775807 < t211.size + 1 + t212.size + 1 + t213.size) = False := eq_false (Nat.not_lt.2 (by have h_ := c10; simp only [ByteArray.size_append, show (⟨#[45]⟩ : ByteArray).size = 1 from rfl, show (⟨#[45, 87]⟩ : ByteArray).size = 2 from rfl] at h_; omega))
            obtain ⟨y214, hy214⟩ : ∃ y_ : List ByteArray, y_ = (([(((t211 ++ (⟨#[45]⟩ : ByteArray)) ++ t212) ++ (⟨#[45]⟩ : ByteArray)) ++ t213] : List ByteArray)) := ⟨_, rfl⟩
            replace H : ((epactref04_Nth.f k a0).bind fun bt217 => ((epactref04_year.f k t207).bind fun t220 => (if t220.size + 1 ≤ 9223372036854775807 then ((epactref04_digits.f k bt217.2.1 3).bind fun t221 => (if (t220 ++ (⟨#[45]⟩ : ByteArray)).size + t221.size ≤ 9223372036854775807 then (if y214.length < 8796093022208 then ((some (y214 ++ [(t220 ++ (⟨#[45]⟩ : ByteArray)) ++ t221] : List ByteArray)).bind fun y222 => ((epactref04_Week.f k a0).bind fun bt225 => (if bt225.2.2.2 = 0 then ((epactref04_year.f k bt225.1).bind fun t229 => (if t229.size + 2 ≤ 9223372036854775807 then ((epactref04_digits.f k bt225.2.1 2).bind fun t230 => (if (t229 ++ (⟨#[45, 87]⟩ : ByteArray)).size + t230.size ≤ 9223372036854775807 then (if ((t229 ++ (⟨#[45, 87]⟩ : ByteArray)) ++ t230).size + 1 ≤ 9223372036854775807 then ((epactref04_digits.f k bt225.2.2.1 1).bind fun t231 => (if (((t229 ++ (⟨#[45, 87]⟩ : ByteArray)) ++ t230) ++ (⟨#[45]⟩ : ByteArray)).size + t231.size ≤ 9223372036854775807 then (if y222.length < 8796093022208 then (some (y222 ++ [(((t229 ++ (⟨#[45, 87]⟩ : ByteArray)) ++ t230) ++ (⟨#[45]⟩ : ByteArray)) ++ t231])) else (none)) else (none))) else (none)) else (none))) else (none))) else (some y222)))) else (none)) else (none))) else (none)))) = some r := by first | (rw [hy214]; with_reducible exact H) | (have H2_ := (Option.bind_some _ _).symm.trans H; rw [hy214]; with_reducible exact H2_) | (have H2_ := (Option.bind_some _ _).symm.trans H; with_reducible exact H2_) | with_reducible exact H | (rw [hy214]; exact H) | exact H
            have Ny214 := Aside0.mk hy214
            clear hy214
            replace H := Option.bind_eq_some_iff.mp H
            obtain ⟨⟨t217, t218, t219⟩, A110, H⟩ := H
            replace H : ((epactref04_year.f k t207).bind fun t220 => (if t220.size + 1 ≤ 9223372036854775807 then ((epactref04_digits.f k t218 3).bind fun t221 => (if (t220 ++ (⟨#[45]⟩ : ByteArray)).size + t221.size ≤ 9223372036854775807 then (if y214.length < 8796093022208 then ((some (y214 ++ [(t220 ++ (⟨#[45]⟩ : ByteArray)) ++ t221] : List ByteArray)).bind fun y222 => ((epactref04_Week.f k a0).bind fun bt225 => (if bt225.2.2.2 = 0 then ((epactref04_year.f k bt225.1).bind fun t229 => (if t229.size + 2 ≤ 9223372036854775807 then ((epactref04_digits.f k bt225.2.1 2).bind fun t230 => (if (t229 ++ (⟨#[45, 87]⟩ : ByteArray)).size + t230.size ≤ 9223372036854775807 then (if ((t229 ++ (⟨#[45, 87]⟩ : ByteArray)) ++ t230).size + 1 ≤ 9223372036854775807 then ((epactref04_digits.f k bt225.2.2.1 1).bind fun t231 => (if (((t229 ++ (⟨#[45, 87]⟩ : ByteArray)) ++ t230) ++ (⟨#[45]⟩ : ByteArray)).size + t231.size ≤ 9223372036854775807 then (if y222.length < 8796093022208 then (some (y222 ++ [(((t229 ++ (⟨#[45, 87]⟩ : ByteArray)) ++ t230) ++ (⟨#[45]⟩ : ByteArray)) ++ t231])) else (none)) else (none))) else (none)) else (none))) else (none))) else (some y222)))) else (none)) else (none))) else (none))) = some r := H
            have A11 := Aside0.mk A110
            clear A110
            replace H := Option.bind_eq_some_iff.mp H
            obtain ⟨t220, A120, H⟩ := H
            replace H : (if t220.size + 1 ≤ 9223372036854775807 then ((epactref04_digits.f k t218 3).bind fun t221 => (if (t220 ++ (⟨#[45]⟩ : ByteArray)).size + t221.size ≤ 9223372036854775807 then (if y214.length < 8796093022208 then ((some (y214 ++ [(t220 ++ (⟨#[45]⟩ : ByteArray)) ++ t221] : List ByteArray)).bind fun y222 => ((epactref04_Week.f k a0).bind fun bt225 => (if bt225.2.2.2 = 0 then ((epactref04_year.f k bt225.1).bind fun t229 => (if t229.size + 2 ≤ 9223372036854775807 then ((epactref04_digits.f k bt225.2.1 2).bind fun t230 => (if (t229 ++ (⟨#[45, 87]⟩ : ByteArray)).size + t230.size ≤ 9223372036854775807 then (if ((t229 ++ (⟨#[45, 87]⟩ : ByteArray)) ++ t230).size + 1 ≤ 9223372036854775807 then ((epactref04_digits.f k bt225.2.2.1 1).bind fun t231 => (if (((t229 ++ (⟨#[45, 87]⟩ : ByteArray)) ++ t230) ++ (⟨#[45]⟩ : ByteArray)).size + t231.size ≤ 9223372036854775807 then (if y222.length < 8796093022208 then (some (y222 ++ [(((t229 ++ (⟨#[45, 87]⟩ : ByteArray)) ++ t230) ++ (⟨#[45]⟩ : ByteArray)) ++ t231])) else (none)) else (none))) else (none)) else (none))) else (none))) else (some y222)))) else (none)) else (none))) else (none)) = some r := H
            have A12 := Aside0.mk A120
            clear A120
            by_cases c13 : t220.size + 1 ≤ 9223372036854775807
            · rw [if_pos c13] at H
              have c13b0 := eq_true c13
              have c13b1 : decide (t220.size + 1 ≤ 9223372036854775807) = true := decide_eq_true c13
              try have c13b2 : (9223372036854775807 < t220.size + 1) = False := eq_false (Nat.not_lt.2 c13)
              replace H := Option.bind_eq_some_iff.mp H
              obtain ⟨t221, A140, H⟩ := H
              replace H : (if (t220 ++ (⟨#[45]⟩ : ByteArray)).size + t221.size ≤ 9223372036854775807 then (if y214.length < 8796093022208 then ((some (y214 ++ [(t220 ++ (⟨#[45]⟩ : ByteArray)) ++ t221] : List ByteArray)).bind fun y222 => ((epactref04_Week.f k a0).bind fun bt225 => (if bt225.2.2.2 = 0 then ((epactref04_year.f k bt225.1).bind fun t229 => (if t229.size + 2 ≤ 9223372036854775807 then ((epactref04_digits.f k bt225.2.1 2).bind fun t230 => (if (t229 ++ (⟨#[45, 87]⟩ : ByteArray)).size + t230.size ≤ 9223372036854775807 then (if ((t229 ++ (⟨#[45, 87]⟩ : ByteArray)) ++ t230).size + 1 ≤ 9223372036854775807 then ((epactref04_digits.f k bt225.2.2.1 1).bind fun t231 => (if (((t229 ++ (⟨#[45, 87]⟩ : ByteArray)) ++ t230) ++ (⟨#[45]⟩ : ByteArray)).size + t231.size ≤ 9223372036854775807 then (if y222.length < 8796093022208 then (some (y222 ++ [(((t229 ++ (⟨#[45, 87]⟩ : ByteArray)) ++ t230) ++ (⟨#[45]⟩ : ByteArray)) ++ t231])) else (none)) else (none))) else (none)) else (none))) else (none))) else (some y222)))) else (none)) else (none)) = some r := H
              have A14 := Aside0.mk A140
              clear A140
              by_cases c15 : (t220 ++ (⟨#[45]⟩ : ByteArray)).size + t221.size ≤ 9223372036854775807
              · rw [if_pos c15] at H
                have c15b0 := eq_true c15
                have c15b1 : decide ((t220 ++ (⟨#[45]⟩ : ByteArray)).size + t221.size ≤ 9223372036854775807) = true := decide_eq_true c15
                try have c15b2 : (9223372036854775807 < (t220 ++ (⟨#[45]⟩ : ByteArray)).size + t221.size) = False := eq_false (Nat.not_lt.2 c15)
                have c15b7 : (9223372036854775807 < t220.size + 1 + t221.size) = False := eq_false (Nat.not_lt.2 (by have h_ := c15; simp only [ByteArray.size_append, show (⟨#[45]⟩ : ByteArray).size = 1 from rfl, show (⟨#[45, 87]⟩ : ByteArray).size = 2 from rfl] at h_; omega))
                by_cases c16 : y214.length < 8796093022208
                · rw [if_pos c16] at H
                  have LMc16 := Aside0.mk c16
                  clear c16
                  obtain ⟨y222, hy222⟩ : ∃ y_ : List ByteArray, y_ = (y214 ++ [(t220 ++ (⟨#[45]⟩ : ByteArray)) ++ t221]) := ⟨_, rfl⟩
                  replace H : ((epactref04_Week.f k a0).bind fun bt225 => (if bt225.2.2.2 = 0 then ((epactref04_year.f k bt225.1).bind fun t229 => (if t229.size + 2 ≤ 9223372036854775807 then ((epactref04_digits.f k bt225.2.1 2).bind fun t230 => (if (t229 ++ (⟨#[45, 87]⟩ : ByteArray)).size + t230.size ≤ 9223372036854775807 then (if ((t229 ++ (⟨#[45, 87]⟩ : ByteArray)) ++ t230).size + 1 ≤ 9223372036854775807 then ((epactref04_digits.f k bt225.2.2.1 1).bind fun t231 => (if (((t229 ++ (⟨#[45, 87]⟩ : ByteArray)) ++ t230) ++ (⟨#[45]⟩ : ByteArray)).size + t231.size ≤ 9223372036854775807 then (if y222.length < 8796093022208 then (some (y222 ++ [(((t229 ++ (⟨#[45, 87]⟩ : ByteArray)) ++ t230) ++ (⟨#[45]⟩ : ByteArray)) ++ t231])) else (none)) else (none))) else (none)) else (none))) else (none))) else (some y222))) = some r := by first | (rw [hy222]; with_reducible exact H) | (have H2_ := (Option.bind_some _ _).symm.trans H; rw [hy222]; with_reducible exact H2_) | (have H2_ := (Option.bind_some _ _).symm.trans H; with_reducible exact H2_) | with_reducible exact H | (rw [hy222]; exact H) | exact H
                  have Ny222 := Aside0.mk hy222
                  clear hy222
                  replace H := Option.bind_eq_some_iff.mp H
                  obtain ⟨⟨t225, t226, t227, t228⟩, A170, H⟩ := H
                  replace H : (if t228 = 0 then ((epactref04_year.f k t225).bind fun t229 => (if t229.size + 2 ≤ 9223372036854775807 then ((epactref04_digits.f k t226 2).bind fun t230 => (if (t229 ++ (⟨#[45, 87]⟩ : ByteArray)).size + t230.size ≤ 9223372036854775807 then (if ((t229 ++ (⟨#[45, 87]⟩ : ByteArray)) ++ t230).size + 1 ≤ 9223372036854775807 then ((epactref04_digits.f k t227 1).bind fun t231 => (if (((t229 ++ (⟨#[45, 87]⟩ : ByteArray)) ++ t230) ++ (⟨#[45]⟩ : ByteArray)).size + t231.size ≤ 9223372036854775807 then (if y222.length < 8796093022208 then (some (y222 ++ [(((t229 ++ (⟨#[45, 87]⟩ : ByteArray)) ++ t230) ++ (⟨#[45]⟩ : ByteArray)) ++ t231])) else (none)) else (none))) else (none)) else (none))) else (none))) else (some y222)) = some r := H
                  have A17 := Aside0.mk A170
                  clear A170
                  by_cases c18 : t228 = 0
                  · rw [if_pos c18] at H
                    have c18b0 : (t228 == 0) = true := beq_iff_eq.mpr c18
                    have c18b1 : (t228 != 0) = false := bne_eq_false_iff_eq.mpr c18
                    clear c18
                    replace H := Option.bind_eq_some_iff.mp H
                    obtain ⟨t229, A190, H⟩ := H
                    replace H : (if t229.size + 2 ≤ 9223372036854775807 then ((epactref04_digits.f k t226 2).bind fun t230 => (if (t229 ++ (⟨#[45, 87]⟩ : ByteArray)).size + t230.size ≤ 9223372036854775807 then (if ((t229 ++ (⟨#[45, 87]⟩ : ByteArray)) ++ t230).size + 1 ≤ 9223372036854775807 then ((epactref04_digits.f k t227 1).bind fun t231 => (if (((t229 ++ (⟨#[45, 87]⟩ : ByteArray)) ++ t230) ++ (⟨#[45]⟩ : ByteArray)).size + t231.size ≤ 9223372036854775807 then (if y222.length < 8796093022208 then (some (y222 ++ [(((t229 ++ (⟨#[45, 87]⟩ : ByteArray)) ++ t230) ++ (⟨#[45]⟩ : ByteArray)) ++ t231])) else (none)) else (none))) else (none)) else (none))) else (none)) = some r := H
                    have A19 := Aside0.mk A190
                    clear A190
                    by_cases c20 : t229.size + 2 ≤ 9223372036854775807
                    · rw [if_pos c20] at H
                      have c20b0 := eq_true c20
                      have c20b1 : decide (t229.size + 2 ≤ 9223372036854775807) = true := decide_eq_true c20
                      try have c20b2 : (9223372036854775807 < t229.size + 2) = False := eq_false (Nat.not_lt.2 c20)
                      replace H := Option.bind_eq_some_iff.mp H
                      obtain ⟨t230, A210, H⟩ := H
                      replace H : (if (t229 ++ (⟨#[45, 87]⟩ : ByteArray)).size + t230.size ≤ 9223372036854775807 then (if ((t229 ++ (⟨#[45, 87]⟩ : ByteArray)) ++ t230).size + 1 ≤ 9223372036854775807 then ((epactref04_digits.f k t227 1).bind fun t231 => (if (((t229 ++ (⟨#[45, 87]⟩ : ByteArray)) ++ t230) ++ (⟨#[45]⟩ : ByteArray)).size + t231.size ≤ 9223372036854775807 then (if y222.length < 8796093022208 then (some (y222 ++ [(((t229 ++ (⟨#[45, 87]⟩ : ByteArray)) ++ t230) ++ (⟨#[45]⟩ : ByteArray)) ++ t231])) else (none)) else (none))) else (none)) else (none)) = some r := H
                      have A21 := Aside0.mk A210
                      clear A210
                      by_cases c22 : (t229 ++ (⟨#[45, 87]⟩ : ByteArray)).size + t230.size ≤ 9223372036854775807
                      · rw [if_pos c22] at H
                        have c22b0 := eq_true c22
                        have c22b1 : decide ((t229 ++ (⟨#[45, 87]⟩ : ByteArray)).size + t230.size ≤ 9223372036854775807) = true := decide_eq_true c22
                        try have c22b2 : (9223372036854775807 < (t229 ++ (⟨#[45, 87]⟩ : ByteArray)).size + t230.size) = False := eq_false (Nat.not_lt.2 c22)
                        have c22b7 : (9223372036854775807 < t229.size + 2 + t230.size) = False := eq_false (Nat.not_lt.2 (by have h_ := c22; simp only [ByteArray.size_append, show (⟨#[45]⟩ : ByteArray).size = 1 from rfl, show (⟨#[45, 87]⟩ : ByteArray).size = 2 from rfl] at h_; omega))
                        by_cases c23 : ((t229 ++ (⟨#[45, 87]⟩ : ByteArray)) ++ t230).size + 1 ≤ 9223372036854775807
                        · rw [if_pos c23] at H
                          have c23b0 := eq_true c23
                          have c23b1 : decide (((t229 ++ (⟨#[45, 87]⟩ : ByteArray)) ++ t230).size + 1 ≤ 9223372036854775807) = true := decide_eq_true c23
                          try have c23b2 : (9223372036854775807 < ((t229 ++ (⟨#[45, 87]⟩ : ByteArray)) ++ t230).size + 1) = False := eq_false (Nat.not_lt.2 c23)
                          have c23b7 : (9223372036854775807 < t229.size + 2 + t230.size + 1) = False := eq_false (Nat.not_lt.2 (by have h_ := c23; simp only [ByteArray.size_append, show (⟨#[45]⟩ : ByteArray).size = 1 from rfl, show (⟨#[45, 87]⟩ : ByteArray).size = 2 from rfl] at h_; omega))
                          replace H := Option.bind_eq_some_iff.mp H
                          obtain ⟨t231, A240, H⟩ := H
                          replace H : (if (((t229 ++ (⟨#[45, 87]⟩ : ByteArray)) ++ t230) ++ (⟨#[45]⟩ : ByteArray)).size + t231.size ≤ 9223372036854775807 then (if y222.length < 8796093022208 then (some (y222 ++ [(((t229 ++ (⟨#[45, 87]⟩ : ByteArray)) ++ t230) ++ (⟨#[45]⟩ : ByteArray)) ++ t231])) else (none)) else (none)) = some r := H
                          have A24 := Aside0.mk A240
                          clear A240
                          by_cases c25 : (((t229 ++ (⟨#[45, 87]⟩ : ByteArray)) ++ t230) ++ (⟨#[45]⟩ : ByteArray)).size + t231.size ≤ 9223372036854775807
                          · rw [if_pos c25] at H
                            have c25b0 := eq_true c25
                            have c25b1 : decide ((((t229 ++ (⟨#[45, 87]⟩ : ByteArray)) ++ t230) ++ (⟨#[45]⟩ : ByteArray)).size + t231.size ≤ 9223372036854775807) = true := decide_eq_true c25
                            try have c25b2 : (9223372036854775807 < (((t229 ++ (⟨#[45, 87]⟩ : ByteArray)) ++ t230) ++ (⟨#[45]⟩ : ByteArray)).size + t231.size) = False := eq_false (Nat.not_lt.2 c25)
                            have c25b7 : (9223372036854775807 < t229.size + 2 + t230.size + 1 + t231.size) = False := eq_false (Nat.not_lt.2 (by have h_ := c25; simp only [ByteArray.size_append, show (⟨#[45]⟩ : ByteArray).size = 1 from rfl, show (⟨#[45, 87]⟩ : ByteArray).size = 2 from rfl] at h_; omega))
                            by_cases c26 : y222.length < 8796093022208
                            · rw [if_pos c26] at H
                              have LMc26 := Aside0.mk c26
                              clear c26
                              obtain ⟨y232, hy232⟩ : ∃ y_ : List ByteArray, y_ = (y222 ++ [(((t229 ++ (⟨#[45, 87]⟩ : ByteArray)) ++ t230) ++ (⟨#[45]⟩ : ByteArray)) ++ t231]) := ⟨_, rfl⟩
                              replace H : (some y232) = some r := by first | (rw [hy232]; with_reducible exact H) | (have H2_ := (Option.bind_some _ _).symm.trans H; rw [hy232]; with_reducible exact H2_) | (have H2_ := (Option.bind_some _ _).symm.trans H; with_reducible exact H2_) | with_reducible exact H | (rw [hy232]; exact H) | exact H
                              have Ny232 := Aside0.mk hy232
                              clear hy232
                              obtain rfl := Option.some.inj H
                              go_enter Tryz.func70, Tryz.ntmps70
                              go_wp2_with (first | ((with_reducible refine gate_callee (f := 115) rfl ?_); refine goesL_ (some 17) rfl rfl Tryz.func115 (by kernel_rfl) rfl #[.int .i64 a0] rfl (by (try simp only [List.map_toArray, List.map_cons, List.map_nil]); first | done | rfl | (simp only [List.length_drop, List.length_take]; rfl)) ?_; (with_reducible refine (epactref03_Date.calls k a0 t207 t208 t209 t210 _ A2.out).mono ?_); rintro e w' ⟨rfl, ⟨nd, rfl⟩⟩; refine ⟨_, rfl, ?_⟩) | ((with_reducible refine gate_callee (f := 116) rfl ?_); refine goesL_ (some 25) rfl rfl Tryz.func116 (by kernel_rfl) rfl #[.int .i64 t207] rfl (by (try simp only [List.map_toArray, List.map_cons, List.map_nil]); first | done | rfl | (simp only [List.length_drop, List.length_take]; rfl)) ?_; (with_reducible refine (epactref04_year.calls k t207 t211 _ A4.out).mono ?_); rintro e w27 ⟨rfl, hb⟩; refine ⟨_, rfl, ?_⟩; have n0_ := Aside0.mk (below_step (by repeat (first | (with_reducible first | exact HB.out | apply below_alloc | apply pw_below_drewN | apply below_drew1) | exact HB.out)) hb); clear HB; have HB := n0_; clear n0_; (try clear hb); (try clear hb2); (try clear hk); (try clear hi)) | ((with_reducible refine gate_callee (f := 117) rfl ?_); refine goesL_ (some 28) rfl rfl Tryz.func117 (by kernel_rfl) rfl #[.int .i64 t208, .int .i64 2] rfl (by (try simp only [List.map_toArray, List.map_cons, List.map_nil]); first | done | rfl | (simp only [List.length_drop, List.length_take]; rfl)) ?_; (with_reducible refine (epactref04_digits.calls k t208 2 t212 _ A6.out).mono ?_); rintro e w28 ⟨rfl, hb⟩; refine ⟨_, rfl, ?_⟩; have n0_ := Aside0.mk (below_step (by repeat (first | (with_reducible first | exact HB.out | apply below_alloc | apply pw_below_drewN | apply below_drew1) | exact HB.out)) hb); clear HB; have HB := n0_; clear n0_; (try clear hb); (try clear hb2); (try clear hk); (try clear hi)) | ((with_reducible refine gate_callee (f := 117) rfl ?_); refine goesL_ (some 32) rfl rfl Tryz.func117 (by kernel_rfl) rfl #[.int .i64 t209, .int .i64 2] rfl (by (try simp only [List.map_toArray, List.map_cons, List.map_nil]); first | done | rfl | (simp only [List.length_drop, List.length_take]; rfl)) ?_; (with_reducible refine (epactref04_digits.calls k t209 2 t213 _ A9.out).mono ?_); rintro e w29 ⟨rfl, hb⟩; refine ⟨_, rfl, ?_⟩; have n0_ := Aside0.mk (below_step (by repeat (first | (with_reducible first | exact HB.out | apply below_alloc | apply pw_below_drewN | apply below_drew1) | exact HB.out)) hb); clear HB; have HB := n0_; clear n0_; (try clear hb); (try clear hb2); (try clear hk); (try clear hi)) | ((with_reducible refine gate_dst (N := 34) rfl ?_); refine Kd.R_lit Kd.string _ 9 ?hg (N := 34) ?hd (xs := ([(((t211 ++ (⟨#[45]⟩ : ByteArray)) ++ t212) ++ (⟨#[45]⟩ : ByteArray)) ++ t213] : List ByteArray)) (inner := [.string ((((t211 ++ (⟨#[45]⟩ : ByteArray)) ++ t212) ++ (⟨#[45]⟩ : ByteArray)) ++ t213)]) (ok := fun _ => True) (okp := fun _ => True) ?hr ?hp (fun _ hk => hk) trivial (Below.refl _ _) (Nat.le_refl _) (by simp) ?_; (case hd => rfl); (case hg => rfl); (case hr => first | (go_simp; done) | (go_simp; rfl)); (case hp => exact (Reps.one (show Kd.M Kd.string _ _ _ ((((t211 ++ (⟨#[45]⟩ : ByteArray)) ++ t212) ++ (⟨#[45]⟩ : ByteArray)) ++ t213) [.string ((((t211 ++ (⟨#[45]⟩ : ByteArray)) ++ t212) ++ (⟨#[45]⟩ : ByteArray)) ++ t213)] from rfl) (Reps.none _ _))); intro v215 w30 ho31 hb hg_ hnew_; clear hg_ hnew_; (first | rw [← Ny214.out] at ho31 | (simp only [Int.reduceToNat] at ho31; rw [← Ny214.out] at ho31)); have n0_ := Aside0.mk (Kd.R_lower ho31 (below_size (by repeat (first | (with_reducible first | exact HB.out | apply below_alloc | apply pw_below_drewN | apply below_drew1) | exact HB.out)))); have n1_ := Aside0.mk (below_step (by repeat (first | (with_reducible first | exact HB.out | apply below_alloc | apply pw_below_drewN | apply below_drew1) | exact HB.out)) hb); clear HB; have HO216 := n0_; have HB := n1_; clear n0_ n1_; clear hb ho31) | ((with_reducible refine gate_callee (f := 118) rfl ?_); refine goesL_ (some 37) rfl rfl Tryz.func118 (by kernel_rfl) rfl #[.int .i64 a0] rfl (by (try simp only [List.map_toArray, List.map_cons, List.map_nil]); first | done | rfl | (simp only [List.length_drop, List.length_take]; rfl)) ?_; (with_reducible refine (epactref04_Nth.calls k a0 t217 t218 t219 _ A11.out).mono ?_); rintro e w' ⟨rfl, ⟨nd, rfl⟩⟩; refine ⟨_, rfl, ?_⟩) | ((with_reducible refine gate_callee (f := 116) rfl ?_); refine goesL_ (some 43) rfl rfl Tryz.func116 (by kernel_rfl) rfl #[.int .i64 t207] rfl (by (try simp only [List.map_toArray, List.map_cons, List.map_nil]); first | done | rfl | (simp only [List.length_drop, List.length_take]; rfl)) ?_; (with_reducible refine (epactref04_year.calls k t207 t220 _ A12.out).mono ?_); rintro e w32 ⟨rfl, hb⟩; refine ⟨_, rfl, ?_⟩; have n0_ := Aside0.mk (Kd.R_below (by (with_reducible repeat (first | apply Kd.R_alloc | apply Kd.R_drewN | apply Kd.R_drew)); exact HO216.out) hb); have n1_ := Aside0.mk (below_step (by repeat (first | (with_reducible first | exact HB.out | apply below_alloc | apply pw_below_drewN | apply below_drew1) | exact HB.out)) hb); clear HO216; clear HB; have HO216 := n0_; have HB := n1_; clear n0_ n1_; (try clear hb); (try clear hb2); (try clear hk); (try clear hi)) | ((with_reducible refine gate_callee (f := 117) rfl ?_); refine goesL_ (some 46) rfl rfl Tryz.func117 (by kernel_rfl) rfl #[.int .i64 t218, .int .i64 3] rfl (by (try simp only [List.map_toArray, List.map_cons, List.map_nil]); first | done | rfl | (simp only [List.length_drop, List.length_take]; rfl)) ?_; (with_reducible refine (epactref04_digits.calls k t218 3 t221 _ A14.out).mono ?_); rintro e w33 ⟨rfl, hb⟩; refine ⟨_, rfl, ?_⟩; have n0_ := Aside0.mk (Kd.R_below (by (with_reducible repeat (first | apply Kd.R_alloc | apply Kd.R_drewN | apply Kd.R_drew)); exact HO216.out) hb); have n1_ := Aside0.mk (below_step (by repeat (first | (with_reducible first | exact HB.out | apply below_alloc | apply pw_below_drewN | apply below_drew1) | exact HB.out)) hb); clear HO216; clear HB; have HO216 := n0_; have HB := n1_; clear n0_ n1_; (try clear hb); (try clear hb2); (try clear hk); (try clear hi)) | ((with_reducible refine gate_builtin (b := .append) (xs := #[.tmp 41, .tmp 48]) rfl ?_); at_builtin; refine Kd.R_append Kd.string (w0 := w) w.heap.size rfl (.tmp 41) (.tmp 48) 38 9 (.string ⟨#[]⟩) 16 rfl Tryz.underlying38 info9 rfl (by decide) (by omega) v215 y214 ((t220 ++ (⟨#[45]⟩ : ByteArray)) ++ t221) [.string ((t220 ++ (⟨#[45]⟩ : ByteArray)) ++ t221)] (fun _ => True) (fun _ => False) rfl rfl ?aP (fun _ hk => hk.elim) ?aF ?aO ?aB ?aS ?aL ?_; (case aP => exact rfl); (case aB => exact (by repeat (first | (with_reducible first | exact HB.out | apply below_alloc | apply pw_below_drewN | apply below_drew1) | exact HB.out))); (case aF => exact (fun _ _ => trivial)); (case aO => exact (by (with_reducible repeat (first | apply Kd.R_alloc | apply Kd.R_drewN | apply Kd.R_drew)); exact HO216.out)); (case aS => exact (below_size (by repeat (first | (with_reducible first | exact HB.out | apply below_alloc | apply pw_below_drewN | apply below_drew1) | exact HB.out)))); (case aL => have := LMc16.out; omega); intro v223 w34 ho hb hg hat; rw [← Ny222.out] at ho; have n0_ := Aside0.mk (hb); have n1_ := Aside0.mk (ho); clear HB; clear HO216; have HB := n0_; have HO224 := n1_; clear n0_ n1_; clear ho hb hg hat) | ((with_reducible refine gate_callee (f := 119) rfl ?_); refine goesL_ (some 52) rfl rfl Tryz.func119 (by kernel_rfl) rfl #[.int .i64 a0] rfl (by (try simp only [List.map_toArray, List.map_cons, List.map_nil]); first | done | rfl | (simp only [List.length_drop, List.length_take]; rfl)) ?_; (with_reducible refine (epactref04_Week.calls k a0 t225 t226 t227 t228 _ A17.out).mono ?_); rintro e w' ⟨rfl, ⟨nd, rfl⟩⟩; refine ⟨_, rfl, ?_⟩) | ((with_reducible refine gate_callee (f := 116) rfl ?_); refine goesL_ (some 61) rfl rfl Tryz.func116 (by kernel_rfl) rfl #[.int .i64 t225] rfl (by (try simp only [List.map_toArray, List.map_cons, List.map_nil]); first | done | rfl | (simp only [List.length_drop, List.length_take]; rfl)) ?_; (with_reducible refine (epactref04_year.calls k t225 t229 _ A19.out).mono ?_); rintro e w35 ⟨rfl, hb⟩; refine ⟨_, rfl, ?_⟩; have n0_ := Aside0.mk (Kd.R_below (by (with_reducible repeat (first | apply Kd.R_alloc | apply Kd.R_drewN | apply Kd.R_drew)); exact HO224.out) hb); have n1_ := Aside0.mk (below_step (by repeat (first | (with_reducible first | exact HB.out | apply below_alloc | apply pw_below_drewN | apply below_drew1) | exact HB.out)) hb); clear HO224; clear HB; have HO224 := n0_; have HB := n1_; clear n0_ n1_; (try clear hb); (try clear hb2); (try clear hk); (try clear hi)) | ((with_reducible refine gate_callee (f := 117) rfl ?_); refine goesL_ (some 64) rfl rfl Tryz.func117 (by kernel_rfl) rfl #[.int .i64 t226, .int .i64 2] rfl (by (try simp only [List.map_toArray, List.map_cons, List.map_nil]); first | done | rfl | (simp only [List.length_drop, List.length_take]; rfl)) ?_; (with_reducible refine (epactref04_digits.calls k t226 2 t230 _ A21.out).mono ?_); rintro e w36 ⟨rfl, hb⟩; refine ⟨_, rfl, ?_⟩; have n0_ := Aside0.mk (Kd.R_below (by (with_reducible repeat (first | apply Kd.R_alloc | apply Kd.R_drewN | apply Kd.R_drew)); exact HO224.out) hb); have n1_ := Aside0.mk (below_step (by repeat (first | (with_reducible first | exact HB.out | apply below_alloc | apply pw_below_drewN | apply below_drew1) | exact HB.out)) hb); clear HO224; clear HB; have HO224 := n0_; have HB := n1_; clear n0_ n1_; (try clear hb); (try clear hb2); (try clear hk); (try clear hi)) | ((with_reducible refine gate_callee (f := 117) rfl ?_); refine goesL_ (some 68) rfl rfl Tryz.func117 (by kernel_rfl) rfl #[.int .i64 t227, .int .i64 1] rfl (by (try simp only [List.map_toArray, List.map_cons, List.map_nil]); first | done | rfl | (simp only [List.length_drop, List.length_take]; rfl)) ?_; (with_reducible refine (epactref04_digits.calls k t227 1 t231 _ A24.out).mono ?_); rintro e w37 ⟨rfl, hb⟩; refine ⟨_, rfl, ?_⟩; have n0_ := Aside0.mk (Kd.R_below (by (with_reducible repeat (first | apply Kd.R_alloc | apply Kd.R_drewN | apply Kd.R_drew)); exact HO224.out) hb); have n1_ := Aside0.mk (below_step (by repeat (first | (with_reducible first | exact HB.out | apply below_alloc | apply pw_below_drewN | apply below_drew1) | exact HB.out)) hb); clear HO224; clear HB; have HO224 := n0_; have HB := n1_; clear n0_ n1_; (try clear hb); (try clear hb2); (try clear hk); (try clear hi)) | ((with_reducible refine gate_builtin (b := .append) (xs := #[.tmp 59, .tmp 70]) rfl ?_); at_builtin; refine Kd.R_append Kd.string (w0 := w) w.heap.size rfl (.tmp 59) (.tmp 70) 38 9 (.string ⟨#[]⟩) 16 rfl Tryz.underlying38 info9 rfl (by decide) (by omega) v223 y222 ((((t229 ++ (⟨#[45, 87]⟩ : ByteArray)) ++ t230) ++ (⟨#[45]⟩ : ByteArray)) ++ t231) [.string ((((t229 ++ (⟨#[45, 87]⟩ : ByteArray)) ++ t230) ++ (⟨#[45]⟩ : ByteArray)) ++ t231)] (fun _ => True) (fun _ => False) rfl rfl ?aP (fun _ hk => hk.elim) ?aF ?aO ?aB ?aS ?aL ?_; (case aP => exact rfl); (case aB => exact (by repeat (first | (with_reducible first | exact HB.out | apply below_alloc | apply pw_below_drewN | apply below_drew1) | exact HB.out))); (case aF => exact (fun _ _ => trivial)); (case aO => exact (by (with_reducible repeat (first | apply Kd.R_alloc | apply Kd.R_drewN | apply Kd.R_drew)); exact HO224.out)); (case aS => exact (below_size (by repeat (first | (with_reducible first | exact HB.out | apply below_alloc | apply pw_below_drewN | apply below_drew1) | exact HB.out)))); (case aL => have := LMc26.out; omega); intro v233 w38 ho hb hg hat; rw [← Ny232.out] at ho; have n0_ := Aside0.mk (hb); have n1_ := Aside0.mk (ho); clear HB; clear HO224; have HB := n0_; have HO234 := n1_; clear n0_ n1_; clear ho hb hg hat))
                              go_ret
                              exact ⟨_, by first | rfl | (simp [errW_none, errW_some] <;> rfl) | (simp [*, errW_none, errW_some] <;> rfl), by (with_reducible repeat (first | apply Kd.R_alloc | apply Kd.R_drewN | apply Kd.R_drew)); exact HO234.out, by repeat (first | (with_reducible first | exact HB.out | apply below_alloc | apply pw_below_drewN | apply below_drew1) | exact HB.out)⟩
                            · rw [if_neg c26] at H
                              exact absurd H (by simp)
                          · rw [if_neg c25] at H
                            exact absurd H (by simp)
                        · rw [if_neg c23] at H
                          exact absurd H (by simp)
                      · rw [if_neg c22] at H
                        exact absurd H (by simp)
                    · rw [if_neg c20] at H
                      exact absurd H (by simp)
                  · rw [if_neg c18] at H
                    have c18b0 : (t228 == 0) = false := beq_eq_false_iff_ne.mpr c18
                    have c18b1 : (t228 != 0) = true := bne_iff_ne.mpr c18
                    obtain rfl := Option.some.inj H
                    go_enter Tryz.func70, Tryz.ntmps70
                    go_wp2_with (first | ((with_reducible refine gate_callee (f := 115) rfl ?_); refine goesL_ (some 17) rfl rfl Tryz.func115 (by kernel_rfl) rfl #[.int .i64 a0] rfl (by (try simp only [List.map_toArray, List.map_cons, List.map_nil]); first | done | rfl | (simp only [List.length_drop, List.length_take]; rfl)) ?_; (with_reducible refine (epactref03_Date.calls k a0 t207 t208 t209 t210 _ A2.out).mono ?_); rintro e w' ⟨rfl, ⟨nd, rfl⟩⟩; refine ⟨_, rfl, ?_⟩) | ((with_reducible refine gate_callee (f := 116) rfl ?_); refine goesL_ (some 25) rfl rfl Tryz.func116 (by kernel_rfl) rfl #[.int .i64 t207] rfl (by (try simp only [List.map_toArray, List.map_cons, List.map_nil]); first | done | rfl | (simp only [List.length_drop, List.length_take]; rfl)) ?_; (with_reducible refine (epactref04_year.calls k t207 t211 _ A4.out).mono ?_); rintro e w39 ⟨rfl, hb⟩; refine ⟨_, rfl, ?_⟩; have n0_ := Aside0.mk (below_step (by repeat (first | (with_reducible first | exact HB.out | apply below_alloc | apply pw_below_drewN | apply below_drew1) | exact HB.out)) hb); clear HB; have HB := n0_; clear n0_; (try clear hb); (try clear hb2); (try clear hk); (try clear hi)) | ((with_reducible refine gate_callee (f := 117) rfl ?_); refine goesL_ (some 28) rfl rfl Tryz.func117 (by kernel_rfl) rfl #[.int .i64 t208, .int .i64 2] rfl (by (try simp only [List.map_toArray, List.map_cons, List.map_nil]); first | done | rfl | (simp only [List.length_drop, List.length_take]; rfl)) ?_; (with_reducible refine (epactref04_digits.calls k t208 2 t212 _ A6.out).mono ?_); rintro e w40 ⟨rfl, hb⟩; refine ⟨_, rfl, ?_⟩; have n0_ := Aside0.mk (below_step (by repeat (first | (with_reducible first | exact HB.out | apply below_alloc | apply pw_below_drewN | apply below_drew1) | exact HB.out)) hb); clear HB; have HB := n0_; clear n0_; (try clear hb); (try clear hb2); (try clear hk); (try clear hi)) | ((with_reducible refine gate_callee (f := 117) rfl ?_); refine goesL_ (some 32) rfl rfl Tryz.func117 (by kernel_rfl) rfl #[.int .i64 t209, .int .i64 2] rfl (by (try simp only [List.map_toArray, List.map_cons, List.map_nil]); first | done | rfl | (simp only [List.length_drop, List.length_take]; rfl)) ?_; (with_reducible refine (epactref04_digits.calls k t209 2 t213 _ A9.out).mono ?_); rintro e w41 ⟨rfl, hb⟩; refine ⟨_, rfl, ?_⟩; have n0_ := Aside0.mk (below_step (by repeat (first | (with_reducible first | exact HB.out | apply below_alloc | apply pw_below_drewN | apply below_drew1) | exact HB.out)) hb); clear HB; have HB := n0_; clear n0_; (try clear hb); (try clear hb2); (try clear hk); (try clear hi)) | ((with_reducible refine gate_dst (N := 34) rfl ?_); refine Kd.R_lit Kd.string _ 9 ?hg (N := 34) ?hd (xs := ([(((t211 ++ (⟨#[45]⟩ : ByteArray)) ++ t212) ++ (⟨#[45]⟩ : ByteArray)) ++ t213] : List ByteArray)) (inner := [.string ((((t211 ++ (⟨#[45]⟩ : ByteArray)) ++ t212) ++ (⟨#[45]⟩ : ByteArray)) ++ t213)]) (ok := fun _ => True) (okp := fun _ => True) ?hr ?hp (fun _ hk => hk) trivial (Below.refl _ _) (Nat.le_refl _) (by simp) ?_; (case hd => rfl); (case hg => rfl); (case hr => first | (go_simp; done) | (go_simp; rfl)); (case hp => exact (Reps.one (show Kd.M Kd.string _ _ _ ((((t211 ++ (⟨#[45]⟩ : ByteArray)) ++ t212) ++ (⟨#[45]⟩ : ByteArray)) ++ t213) [.string ((((t211 ++ (⟨#[45]⟩ : ByteArray)) ++ t212) ++ (⟨#[45]⟩ : ByteArray)) ++ t213)] from rfl) (Reps.none _ _))); intro v215 w42 ho43 hb hg_ hnew_; clear hg_ hnew_; (first | rw [← Ny214.out] at ho43 | (simp only [Int.reduceToNat] at ho43; rw [← Ny214.out] at ho43)); have n0_ := Aside0.mk (Kd.R_lower ho43 (below_size (by repeat (first | (with_reducible first | exact HB.out | apply below_alloc | apply pw_below_drewN | apply below_drew1) | exact HB.out)))); have n1_ := Aside0.mk (below_step (by repeat (first | (with_reducible first | exact HB.out | apply below_alloc | apply pw_below_drewN | apply below_drew1) | exact HB.out)) hb); clear HB; have HO216 := n0_; have HB := n1_; clear n0_ n1_; clear hb ho43) | ((with_reducible refine gate_callee (f := 118) rfl ?_); refine goesL_ (some 37) rfl rfl Tryz.func118 (by kernel_rfl) rfl #[.int .i64 a0] rfl (by (try simp only [List.map_toArray, List.map_cons, List.map_nil]); first | done | rfl | (simp only [List.length_drop, List.length_take]; rfl)) ?_; (with_reducible refine (epactref04_Nth.calls k a0 t217 t218 t219 _ A11.out).mono ?_); rintro e w' ⟨rfl, ⟨nd, rfl⟩⟩; refine ⟨_, rfl, ?_⟩) | ((with_reducible refine gate_callee (f := 116) rfl ?_); refine goesL_ (some 43) rfl rfl Tryz.func116 (by kernel_rfl) rfl #[.int .i64 t207] rfl (by (try simp only [List.map_toArray, List.map_cons, List.map_nil]); first | done | rfl | (simp only [List.length_drop, List.length_take]; rfl)) ?_; (with_reducible refine (epactref04_year.calls k t207 t220 _ A12.out).mono ?_); rintro e w44 ⟨rfl, hb⟩; refine ⟨_, rfl, ?_⟩; have n0_ := Aside0.mk (Kd.R_below (by (with_reducible repeat (first | apply Kd.R_alloc | apply Kd.R_drewN | apply Kd.R_drew)); exact HO216.out) hb); have n1_ := Aside0.mk (below_step (by repeat (first | (with_reducible first | exact HB.out | apply below_alloc | apply pw_below_drewN | apply below_drew1) | exact HB.out)) hb); clear HO216; clear HB; have HO216 := n0_; have HB := n1_; clear n0_ n1_; (try clear hb); (try clear hb2); (try clear hk); (try clear hi)) | ((with_reducible refine gate_callee (f := 117) rfl ?_); refine goesL_ (some 46) rfl rfl Tryz.func117 (by kernel_rfl) rfl #[.int .i64 t218, .int .i64 3] rfl (by (try simp only [List.map_toArray, List.map_cons, List.map_nil]); first | done | rfl | (simp only [List.length_drop, List.length_take]; rfl)) ?_; (with_reducible refine (epactref04_digits.calls k t218 3 t221 _ A14.out).mono ?_); rintro e w45 ⟨rfl, hb⟩; refine ⟨_, rfl, ?_⟩; have n0_ := Aside0.mk (Kd.R_below (by (with_reducible repeat (first | apply Kd.R_alloc | apply Kd.R_drewN | apply Kd.R_drew)); exact HO216.out) hb); have n1_ := Aside0.mk (below_step (by repeat (first | (with_reducible first | exact HB.out | apply below_alloc | apply pw_below_drewN | apply below_drew1) | exact HB.out)) hb); clear HO216; clear HB; have HO216 := n0_; have HB := n1_; clear n0_ n1_; (try clear hb); (try clear hb2); (try clear hk); (try clear hi)) | ((with_reducible refine gate_builtin (b := .append) (xs := #[.tmp 41, .tmp 48]) rfl ?_); at_builtin; refine Kd.R_append Kd.string (w0 := w) w.heap.size rfl (.tmp 41) (.tmp 48) 38 9 (.string ⟨#[]⟩) 16 rfl Tryz.underlying38 info9 rfl (by decide) (by omega) v215 y214 ((t220 ++ (⟨#[45]⟩ : ByteArray)) ++ t221) [.string ((t220 ++ (⟨#[45]⟩ : ByteArray)) ++ t221)] (fun _ => True) (fun _ => False) rfl rfl ?aP (fun _ hk => hk.elim) ?aF ?aO ?aB ?aS ?aL ?_; (case aP => exact rfl); (case aB => exact (by repeat (first | (with_reducible first | exact HB.out | apply below_alloc | apply pw_below_drewN | apply below_drew1) | exact HB.out))); (case aF => exact (fun _ _ => trivial)); (case aO => exact (by (with_reducible repeat (first | apply Kd.R_alloc | apply Kd.R_drewN | apply Kd.R_drew)); exact HO216.out)); (case aS => exact (below_size (by repeat (first | (with_reducible first | exact HB.out | apply below_alloc | apply pw_below_drewN | apply below_drew1) | exact HB.out)))); (case aL => have := LMc16.out; omega); intro v223 w46 ho hb hg hat; rw [← Ny222.out] at ho; have n0_ := Aside0.mk (hb); have n1_ := Aside0.mk (ho); clear HB; clear HO216; have HB := n0_; have HO224 := n1_; clear n0_ n1_; clear ho hb hg hat) | ((with_reducible refine gate_callee (f := 119) rfl ?_); refine goesL_ (some 52) rfl rfl Tryz.func119 (by kernel_rfl) rfl #[.int .i64 a0] rfl (by (try simp only [List.map_toArray, List.map_cons, List.map_nil]); first | done | rfl | (simp only [List.length_drop, List.length_take]; rfl)) ?_; (with_reducible refine (epactref04_Week.calls k a0 t225 t226 t227 t228 _ A17.out).mono ?_); rintro e w' ⟨rfl, ⟨nd, rfl⟩⟩; refine ⟨_, rfl, ?_⟩))
                    go_ret
                    exact ⟨_, by first | rfl | (simp [errW_none, errW_some] <;> rfl) | (simp [*, errW_none, errW_some] <;> rfl), by (with_reducible repeat (first | apply Kd.R_alloc | apply Kd.R_drewN | apply Kd.R_drew)); exact HO224.out, by repeat (first | (with_reducible first | exact HB.out | apply below_alloc | apply pw_below_drewN | apply below_drew1) | exact HB.out)⟩
                · rw [if_neg c16] at H
                  exact absurd H (by simp)
              · rw [if_neg c15] at H
                exact absurd H (by simp)
            · rw [if_neg c13] at H
              exact absurd H (by simp)
          · rw [if_neg c10] at H
            exact absurd H (by simp)
        · rw [if_neg c8] at H
          exact absurd H (by simp)
      · rw [if_neg c7] at H
        exact absurd H (by simp)
    · rw [if_neg c5] at H
      exact absurd H (by simp)
  · rw [if_neg c3] at H
    have c3b0 : (t210 == 0) = false := beq_eq_false_iff_ne.mpr c3
    have c3b1 : (t210 != 0) = true := bne_iff_ne.mpr c3
    obtain rfl := Option.some.inj H
    go_enter Tryz.func70, Tryz.ntmps70
    go_wp2_with (first | ((with_reducible refine gate_callee (f := 115) rfl ?_); refine goesL_ (some 17) rfl rfl Tryz.func115 (by kernel_rfl) rfl #[.int .i64 a0] rfl (by (try simp only [List.map_toArray, List.map_cons, List.map_nil]); first | done | rfl | (simp only [List.length_drop, List.length_take]; rfl)) ?_; (with_reducible refine (epactref03_Date.calls k a0 t207 t208 t209 t210 _ A2.out).mono ?_); rintro e w' ⟨rfl, ⟨nd, rfl⟩⟩; refine ⟨_, rfl, ?_⟩))
    go_ret
    exact ⟨_, by first | rfl | (simp [errW_none, errW_some] <;> rfl) | (simp [*, errW_none, errW_some] <;> rfl), by first | exact Kd.R_nil _ _ _ _ _ | exact Kd.N_nil _ _ _ _ _ | exact Kd.V_nil _ _ _ _ _ | exact Kd.Q_nil _ _ _ _ _ | exact Kd.S_nil _ _ _ _ _, by repeat (first | (with_reducible first | exact HB.out | apply below_alloc | apply pw_below_drewN | apply below_drew1) | exact HB.out)⟩
end Go.Proofs.YtcinojbfjiohjaaGreatDoor.PPrintTells
end

section
namespace Go.Proofs.YtcinojbfjiohjaaGreatDoor.Civ
open Go Go.RowKit Go.Proofs.YtcinojbfjiohjaaGreatDoor.PPrintTells Go.Proofs.YtcinojbfjiohjaaGreatDoorW.PrintWords Go.Proofs.YtcinojbfjiohjaaGreatDoorW.PrintLast Go.Proofs.YtcinojbfjiohjaaGreatDoorW.PrintMore
set_option linter.unusedVariables false
set_option linter.unusedSimpArgs false
theorem w64 {x : Int} (h0 : -9223372036854775808 ≤ x) (h1 : x ≤ 9223372036854775807) : wrap64 x = x := by unfold wrap64; omega
theorem tmod7 (n : Int) : -7 < Int.tmod n 7 ∧ Int.tmod n 7 < 7 ∧ (Int.tmod n 7 - n) % 7 = 0 := by
  have h1 := Int.mul_tdiv_add_tmod n 7
  have h2 : Int.tmod n 7 < 7 := Int.tmod_lt_of_pos n (by omega)
  have h3 : -7 < Int.tmod n 7 := by
    have := Int.tmod_lt_of_pos (-n) (show (0 : Int) < 7 by omega)
    rw [Int.neg_tmod] at this
    omega
  exact ⟨h3, h2, by omega⟩
theorem wdF_bd (n : Int) : 1 ≤ wdF n ∧ wdF n ≤ 7 := by unfold wdF; omega
theorem rLeap_f (y : Int) : epactref03_Leap.f y = some (leap y) := by
  unfold epactref03_Leap.f leap
  by_cases h400 : Int.tmod y 400 = 0
  · rw [if_pos h400]
    rw [tmod_zero] at h400
    congr 1
    symm
    simp only [decide_eq_true_eq]
    omega
  · rw [if_neg h400]
    rw [tmod_zero] at h400
    by_cases h4 : Int.tmod y 4 = 0
    · rw [if_pos h4]
      rw [tmod_zero] at h4
      congr 1
      by_cases h100 : Int.tmod y 100 = 0
      · have : (Int.tmod y 100 != 0) = false := bne_eq_false_iff_eq.2 h100
        rw [this]
        rw [tmod_zero] at h100
        symm
        simp only [decide_eq_false_iff_not]
        omega
      · have : (Int.tmod y 100 != 0) = true := bne_iff_ne.2 h100
        rw [this]
        rw [tmod_zero] at h100
        symm
        simp only [decide_eq_true_eq]
        exact ⟨h4, Or.inl h100⟩
    · rw [if_neg h4]
      rw [tmod_zero] at h4
      congr 1
      symm
      simp only [decide_eq_false_iff_not]
      omega
theorem rLength_f (k : Nat) (y m : Int) (hk : 1 ≤ k) : epactref03_Length.f k y m = some (len y m) := by
  obtain ⟨k, rfl⟩ : ∃ j, k = j + 1 := ⟨k - 1, by omega⟩
  unfold epactref03_Length.f
  simp only [epactref03_Length.j0, rLeap_f, Option.bind_some]
  rw [len_table, lp_leap]
  by_cases h2 : m = 2
  · rw [if_pos h2, if_pos h2]
    split <;> rfl
  · rw [if_neg h2, if_neg h2]
    by_cases h4 : m = 4 ∨ m = 6 ∨ m = 9 ∨ m = 11
    · rw [if_pos h4]
      rcases h4 with rfl | rfl | rfl | rfl <;> rfl
    · rw [if_neg h4]
      rw [if_neg (by omega), if_neg (by omega), if_neg (by omega)]
      have : (m == 11) = false := beq_eq_false_iff_ne.2 (by omega)
      rw [this, if_neg (by decide)]
      by_cases h1 : m = 1 ∨ m = 3 ∨ m = 5 ∨ m = 7 ∨ m = 8 ∨ m = 10 ∨ m = 12
      · rw [if_pos h1]
        rcases h1 with rfl | rfl | rfl | rfl | rfl | rfl | rfl <;> rfl
      · rw [if_neg h1]
        repeat rw [if_neg (by omega)]
theorem whole_f (y : Int) : epactref03_whole.f y = some (365 + lp y) := by
  unfold epactref03_whole.f
  rw [rLeap_f, lp_leap]
  simp only [Option.bind_some]
  split <;> rfl
theorem begin_l3 (d : Nat) : ∀ (k : Nat) (y n x : Int), x - y = d → -200000 ≤ y → x ≤ 200000 → n = beg x → d < k → epactref03_begin.l3 k y n x = some (beg y) := by
  induction d with
  | zero =>
    intro k y n x hd h0 h1 hn hk
    obtain ⟨k, rfl⟩ : ∃ m, k = m + 1 := ⟨k - 1, by omega⟩
    simp only [epactref03_begin.l3]
    rw [if_neg (by omega), hn, show x = y by omega]
  | succ d ih =>
    intro k y n x hd h0 h1 hn hk
    obtain ⟨k, rfl⟩ : ∃ m, k = m + 1 := ⟨k - 1, by omega⟩
    simp only [epactref03_begin.l3]
    have hs := beg_succ (x - 1)
    have hl := lp_bd (x - 1)
    have hb := beg_mono (show -200000 ≤ x - 1 by omega)
    have hb' := beg_mono (show x - 1 ≤ 200000 by omega)
    have e1 : beg (-200000) = -73768028 := by decide
    have e2 : beg 200000 = 72328972 := by decide
    rw [show x - 1 + 1 = x by omega] at hs
    rw [if_pos (by omega), w64 (x := x - 1) (by omega) (by omega), whole_f]
    simp only [Option.bind_some]
    rw [w64 (x := n - (365 + lp (x - 1))) (by omega) (by omega)]
    exact ih k y _ (x - 1) (by omega) h0 (by omega) (by omega) (by omega)
theorem begin_l2 (d : Nat) : ∀ (k : Nat) (y n x : Int), y - x = d → -200000 ≤ x → y ≤ 200000 → n = beg x → d + 1 < k → epactref03_begin.l2 k y n x = some (beg y) := by
  induction d with
  | zero =>
    intro k y n x hd h0 h1 hn hk
    obtain ⟨k, rfl⟩ : ∃ m, k = m + 1 := ⟨k - 1, by omega⟩
    simp only [epactref03_begin.l2]
    rw [if_neg (by omega)]
    exact begin_l3 0 k y n x (by omega) (by omega) (by omega) hn (by omega)
  | succ d ih =>
    intro k y n x hd h0 h1 hn hk
    obtain ⟨k, rfl⟩ : ∃ m, k = m + 1 := ⟨k - 1, by omega⟩
    simp only [epactref03_begin.l2]
    have hs := beg_succ x
    have hl := lp_bd x
    have hb := beg_mono (show -200000 ≤ x by omega)
    have hb' := beg_mono (show x ≤ 200000 by omega)
    have e1 : beg (-200000) = -73768028 := by decide
    have e2 : beg 200000 = 72328972 := by decide
    rw [if_pos (by omega), w64 (x := x + 1) (by omega) (by omega), whole_f]
    simp only [Option.bind_some]
    rw [w64 (x := n + (365 + lp x)) (by omega) (by omega)]
    exact ih k y _ (x + 1) (by omega) (by omega) h1 (by omega) (by omega)
theorem begin_low (k : Nat) (y n x : Int) (hyx : x - 400 < y) (h0 : -100000 ≤ y) (h1 : y ≤ 100000) (hx : -100000 ≤ x) (hx' : x ≤ 100000) (hn : n = beg x) (hk : 200010 < k) : epactref03_begin.l2 k y n x = some (beg y) := by
  by_cases h : x ≤ y
  · exact begin_l2 (y - x).toNat k y n x (by omega) (by omega) (by omega) hn (by omega)
  · obtain ⟨k, rfl⟩ : ∃ m, k = m + 1 := ⟨k - 1, by omega⟩
    simp only [epactref03_begin.l2]
    rw [if_neg (by omega)]
    exact begin_l3 (x - y).toNat k y n x (by omega) (by omega) (by omega) hn (by omega)
theorem begin_l1 (d : Nat) : ∀ (k : Nat) (y n x : Int), x - y ≤ d → -100000 ≤ y → y ≤ 100000 → -100000 ≤ x → x ≤ 100000 → n = beg x → d + 200020 < k → epactref03_begin.l1 k y n x = some (beg y) := by
  induction d with
  | zero =>
    intro k y n x hd h0 h1 hx hx' hn hk
    obtain ⟨k, rfl⟩ : ∃ m, k = m + 1 := ⟨k - 1, by omega⟩
    simp only [epactref03_begin.l1]
    rw [w64 (x := x - 400) (by omega) (by omega), if_neg (by omega)]
    exact begin_low k y n x (by omega) h0 h1 hx hx' hn (by omega)
  | succ d ih =>
    intro k y n x hd h0 h1 hx hx' hn hk
    obtain ⟨k, rfl⟩ : ∃ m, k = m + 1 := ⟨k - 1, by omega⟩
    simp only [epactref03_begin.l1]
    rw [w64 (x := x - 400) (by omega) (by omega)]
    by_cases h : x - 400 ≥ y
    · have hs := beg_400 (x - 400)
      have hb := beg_mono (show -200000 ≤ x by omega)
      have hb' := beg_mono (show x ≤ 200000 by omega)
      have e1 : beg (-200000) = -73768028 := by decide
      have e2 : beg 200000 = 72328972 := by decide
      rw [show x - 400 + 400 = x by omega] at hs
      rw [if_pos h, w64 (x := n - 146097) (by omega) (by omega)]
      exact ih k y _ (x - 400) (by omega) h0 h1 (by omega) (by omega) (by omega) (by omega)
    · rw [if_neg h]
      exact begin_low k y n x (by omega) h0 h1 hx hx' hn (by omega)
theorem begin_l0 (d : Nat) : ∀ (k : Nat) (y n x : Int), y - x ≤ d → -90000 ≤ y → y ≤ 90000 → -90000 ≤ x → x ≤ 90000 → n = beg x → d + 400040 < k → epactref03_begin.l0 k y n x = some (beg y) := by
  induction d with
  | zero =>
    intro k y n x hd h0 h1 hx hx' hn hk
    obtain ⟨k, rfl⟩ : ∃ m, k = m + 1 := ⟨k - 1, by omega⟩
    simp only [epactref03_begin.l0]
    rw [w64 (x := x + 400) (by omega) (by omega), if_neg (by omega)]
    exact begin_l1 200000 k y n x (by omega) (by omega) (by omega) (by omega) (by omega) hn (by omega)
  | succ d ih =>
    intro k y n x hd h0 h1 hx hx' hn hk
    obtain ⟨k, rfl⟩ : ∃ m, k = m + 1 := ⟨k - 1, by omega⟩
    simp only [epactref03_begin.l0]
    rw [w64 (x := x + 400) (by omega) (by omega)]
    by_cases h : x + 400 ≤ y
    · have hs := beg_400 x
      have hb := beg_mono (show -200000 ≤ x by omega)
      have hb' := beg_mono (show x ≤ 200000 by omega)
      have e1 : beg (-200000) = -73768028 := by decide
      have e2 : beg 200000 = 72328972 := by decide
      rw [if_pos h, w64 (x := n + 146097) (by omega) (by omega)]
      exact ih k y _ (x + 400) (by omega) h0 h1 (by omega) (by omega) (by omega) (by omega)
    · rw [if_neg h]
      exact begin_l1 200000 k y n x (by omega) (by omega) (by omega) (by omega) (by omega) hn (by omega)
theorem begin_f (k : Nat) (y : Int) (h0 : -80000 ≤ y) (h1 : y ≤ 80000) (hk : 600000 < k) : epactref03_begin.f k y = some (beg y) := by
  unfold epactref03_begin.f
  exact begin_l0 100000 k y 0 1970 (by omega) (by omega) (by omega) (by omega) (by omega) (by decide) (by omega)
theorem rDays_l0 (y m d : Int) (hm : m ≤ 12) (hd : -1000 ≤ d) (hd' : d ≤ 1000) (hy : -20000 ≤ y) (hy' : y ≤ 20000) (j : Nat) : ∀ (k : Nat) (x i : Int), m - i = j → 1 ≤ i → x = beg y + upto y (i - 1) → j + 10 < k → epactref03_Days.l0 k y m d x i = some (beg y + upto y (m - 1) + d - 1, 0) := by
  have hb := beg_mono (show -200000 ≤ y by omega)
  have hb' := beg_mono (show y ≤ 200000 by omega)
  have e1 : beg (-200000) = -73768028 := by decide
  have e2 : beg 200000 = 72328972 := by decide
  induction j with
  | zero =>
    intro k x i hj hi hx hk
    obtain ⟨k, rfl⟩ : ∃ m, k = m + 1 := ⟨k - 1, by omega⟩
    simp only [epactref03_Days.l0]
    obtain rfl : i = m := by omega
    have hu := upto_bd y (i - 1)
    rw [if_neg (by omega), hx, w64 (x := beg y + upto y (i - 1) + d) (by omega) (by omega), w64 (x := beg y + upto y (i - 1) + d - 1) (by omega) (by omega)]
  | succ j ih =>
    intro k x i hj hi hx hk
    obtain ⟨k, rfl⟩ : ∃ m, k = m + 1 := ⟨k - 1, by omega⟩
    simp only [epactref03_Days.l0]
    have hu := upto_bd y (i - 1)
    have hu' := upto_bd y i
    have hl := len_eq y i hi (by omega)
    rw [if_pos (by omega), rLength_f k y i (by omega)]
    simp only [Option.bind_some]
    rw [w64 (x := i + 1) (by omega) (by omega), w64 (x := x + len y i) (by omega) (by omega)]
    refine ih k _ (i + 1) (by omega) (by omega) ?_ (by omega)
    rw [show i + 1 - 1 = i by omega]
    omega
theorem rDays_f (k : Nat) (y m d : Int) (hk : 700000 < k) : epactref03_Days.f k y m d = some (daysF y m d) := by
  obtain ⟨k, rfl⟩ : ∃ m, k = m + 1 := ⟨k - 1, by omega⟩
  have hbad : epactref03_Days.j0 (k + 1) y m d true = some (0, 30) := by simp only [epactref03_Days.j0, if_true]
  unfold epactref03_Days.f
  by_cases h1 : y < -9999
  · rw [if_pos h1, hbad, daysF_not (fun h => by have := h.1; omega)]
  rw [if_neg h1]
  by_cases h2 : y > 9999
  · rw [if_pos h2, hbad, daysF_not (fun h => by have := h.2.1; omega)]
  rw [if_neg h2]
  by_cases h3 : d < 1
  · rw [if_pos h3, hbad, daysF_not (fun h => by have := h.2.2.2.2.1; omega)]
  rw [if_neg h3, rLength_f _ y m (by omega)]
  simp only [Option.bind_some]
  by_cases h4 : d > len y m
  · rw [decide_eq_true h4, hbad, daysF_not (fun h => by have := h.2.2.2.2.2; omega)]
  · rw [decide_eq_false h4]
    have hle := len_le y m
    have hm : 1 ≤ m ∧ m ≤ 12 := by
      apply Decidable.byContradiction
      intro hn
      have := len_out y m hn
      omega
    simp only [epactref03_Days.j0]
    rw [if_neg (by decide), begin_f k y (by omega) (by omega) (by omega)]
    simp only [Option.bind_some]
    rw [rDays_l0 y m d hm.2 (by omega) (by omega) (by omega) (by omega) (m - 1).toNat k (beg y) 1 (by omega) (by omega) (by rw [show (1 : Int) - 1 = 0 from rfl, upto_0]; omega) (by omega)]
    rw [daysF_ok ⟨by omega, by omega, hm.1, hm.2, by omega, by omega⟩]
    rfl
theorem rDate_l1 (y l : Int) (h0 : 0 ≤ l) (h1 : l < upto y 12) (j : Nat) : ∀ (k : Nat) (x i : Int), 12 - i = j → 1 ≤ i → x = l - upto y (i - 1) → 0 ≤ x → j + 10 < k → epactref03_Date.l1 k y x i = some (y, monOf y l, l - upto y (monOf y l - 1) + 1, 0) := by
  have hu12 := upto_bd y 12
  obtain ⟨m1, m2, m3, m4⟩ := monOf_spec y l h0 h1
  have fin : ∀ (k : Nat) (x i : Int), 1 ≤ i → i ≤ 12 → x = l - upto y (i - 1) → 0 ≤ x → x < len y i → 10 < k → epactref03_Date.l1 k y x i = some (y, monOf y l, l - upto y (monOf y l - 1) + 1, 0) := by
    intro k x i hi hi' hx hx0 hlt hk
    obtain ⟨k, rfl⟩ : ∃ m, k = m + 1 := ⟨k - 1, by omega⟩
    simp only [epactref03_Date.l1]
    have hl := len_eq y i hi hi'
    have hu := upto_bd y (i - 1)
    have : i = monOf y l := mon_unique hi hi' m1 m2 (by omega) (by omega) m3 m4
    rw [rLength_f k y i (by omega)]
    simp only [Option.bind_some]
    rw [if_neg (by omega), w64 (x := x + 1) (by omega) (by omega), hx, this]
  induction j with
  | zero =>
    intro k x i hj hi hx hx0 hk
    obtain rfl : i = 12 := by omega
    have hl := len_eq y 12 hi (by omega)
    exact fin k x 12 hi (by omega) hx hx0 (by omega) (by omega)
  | succ j ih =>
    intro k x i hj hi hx hx0 hk
    have hl := len_eq y i hi (by omega)
    have hu := upto_bd y (i - 1)
    have hle := len_le y i
    by_cases hlt : x < len y i
    · exact fin k x i hi (by omega) hx hx0 hlt (by omega)
    · obtain ⟨k, rfl⟩ : ∃ m, k = m + 1 := ⟨k - 1, by omega⟩
      simp only [epactref03_Date.l1]
      rw [rLength_f k y i (by omega)]
      simp only [Option.bind_some]
      rw [if_pos (by omega), w64 (x := i + 1) (by omega) (by omega), w64 (x := x - len y i) (by omega) (by omega)]
      refine ih k _ (i + 1) (by omega) (by omega) ?_ (by omega) (by omega)
      rw [show i + 1 - 1 = i by omega]
      omega
theorem rDate_l0 (n : Int) (h : In n) (j : Nat) : ∀ (k : Nat) (lo hi : Int), hi - lo ≤ j → -9999 ≤ lo → lo ≤ hi → hi ≤ 9999 → beg lo ≤ n → n < beg (hi + 1) → j + 700000 < k → epactref03_Date.l0 k n lo hi = some (dateF n) := by
  have fin : ∀ (k : Nat) (lo : Int), -9999 ≤ lo → lo ≤ 9999 → beg lo ≤ n → n < beg (lo + 1) → 700000 < k → epactref03_Date.l0 k n lo lo = some (dateF n) := by
    intro k lo a b h1 h2 hk
    obtain ⟨k, rfl⟩ : ∃ m, k = m + 1 := ⟨k - 1, by omega⟩
    have hs := yrF_spec n
    have hy := yr_unique h1 h2 hs.1 hs.2
    have hl := left_bd n
    have hu := upto_bd (yrF n) 12
    simp only [epactref03_Date.l0]
    rw [if_neg (by omega), begin_f k lo (by omega) (by omega) (by omega)]
    simp only [Option.bind_some]
    subst hy
    rw [w64 (x := n - beg (yrF n)) (by omega) (by omega)]
    rw [rDate_l1 (yrF n) (n - beg (yrF n)) hl.1 hl.2 11 k _ 1 (by omega) (by omega) (by rw [show (1 : Int) - 1 = 0 from rfl, upto_0]; omega) (by omega) (by omega), dateF_in h]
    rfl
  induction j with
  | zero =>
    intro k lo hi hj a b c h1 h2 hk
    obtain rfl : lo = hi := by omega
    exact fin k lo a c h1 h2 (by omega)
  | succ j ih =>
    intro k lo hi hj a b c h1 h2 hk
    by_cases e : lo = hi
    · subst e
      exact fin k lo a c h1 h2 (by omega)
    · obtain ⟨k, rfl⟩ : ∃ m, k = m + 1 := ⟨k - 1, by omega⟩
      simp only [epactref03_Date.l0]
      rw [if_pos (by omega), w64 (x := hi - lo) (by omega) (by omega), w64 (x := hi - lo + 1) (by omega) (by omega), tdiv_pos _ 2 (by omega), w64 (x := (hi - lo + 1) / 2) (by omega) (by omega), w64 (x := lo + (hi - lo + 1) / 2) (by omega) (by omega), begin_f k _ (by omega) (by omega) (by omega)]
      simp only [Option.bind_some]
      by_cases hb : beg (lo + (hi - lo + 1) / 2) ≤ n
      · rw [if_pos hb]
        exact ih k _ hi (by omega) (by omega) (by omega) c hb h2 (by omega)
      · rw [if_neg hb, w64 (x := lo + (hi - lo + 1) / 2 - 1) (by omega) (by omega)]
        refine ih k lo _ (by omega) a (by omega) (by omega) h1 ?_ (by omega)
        rw [show lo + (hi - lo + 1) / 2 - 1 + 1 = lo + (hi - lo + 1) / 2 by omega]
        omega
theorem rDate_f (k : Nat) (n : Int) (hk : 800000 < k) : epactref03_Date.f k n = some (dateF n) := by
  obtain ⟨k, rfl⟩ : ∃ m, k = m + 1 := ⟨k - 1, by omega⟩
  have hbad : epactref03_Date.j0 (k + 1) n true = some (0, 0, 0, 30) := by simp only [epactref03_Date.j0, if_true]
  unfold epactref03_Date.f
  rw [begin_f _ (-9999) (by omega) (by omega) (by omega), begin_f _ 10000 (by omega) (by omega) (by omega)]
  simp only [Option.bind_some]
  have h1 := beg_min
  have h2 := beg_max
  by_cases hlo : n < beg (-9999)
  · rw [if_pos hlo, hbad, dateF_not (fun h => by have := h.1; omega)]
  · rw [if_neg hlo]
    by_cases hhi : n ≥ beg 10000
    · rw [decide_eq_true hhi, hbad, dateF_not (fun h => by have := h.2; omega)]
    · rw [decide_eq_false hhi]
      simp only [epactref03_Date.j0]
      rw [if_neg (by decide)]
      exact rDate_l0 n ⟨by omega, by omega⟩ 20000 k (-9999) 9999 (by omega) (by omega) (by omega) (by omega) (by omega) (by rw [show (9999 : Int) + 1 = 10000 from rfl]; omega) (by omega)
theorem rWeekday_f (n : Int) : epactref03_Weekday.f n = some (wdF n) := by
  have h := tmod7 n
  unfold epactref03_Weekday.f wdF
  generalize Int.tmod n 7 = t at *
  by_cases hneg : t < 0
  · rw [if_pos hneg, w64 (x := t + 7) (by omega) (by omega), w64 (x := t + 7 + 3) (by omega) (by omega), tmod_pos _ 7 (by omega), w64 (x := (t + 7 + 3) % 7 + 1) (by omega) (by omega)]
    congr 1
    omega
  · rw [if_neg hneg, w64 (x := t + 3) (by omega) (by omega), tmod_pos _ 7 (by omega), w64 (x := (t + 3) % 7 + 1) (by omega) (by omega)]
    congr 1
    omega
end Go.Proofs.YtcinojbfjiohjaaGreatDoor.Civ
end

section
namespace Go.Proofs.YtcinojbfjiohjaaGreatDoor.Civ
open Go Go.RowKit Go.Proofs.YtcinojbfjiohjaaGreatDoor.PPrintTells Go.Proofs.YtcinojbfjiohjaaGreatDoorW.PrintWords Go.Proofs.YtcinojbfjiohjaaGreatDoorW.PrintLast Go.Proofs.YtcinojbfjiohjaaGreatDoorW.PrintMore
set_option linter.unusedVariables false
set_option linter.unusedSimpArgs false
structure Months (w : World) : Prop where mk :: (out : ∀ i : Nat, i < 13 → w.cell? ⟨4, i, none⟩ = some (.int .i64 (tab i)))
theorem Months.cell {w : World} (h : Months w) {m : Int} (h0 : 0 ≤ m) (h1 : m ≤ 12) : w.cell? ⟨4, m.toNat, none⟩ = some (.int .i64 (tab m)) := by
  have := h.out m.toNat (by omega)
  rw [show ((m.toNat : Nat) : Int) = m by omega] at this
  exact this
theorem Months.below {w w' : World} (h : Months w) (hb : Below w.heap.size w w') : Months w' :=
  ⟨fun i hi => by
    have hc := h.out i hi
    exact (hb.cell (World.block_lt_of_cell? w _ hc)).trans hc⟩
theorem Months.drawn {w w' : World} (h : Months w) (hb : Drawn0 w w') : Months w' := h.below hb.below
theorem Months.a {w : World} (h : Months w) (o : Obj) : Months (w.alloc o) := h.below (Below.alloc (Below.refl _ _) (Nat.le_refl _) _)
theorem Months.d {w : World} (h : Months w) (n : Nat) : Months (w.drewN n) := ⟨fun i hi => h.out i hi⟩
end Go.Proofs.YtcinojbfjiohjaaGreatDoor.Civ
end

section
namespace Go.Proofs.YtcinojbfjiohjaaGreatDoor.Civ
open Go Go.RowKit Go.Proofs.YtcinojbfjiohjaaGreatDoor.PPrintTells Go.Proofs.YtcinojbfjiohjaaGreatDoorW.PrintWords Go.Proofs.YtcinojbfjiohjaaGreatDoorW.PrintLast Go.Proofs.YtcinojbfjiohjaaGreatDoorW.PrintMore
set_option linter.unusedVariables false
set_option linter.unusedSimpArgs false
structure Lt (w w' : World) : Prop where mk :: (out : Below w.heap.size w w')
theorem Lt.refl (w : World) : Lt w w := ⟨Below.refl _ _⟩
theorem Lt.trans {a b c : World} (h : Lt a b) (k : Lt b c) : Lt a c := ⟨below_then h.out h.out.size k.out⟩
theorem Lt.d {a b : World} (h : Lt a b) (n : Nat) : Lt a (b.drewN n) := ⟨pw_below_drewN h.out n⟩
theorem Lt.d1 {a b : World} (h : Lt a b) : Lt a b.drew := ⟨h.out.drew⟩
theorem Lt.a {a b : World} (h : Lt a b) (o : Obj) : Lt a (b.alloc o) := ⟨h.out.alloc h.out.size o⟩
theorem Drawn0.lt {w w' : World} (h : Drawn0 w w') : Lt w w' := ⟨h.below⟩
theorem Months.l {w w' : World} (h : Months w) (k : Lt w w') : Months w' := h.below k.out
end Go.Proofs.YtcinojbfjiohjaaGreatDoor.Civ
end

section
namespace Go.Proofs.YtcinojbfjiohjaaGreatDoor.Civ
open Go
def InY (y : Int) : Prop := -9999 ≤ y ∧ y ≤ 9999
instance (y : Int) : Decidable (InY y) := by unfold InY; infer_instance
def fst (y : Int) : Int := beg y + 3 - (beg y + 6) % 7
def wks (y : Int) : Int := if InY y then (if wdF (beg y) = 4 ∨ (wdF (beg y) = 3 ∧ leap y = true) then 53 else 52) else 0
def wyr (n : Int) : Int := if n < fst (yrF n) then yrF n - 1 else if fst (yrF n + 1) ≤ n then yrF n + 1 else yrF n
def weekF (n : Int) : Int × Int × Int × Int := if In n ∧ InY (wyr n) then (wyr n, (n - fst (wyr n)) / 7 + 1, wdF n, 0) else (0, 0, 0, 30)
def ofWeekF (y k d : Int) : Int × Int := if 1 ≤ k ∧ k ≤ wks y ∧ 1 ≤ d ∧ d ≤ 7 ∧ In (fst y + 7 * (k - 1) + d - 1) then (fst y + 7 * (k - 1) + d - 1, 0) else (0, 30)
def nthF (n : Int) : Int × Int × Int := if In n then (yrF n, n - beg (yrF n) + 1, 0) else (0, 0, 30)
def ofNthF (y k : Int) : Int × Int := if InY y ∧ 1 ≤ k ∧ k ≤ 365 + lp y then (beg y + k - 1, 0) else (0, 30)
theorem dn_first (y : Int) : dn y 1 1 = beg y := by unfold dn; rw [show (1 : Int) - 1 = 0 from rfl, upto_0]; omega
theorem dn_fourth (y : Int) : dn y 1 4 = beg y + 3 := by unfold dn; rw [show (1 : Int) - 1 = 0 from rfl, upto_0]; omega
theorem len_1 (y : Int) : len y 1 = 31 := by rw [len_table]; simp
theorem ok_1 (y d : Int) (h : 1 ≤ d ∧ d ≤ 31) : Ok y 1 d ↔ InY y := by
  unfold Ok InY
  rw [len_1]
  omega
theorem fst_step (y : Int) : (fst (y + 1) - fst y = 364 ∨ fst (y + 1) - fst y = 371) ∧ (fst y + 3) % 7 = 0 ∧ beg y - 3 ≤ fst y ∧ fst y ≤ beg y + 3 := by
  unfold fst
  have h1 := beg_succ y
  have h2 := lp_bd y
  rw [h1]
  generalize beg y = b at *
  generalize lp y = l at *
  omega
theorem fst_mono {a b : Int} (h : a ≤ b) : fst a ≤ fst b := by
  rcases Int.lt_or_eq_of_le h with h | rfl
  · have h1 := beg_mono (Int.le_of_lt h)
    have h2 := (fst_step a).2.2
    have h3 := (fst_step b).2.2
    omega
  · exact Int.le_refl _
theorem wyr_unique {n a b : Int} (ha : fst a ≤ n) (ha' : n < fst (a + 1)) (hb : fst b ≤ n) (hb' : n < fst (b + 1)) : a = b := by
  rcases Int.lt_trichotomy a b with h | h | h
  · have := fst_mono (show a + 1 ≤ b by omega); omega
  · exact h
  · have := fst_mono (show b + 1 ≤ a by omega); omega
theorem wyr_spec (n : Int) : fst (wyr n) ≤ n ∧ n < fst (wyr n + 1) := by
  have h := yrF_spec n
  have h1 := (fst_step (yrF n)).2.2
  have h2 := (fst_step (yrF n + 1))
  have h3 := (fst_step (yrF n - 1))
  have h4 := beg_lt_succ (yrF n + 1)
  have h5 := beg_lt_succ (yrF n - 1)
  have h6 := (fst_step (yrF n + 1 + 1)).2.2
  rw [show yrF n - 1 + 1 = yrF n by omega] at h3 h5
  unfold wyr
  split
  · rw [show yrF n - 1 + 1 = yrF n by omega]; omega
  · split <;> omega
theorem wyr_of {n y : Int} (h1 : fst y ≤ n) (h2 : n < fst (y + 1)) : wyr n = y := wyr_unique (wyr_spec n).1 (wyr_spec n).2 h1 h2
theorem weekF_in {n : Int} (h : In n) (hy : InY (wyr n)) : weekF n = (wyr n, (n - fst (wyr n)) / 7 + 1, wdF n, 0) := by unfold weekF; rw [if_pos ⟨h, hy⟩]
theorem weekF_not {n : Int} (h : ¬ (In n ∧ InY (wyr n))) : weekF n = (0, 0, 0, 30) := by unfold weekF; rw [if_neg h]
theorem wdF_fst (n : Int) : wdF n = (n - fst (wyr n)) % 7 + 1 := by
  have h := (fst_step (wyr n)).2.1
  unfold wdF
  omega
theorem nthF_in {n : Int} (h : In n) : nthF n = (yrF n, n - beg (yrF n) + 1, 0) := by unfold nthF; rw [if_pos h]
theorem nthF_not {n : Int} (h : ¬ In n) : nthF n = (0, 0, 30) := by unfold nthF; rw [if_neg h]
theorem in_year {y n : Int} (hy : InY y) (h1 : beg y ≤ n) (h2 : n < beg (y + 1)) : In n := by
  have h3 := beg_mono hy.1
  have h4 := beg_mono (show y + 1 ≤ 10000 by have := hy.2; omega)
  rw [beg_min] at h3
  rw [beg_max] at h4
  unfold In
  have := hy.1
  have := hy.2
  omega
end Go.Proofs.YtcinojbfjiohjaaGreatDoor.Civ
end

section
namespace Go.Proofs.YtcinojbfjiohjaaGreatDoor.Civ
open Go Go.RowKit Go.Proofs.YtcinojbfjiohjaaGreatDoor.PPrintTells Go.Proofs.YtcinojbfjiohjaaGreatDoorW.PrintWords Go.Proofs.YtcinojbfjiohjaaGreatDoorW.PrintLast Go.Proofs.YtcinojbfjiohjaaGreatDoorW.PrintMore
set_option linter.unusedVariables false
set_option linter.unusedSimpArgs false
end Go.Proofs.YtcinojbfjiohjaaGreatDoor.Civ
end

section
namespace Go.Proofs.YtcinojbfjiohjaaGreatDoor.Civ
open Go Go.RowKit Go.Proofs.YtcinojbfjiohjaaGreatDoor.PPrintTells Go.Proofs.YtcinojbfjiohjaaGreatDoorW.PrintWords Go.Proofs.YtcinojbfjiohjaaGreatDoorW.PrintLast Go.Proofs.YtcinojbfjiohjaaGreatDoorW.PrintMore Go.Proofs.YtcinojbfjiohjaaGreatDoor.Ex Go.Sort
attribute [local go_sem] max2_int min2_int max_two min_two
set_option linter.unusedVariables false
set_option linter.unusedSimpArgs false
structure Cal (w : World) : Prop where
  months : Months w
  pow : Lib.TabIs Tryz.prog w "internal/strconv.uint64pow10" .u64 Lib.pow10Tab
  maxl : ∃ m, w.cell? ⟨1, 0, none⟩ = some (.int .i64 m)
theorem gPow : Tryz.prog.globalNamed "internal/strconv.uint64pow10" = some 3 := by kernel_rfl
theorem Cal.l {w w' : World} (h : Cal w) (k : Lt w w') : Cal w' := by
  obtain ⟨m, hm⟩ := h.maxl
  refine ⟨h.months.l k, ?_, m, (k.out.cell (World.block_lt_of_cell? w _ hm)).trans hm⟩
  have hp := h.pow
  have h0 : w.cell? ⟨3, 0, none⟩ = some (.int .u64 1) := hp.cell gPow 0 (by decide)
  exact var?_below k.out gPow (World.block_lt_of_cell? w _ h0) hp
theorem toList_data' (s : ByteArray) : s.toList = s.data.toList := Lib.toList_data s
def natv (l : List UInt8) : Int := ((Lib.decNat l).getD 0 : Nat)
def numF (s : ByteArray) (d : Int) : Int × Bool := if (s.size : Int) = d ∧ s.data.toList.all digitB = true then (natv s.data.toList, true) else (0, false)
def padF (n : Int) (k : Nat) : List UInt8 := List.replicate (k - (Lib.itoa n).length) 48 ++ Lib.itoa n
end Go.Proofs.YtcinojbfjiohjaaGreatDoor.Civ
end

section
namespace Go.Proofs.YtcinojbfjiohjaaGreatDoor.Civ
open Go Go.RowKit Go.Proofs.YtcinojbfjiohjaaGreatDoor.PPrintTells Go.Proofs.YtcinojbfjiohjaaGreatDoorW.PrintWords Go.Proofs.YtcinojbfjiohjaaGreatDoorW.PrintLast Go.Proofs.YtcinojbfjiohjaaGreatDoorW.PrintMore Go.Proofs.YtcinojbfjiohjaaGreatDoor.Ex Go.Sort
set_option linter.unusedVariables false
set_option linter.unusedSimpArgs false
def partsL (y m d : Int) : List UInt8 := Lib.join [padF y 4, padF m 2, padF d 2] [45]
def ymdL (y m d : Int) : List UInt8 := if y < 0 then 45 :: partsL (-y) m d else partsL y m d
def textF (n : Int) : ByteArray × Int := if In n then (⟨(ymdL (yrF n) (moF n) (dyF n)).toArray⟩, 0) else (⟨#[]⟩, 30)
theorem padF_len (n : Int) (k : Nat) (h0 : -9223372036854775808 ≤ n) (h1 : n ≤ 9223372036854775807) : (padF n k).length ≤ k + 21 := by
  have := Lib.itoa_length_le n h0 h1
  unfold padF
  rw [List.length_append, List.length_replicate]
  omega
theorem partsL_eq (y m d : Int) : partsL y m d = padF y 4 ++ 45 :: (padF m 2 ++ 45 :: padF d 2) := by
  unfold partsL Lib.join
  simp [List.intercalate, List.intersperse]
theorem partsL_len (y m d : Int) (hy : 0 ≤ y ∧ y ≤ 9999) (hm : 1 ≤ m ∧ m ≤ 12) (hd : 1 ≤ d ∧ d ≤ 31) : (partsL y m d).length ≤ 100 := by
  have h1 := padF_len y 4 (by omega) (by omega)
  have h2 := padF_len m 2 (by omega) (by omega)
  have h3 := padF_len d 2 (by omega) (by omega)
  rw [partsL_eq]
  simp only [List.length_append, List.length_cons]
  omega
end Go.Proofs.YtcinojbfjiohjaaGreatDoor.Civ
end

section
namespace Go.Proofs.YtcinojbfjiohjaaGreatDoor.Civ
open Go Go.RowKit Go.Proofs.YtcinojbfjiohjaaGreatDoor.PPrintTells Go.Proofs.YtcinojbfjiohjaaGreatDoorW.PrintWords Go.Proofs.YtcinojbfjiohjaaGreatDoorW.PrintLast Go.Proofs.YtcinojbfjiohjaaGreatDoorW.PrintMore Go.Proofs.YtcinojbfjiohjaaGreatDoor.Ex Go.Sort
set_option linter.unusedVariables false
set_option linter.unusedSimpArgs false
def monthsF (y : Int) (p q : ByteArray) : Int × Int := if (numF p 2).2 = true ∧ (numF q 2).2 = true then daysF y (numF p 2).1 (numF q 2).1 else (0, 30)
theorem cell_lt {w w' : World} {a : Addr} {v : Value} (h : Lt w w') (hc : w.cell? a = some v) : w'.cell? a = some v := (h.out.cell (World.block_lt_of_cell? w _ hc)).trans hc
def weeksF (y : Int) (p q : ByteArray) : Int × Int :=
  if Lib.hasPrefix p.data.toList [87] = true ∧ (numF ⟨(Lib.trimPrefix p.data.toList [87]).toArray⟩ 2).2 = true ∧ (numF q 1).2 = true then ofWeekF y (numF ⟨(Lib.trimPrefix p.data.toList [87]).toArray⟩ 2).1 (numF q 1).1 else (0, 30)
def daysOfF (y : Int) (p : ByteArray) : Int × Int := if (numF p 3).2 = true then ofNthF y (numF p 3).1 else (0, 30)
end Go.Proofs.YtcinojbfjiohjaaGreatDoor.Civ
end

section
namespace Go.Proofs.YtcinojbfjiohjaaGreatDoor.Civ
open Go Go.RowKit Go.Proofs.YtcinojbfjiohjaaGreatDoor.PPrintTells Go.Proofs.YtcinojbfjiohjaaGreatDoorW.PrintWords Go.Proofs.YtcinojbfjiohjaaGreatDoorW.PrintLast Go.Proofs.YtcinojbfjiohjaaGreatDoorW.PrintMore Go.Proofs.YtcinojbfjiohjaaGreatDoor.Ex Go.Sort
set_option linter.unusedVariables false
set_option linter.unusedSimpArgs false
section
variable {P : Program} {ops : Array Oper} {Q : Exit → Act → World → Prop}
end
abbrev dash : ByteArray := ⟨#[45]⟩
def pieces (t : ByteArray) : List ByteArray := Lib.splitB dash 0 (Lib.countB t dash) t
def shapeF (y : Int) (L : List ByteArray) : Nat → Int × Int
  | 0 => if L.length = 3 then monthsF y (L.getD 1 ⟨#[]⟩) (L.getD 2 ⟨#[]⟩) else (0, 30)
  | 1 => if L.length = 3 then weeksF y (L.getD 1 ⟨#[]⟩) (L.getD 2 ⟨#[]⟩) else (0, 30)
  | _ => if L.length = 2 then daysOfF y (L.getD 1 ⟨#[]⟩) else (0, 30)
def tailF (y : Int) (L : List ByteArray) : Int × Int :=
  if (shapeF y L 0).2 = 0 then ((shapeF y L 0).1, 0) else if (shapeF y L 1).2 = 0 then ((shapeF y L 1).1, 0) else if (shapeF y L 2).2 = 0 then ((shapeF y L 2).1, 0) else (0, 30)
def readL (minus : Bool) (L : List ByteArray) : Int × Int :=
  if (numF (L.getD 0 ⟨#[]⟩) 4).2 = false ∨ (minus = true ∧ (numF (L.getD 0 ⟨#[]⟩) 4).1 = 0) then (0, 30)
  else tailF (if minus = true then -(numF (L.getD 0 ⟨#[]⟩) 4).1 else (numF (L.getD 0 ⟨#[]⟩) 4).1) L
def readF (s : ByteArray) : Int × Int := readL (Lib.hasPrefix s.data.toList [45]) (pieces ⟨(Lib.trimPrefix s.data.toList [45]).toArray⟩)
end Go.Proofs.YtcinojbfjiohjaaGreatDoor.Civ
end

section
namespace Go.Proofs.YtcinojbfjiohjaaGreatDoor.Civ
open Go Go.Proofs.YtcinojbfjiohjaaGreatDoor.Ex
set_option linter.unusedVariables false
set_option linter.unusedSimpArgs false
def cut : List UInt8 → List (List UInt8)
  | [] => [[]]
  | b :: l => if b = 45 then [] :: cut l else match cut l with
    | [] => [[b]]
    | p :: r => (b :: p) :: r
theorem cut_none : ∀ l : List UInt8, 45 ∉ l → cut l = [l] := by
  intro l
  induction l with
  | nil => intro _; rfl
  | cons b l ih =>
    intro h
    rw [cut, if_neg (fun he => h (by rw [he]; simp)), ih (fun hh => h (by simp [hh]))]
theorem cut_dash (b : List UInt8) : ∀ a : List UInt8, 45 ∉ a → cut (a ++ 45 :: b) = a :: cut b := by
  intro a
  induction a with
  | nil => intro _; rw [List.nil_append, cut, if_pos rfl]
  | cons x a ih =>
    intro h
    rw [List.cons_append, cut, if_neg (fun he => h (by rw [he]; simp)), ih (fun hh => h (by simp [hh]))]
theorem first_dash (l : List UInt8) : 45 ∉ l ∨ ∃ a b, l = a ++ 45 :: b ∧ 45 ∉ a := by
  induction l with
  | nil => exact .inl (by simp)
  | cons x l ih =>
    by_cases hx : x = 45
    · exact .inr ⟨[], l, by rw [hx]; rfl, by simp⟩
    · rcases ih with h | ⟨a, b, rfl, h⟩
      · refine .inl ?_
        intro hm
        rcases List.mem_cons.1 hm with h1 | h1
        · exact hx h1.symm
        · exact h h1
      · refine .inr ⟨x :: a, b, rfl, ?_⟩
        intro hm
        rcases List.mem_cons.1 hm with h1 | h1
        · exact hx h1.symm
        · exact h h1
theorem index_dash (b : List UInt8) : ∀ a : List UInt8, 45 ∉ a → Lib.index (a ++ 45 :: b) [45] = a.length := by
  intro a
  induction a with
  | nil => intro _; rw [List.nil_append, Lib.index, if_pos (by simp [List.isPrefixOf])]; rfl
  | cons x a ih =>
    intro h
    have hx : x ≠ 45 := fun he => h (by rw [he]; simp)
    have hi := ih (fun hh => h (by simp [hh]))
    have h1 : ¬ ((Lib.index (a ++ 45 :: b) [45] == -1) = true) := by rw [hi]; simp
    rw [List.cons_append, Lib.index, if_neg (by simp [List.isPrefixOf, Ne.symm hx]), if_neg h1, hi, List.length_cons]
    omega
theorem splitK_cut : ∀ (k : Nat) (l : List UInt8), l.count 45 = k → Lib.splitK [45] 0 k l = cut l := by
  intro k
  induction k with
  | zero =>
    intro l h
    rw [cut_none l (List.count_eq_zero.1 h)]
    rfl
  | succ k ih =>
    intro l h
    rcases first_dash l with hn | ⟨a, b, rfl, ha⟩
    · rw [List.count_eq_zero.2 hn] at h; cases h
    · have hc : b.count 45 = k := by
        rw [List.count_append, List.count_eq_zero.2 ha, List.count_cons_self] at h
        omega
      have hix := index_dash b a ha
      have h1 : ¬ ((Lib.index (a ++ 45 :: b) [45] == -1) = true) := by rw [hix]; simp
      rw [Lib.splitK, if_neg h1, hix, cut_dash b a ha]
      have e1 : (a ++ 45 :: b).take ((a.length : Int).toNat + 0) = a := by simp
      have e2 : (a ++ 45 :: b).drop ((a.length : Int).toNat + ([45] : List UInt8).length) = b := by
        show (a ++ 45 :: b).drop (a.length + 1) = b
        rw [List.drop_append]
        simp
      rw [e1, e2, ih b hc]
theorem pieces_cut (t : ByteArray) : pieces t = (cut t.data.toList).map (fun l => ⟨l.toArray⟩) := by
  have h := Lib.splitB_data dash 0 (Lib.countB t dash) t
  have hc : Lib.countB t dash = t.data.toList.count 45 := Lib.count_one 45 t.data.toList
  have hd : dash.data.toList = [45] := rfl
  rw [hd, hc, splitK_cut _ _ rfl, ← hc] at h
  rw [← h, List.map_map]
  unfold pieces
  conv => lhs; rw [← List.map_id (Lib.splitB dash 0 (Lib.countB t dash) t)]
  apply List.map_congr_left
  intro x _
  rfl
def numL (l : List UInt8) (d : Nat) : Int × Bool := if l.length = d ∧ l.all digitB = true then (natv l, true) else (0, false)
theorem numF_L (l : List UInt8) (d : Nat) : numF ⟨l.toArray⟩ d = numL l d := by
  unfold numF numL
  have h1 : (⟨l.toArray⟩ : ByteArray).size = l.length := by show l.toArray.size = _; simp
  rw [h1]
  by_cases h : l.length = d ∧ l.all digitB = true
  · rw [if_pos h, if_pos ⟨by omega, h.2⟩]
  · rw [if_neg h, if_neg (fun k => h ⟨by omega, k.2⟩)]
theorem digit_of (d : Nat) (h : d < 10) : digitB (UInt8.ofNat (48 + d)) = true ∧ Lib.digitVal (UInt8.ofNat (48 + d)) = some d ∧ UInt8.ofNat (48 + d) ≠ 45 := by
  have : ∀ d : Fin 10, digitB (UInt8.ofNat (48 + d.val)) = true ∧ Lib.digitVal (UInt8.ofNat (48 + d.val)) = some d.val ∧ UInt8.ofNat (48 + d.val) ≠ 45 := by decide
  exact this ⟨d, h⟩
theorem digit_ne {b : UInt8} (h : digitB b = true) : b ≠ 45 ∧ b ≠ 87 := by
  have := byte_all (fun b => !digitB b || (decide (b ≠ 45) && decide (b ≠ 87))) (by decide +kernel) b
  rw [h] at this
  simpa using this
theorem decFrom_append (l r : List UInt8) : ∀ acc, Lib.decFrom acc (l ++ r) = (Lib.decFrom acc l).bind (fun n => Lib.decFrom n r) := by
  induction l with
  | nil => intro acc; rfl
  | cons b l ih =>
    intro acc
    rw [List.cons_append, Lib.decFrom, Lib.decFrom]
    cases Lib.digitVal b with
    | none => rfl
    | some d => exact ih _
theorem decDigits_spec (u : Nat) : (Lib.decDigits u).all digitB = true ∧ ∀ acc, Lib.decFrom acc (Lib.decDigits u) = some (acc * 10 ^ (Lib.decDigits u).length + u) := by
  induction u using Nat.strongRecOn with
  | ind u ih =>
    by_cases h : u < 10
    · have hd := digit_of u h
      rw [Lib.decDigits_one h]
      refine ⟨by rw [List.all_cons, hd.1]; rfl, fun acc => ?_⟩
      rw [Lib.decFrom, hd.2.1]
      simp [Lib.decFrom]
    · obtain ⟨h1, h2⟩ := ih (u / 10) (by omega)
      have hd := digit_of (u % 10) (by omega)
      rw [Lib.decDigits, dif_neg h]
      refine ⟨by rw [List.all_append, h1, List.all_cons, hd.1]; rfl, fun acc => ?_⟩
      rw [decFrom_append, h2]
      show Lib.decFrom _ [UInt8.ofNat (48 + u % 10)] = _
      rw [Lib.decFrom, hd.2.1, List.length_append, List.length_singleton, Nat.pow_succ]
      show some _ = _
      congr 1
      have := Nat.div_add_mod u 10
      rw [Nat.add_mul, Nat.mul_assoc]
      omega
theorem decDigits_len (k : Nat) : ∀ u, u < 10 ^ k → 1 ≤ k → (Lib.decDigits u).length ≤ k := by
  induction k with
  | zero => intro u _ h; omega
  | succ k ih =>
    intro u hu _
    by_cases h : u < 10
    · rw [Lib.decDigits_one h]; simp
    · rw [Lib.decDigits, dif_neg h, List.length_append, List.length_singleton]
      have hk : 1 ≤ k := by
        rcases Nat.eq_zero_or_pos k with rfl | hk
        · simp at hu; omega
        · exact hk
      have := ih (u / 10) (by rw [Nat.pow_succ] at hu; omega) hk
      omega
theorem zeros_dec (j : Nat) : Lib.decFrom 0 (List.replicate j 48) = some 0 := by
  induction j with
  | zero => rfl
  | succ j ih =>
    rw [List.replicate_succ, Lib.decFrom]
    exact ih
theorem padF_spec (n : Int) (k : Nat) (h0 : 0 ≤ n) (h1 : n < 10 ^ k) (hk : 1 ≤ k) : (padF n k).length = k ∧ (padF n k).all digitB = true ∧ natv (padF n k) = n := by
  obtain ⟨u, rfl⟩ : ∃ u : Nat, n = u := ⟨n.toNat, by omega⟩
  have hu : u < 10 ^ k := by exact_mod_cast h1
  have hi : Lib.itoa (u : Int) = Lib.decDigits u := by unfold Lib.itoa; rw [if_neg (by omega)]; simp
  have hl := decDigits_len k u hu hk
  obtain ⟨s1, s2⟩ := decDigits_spec u
  unfold padF
  rw [hi]
  refine ⟨by rw [List.length_append, List.length_replicate]; omega, ?_, ?_⟩
  · rw [List.all_append, s1, Bool.and_true, List.all_eq_true]
    intro b hb
    rw [(List.mem_replicate.1 hb).2]
    decide
  · unfold natv Lib.decNat
    have hne : (List.replicate (k - (Lib.decDigits u).length) 48 ++ Lib.decDigits u).isEmpty = false := by
      cases h : (List.replicate (k - (Lib.decDigits u).length) 48 ++ Lib.decDigits u) with
      | nil =>
        have := congrArg List.length h
        rw [List.length_append, List.length_replicate, List.length_nil] at this
        omega
      | cons a l => rfl
    rw [hne]
    show (((Lib.decFrom 0 _).getD 0 : Nat) : Int) = _
    rw [decFrom_append, zeros_dec]
    show (((Lib.decFrom 0 (Lib.decDigits u)).getD 0 : Nat) : Int) = _
    rw [s2]
    simp
theorem padF_num (n : Int) (k : Nat) (h0 : 0 ≤ n) (h1 : n < 10 ^ k) (hk : 1 ≤ k) : numL (padF n k) k = (n, true) := by
  obtain ⟨a, b, c⟩ := padF_spec n k h0 h1 hk
  unfold numL
  rw [if_pos ⟨a, b⟩, c]
theorem no_dash {l : List UInt8} (h : l.all digitB = true) : 45 ∉ l := fun hm => (digit_ne (List.all_eq_true.1 h _ hm)).1 rfl
theorem text_read {n : Int} (hn : In n) : readF (textF n).1 = (n, 0) := by
  have hok := (date_ok hn).1
  have hdn := (date_ok hn).2
  have ht : (textF n).1 = ⟨(ymdL (yrF n) (moF n) (dyF n)).toArray⟩ := by unfold textF; rw [if_pos hn]
  rw [ht]
  have hm := hok.month
  have hd : 1 ≤ dyF n ∧ dyF n ≤ 31 := ⟨hok.2.2.2.2.1, by have := hok.2.2.2.2.2; have := len_le (yrF n) (moF n); omega⟩
  have hy0 := hok.1
  have hy1 := hok.2.1
  have hday := daysF_ok hok
  rw [hdn] at hday
  generalize yrF n = y at *
  generalize moF n = m at *
  generalize dyF n = d at *
  have key : ∀ z : Int, 0 ≤ z → z ≤ 9999 → pieces ⟨(partsL z m d).toArray⟩ = [⟨(padF z 4).toArray⟩, ⟨(padF m 2).toArray⟩, ⟨(padF d 2).toArray⟩] := by
    intro z hz0 hz1
    have p1 := padF_spec z 4 hz0 (by omega) (by omega)
    have p2 := padF_spec m 2 (by omega) (by omega) (by omega)
    have p3 := padF_spec d 2 (by omega) (by omega) (by omega)
    rw [pieces_cut]
    show (cut (partsL z m d).toArray.toList).map _ = _
    rw [List.toList_toArray, partsL_eq, cut_dash _ _ (no_dash p1.2.1), cut_dash _ _ (no_dash p2.2.1), cut_none _ (no_dash p3.2.1)]
    rfl
  have tl : ∀ z : Int, 0 ≤ z → z ≤ 9999 → ∀ yy : Int, yy = y → tailF yy [⟨(padF z 4).toArray⟩, ⟨(padF m 2).toArray⟩, ⟨(padF d 2).toArray⟩] = (n, 0) := by
    intro z _ _ yy hyy
    subst hyy
    have h0 : shapeF yy [⟨(padF z 4).toArray⟩, ⟨(padF m 2).toArray⟩, ⟨(padF d 2).toArray⟩] 0 = (n, 0) := by
      show monthsF yy ⟨(padF m 2).toArray⟩ ⟨(padF d 2).toArray⟩ = _
      have e1 : numF ⟨(padF m 2).toArray⟩ 2 = (m, true) := (numF_L _ 2).trans (padF_num m 2 (by omega) (by omega) (by omega))
      have e2 : numF ⟨(padF d 2).toArray⟩ 2 = (d, true) := (numF_L _ 2).trans (padF_num d 2 (by omega) (by omega) (by omega))
      unfold monthsF
      rw [e1, e2, if_pos ⟨rfl, rfl⟩]
      exact hday
    unfold tailF
    rw [h0, if_pos rfl]
  by_cases hy : y < 0
  · have hs : ymdL y m d = 45 :: partsL (-y) m d := by unfold ymdL; rw [if_pos hy]
    rw [hs]
    have hpre : Lib.hasPrefix (45 :: partsL (-y) m d) [45] = true := by simp [Lib.hasPrefix, List.isPrefixOf]
    have htr : Lib.trimPrefix (45 :: partsL (-y) m d) [45] = partsL (-y) m d := by unfold Lib.trimPrefix; rw [if_pos hpre]; rfl
    unfold readF
    show readL (Lib.hasPrefix (45 :: partsL (-y) m d) [45]) (pieces ⟨(Lib.trimPrefix (45 :: partsL (-y) m d) [45]).toArray⟩) = _
    rw [hpre, htr, key (-y) (by omega) (by omega)]
    have e0 : numF ⟨(padF (-y) 4).toArray⟩ 4 = (-y, true) := (numF_L _ 4).trans (padF_num (-y) 4 (by omega) (by omega) (by omega))
    unfold readL
    show (if (numF ⟨(padF (-y) 4).toArray⟩ 4).2 = false ∨ (true = true ∧ (numF ⟨(padF (-y) 4).toArray⟩ 4).1 = 0) then ((0 : Int), (30 : Int)) else tailF (if true = true then -(numF ⟨(padF (-y) 4).toArray⟩ 4).1 else (numF ⟨(padF (-y) 4).toArray⟩ 4).1) _) = _
    rw [e0, if_neg (by intro h; rcases h with h | ⟨_, h⟩ <;> simp at h; omega), if_pos rfl]
    exact tl (-y) (by omega) (by omega) _ (by omega)
  · have hs : ymdL y m d = partsL y m d := by unfold ymdL; rw [if_neg hy]
    rw [hs]
    have hp1 := padF_spec y 4 (by omega) (by omega) (by omega)
    have hpre : Lib.hasPrefix (partsL y m d) [45] = false := by
      rw [partsL_eq]
      cases hq : padF y 4 with
      | nil => rw [hq] at hp1; simp at hp1
      | cons b l =>
        have hb : digitB b = true := by
          have := hp1.2.1
          rw [hq, List.all_cons, Bool.and_eq_true] at this
          exact this.1
        have := (digit_ne hb).1
        simp [Lib.hasPrefix, List.isPrefixOf, Ne.symm this]
    have htr : Lib.trimPrefix (partsL y m d) [45] = partsL y m d := by unfold Lib.trimPrefix; rw [if_neg (by rw [hpre]; simp)]
    unfold readF
    show readL (Lib.hasPrefix (partsL y m d) [45]) (pieces ⟨(Lib.trimPrefix (partsL y m d) [45]).toArray⟩) = _
    rw [hpre, htr, key y (by omega) (by omega)]
    have e0 : numF ⟨(padF y 4).toArray⟩ 4 = (y, true) := (numF_L _ 4).trans (padF_num y 4 (by omega) (by omega) (by omega))
    unfold readL
    show (if (numF ⟨(padF y 4).toArray⟩ 4).2 = false ∨ (false = true ∧ (numF ⟨(padF y 4).toArray⟩ 4).1 = 0) then ((0 : Int), (30 : Int)) else tailF (if false = true then -(numF ⟨(padF y 4).toArray⟩ 4).1 else (numF ⟨(padF y 4).toArray⟩ 4).1) _) = _
    rw [e0, if_neg (by simp), if_neg (by simp)]
    exact tl y (by omega) (by omega) _ rfl
end Go.Proofs.YtcinojbfjiohjaaGreatDoor.Civ
end

section
namespace Go.Proofs.YtcinojbfjiohjaaGreatDoor.Civ
open Go Go.Proofs.YtcinojbfjiohjaaGreatDoor.Ex
set_option linter.unusedVariables false
set_option linter.unusedSimpArgs false
def val (l : List UInt8) : Nat := (Lib.decFrom 0 l).getD 0
theorem digit_val {b : UInt8} (h : digitB b = true) : ∃ d, d < 10 ∧ Lib.digitVal b = some d ∧ b = UInt8.ofNat (48 + d) := by
  have := byte_all (fun b => !digitB b || ((Lib.digitVal b).any fun d => decide (d < 10) && decide (b = UInt8.ofNat (48 + d)))) (by decide +kernel) b
  rw [h] at this
  simp only [Bool.not_true, Bool.false_or] at this
  cases hd : Lib.digitVal b with
  | none => rw [hd] at this; cases this
  | some d =>
    rw [hd] at this
    simp only [Option.any_some, Bool.and_eq_true, decide_eq_true_eq] at this
    exact ⟨d, this.1, rfl, this.2⟩
theorem val_acc (l : List UInt8) : l.all digitB = true → val l < 10 ^ l.length ∧ ∀ acc, Lib.decFrom acc l = some (acc * 10 ^ l.length + val l) := by
  induction l with
  | nil => intro _; exact ⟨by decide, fun acc => by simp [Lib.decFrom, val]⟩
  | cons b l ih =>
    intro h
    rw [List.all_cons, Bool.and_eq_true] at h
    obtain ⟨i1, i2⟩ := ih h.2
    obtain ⟨d, d1, d2, _⟩ := digit_val h.1
    have hv : val (b :: l) = d * 10 ^ l.length + val l := by
      unfold val
      rw [Lib.decFrom, d2]
      show (Lib.decFrom (0 * 10 + d) l).getD 0 = _
      rw [i2]
      simp [val]
    refine ⟨?_, fun acc => ?_⟩
    · rw [hv, List.length_cons, Nat.pow_succ]
      have : (d + 1) * 10 ^ l.length ≤ 10 * 10 ^ l.length := Nat.mul_le_mul_right _ (by omega)
      rw [Nat.add_mul] at this
      omega
    · rw [Lib.decFrom, d2]
      show Lib.decFrom (acc * 10 + d) l = _
      rw [i2, hv, List.length_cons, Nat.pow_succ]
      congr 1
      rw [Nat.add_mul, Nat.mul_assoc, Nat.mul_comm 10]
      omega
theorem val_inj (l : List UInt8) : ∀ r : List UInt8, l.length = r.length → l.all digitB = true → r.all digitB = true → val l = val r → l = r := by
  induction l with
  | nil => intro r h _ _ _; cases r with
    | nil => rfl
    | cons b r => cases h
  | cons a l ih =>
    intro r hl ha hr hv
    cases r with
    | nil => cases hl
    | cons b r =>
      have hl' : l.length = r.length := by simpa using hl
      rw [List.all_cons, Bool.and_eq_true] at ha hr
      obtain ⟨d, d1, d2, d3⟩ := digit_val ha.1
      obtain ⟨e, e1, e2, e3⟩ := digit_val hr.1
      have h1 : val (a :: l) = d * 10 ^ l.length + val l := by
        unfold val
        rw [Lib.decFrom, d2]
        show (Lib.decFrom (0 * 10 + d) l).getD 0 = _
        rw [(val_acc l ha.2).2]
        simp [val]
      have h2 : val (b :: r) = e * 10 ^ l.length + val r := by
        unfold val
        rw [Lib.decFrom, e2]
        show (Lib.decFrom (0 * 10 + e) r).getD 0 = _
        rw [(val_acc r hr.2).2, hl']
        simp [val]
      rw [h1, h2] at hv
      have b1 := (val_acc l ha.2).1
      have b2 := (val_acc r hr.2).1
      rw [← hl'] at b2
      have hde : d = e := by
        rcases Nat.lt_trichotomy d e with h | h | h
        · have : (d + 1) * 10 ^ l.length ≤ e * 10 ^ l.length := Nat.mul_le_mul_right _ h
          rw [Nat.add_mul] at this
          omega
        · exact h
        · have : (e + 1) * 10 ^ l.length ≤ d * 10 ^ l.length := Nat.mul_le_mul_right _ h
          rw [Nat.add_mul] at this
          omega
      subst hde
      rw [d3, e3, ih r hl' ha.2 hr.2 (by omega)]
theorem natv_val {l : List UInt8} (h : l ≠ []) : natv l = (val l : Nat) := by
  unfold natv val Lib.decNat
  cases l with
  | nil => exact absurd rfl h
  | cons b l => rfl
theorem pad_of {l : List UInt8} {k : Nat} (hk : 1 ≤ k) (hl : l.length = k) (ha : l.all digitB = true) : padF (natv l) k = l ∧ 0 ≤ natv l ∧ natv l < 10 ^ k := by
  have hne : l ≠ [] := fun he => by rw [he] at hl; simp at hl; omega
  have hv := natv_val hne
  have hb := (val_acc l ha).1
  rw [hl] at hb
  have h0 : 0 ≤ natv l := by rw [hv]; omega
  have h1 : natv l < 10 ^ k := by rw [hv]; exact_mod_cast hb
  obtain ⟨p1, p2, p3⟩ := padF_spec (natv l) k h0 h1 hk
  refine ⟨val_inj _ _ (by rw [p1, hl]) p2 ha ?_, h0, h1⟩
  have hpne : padF (natv l) k ≠ [] := fun he => by rw [he] at p1; simp at p1; omega
  have hq := natv_val hpne
  have hq' : ((val (padF (natv l) k) : Nat) : Int) = (val l : Nat) := by rw [← hq, p3, hv]
  exact_mod_cast hq'
def yearL (y : Int) : List UInt8 := if y < 0 then 45 :: padF (-y) 4 else padF y 4
def form1 (n : Int) : List UInt8 := yearL (yrF n) ++ 45 :: (padF (moF n) 2 ++ 45 :: padF (dyF n) 2)
def form2 (n : Int) : List UInt8 := yearL (yrF n) ++ 45 :: padF (n - beg (yrF n) + 1) 3
def form3 (n : Int) : List UInt8 := yearL (wyr n) ++ 45 :: (87 :: padF ((n - fst (wyr n)) / 7 + 1) 2 ++ 45 :: padF (wdF n) 1)
theorem ymdL_form (y m d : Int) : ymdL y m d = yearL y ++ 45 :: (padF m 2 ++ 45 :: padF d 2) := by
  unfold ymdL yearL
  rw [partsL_eq, partsL_eq]
  split <;> simp
def toB (l : List UInt8) : ByteArray := ⟨l.toArray⟩
end Go.Proofs.YtcinojbfjiohjaaGreatDoor.Civ
end

section
namespace Go.Proofs.YtcinojbfjiohjaaGreatDoor.Civ
open Go Go.Proofs.YtcinojbfjiohjaaGreatDoor.Ex
set_option linter.unusedVariables false
set_option linter.unusedSimpArgs false
theorem dig4 {l : List UInt8} (h : l.length = 4) (ha : l.all digitB = true) : ∃ a b c d, l = [a, b, c, d] ∧ digitB a = true ∧ digitB b = true ∧ digitB c = true ∧ digitB d = true := by
  match l, h with
  | [a, b, c, d], _ => exact ⟨a, b, c, d, rfl, by simpa using ha⟩
def sgn (y : Int) : List UInt8 := if y < 0 then [45] else []
theorem sgn_two (y : Int) : sgn y = [45] ∨ sgn y = [] := by unfold sgn; split <;> simp
theorem yearL_shape {y : Int} (h : InY y) : ∃ a b c d, yearL y = sgn y ++ [a, b, c, d] ∧ digitB a = true ∧ digitB b = true ∧ digitB c = true ∧ digitB d = true := by
  unfold yearL sgn
  obtain ⟨h0, h1⟩ := h
  split
  · obtain ⟨p1, p2, _⟩ := padF_spec (-y) 4 (by omega) (by omega) (by omega)
    obtain ⟨a, b, c, d, e, hh⟩ := dig4 p1 p2
    exact ⟨a, b, c, d, by rw [e]; rfl, hh⟩
  · obtain ⟨p1, p2, _⟩ := padF_spec y 4 (by omega) (by omega) (by omega)
    obtain ⟨a, b, c, d, e, hh⟩ := dig4 p1 p2
    exact ⟨a, b, c, d, by rw [e]; rfl, hh⟩
theorem text_form {n : Int} (hn : In n) : (textF n).1 = toB (form1 n) := by
  unfold textF
  rw [if_pos hn, ymdL_form]
  rfl
theorem sgn_len (y : Int) : (sgn y).length = 0 ∧ sgn y = [] ∨ (sgn y).length = 1 ∧ sgn y = [45] := by
  rcases sgn_two y with h | h
  · exact .inr ⟨by rw [h]; rfl, h⟩
  · exact .inl ⟨by rw [h]; rfl, h⟩
end Go.Proofs.YtcinojbfjiohjaaGreatDoor.Civ
end

section
namespace Go.Proofs.YtcinojbfjiohjaaGreatDoor.Civ
open Go Go.Proofs.YtcinojbfjiohjaaGreatDoor.Ex
set_option linter.unusedVariables false
set_option linter.unusedSimpArgs false
theorem toB_list (l : List UInt8) : (toB l).data.toList = l := by show l.toArray.toList = l; simp
def textsL (n : Int) : List (List UInt8) := if In n then form1 n :: form2 n :: (if InY (wyr n) then [form3 n] else []) else []
end Go.Proofs.YtcinojbfjiohjaaGreatDoor.Civ
end

section
namespace Go.Proofs.YtcinojbfjiohjaaGreatDoor.PPrintTells
open Go.RowKit Go.Proofs.YtcinojbfjiohjaaGreatDoorW.PrintWords Go.Proofs.YtcinojbfjiohjaaGreatDoorW.PrintLast Go.Proofs.YtcinojbfjiohjaaGreatDoorW.PrintMore
attribute [local go_sem] max2_int min2_int max_two min_two max_three min_three max_four min_four   -- for this text's walks alone
set_option linter.unusedVariables false
set_option linter.unusedSimpArgs false
end Go.Proofs.YtcinojbfjiohjaaGreatDoor.PPrintTells
end

section
namespace Go.Proofs.YtcinojbfjiohjaaGreatDoor.Lx
open Go Go.RowKit Go.Proofs.YtcinojbfjiohjaaGreatDoor.PPrintTells Go.Proofs.YtcinojbfjiohjaaGreatDoor.Ex Go.Proofs.YtcinojbfjiohjaaGreatDoor.Civ Go.Proofs.YtcinojbfjiohjaaGreatDoorW.PrintWords Go.Proofs.YtcinojbfjiohjaaGreatDoorW.PrintLast Go.Proofs.YtcinojbfjiohjaaGreatDoorW.PrintMore
set_option linter.unusedVariables false
set_option linter.unusedSimpArgs false
abbrev Tok := S51
abbrev kTk : Kd Tok := k51
abbrev TT : TypeId := 51
abbrev tokC (t : Tok) : Obj := .cells #[.int .u8 t.f0, .string t.f1, .int .i64 t.f2] TT
abbrev nil8 : ByteArray := { data := #[] }
def spanN (p : UInt8 → Bool) : List UInt8 → Nat
  | [] => 0
  | b :: l => if p b = true then spanN p l + 1 else 0
def dashB (b : UInt8) : Bool := decide (b.toNat = 45) || letterB b
end Go.Proofs.YtcinojbfjiohjaaGreatDoor.Lx
end

section
namespace Go.Proofs.YtcinojbfjiohjaaGreatDoor.Lx
open Go Go.RowKit Go.Proofs.YtcinojbfjiohjaaGreatDoor.PPrintTells Go.Proofs.YtcinojbfjiohjaaGreatDoor.Ex Go.Proofs.YtcinojbfjiohjaaGreatDoor.Civ Go.Proofs.YtcinojbfjiohjaaGreatDoorW.PrintWords Go.Proofs.YtcinojbfjiohjaaGreatDoorW.PrintLast Go.Proofs.YtcinojbfjiohjaaGreatDoorW.PrintMore
set_option linter.unusedVariables false
set_option linter.unusedSimpArgs false
structure LCal (w : World) : Prop where
  cal : Cal w
  eS : ∃ te pe, w.cell? ⟨5, 0, none⟩ = some (.iface te pe)
  eR : ∃ te pe, w.cell? ⟨6, 0, none⟩ = some (.iface te pe)
theorem cell_lt {w w' : World} (h : Lt w w') {a : Addr} {v : Value} (hc : w.cell? a = some v) : w'.cell? a = some v := (h.out.cell (World.block_lt_of_cell? w _ hc)).trans hc
theorem LCal.l {w w' : World} (h : LCal w) (k : Lt w w') : LCal w' := by
  obtain ⟨a, b, hs⟩ := h.eS
  obtain ⟨c, d, hr⟩ := h.eR
  exact ⟨h.cal.l k, ⟨a, b, cell_lt k hs⟩, ⟨c, d, cell_lt k hr⟩⟩
theorem blk_lt_on {W W2 : World} {k : Nat} {o : Obj} (hb : Lt W W2) (h : W.heap[k]? = some o) : W2.heap[k]? = some o := (hb.out.block k (blk_lt h)).trans h
def namedL : List UInt8 → Bool
  | [] => false
  | b :: l => decide (l.length < 30) && !digitB b
end Go.Proofs.YtcinojbfjiohjaaGreatDoor.Lx
end

section
namespace Go.Proofs.YtcinojbfjiohjaaGreatDoor.Lx
open Go Go.RowKit Go.Proofs.YtcinojbfjiohjaaGreatDoor.PPrintTells Go.Proofs.YtcinojbfjiohjaaGreatDoor.Ex Go.Proofs.YtcinojbfjiohjaaGreatDoor.Civ Go.Proofs.YtcinojbfjiohjaaGreatDoorW.PrintWords Go.Proofs.YtcinojbfjiohjaaGreatDoorW.PrintLast Go.Proofs.YtcinojbfjiohjaaGreatDoorW.PrintMore
set_option linter.unusedVariables false
set_option linter.unusedSimpArgs false
def numE (l : List UInt8) (r : Lib.NumEnd Int) : Int × Bool :=
  match r with
  | .ok v => (v, decide (Lib.itoa v = l))
  | .range => (Lib.intSat 64 l, false)
  | _ => (0, false)
def numT (l : List UInt8) : Int × Bool := numE l (Lib.parseIntB 64 l)
end Go.Proofs.YtcinojbfjiohjaaGreatDoor.Lx
end

section
namespace Go.Proofs.YtcinojbfjiohjaaGreatDoor.Lx
open Go Go.RowKit Go.Proofs.YtcinojbfjiohjaaGreatDoor.PPrintTells Go.Proofs.YtcinojbfjiohjaaGreatDoor.Ex Go.Proofs.YtcinojbfjiohjaaGreatDoor.Civ Go.Proofs.YtcinojbfjiohjaaGreatDoorW.PrintWords Go.Proofs.YtcinojbfjiohjaaGreatDoorW.PrintLast Go.Proofs.YtcinojbfjiohjaaGreatDoorW.PrintMore
set_option linter.unusedVariables false
set_option linter.unusedSimpArgs false
def marksL : List UInt8 := [40, 41, 44, 61, 58, 91, 93]
def markB (b : UInt8) : Bool := marksL.contains b
def blankB (b : UInt8) : Bool := [32, 9].contains b
def nextL : List UInt8 → Tok × Nat × Bool
  | [] => (⟨0, nil8, 0⟩, 0, false)
  | b :: l =>
    if markB b = true then (⟨4, toB [b], 0⟩, 1, true)
    else if b.toNat = 64 then (⟨3, nil8, (readF (toB (l.take (spanN dashB l)))).1⟩, spanN dashB l + 1, decide ((readF (toB (l.take (spanN dashB l)))).2 = 0))
    else if b.toNat = 45 ∨ digitB b = true then (⟨2, nil8, (numT (b :: l.take (spanN letterB l))).1⟩, spanN letterB l + 1, (numT (b :: l.take (spanN letterB l))).2)
    else (⟨1, toB ((b :: l).take (spanN letterB (b :: l))), 0⟩, spanN letterB (b :: l), namedL ((b :: l).take (spanN letterB (b :: l))))
theorem nextL_else {b : UInt8} {l : List UInt8} (h : ¬ (markB b = true)) : nextL (b :: l) =
    (if b.toNat = 64 then (⟨3, nil8, (readF (toB (l.take (spanN dashB l)))).1⟩, spanN dashB l + 1, decide ((readF (toB (l.take (spanN dashB l)))).2 = 0))
    else if b.toNat = 45 ∨ digitB b = true then (⟨2, nil8, (numT (b :: l.take (spanN letterB l))).1⟩, spanN letterB l + 1, (numT (b :: l.take (spanN letterB l))).2)
    else (⟨1, toB ((b :: l).take (spanN letterB (b :: l))), 0⟩, spanN letterB (b :: l), namedL ((b :: l).take (spanN letterB (b :: l))))) := if_neg h
end Go.Proofs.YtcinojbfjiohjaaGreatDoor.Lx
end

section
namespace Go.Proofs.YtcinojbfjiohjaaGreatDoor.Lx
open Go Go.RowKit Go.Proofs.YtcinojbfjiohjaaGreatDoor.PPrintTells Go.Proofs.YtcinojbfjiohjaaGreatDoor.Ex Go.Proofs.YtcinojbfjiohjaaGreatDoor.Civ Go.Proofs.YtcinojbfjiohjaaGreatDoorW.PrintWords Go.Proofs.YtcinojbfjiohjaaGreatDoorW.PrintLast Go.Proofs.YtcinojbfjiohjaaGreatDoorW.PrintMore
set_option linter.unusedVariables false
set_option linter.unusedSimpArgs false
end Go.Proofs.YtcinojbfjiohjaaGreatDoor.Lx
end

section
namespace Go.Proofs.YtcinojbfjiohjaaGreatDoor.Lx
open Go Go.RowKit Go.Proofs.YtcinojbfjiohjaaGreatDoor.PPrintTells Go.Proofs.YtcinojbfjiohjaaGreatDoor.Ex Go.Proofs.YtcinojbfjiohjaaGreatDoor.Civ Go.Proofs.YtcinojbfjiohjaaGreatDoorW.PrintWords Go.Proofs.YtcinojbfjiohjaaGreatDoorW.PrintLast Go.Proofs.YtcinojbfjiohjaaGreatDoorW.PrintMore
set_option linter.unusedVariables false
set_option linter.unusedSimpArgs false
abbrev AT : ByteArray := ⟨#[64]⟩
def textT (t : Tok) : ByteArray × Bool :=
  if t.f0 = 1 then (t.f1, namedL t.f1.data.toList && decide (t.f2 = 0) && decide (spanN letterB t.f1.data.toList = t.f1.size))
  else if t.f0 = 2 then (⟨(Lib.itoa t.f2).toArray⟩, t.f1.toList.isEmpty)
  else if t.f0 = 3 then (AT ++ (textF t.f2).1, decide ((textF t.f2).2 = 0) && t.f1.toList.isEmpty)
  else if t.f0 = 4 then (t.f1, decide (t.f2 = 0) && decide (t.f1.size = 1) && t.f1.data.toList.all markB)
  else (nil8, false)
def rightT (t : Tok) : Bool := (textT t).2
theorem beq_nil (l : List UInt8) : (l == []) = l.isEmpty := by cases l <;> rfl
theorem textF_size (n : Int) : (textF n).1.size ≤ 200 := by
  unfold textF
  split
  · rename_i hn
    have hok := (date_ok hn).1
    have hm := hok.month
    have hd : 1 ≤ dyF n ∧ dyF n ≤ 31 := ⟨hok.2.2.2.2.1, by have := hok.2.2.2.2.2; have := len_le (yrF n) (moF n); omega⟩
    have hy0 := hok.1
    have hy1 := hok.2.1
    show (ymdL (yrF n) (moF n) (dyF n)).toArray.size ≤ 200
    rw [List.size_toArray]
    unfold ymdL
    split
    · have := partsL_len (-(yrF n)) (moF n) (dyF n) ⟨by omega, by omega⟩ hm hd
      rw [List.length_cons]
      omega
    · have := partsL_len (yrF n) (moF n) (dyF n) ⟨by omega, by omega⟩ hm hd
      omega
  · exact Nat.zero_le _
structure TB (t : Tok) (k : Nat) (w0 W : World) : Prop where
  tb : W.heap[k]? = some (tokC t)
  lt : Lt w0 W
theorem TB.l {t : Tok} {k : Nat} {w0 W W2 : World} (h : TB t k w0 W) (hl : Lt W W2) : TB t k w0 W2 := ⟨blk_lt_on hl h.tb, h.lt.trans hl⟩
end Go.Proofs.YtcinojbfjiohjaaGreatDoor.Lx
end

section
namespace Go.Proofs.YtcinojbfjiohjaaGreatDoor.Lx
open Go Go.RowKit Go.Proofs.YtcinojbfjiohjaaGreatDoor.PPrintTells Go.Proofs.YtcinojbfjiohjaaGreatDoor.Ex Go.Proofs.YtcinojbfjiohjaaGreatDoor.Civ Go.Proofs.YtcinojbfjiohjaaGreatDoorW.PrintWords Go.Proofs.YtcinojbfjiohjaaGreatDoorW.PrintLast Go.Proofs.YtcinojbfjiohjaaGreatDoorW.PrintMore
set_option linter.unusedVariables false
set_option linter.unusedSimpArgs false
structure TokW (t : Tok) : Prop where
  n0 : -9223372036854775808 ≤ t.f2
  n1 : t.f2 ≤ 9223372036854775807
  sz : t.f1.size ≤ 9223372036854775807
end Go.Proofs.YtcinojbfjiohjaaGreatDoor.Lx
end

section
namespace Go.Proofs.YtcinojbfjiohjaaGreatDoor.Lx
open Go Go.RowKit Go.Proofs.YtcinojbfjiohjaaGreatDoor.PPrintTells Go.Proofs.YtcinojbfjiohjaaGreatDoor.Ex Go.Proofs.YtcinojbfjiohjaaGreatDoor.Civ Go.Proofs.YtcinojbfjiohjaaGreatDoorW.PrintWords Go.Proofs.YtcinojbfjiohjaaGreatDoorW.PrintLast Go.Proofs.YtcinojbfjiohjaaGreatDoorW.PrintMore
set_option linter.unusedVariables false
set_option linter.unusedSimpArgs false
def textL (L : List Tok) : ByteArray := toB (Lib.join (L.map (fun t => (textT t).1.data.toList)) [32])
theorem right_short {t : Tok} (h : TokW t) (hR : rightT t = true) : (textT t).1.size ≤ 300 := by
  have hR : (textT t).2 = true := hR
  obtain ⟨k, s, n⟩ := t
  unfold textT at hR ⊢
  dsimp only at hR ⊢
  by_cases k1 : k = 1
  · rw [if_pos k1] at hR ⊢
    simp only [Bool.and_eq_true] at hR
    have h1 := hR.1.1
    have hs : s.size = s.data.toList.length := (Array.length_toList).symm
    cases hL : s.data.toList with
    | nil => rw [hL] at hs; dsimp only; rw [hs]; simp
    | cons b l =>
      rw [hL] at h1 hs
      unfold namedL at h1
      simp only [Bool.and_eq_true, decide_eq_true_eq] at h1
      rw [List.length_cons] at hs
      dsimp only
      omega
  · rw [if_neg k1] at hR ⊢
    by_cases k2 : k = 2
    · rw [if_pos k2]
      show (Lib.itoa n).toArray.size ≤ 300
      rw [List.size_toArray]
      have h0 := h.n0
      have h1 := h.n1
      have hd := decDigits_len 20
      unfold Lib.itoa
      split
      · have := hd n.natAbs (by dsimp only at h0; omega) (by omega)
        rw [List.length_cons]
        omega
      · have := hd n.toNat (by dsimp only at h1; omega) (by omega)
        omega
    · rw [if_neg k2] at hR ⊢
      by_cases k3 : k = 3
      · rw [if_pos k3]
        have := textF_size n
        dsimp only
        rw [ByteArray.size_append]
        show 1 + _ ≤ 300
        omega
      · rw [if_neg k3] at hR ⊢
        by_cases k4 : k = 4
        · rw [if_pos k4] at hR ⊢
          simp only [Bool.and_eq_true, decide_eq_true_eq] at hR
          dsimp only
          omega
        · rw [if_neg k4]
          exact Nat.zero_le _
theorem joinTail_len (X : List (List UInt8)) (h : ∀ x ∈ X, x.length ≤ 300) : (Lib.joinTail [32] X).length ≤ 301 * X.length := by
  induction X with
  | nil => exact Nat.zero_le _
  | cons x X ih =>
    have h1 := h x (by simp)
    have h2 := ih (fun y hy => h y (by simp [hy]))
    unfold Lib.joinTail at h2 ⊢
    rw [List.map_cons, List.flatten_cons, List.length_append, List.length_append, List.length_cons]
    simp only [List.length_cons, List.length_nil]
    omega
theorem join_len (X : List (List UInt8)) (h : ∀ x ∈ X, x.length ≤ 300) : (Lib.join X [32]).length ≤ 301 * X.length := by
  cases X with
  | nil => exact Nat.zero_le _
  | cons x X =>
    rw [Lib.join_cons, List.length_append]
    have h1 := h x (by simp)
    have h2 := joinTail_len X (fun y hy => h y (by simp [hy]))
    rw [List.length_cons]
    omega
end Go.Proofs.YtcinojbfjiohjaaGreatDoor.Lx
end

section
namespace Go.Proofs.YtcinojbfjiohjaaGreatDoor.Lx
open Go Go.RowKit Go.Proofs.YtcinojbfjiohjaaGreatDoor.PPrintTells Go.Proofs.YtcinojbfjiohjaaGreatDoor.Ex Go.Proofs.YtcinojbfjiohjaaGreatDoor.Civ
set_option linter.unusedVariables false
set_option linter.unusedSimpArgs false
end Go.Proofs.YtcinojbfjiohjaaGreatDoor.Lx
end

section
namespace Go.Proofs.YtcinojbfjiohjaaGreatDoor.Lx
open Go Go.RowKit Go.Proofs.YtcinojbfjiohjaaGreatDoor.PPrintTells Go.Proofs.YtcinojbfjiohjaaGreatDoor.Ex Go.Proofs.YtcinojbfjiohjaaGreatDoor.Civ
set_option linter.unusedVariables false
set_option linter.unusedSimpArgs false
theorem span_all (p : UInt8 → Bool) : ∀ (l r : List UInt8), l.all p = true → (∀ b, r.head? = some b → p b = false) → spanN p (l ++ r) = l.length
  | [], r, _, h => by
    cases r with
    | nil => rfl
    | cons b r =>
      show (if p b = true then spanN p r + 1 else 0) = 0
      rw [h b rfl]
      rfl
  | b :: l, r, ha, h => by
    rw [List.all_cons, Bool.and_eq_true] at ha
    show (if p b = true then spanN p (l ++ r) + 1 else 0) = _
    rw [if_pos ha.1, span_all p l r ha.2 h]
    rfl
theorem span_full (p : UInt8 → Bool) : ∀ l : List UInt8, spanN p l = l.length → l.all p = true
  | [], _ => rfl
  | b :: l, h => by
    by_cases hb : p b = true
    · have e : spanN p (b :: l) = spanN p l + 1 := by show (if p b = true then spanN p l + 1 else 0) = _; rw [if_pos hb]
      rw [e, List.length_cons] at h
      rw [List.all_cons, hb, span_full p l (by omega)]
      rfl
    · have e : spanN p (b :: l) = 0 := by show (if p b = true then spanN p l + 1 else 0) = _; rw [if_neg hb]
      rw [e, List.length_cons] at h
      omega
theorem all_imp {p q : UInt8 → Bool} (h : ∀ b, p b = true → q b = true) {l : List UInt8} (hl : l.all p = true) : l.all q = true :=
  List.all_eq_true.2 fun b hb => h b (List.all_eq_true.1 hl b hb)
theorem digit_letter (b : UInt8) (h : digitB b = true) : letterB b = true := by unfold letterB; rw [h, Bool.or_true]
theorem digit_dash (b : UInt8) (h : digitB b = true) : dashB b = true := by unfold dashB; rw [digit_letter b h, Bool.or_true]
theorem first_digit (b : UInt8) (h : b.toNat = 45 ∨ digitB b = true) : markB b = false ∧ b.toNat ≠ 64 ∧ blankB b = false := by
  have := byte_all (fun b => !(decide (b.toNat = 45) || digitB b) || (!markB b && decide (b.toNat ≠ 64) && !blankB b)) (by decide +kernel) b
  have e : (decide (b.toNat = 45) || digitB b) = true := by rw [Bool.or_eq_true, decide_eq_true_eq]; exact h
  rw [e] at this
  simpa [and_assoc] using this
theorem first_alpha (b : UInt8) (h : letterB b = true) (hd : digitB b = false) : markB b = false ∧ b.toNat ≠ 64 ∧ blankB b = false ∧ b.toNat ≠ 45 := by
  have := byte_all (fun b => !(letterB b && !digitB b) || (!markB b && decide (b.toNat ≠ 64) && !blankB b && decide (b.toNat ≠ 45))) (by decide +kernel) b
  rw [h, hd] at this
  simpa [and_assoc] using this
theorem mark_blank (b : UInt8) (h : markB b = true) : blankB b = false := by
  have := byte_all (fun b => !markB b || !blankB b) (by decide +kernel) b
  rw [h] at this
  simpa using this
theorem dash_letter (b : UInt8) (h : dashB b = false) : letterB b = false := by
  unfold dashB at h
  rw [Bool.or_eq_false_iff] at h
  exact h.2
theorem decFrom_le : ∀ (l : List UInt8) (acc u : Nat), Lib.decFrom acc l = some u → acc ≤ u
  | [], acc, u, h => by
    have h : some acc = some u := h
    injection h with h
    omega
  | b :: l, acc, u, h => by
    rw [Lib.decFrom] at h
    cases hd : Lib.digitVal b with
    | none => rw [hd] at h; cases h
    | some d =>
      rw [hd] at h
      have := decFrom_le l _ u h
      omega
theorem uint_dec : ∀ (l : List UInt8) (acc u : Nat), l.all digitB = true → Lib.decFrom acc l = some u → u < 18446744073709551616 → Lib.parseUint10 acc l = .ok u
  | [], acc, u, _, h, _ => by
    have h : some acc = some u := h
    injection h with h
    rw [h]
    rfl
  | b :: l, acc, u, ha, h, hu => by
    rw [List.all_cons, Bool.and_eq_true] at ha
    have hb : 48 ≤ b.toNat ∧ b.toNat ≤ 57 := by
      have := ha.1
      unfold digitB at this
      rw [Bool.and_eq_true, decide_eq_true_eq, decide_eq_true_eq] at this
      exact this
    have hd : Lib.digitVal b = some (b.toNat - 48) := by unfold Lib.digitVal; rw [if_pos hb]
    rw [Lib.decFrom, hd] at h
    have h : Lib.decFrom (acc * 10 + (b.toNat - 48)) l = some u := h
    have hle := decFrom_le l _ u h
    rw [Lib.parseUint10, if_pos hb, if_neg (by omega), if_neg (by omega)]
    exact uint_dec l _ u ha.2 h hu
theorem dec_first (u : Nat) : ∃ c r, Lib.decDigits u = c :: r ∧ digitB c = true ∧ r.all digitB = true := by
  have h := (decDigits_spec u).1
  cases hd : Lib.decDigits u with
  | nil =>
    exfalso
    by_cases h : u < 10
    · rw [Lib.decDigits_one h] at hd; cases hd
    · rw [Lib.decDigits, dif_neg h] at hd
      simp at hd
  | cons c r =>
    rw [hd, List.all_cons, Bool.and_eq_true] at h
    exact ⟨c, r, rfl, h.1, h.2⟩
theorem mag_dec (u : Nat) (hu : u < 18446744073709551616) : Lib.parseMag (Lib.decDigits u) = .ok u := by
  obtain ⟨c, r, h, _⟩ := dec_first u
  obtain ⟨s1, s2⟩ := decDigits_spec u
  unfold Lib.parseMag
  rw [if_neg (by rw [h]; exact List.cons_ne_nil _ _)]
  exact uint_dec _ 0 u s1 (by rw [s2, Nat.zero_mul, Nat.zero_add]) hu
theorem parse_itoa (n : Int) (h0 : -9223372036854775808 ≤ n) (h1 : n ≤ 9223372036854775807) : Lib.parseIntB 64 (Lib.itoa n) = .ok n := by
  rw [Lib.parseIntB_64]
  by_cases hn : n < 0
  · obtain ⟨u, rfl⟩ : ∃ u : Nat, n = -(u : Int) := ⟨n.natAbs, by omega⟩
    rw [Lib.itoa_neg u (by omega), Lib.atoiAll_minus, mag_dec u (by omega)]
    show (if 9223372036854775808 < u then _ else _) = _
    rw [if_neg (by omega)]
  · obtain ⟨u, rfl⟩ : ∃ u : Nat, n = (u : Int) := ⟨n.toNat, by omega⟩
    have hm := mag_dec u (by omega)
    rw [Lib.itoa_nonneg u]
    obtain ⟨c, r, h, hc, _⟩ := dec_first u
    rw [h] at hm ⊢
    have h45 : c.toNat ≠ 43 ∧ c.toNat ≠ 45 := by
      unfold digitB at hc
      rw [Bool.and_eq_true, decide_eq_true_eq, decide_eq_true_eq] at hc
      omega
    rw [Lib.atoiAll_plain c r h45.1 h45.2, hm]
    show (if 9223372036854775808 ≤ u then _ else _) = _
    rw [if_neg (by omega)]
theorem itoa_first (n : Int) : ∃ b l, Lib.itoa n = b :: l ∧ (b.toNat = 45 ∨ digitB b = true) ∧ l.all digitB = true := by
  by_cases hn : n < 0
  · obtain ⟨u, rfl⟩ : ∃ u : Nat, n = -(u : Int) := ⟨n.natAbs, by omega⟩
    rw [Lib.itoa_neg u (by omega)]
    exact ⟨45, _, rfl, .inl rfl, (decDigits_spec u).1⟩
  · obtain ⟨u, rfl⟩ : ∃ u : Nat, n = (u : Int) := ⟨n.toNat, by omega⟩
    rw [Lib.itoa_nonneg u]
    obtain ⟨c, r, h, hc, hr⟩ := dec_first u
    exact ⟨c, r, h, .inr hc, hr⟩
theorem pad_dash (n : Int) (k : Nat) (h0 : 0 ≤ n) (h1 : n < 10 ^ k) (hk : 1 ≤ k) : (padF n k).all dashB = true := all_imp digit_dash (padF_spec n k h0 h1 hk).2.1
theorem text_dash {n : Int} (hn : In n) : (textF n).1.data.toList.all dashB = true := by
  have hok := (date_ok hn).1
  have hm := hok.month
  have hd : 1 ≤ dyF n ∧ dyF n ≤ 31 := ⟨hok.2.2.2.2.1, by have := hok.2.2.2.2.2; have := len_le (yrF n) (moF n); omega⟩
  have hy0 := hok.1
  have hy1 := hok.2.1
  have ht : (textF n).1 = ⟨(ymdL (yrF n) (moF n) (dyF n)).toArray⟩ := by unfold textF; rw [if_pos hn]
  rw [ht]
  show ((ymdL (yrF n) (moF n) (dyF n)).toArray.toList).all dashB = true
  rw [List.toList_toArray]
  have key : ∀ z : Int, 0 ≤ z → z ≤ 9999 → (partsL z (moF n) (dyF n)).all dashB = true := by
    intro z hz0 hz1
    rw [partsL_eq]
    have p1 := pad_dash z 4 hz0 (by omega) (by omega)
    have p2 := pad_dash (moF n) 2 (by omega) (by omega) (by omega)
    have p3 := pad_dash (dyF n) 2 (by omega) (by omega) (by omega)
    simp only [List.all_append, List.all_cons, List.all_nil, p1, p2, p3, Bool.and_true, Bool.true_and]
    decide
  unfold ymdL
  split
  · rw [List.all_cons, key _ (by omega) (by omega)]
    decide
  · exact key _ (by omega) (by omega)
theorem size_nil {s : ByteArray} (h : s.toList.isEmpty = true) : s = nil8 := by
  rw [Lib.toList_data] at h
  cases s with
  | mk a =>
    have h : a.toList = [] := List.isEmpty_iff.1 h
    rw [show a = #[] from Array.toList_eq_nil_iff.1 h]
theorem next_text (t : Tok) (hW : TokW t) (hR : rightT t = true) (r : List UInt8) (hr : ∀ b, r.head? = some b → dashB b = false) :
    ∃ b l, (textT t).1.data.toList = b :: l ∧ blankB b = false ∧ nextL (b :: (l ++ r)) = (t, l.length + 1, true) := by
  have hr2 : ∀ b, r.head? = some b → letterB b = false := fun b h => dash_letter b (hr b h)
  obtain ⟨n0, n1, _⟩ := hW
  obtain ⟨k, s, n⟩ := t
  dsimp only at n0 n1
  unfold rightT at hR
  unfold textT at hR ⊢
  dsimp only at hR ⊢
  by_cases k1 : k = 1
  · subst k1
    rw [if_pos rfl] at hR ⊢
    dsimp only at hR ⊢
    rw [Bool.and_eq_true, Bool.and_eq_true, decide_eq_true_eq, decide_eq_true_eq] at hR
    obtain ⟨⟨h1, rfl⟩, h3⟩ := hR
    cases hL : s.data.toList with
    | nil => rw [hL] at h1; cases h1
    | cons b l =>
      have hsz : s.size = (b :: l).length := by rw [← hL]; exact (Array.length_toList).symm
      rw [hL, hsz] at h3
      rw [hL] at h1
      have hall := span_full _ _ h3
      have hd : digitB b = false := by
        have h1 : (decide (l.length < 30) && !digitB b) = true := h1
        rw [Bool.and_eq_true] at h1
        simpa using h1.2
      have hb : letterB b = true := by rw [List.all_cons, Bool.and_eq_true] at hall; exact hall.1
      obtain ⟨f1, f2, f3, f4⟩ := first_alpha b hb hd
      refine ⟨b, l, rfl, f3, ?_⟩
      have hsp : spanN letterB (b :: (l ++ r)) = l.length + 1 := span_all letterB (b :: l) r hall hr2
      have htk : (b :: (l ++ r)).take (l.length + 1) = b :: l := by
        rw [List.take_succ_cons, List.take_left]
      rw [nextL_else (by rw [f1]; decide), if_neg f2, if_neg (by rw [hd]; simpa using f4), hsp, htk, h1]
      have hs : toB (b :: l) = s := by
        cases s with
        | mk a =>
          have hL : a.toList = b :: l := hL
          show (⟨(b :: l).toArray⟩ : ByteArray) = _
          rw [← hL]
      rw [hs]
  · rw [if_neg k1] at hR ⊢
    by_cases k2 : k = 2
    · subst k2
      rw [if_pos rfl] at hR ⊢
      dsimp only at hR ⊢
      obtain rfl := size_nil hR
      obtain ⟨b, l, h, hb, hl⟩ := itoa_first n
      have hp := parse_itoa n n0 n1
      obtain ⟨f1, f2, f3⟩ := first_digit b hb
      refine ⟨b, l, by show (Lib.itoa n).toArray.toList = _; rw [List.toList_toArray, h], f3, ?_⟩
      have hsp : spanN letterB (l ++ r) = l.length := span_all letterB l r (all_imp digit_letter hl) hr2
      rw [nextL_else (by rw [f1]; decide), if_neg f2, if_pos hb, hsp, List.take_left]
      have hN : numT (b :: l) = (n, true) := by
        unfold numT
        rw [← h, hp]
        show (n, decide (Lib.itoa n = Lib.itoa n)) = _
        rw [decide_eq_true rfl]
      rw [hN]
    · rw [if_neg k2] at hR ⊢
      by_cases k3 : k = 3
      · subst k3
        rw [if_pos rfl] at hR ⊢
        dsimp only at hR ⊢
        rw [Bool.and_eq_true, decide_eq_true_eq] at hR
        obtain ⟨h1, h2⟩ := hR
        obtain rfl := size_nil h2
        have hn : In n := by
          unfold textF at h1
          split at h1
          · assumption
          · cases h1
        have hall := text_dash hn
        have hread := text_read hn
        obtain ⟨D, hD⟩ : ∃ D, D = (textF n).1.data.toList := ⟨_, rfl⟩
        have hT : (AT ++ (textF n).1).data.toList = 64 :: D := by
          rw [ByteArray.data_append, Array.toList_append, ← hD]
          rfl
        have hB : toB D = (textF n).1 := by
          cases hx : (textF n).1 with
          | mk a =>
            rw [hx] at hD
            show (⟨D.toArray⟩ : ByteArray) = _
            rw [hD]
        rw [← hD] at hall
        refine ⟨64, D, hT, by decide, ?_⟩
        have hsp : spanN dashB (D ++ r) = D.length := span_all dashB D r hall hr
        rw [nextL_else (by decide), if_pos (by decide), hsp, List.take_left, hB, hread]
        rfl
      · rw [if_neg k3] at hR ⊢
        by_cases k4 : k = 4
        · subst k4
          rw [if_pos rfl] at hR ⊢
          dsimp only at hR ⊢
          rw [Bool.and_eq_true, Bool.and_eq_true, decide_eq_true_eq, decide_eq_true_eq] at hR
          obtain ⟨⟨rfl, h2⟩, h3⟩ := hR
          have hsz : s.data.toList.length = 1 := by rw [← h2]; exact Array.length_toList
          obtain ⟨b, hb⟩ := List.length_eq_one_iff.1 hsz
          rw [hb, List.all_cons, Bool.and_eq_true] at h3
          refine ⟨b, [], hb, mark_blank b h3.1, ?_⟩
          show (if markB b = true then _ else _) = _
          rw [if_pos h3.1]
          have hs : toB [b] = s := by
            cases s with
            | mk a =>
              have hL : a.toList = [b] := hb
              show (⟨[b].toArray⟩ : ByteArray) = _
              rw [← hL]
          rw [hs]
          rfl
        · rw [if_neg k4] at hR
          cases hR
end Go.Proofs.YtcinojbfjiohjaaGreatDoor.Lx
end

section
namespace Go.Proofs.YtcinojbfjiohjaaGreatDoor.Civ
open Go Go.RowKit Go.Proofs.YtcinojbfjiohjaaGreatDoor.PPrintTells Go.Proofs.YtcinojbfjiohjaaGreatDoorW.PrintWords Go.Proofs.YtcinojbfjiohjaaGreatDoorW.PrintLast Go.Proofs.YtcinojbfjiohjaaGreatDoorW.PrintMore
set_option linter.unusedVariables false
set_option linter.unusedSimpArgs false
theorem inside_r (y : Int) : epactref04_inside.f y = some (decide (InY y)) := by
  unfold epactref04_inside.f InY
  by_cases h1 : -9999 ≤ y <;> by_cases h2 : y ≤ 9999 <;> simp [h1, h2]
theorem beg_in {y : Int} (h : InY y) : -4371587 ≤ beg y ∧ beg y ≤ 2932896 := by
  have := in_year h (Int.le_refl _) (by have := beg_lt_succ y; omega)
  exact this
theorem first_r (k : Nat) (y : Int) (hk : 1000000 ≤ k) (h0 : -9999 ≤ y) (h1 : y ≤ 10000) : epactref04_first.f k y = some (fst y) := by
  unfold epactref04_first.f
  rw [inside_r, Option.bind_some]
  by_cases hy : InY y
  · rw [if_pos (decide_eq_true hy), rDays_f k y 1 4 (by omega), daysF_ok ((ok_1 y 4 (by omega)).2 hy), dn_fourth, Option.bind_some, rWeekday_f, Option.bind_some]
    have hb := beg_in hy
    have hw := wdF_bd (beg y + 3)
    show some (wrap64 (wrap64 (beg y + 3 - wdF (beg y + 3)) + 1)) = _
    rw [w64 (x := beg y + 3 - wdF (beg y + 3)) (by omega) (by omega), w64 (by omega) (by omega)]
    unfold fst wdF
    congr 1
    omega
  · obtain rfl : y = 10000 := by unfold InY at hy; omega
    rw [if_neg (by simp [hy]), if_pos (by omega), rDays_f k 9999 12 31 (by omega), Option.bind_some, rWeekday_f, Option.bind_some]
    decide +kernel
theorem fst_bd {y : Int} (h0 : -9999 ≤ y) (h1 : y ≤ 10000) : -4371600 ≤ fst y ∧ fst y ≤ 2932910 := by
  have h := (fst_step y).2.2
  have h2 := beg_mono h0
  have h3 := beg_mono h1
  rw [beg_min] at h2
  rw [beg_max] at h3
  omega
theorem week_l0 (k : Nat) (n y z : Int) (hk : 1000000 ≤ k) (hn : In n) (hz0 : -10002 ≤ z) (hz1 : z ≤ 10002) (hy0 : -10000 ≤ y) (hy1 : y ≤ 10000) :
    epactref04_Week.l0 (k + 1) n y z = if z ≤ y + 1 then (if InY z ∧ wyr n = z then some (weekF n) else epactref04_Week.l0 k n y (z + 1)) else some (0, 0, 0, 30) := by
  rw [epactref04_Week.l0, w64 (x := y + 1) (by omega) (by omega)]
  by_cases hle : z ≤ y + 1
  · rw [if_pos hle, if_pos hle, inside_r, Option.bind_some, w64 (x := z + 1) (by omega) (by omega)]
    by_cases hi : InY z
    · have hi0 := hi.1
      have hi1 := hi.2
      rw [if_pos (decide_eq_true hi), first_r k z hk hi0 (by omega), Option.bind_some, first_r k (z + 1) hk (by omega) (by omega)]
      have hsp := wyr_spec n
      by_cases h1 : fst z ≤ n
      · rw [if_pos h1, Option.bind_some]
        by_cases h2 : n < fst (z + 1)
        · have hw : wyr n = z := wyr_of h1 h2
          have hs := fst_step z
          have b1 := fst_bd hi0 (show z ≤ 10000 by omega)
          have hnn := hn.1
          have hnn' := hn.2
          rw [if_pos h2, Option.bind_some, if_pos ⟨hi, hw⟩, weekF_in hn (by rw [hw]; exact hi), hw, w64 (x := n - fst z) (by omega) (by omega), tdiv_pos _ _ (by omega), tmod_pos _ _ (by omega), w64 (x := (n - fst z) / 7) (by omega) (by omega), w64 (x := (n - fst z) / 7 + 1) (by omega) (by omega), w64 (x := (n - fst z) % 7 + 1) (by omega) (by omega)]
          have hwd := wdF_fst n
          rw [hw] at hwd
          rw [hwd]
        · rw [if_neg h2, if_neg (fun h => h2 (by rw [← h.2]; exact hsp.2))]
      · rw [if_neg h1, if_neg (fun h => h1 (by rw [← h.2]; exact hsp.1))]
    · rw [if_neg (by simp [hi]), if_neg (fun h => hi h.1)]
  · rw [if_neg hle, if_neg hle]
theorem Week_r (k : Nat) (n : Int) (hk : 1000010 ≤ k) : epactref04_Week.f k n = some (weekF n) := by
  unfold epactref04_Week.f
  rw [rDate_f k n (by omega), Option.bind_some]
  by_cases hn : In n
  · rw [dateF_in hn]
    have hy := yrF_range hn
    have h1 : wrap64 (yrF n - 1) = yrF n - 1 := w64 (by omega) (by omega)
    show (if (0 : Int) = 0 then epactref04_Week.l0 k n (yrF n) (wrap64 (yrF n - 1)) else some (0, 0, 0, 30)) = _
    rw [if_pos rfl, h1]
    obtain ⟨m, rfl⟩ : ∃ m, k = m + 1 + 1 + 1 + 1 := ⟨k - 4, by omega⟩
    have hw : wyr n = yrF n - 1 ∨ wyr n = yrF n ∨ wyr n = yrF n + 1 := by
      unfold wyr
      split
      · exact .inl rfl
      · split
        · exact .inr (.inr rfl)
        · exact .inr (.inl rfl)
    have hno : ¬ InY (wyr n) → weekF n = (0, 0, 0, 30) := fun h => weekF_not (fun h' => h h'.2)
    rw [week_l0 _ n _ _ (by omega) hn (by omega) (by omega) (by omega) (by omega), if_pos (by omega)]
    by_cases c1 : InY (yrF n - 1) ∧ wyr n = yrF n - 1
    · rw [if_pos c1]
    rw [if_neg c1, week_l0 _ n _ _ (by omega) hn (by omega) (by omega) (by omega) (by omega), if_pos (by omega)]
    by_cases c2 : InY (yrF n - 1 + 1) ∧ wyr n = yrF n - 1 + 1
    · rw [if_pos c2]
    rw [if_neg c2, week_l0 _ n _ _ (by omega) hn (by omega) (by omega) (by omega) (by omega), if_pos (by omega)]
    by_cases c3 : InY (yrF n - 1 + 1 + 1) ∧ wyr n = yrF n - 1 + 1 + 1
    · rw [if_pos c3]
    rw [if_neg c3, week_l0 _ n _ _ (by omega) hn (by omega) (by omega) (by omega) (by omega), if_neg (by omega), hno]
    intro hi
    rcases hw with h | h | h
    · exact c1 ⟨by rw [← h]; exact hi, h⟩
    · exact c2 ⟨by rw [show yrF n - 1 + 1 = yrF n by omega, ← h]; exact hi, by omega⟩
    · exact c3 ⟨by rw [show yrF n - 1 + 1 + 1 = yrF n + 1 by omega, ← h]; exact hi, by omega⟩
  · rw [dateF_not hn, weekF_not (fun h => hn h.1)]
    rfl
theorem Nth_r (k : Nat) (n : Int) (hk : 1000000 ≤ k) : epactref04_Nth.f k n = some (nthF n) := by
  unfold epactref04_Nth.f
  rw [rDate_f k n (by omega), Option.bind_some]
  by_cases hn : In n
  · rw [dateF_in hn, nthF_in hn]
    have hy := yrF_range hn
    have hs := yrF_spec n
    have hb := beg_succ (yrF n)
    have hl := lp_bd (yrF n)
    show (if (0 : Int) = 0 then (epactref03_Days.f k (yrF n) 1 1).bind _ else _) = _
    rw [if_pos rfl, rDays_f k (yrF n) 1 1 (by omega), daysF_ok ((ok_1 (yrF n) 1 (by omega)).2 hy), dn_first, Option.bind_some]
    show some (yrF n, wrap64 (wrap64 (n - beg (yrF n)) + 1), (0 : Int)) = _
    rw [w64 (x := n - beg (yrF n)) (by omega) (by omega), w64 (by omega) (by omega)]
  · rw [dateF_not hn, nthF_not hn]
    rfl
end Go.Proofs.YtcinojbfjiohjaaGreatDoor.Civ
end

section
namespace Go.Proofs.YtcinojbfjiohjaaGreatDoor.Civ
open Go Go.RowKit Go.Proofs.YtcinojbfjiohjaaGreatDoor.PPrintTells Go.Proofs.YtcinojbfjiohjaaGreatDoorW.PrintWords Go.Proofs.YtcinojbfjiohjaaGreatDoorW.PrintLast Go.Proofs.YtcinojbfjiohjaaGreatDoorW.PrintMore Go.Proofs.YtcinojbfjiohjaaGreatDoor.Ex
set_option linter.unusedVariables false
set_option linter.unusedSimpArgs false
theorem toB_app (a b : List UInt8) : toB a ++ toB b = toB (a ++ b) := by
  apply ByteArray.ext
  rw [ByteArray.data_append]
  show a.toArray ++ b.toArray = (a ++ b).toArray
  simp
theorem texts_bytes (L : List UInt8) : (toB L).size = L.length := by show L.toArray.size = _; simp
def digs : Nat → Nat → List UInt8
  | 0, _ => []
  | m + 1, x => digs m (x / 10) ++ [UInt8.ofNat (48 + x % 10)]
theorem digs_spec (m : Nat) : ∀ x, (digs m x).length = m ∧ (digs m x).all digitB = true ∧ ∀ acc, Lib.decFrom acc (digs m x) = some (acc * 10 ^ m + x % 10 ^ m) := by
  induction m with
  | zero => intro x; exact ⟨rfl, rfl, fun acc => by simp [digs, Lib.decFrom, Nat.mod_one]⟩
  | succ m ih =>
    intro x
    obtain ⟨a, b, c⟩ := ih (x / 10)
    have hd := digit_of (x % 10) (by omega)
    refine ⟨by rw [digs, List.length_append, a]; rfl, by rw [digs, List.all_append, b, List.all_cons, hd.1]; rfl, fun acc => ?_⟩
    rw [digs, decFrom_append, c]
    show Lib.decFrom _ [UInt8.ofNat (48 + x % 10)] = _
    rw [Lib.decFrom, hd.2.1]
    show some _ = _
    congr 1
    rw [Nat.pow_succ, Nat.add_mul, Nat.mul_assoc, show x % (10 ^ m * 10) = x % (10 * 10 ^ m) by rw [Nat.mul_comm], Nat.mod_mul]
    rw [Nat.mul_comm (x / 10 % 10 ^ m) 10]
    omega
theorem digs_pad (m : Nat) (n : Int) (hm : 1 ≤ m) (h0 : 0 ≤ n) (h1 : n < 10 ^ m) : digs m n.toNat = padF n m := by
  obtain ⟨a, b, c⟩ := digs_spec m n.toNat
  have hne : digs m n.toNat ≠ [] := fun he => by rw [he] at a; simp at a; omega
  have hv : natv (digs m n.toNat) = n := by
    rw [natv_val hne]
    unfold val
    rw [c]
    have h2 : n.toNat < 10 ^ m := by
      have : (n.toNat : Int) = n := by omega
      have h3 : ((n.toNat : Nat) : Int) < ((10 ^ m : Nat) : Int) := by rw [this]; push_cast; exact h1
      exact_mod_cast h3
    rw [Nat.mod_eq_of_lt h2]
    show (((0 * 10 ^ m + n.toNat : Nat)) : Int) = n
    rw [Nat.zero_mul, Nat.zero_add]
    omega
  have hp := (pad_of hm a b).1
  rw [hv] at hp
  exact hp.symm
theorem digits_l0 (j : Nat) : ∀ (k : Nat) (x : Int) (many i : Int) (acc : List UInt8), j < k → 0 ≤ x → x ≤ 100000 → many = i + j → 0 ≤ i → many ≤ 100 → (acc.length : Int) ≤ i →
    epactref04_digits.l0 k x many (toB acc) i = some (toB (digs j x.toNat ++ acc)) := by
  induction j with
  | zero =>
    intro k x many i acc hk h0 h1 hm hi hm2 ha
    obtain ⟨k, rfl⟩ : ∃ m, k = m + 1 := ⟨k - 1, by omega⟩
    rw [epactref04_digits.l0, if_neg (by omega)]
    rfl
  | succ j ih =>
    intro k x many i acc hk h0 h1 hm hi hm2 ha
    obtain ⟨k, rfl⟩ : ∃ m, k = m + 1 := ⟨k - 1, by omega⟩
    have hmod := Int.emod_nonneg x (show (10 : Int) ≠ 0 by omega)
    have hmod2 := Int.emod_lt_of_pos x (show (0 : Int) < 10 by omega)
    have e1 : Int.tmod x 10 = x % 10 := tmod_pos _ _ h0
    have e2 : Int.tdiv x 10 = x / 10 := tdiv_pos _ _ h0
    have hs : strOfNums [(48 + ((Int.tmod x 10) % 256)) % 256] = toB [UInt8.ofNat (48 + x.toNat % 10)] := by
      rw [e1]
      unfold strOfNums toB
      have : ((48 + x % 10 % 256) % 256).toNat = 48 + x.toNat % 10 := by omega
      simp only [List.map_cons, List.map_nil, this]
    rw [epactref04_digits.l0, if_pos (by omega), Option.bind_some, hs, texts_bytes, texts_bytes, if_pos (by simp; omega), toB_app, e2, w64 (x := x / 10) (by omega) (by omega), w64 (x := i + 1) (by omega) (by omega)]
    rw [ih k (x / 10) many (i + 1) _ (by omega) (by omega) (by omega) (by omega) (by omega) hm2 (by simp; omega)]
    have : (x / 10).toNat = x.toNat / 10 := by omega
    rw [this, digs, List.append_assoc]
theorem digits_r (k : Nat) (n : Int) (m : Nat) (hk : 100 ≤ k) (hm : 1 ≤ m) (hm2 : m ≤ 4) (h0 : 0 ≤ n) (h1 : n < 10 ^ m) : epactref04_digits.f k n (m : Nat) = some (toB (padF n m)) := by
  unfold epactref04_digits.f
  have hb : n ≤ 100000 := by
    rcases (show m = 1 ∨ m = 2 ∨ m = 3 ∨ m = 4 by omega) with rfl | rfl | rfl | rfl <;> omega
  have := digits_l0 m k n m 0 [] (by omega) h0 hb (by omega) (by omega) (by omega) (by simp)
  rw [List.append_nil, digs_pad m n hm h0 h1] at this
  exact this
theorem year_r (k : Nat) (y : Int) (hk : 100 ≤ k) (hy : InY y) : epactref04_year.f k y = some (toB (yearL y)) := by
  obtain ⟨h0, h1⟩ := hy
  unfold epactref04_year.f yearL
  by_cases h : y < 0
  · have hp := padF_spec (-y) 4 (by omega) (by omega) (by omega)
    rw [if_pos h, if_pos h, w64 (x := -y) (by omega) (by omega)]
    have := digits_r k (-y) 4 hk (by omega) (by omega) (by omega) (by omega)
    rw [show ((4 : Nat) : Int) = 4 from rfl] at this
    rw [this, Option.bind_some, texts_bytes, if_pos (by omega)]
    show some (toB [45] ++ toB (padF (-y) 4)) = _
    rw [toB_app]
    rfl
  · rw [if_neg h, if_neg h]
    have := digits_r k y 4 hk (by omega) (by omega) (by omega) (by omega)
    rw [show ((4 : Nat) : Int) = 4 from rfl] at this
    rw [this]
    rfl
theorem yearL_len {y : Int} (h : InY y) : (yearL y).length ≤ 5 := by
  obtain ⟨a, b, c, d, e, _⟩ := yearL_shape h
  rw [e, List.length_append]
  rcases sgn_len y with ⟨l, _⟩ | ⟨l, _⟩ <;> rw [l] <;> simp
theorem Texts_r (k : Nat) (n : Int) (hk : 1000010 ≤ k) : epactref04_Texts.f k n = some ((textsL n).map toB) := by
  unfold epactref04_Texts.f textsL
  rw [rDate_f k n (by omega), Option.bind_some]
  by_cases hn : In n
  · rw [dateF_in hn, if_pos hn]
    have hok := (date_ok hn).1
    have hm := hok.month
    have hd : 1 ≤ dyF n ∧ dyF n ≤ 31 := ⟨hok.2.2.2.2.1, by have := hok.2.2.2.2.2; have := len_le (yrF n) (moF n); omega⟩
    have hy : InY (yrF n) := yrF_range hn
    have hs := yrF_spec n
    have hbs := beg_succ (yrF n)
    have hlp := lp_bd (yrF n)
    have D1 := digits_r k (moF n) 2 (by omega) (by omega) (by omega) (by omega) (by omega)
    have D2 := digits_r k (dyF n) 2 (by omega) (by omega) (by omega) (by omega) (by omega)
    have D3 := digits_r k (n - beg (yrF n) + 1) 3 (by omega) (by omega) (by omega) (by omega) (by omega)
    have l0 := yearL_len hy
    have l1 := (padF_spec (moF n) 2 (by omega) (by omega) (by omega)).1
    have l2 := (padF_spec (dyF n) 2 (by omega) (by omega) (by omega)).1
    have l3 := (padF_spec (n - beg (yrF n) + 1) 3 (by omega) (by omega) (by omega)).1
    rw [show ((2 : Nat) : Int) = 2 from rfl] at D1 D2
    rw [show ((3 : Nat) : Int) = 3 from rfl] at D3
    have c1 : (⟨#[45]⟩ : ByteArray) = toB [45] := rfl
    have c2 : (⟨#[45, 87]⟩ : ByteArray) = toB [45, 87] := rfl
    simp only [c1, c2]
    simp only [if_true, year_r k (yrF n) (by omega) hy, Option.bind_some, D1, D2, toB_app, texts_bytes, Nth_r k n (by omega), nthF_in hn, D3, Week_r k n (by omega)]
    rw [if_pos (by omega), if_pos (by simp [l1]; omega), if_pos (by simp [l1]; omega), if_pos (by simp [l1, l2]; omega), if_pos (by omega), if_pos (by simp [l3]; omega), if_pos (by simp)]
    by_cases hi : InY (wyr n)
    · rw [weekF_in hn hi, if_pos rfl]
      have hsp := wyr_spec n
      have hst := fst_step (wyr n)
      have hwd := wdF_bd n
      have D4 := digits_r k ((n - fst (wyr n)) / 7 + 1) 2 (by omega) (by omega) (by omega) (by omega) (by omega)
      have D5 := digits_r k (wdF n) 1 (by omega) (by omega) (by omega) (by omega) (by omega)
      have l4 := (padF_spec ((n - fst (wyr n)) / 7 + 1) 2 (by omega) (by omega) (by omega)).1
      have l5 := (padF_spec (wdF n) 1 (by omega) (by omega) (by omega)).1
      have l6 := yearL_len hi
      rw [show ((2 : Nat) : Int) = 2 from rfl] at D4
      rw [show ((1 : Nat) : Int) = 1 from rfl] at D5
      simp only [year_r k (wyr n) (by omega) hi, Option.bind_some, D4, D5, toB_app, texts_bytes]
      rw [if_pos (by omega), if_pos (by simp [l4]; omega), if_pos (by simp [l4]; omega), if_pos (by simp [l4, l5]; omega), if_pos (by simp), if_pos hi]
      unfold form1 form2 form3
      simp [List.append_assoc]
    · rw [weekF_not (fun h => hi h.2), if_neg (by decide), if_neg hi]
      unfold form1 form2
      simp [List.append_assoc]
  · rw [dateF_not hn, if_neg hn]
    rfl
end Go.Proofs.YtcinojbfjiohjaaGreatDoor.Civ
end

section
namespace Go.Proofs.YtcinojbfjiohjaaGreatDoor.PPrintTells
open Go.RowKit Go.Proofs.YtcinojbfjiohjaaGreatDoorW.PrintWords Go.Proofs.YtcinojbfjiohjaaGreatDoorW.PrintLast Go.Proofs.YtcinojbfjiohjaaGreatDoorW.PrintMore
attribute [local go_sem] max2_int min2_int max_two min_two max_three min_three max_four min_four   -- for this text's walks alone
set_option linter.unusedVariables false
set_option linter.unusedSimpArgs false
end Go.Proofs.YtcinojbfjiohjaaGreatDoor.PPrintTells
end

section
namespace Go.Proofs.YtcinojbfjiohjaaGreatDoor.Civ
open Go Go.RowKit Go.Proofs.YtcinojbfjiohjaaGreatDoor.PPrintTells Go.Proofs.YtcinojbfjiohjaaGreatDoorW.PrintWords Go.Proofs.YtcinojbfjiohjaaGreatDoorW.PrintLast Go.Proofs.YtcinojbfjiohjaaGreatDoorW.PrintMore Go.Proofs.YtcinojbfjiohjaaGreatDoor.Ex
set_option linter.unusedVariables false
set_option linter.unusedSimpArgs false
theorem bt_toB (l : List UInt8) (i : Nat) (h : i < l.length) : bt (toB l) (i : Nat) = (l[i].toNat : Int) := by
  unfold bt
  have hs : ((i : Nat) : Int).toNat < (toB l).size := by rw [texts_bytes]; omega
  rw [dif_pos hs]
  have : (toB l)[((i : Nat) : Int).toNat]'hs = l[i] := by
    rfl
  exact congrArg (fun x : UInt8 => (x.toNat : Int)) this
theorem toList_toB (l : List UInt8) : (toB l).toList = l := by rw [toList_data']; exact toB_list l
end Go.Proofs.YtcinojbfjiohjaaGreatDoor.Civ
end

section
namespace Go.Proofs.YtcinojbfjiohjaaGreatDoor.PPrintTells
open Go.RowKit Go.Proofs.YtcinojbfjiohjaaGreatDoorW.PrintWords Go.Proofs.YtcinojbfjiohjaaGreatDoorW.PrintLast Go.Proofs.YtcinojbfjiohjaaGreatDoorW.PrintMore
attribute [local go_sem] max2_int min2_int max_two min_two max_three min_three max_four min_four   -- for this text's walks alone
set_option linter.unusedVariables false
set_option linter.unusedSimpArgs false
end Go.Proofs.YtcinojbfjiohjaaGreatDoor.PPrintTells
end

section
namespace Go.Proofs.YtcinojbfjiohjaaGreatDoor.Lx
open Go Go.RowKit Go.Proofs.YtcinojbfjiohjaaGreatDoor.PPrintTells Go.Proofs.YtcinojbfjiohjaaGreatDoor.Ex Go.Proofs.YtcinojbfjiohjaaGreatDoor.Civ Go.Proofs.YtcinojbfjiohjaaGreatDoorW.PrintWords Go.Proofs.YtcinojbfjiohjaaGreatDoorW.PrintLast Go.Proofs.YtcinojbfjiohjaaGreatDoorW.PrintMore
set_option linter.unusedVariables false
set_option linter.unusedSimpArgs false
theorem dec_one {u : Nat} (h : u < 10) : Lib.decDigits u = [UInt8.ofNat (48 + u)] := by rw [Lib.decDigits, dif_pos h]
theorem dec_more {u : Nat} (h : ¬ u < 10) : Lib.decDigits u = Lib.decDigits (u / 10) ++ [UInt8.ofNat (48 + u % 10)] := by rw [Lib.decDigits, dif_neg h]
end Go.Proofs.YtcinojbfjiohjaaGreatDoor.Lx
end

section
namespace Go.Proofs.YtcinojbfjiohjaaGreatDoor.Lx
open Go Go.RowKit Go.Proofs.YtcinojbfjiohjaaGreatDoor.PPrintTells Go.Proofs.YtcinojbfjiohjaaGreatDoor.Ex Go.Proofs.YtcinojbfjiohjaaGreatDoor.Civ
set_option linter.unusedVariables false
set_option linter.unusedSimpArgs false
end Go.Proofs.YtcinojbfjiohjaaGreatDoor.Lx
end
