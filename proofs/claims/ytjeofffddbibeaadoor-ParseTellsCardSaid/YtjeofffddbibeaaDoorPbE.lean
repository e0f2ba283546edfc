/-
  Part 5 of what the row stands on, put together by a program: PPar11, PPar12, PPar13, RdP, RdA.
-/
import Derived.Test.YtjeofffddbibeaaDoorPbD
section
namespace Go.Proofs.YtjeofffddbibeaaDoor.PParseTells
open Go.RowKit Go.Proofs.YtjeofffddbibeaaDoorW.PrintWords Go.Proofs.YtjeofffddbibeaaDoorW.PrintLast Go.Proofs.YtjeofffddbibeaaDoorW.PrintMore
attribute [local go_sem] max2_int min2_int max_two min_two max_three min_three max_four min_four   -- for this text's walks alone
set_option linter.unusedVariables false
set_option linter.unusedSimpArgs false
def epactref11_Op.l0 : Nat → ByteArray → List ByteArray → Int → Option (Int × Bool)
  | 0, _, _, _ => none
  | k + 1, x0, x4, x5 => if x5 < (x4.length : Int) then (if 0 ≤ x5 then (if (rdOf ByteArray.empty x4 x5).toList = x0.toList then (some ((x5) % 256, true)) else (epactref11_Op.l0 k x0 x4 (wrap64 (x5 + 1)))) else (none)) else (some (0, false))
def epactref11_Op.f (k : Nat) (a0 : ByteArray) : Option (Int × Bool) := (epactref11_Ops.f).bind fun t275 => (epactref11_Op.l0 k a0 t275 1)
set_option maxHeartbeats 8000000 in
set_option maxRecDepth 100000 in
theorem epactref11_Op.calls (k : Nat) (a0 : ByteArray) (r1 : Int) (r2 : Bool) (w : World) (h : epactref11_Op.f k a0 = some (r1, r2)) :
    Calls Tryd.prog 33 #[.string a0] w fun e w' => e = .returned (.tuple #[.int .u8 r1, .bool r2]) ∧ Below w.heap.size w w' := by
  have HB := Aside0.mk (Below.refl w.heap.size w)
  have H : ((epactref11_Ops.f).bind fun t275 => (epactref11_Op.l0 k a0 t275 1)) = some (r1, r2) := h
  clear h
  replace H := Option.bind_eq_some_iff.mp H
  obtain ⟨t275, A20, H⟩ := H
  replace H : (epactref11_Op.l0 k a0 t275 1) = some (r1, r2) := H
  have A2 := Aside0.mk A20
  clear A20
  have H' := Aside0.mk H
  clear H
  go_enter Tryd.func33, Tryd.ntmps33
  go_wp2_with (first | ((with_reducible refine gate_callee (f := 62) rfl ?_); refine goesL_ (some 6) rfl rfl Tryd.func62 (by kernel_rfl) rfl #[] rfl (by (try simp only [List.map_toArray, List.map_cons, List.map_nil]); first | done | rfl | (simp only [List.length_drop, List.length_take]; rfl)) ?_; (with_reducible refine (epactref11_Ops.calls  t275 _ A2.out).mono ?_); rintro e w3 ⟨v276, rfl, ho0, hb⟩; refine ⟨_, rfl, ?_⟩; have n0_ := Aside0.mk (Kd.R_lower ho0 (below_size (by repeat (first | (with_reducible first | exact HB.out | apply below_alloc | apply pw_below_drewN | apply below_drew1) | exact HB.out)))); have n1_ := Aside0.mk (below_step (by repeat (first | (with_reducible first | exact HB.out | apply below_alloc | apply pw_below_drewN | apply below_drew1) | exact HB.out)) hb); clear HB; have HO277 := n0_; have HB := n1_; clear n0_ n1_; (try clear hb); (try clear hb2); (try clear hk); (try clear hi); (try clear ho0)))
  go_loopg [5] k (fun kq v5 w' => ∃ (x5_1 : Int), v5 = .int .i64 x5_1 ∧ Aside0 (epactref11_Op.l0 kq a0 t275 x5_1 = some (r1, r2)) ∧ Aside0 (kq ≤ k) ∧ Aside0 (Kd.R Kd.string 9 w' w.heap.size (fun _ => True) v276 t275) ∧ Aside0 (Below w.heap.size w w'))
  case atStart => exact ⟨(1), (by first | rfl | (simp; done) | (simp [*]; done)), H', ⟨Nat.le_refl _⟩, ⟨by (with_reducible repeat (first | apply Kd.R_alloc | apply Kd.R_drewN | apply Kd.R_drew)); exact HO277.out⟩, ⟨by repeat (first | (with_reducible first | exact HB.out | apply below_alloc | apply pw_below_drewN | apply below_drew1) | exact HB.out)⟩⟩
  case round =>
    clear H'
    try clear p2
    try clear c3
    obtain ⟨x5_1, rfl, HA, HK1, HO_4, HB⟩ := hrel
    cases gk with
    | zero => exact absurd HA.out (by simp [epactref11_Op.l0])
    | succ k1 =>
      have H := HA.out
      clear HA
      simp only [epactref11_Op.l0] at H
      by_cases c4 : x5_1 < (t275.length : Int)
      · rw [if_pos c4] at H
        have c4b0 : decide (x5_1 < (t275.length : Int)) = true := decide_eq_true c4
        clear c4
        by_cases c5 : 0 ≤ x5_1
        · rw [if_pos c5] at H
          have c5b0 : decide (0 ≤ x5_1) = true := decide_eq_true c5
          clear c5
          by_cases c6 : (rdOf ByteArray.empty t275 x5_1).toList = a0.toList
          · rw [if_pos c6] at H
            have c6b0 : ((rdOf ByteArray.empty t275 x5_1).toList == a0.toList) = true := beq_iff_eq.mpr c6
            have c6b1 : ((rdOf ByteArray.empty t275 x5_1).toList != a0.toList) = false := bne_eq_false_iff_eq.mpr c6
            clear c6
            simp only [Option.some.injEq, Prod.mk.injEq] at H
            obtain ⟨rfl, rfl⟩ := H
            obtain ⟨Ao7, co7, eo7⟩ := Kd.R_slice HO_4.out
            subst eo7
            have p278 : 0 ≤ (x5_1 : Int) := of_decide_eq_true (by first | (with_reducible assumption) | assumption)
            have q278 : x5_1 < (t275.length : Int) := of_decide_eq_true (by first | (with_reducible assumption) | assumption)
            obtain ⟨ad278, e278, hx278_0⟩ := Kd.at_string (Kd.R_reads' HO_4.out).2.2 x5_1 p278 q278
            cases e278
            replace p278 := eq_true p278
            replace q278 := eq_true q278
            go_wp2
            go_ret2
            exact ⟨by first | rfl | (simp [errW_none, errW_some] <;> rfl) | (simp [*, errW_none, errW_some] <;> rfl), by repeat (first | (with_reducible first | exact HB.out | apply below_alloc | apply pw_below_drewN | apply below_drew1) | exact HB.out)⟩
          · rw [if_neg c6] at H
            have c6b0 : ((rdOf ByteArray.empty t275 x5_1).toList == a0.toList) = false := beq_eq_false_iff_ne.mpr c6
            have c6b1 : ((rdOf ByteArray.empty t275 x5_1).toList != a0.toList) = true := bne_iff_ne.mpr c6
            have H' := Aside0.mk H
            clear H
            obtain ⟨Ao8, co8, eo8⟩ := Kd.R_slice HO_4.out
            subst eo8
            have p278 : 0 ≤ (x5_1 : Int) := of_decide_eq_true (by first | (with_reducible assumption) | assumption)
            have q278 : x5_1 < (t275.length : Int) := of_decide_eq_true (by first | (with_reducible assumption) | assumption)
            obtain ⟨ad278, e278, hx278_0⟩ := Kd.at_string (Kd.R_reads' HO_4.out).2.2 x5_1 p278 q278
            cases e278
            replace p278 := eq_true p278
            replace q278 := eq_true q278
            go_wp2
            go_roundg k1
            case measure => have := HK1.out; omega
            case rel => exact ⟨(wrap64 (x5_1 + 1)), (by first | rfl | (simp; done) | (simp [*]; done)), H', ⟨by have := HK1.out; omega⟩, ⟨by (with_reducible repeat (first | apply Kd.R_alloc | apply Kd.R_drewN | apply Kd.R_drew)); exact HO_4.out⟩, ⟨by repeat (first | (with_reducible first | exact HB.out | apply below_alloc | apply pw_below_drewN | apply below_drew1) | exact HB.out)⟩⟩
        · rw [if_neg c5] at H
          exact absurd H (by simp)
      · rw [if_neg c4] at H
        have c4b0 : decide (x5_1 < (t275.length : Int)) = false := decide_eq_false c4
        clear c4
        simp only [Option.some.injEq, Prod.mk.injEq] at H
        obtain ⟨rfl, rfl⟩ := H
        obtain ⟨Ao9, co9, eo9⟩ := Kd.R_slice HO_4.out
        subst eo9
        go_wp2
        go_ret2
        exact ⟨by first | rfl | (simp [errW_none, errW_some] <;> rfl) | (simp [*, errW_none, errW_some] <;> rfl), by repeat (first | (with_reducible first | exact HB.out | apply below_alloc | apply pw_below_drewN | apply below_drew1) | exact HB.out)⟩
mutual
def epactref11_Shape.j0 : Nat → ByteArray → Bool → Option (ByteArray × Bool)
  | 0, _, _ => none
  | k + 1, x4, x7 => if x7 = true then (some ((⟨#[110]⟩ : ByteArray), true)) else (if x4.toList = ([101, 120, 116, 101, 110, 116] : List UInt8) then (epactref11_Shape.j1 k x4 (x4.toList == ([101, 120, 116, 101, 110, 116] : List UInt8))) else (if x4.toList = ([103, 114, 97, 110, 117, 108, 101] : List UInt8) then (epactref11_Shape.j1 k x4 (x4.toList == ([103, 114, 97, 110, 117, 108, 101] : List UInt8))) else (if x4.toList = ([110, 101, 120, 116] : List UInt8) then (epactref11_Shape.j1 k x4 (x4.toList == ([110, 101, 120, 116] : List UInt8))) else (if x4.toList = ([112, 114, 101, 118] : List UInt8) then (epactref11_Shape.j1 k x4 (x4.toList == ([112, 114, 101, 118] : List UInt8))) else (epactref11_Shape.j1 k x4 (x4.toList == ([115, 112, 97, 110] : List UInt8)))))))
def epactref11_Shape.j1 : Nat → ByteArray → Bool → Option (ByteArray × Bool)
  | 0, _, _ => none
  | k + 1, x4, x12 => if x12 = true then (some ((⟨#[110, 105]⟩ : ByteArray), true)) else (if x4.toList = ([114, 101, 108] : List UInt8) then (some ((⟨#[110, 110]⟩ : ByteArray), true)) else (if x4.toList = ([99, 111, 118, 101, 114] : List UInt8) then (some ((⟨#[110, 110, 105]⟩ : ByteArray), true)) else (if x4.toList = ([98, 111, 117, 110, 100] : List UInt8) then (some ((⟨#[110, 110, 110, 114]⟩ : ByteArray), true)) else (if x4.toList = ([100, 97, 116, 101] : List UInt8) then (some ((⟨#[105]⟩ : ByteArray), true)) else (if x4.toList = ([115, 111, 108, 118, 101] : List UInt8) then (some ((⟨#[105, 105, 105]⟩ : ByteArray), true)) else (if x4.toList = ([110, 101, 116] : List UInt8) then (some ((⟨#[]⟩ : ByteArray), true)) else (if x4.toList = ([105, 110, 102, 101, 114] : List UInt8) then (some ((⟨#[]⟩ : ByteArray), true)) else (if x4.toList = ([114, 101, 115, 101, 116] : List UInt8) then (some ((⟨#[]⟩ : ByteArray), true)) else (some ((⟨#[]⟩ : ByteArray), false))))))))))
end
def epactref11_Shape.f (k : Nat) (a0 : ByteArray) : Option (ByteArray × Bool) := if a0.toList = ([100, 101, 102, 105, 110, 101] : List UInt8) then (some ((⟨#[110, 61, 101]⟩ : ByteArray), true)) else (if a0.toList = ([100, 114, 111, 112] : List UInt8) then (epactref11_Shape.j0 k a0 (a0.toList == ([100, 114, 111, 112] : List UInt8))) else (if a0.toList = ([115, 104, 111, 119] : List UInt8) then (epactref11_Shape.j0 k a0 (a0.toList == ([115, 104, 111, 119] : List UInt8))) else (if a0.toList = ([102, 111, 114, 109] : List UInt8) then (epactref11_Shape.j0 k a0 (a0.toList == ([102, 111, 114, 109] : List UInt8))) else (epactref11_Shape.j0 k a0 (a0.toList == ([118, 97, 114] : List UInt8))))))
set_option maxHeartbeats 8000000 in
set_option maxRecDepth 100000 in
theorem epactref11_Shape.calls (k : Nat) (a0 : ByteArray) (r1 : ByteArray) (r2 : Bool) (w : World) (h : epactref11_Shape.f k a0 = some (r1, r2)) :
    Calls Tryd.prog 35 #[.string a0] w fun e w' => e = .returned (.tuple #[.string r1, .bool r2]) ∧ Drawn0 w w' := by
  have H : (if a0.toList = ([100, 101, 102, 105, 110, 101] : List UInt8) then (some ((⟨#[110, 61, 101]⟩ : ByteArray), true)) else (if a0.toList = ([100, 114, 111, 112] : List UInt8) then (epactref11_Shape.j0 k a0 (a0.toList == ([100, 114, 111, 112] : List UInt8))) else (if a0.toList = ([115, 104, 111, 119] : List UInt8) then (epactref11_Shape.j0 k a0 (a0.toList == ([115, 104, 111, 119] : List UInt8))) else (if a0.toList = ([102, 111, 114, 109] : List UInt8) then (epactref11_Shape.j0 k a0 (a0.toList == ([102, 111, 114, 109] : List UInt8))) else (epactref11_Shape.j0 k a0 (a0.toList == ([118, 97, 114] : List UInt8))))))) = some (r1, r2) := h
  clear h
  by_cases c2 : a0.toList = ([100, 101, 102, 105, 110, 101] : List UInt8)
  · rw [if_pos c2] at H
    have c2b0 : (a0.toList == ([100, 101, 102, 105, 110, 101] : List UInt8)) = true := beq_iff_eq.mpr c2
    have c2b1 : (a0.toList != ([100, 101, 102, 105, 110, 101] : List UInt8)) = false := bne_eq_false_iff_eq.mpr c2
    clear c2
    simp only [Option.some.injEq, Prod.mk.injEq] at H
    obtain ⟨rfl, rfl⟩ := H
    go_enter Tryd.func35, Tryd.ntmps35
    go_wp2
    go_ret2
    exact ⟨by first | rfl | (simp; done) | (simp [*]; done), by repeat (first | exact Drawn0.refl _ | apply Drawn0.step)⟩
  · rw [if_neg c2] at H
    have c2b0 : (a0.toList == ([100, 101, 102, 105, 110, 101] : List UInt8)) = false := beq_eq_false_iff_ne.mpr c2
    have c2b1 : (a0.toList != ([100, 101, 102, 105, 110, 101] : List UInt8)) = true := bne_iff_ne.mpr c2
    have HC3 := Aside0.mk H
    clear H
    go_enter Tryd.func35, Tryd.ntmps35
    go_upto_if 7 with (fail)
    go_cut [7] (fun v7 wc => ∃ (kq : Nat) (x7_2 : Bool), v7 = .bool x7_2 ∧ Aside0 (epactref11_Shape.j0 kq a0 x7_2 = some (r1, r2)) ∧ Aside0 (kq ≤ k) ∧ Drawn0 w wc)
    case first =>
      have H := HC3.out
      clear HC3
      by_cases c4 : a0.toList = ([100, 114, 111, 112] : List UInt8)
      · rw [if_pos c4] at H
        have c4b0 : (a0.toList == ([100, 114, 111, 112] : List UInt8)) = true := beq_iff_eq.mpr c4
        have c4b1 : (a0.toList != ([100, 114, 111, 112] : List UInt8)) = false := bne_eq_false_iff_eq.mpr c4
        clear c4
        (first | rw [c4b0] | (simp only [i64_w, i32_w]; rw [c4b0]) | skip)
        have H' := Aside0.mk H
        clear H
        go_wp2
        go_meet
        case rel => exact ⟨_, ((a0.toList == ([100, 114, 111, 112] : List UInt8))), (by first | rfl | (simp; done) | (simp [*]; done)), H', ⟨by first | omega | exact Nat.le_refl _⟩, by repeat (first | exact Drawn0.refl _ | apply Drawn0.step)⟩
      · rw [if_neg c4] at H
        have c4b0 : (a0.toList == ([100, 114, 111, 112] : List UInt8)) = false := beq_eq_false_iff_ne.mpr c4
        have c4b1 : (a0.toList != ([100, 114, 111, 112] : List UInt8)) = true := bne_iff_ne.mpr c4
        (first | rw [c4b0] | (simp only [i64_w, i32_w]; rw [c4b0]) | skip)
        by_cases c5 : a0.toList = ([115, 104, 111, 119] : List UInt8)
        · rw [if_pos c5] at H
          have c5b0 : (a0.toList == ([115, 104, 111, 119] : List UInt8)) = true := beq_iff_eq.mpr c5
          have c5b1 : (a0.toList != ([115, 104, 111, 119] : List UInt8)) = false := bne_eq_false_iff_eq.mpr c5
          clear c5
          have H' := Aside0.mk H
          clear H
          go_wp2
          go_meet
          case rel => exact ⟨_, ((a0.toList == ([115, 104, 111, 119] : List UInt8))), (by first | rfl | (simp; done) | (simp [*]; done)), H', ⟨by first | omega | exact Nat.le_refl _⟩, by repeat (first | exact Drawn0.refl _ | apply Drawn0.step)⟩
        · rw [if_neg c5] at H
          have c5b0 : (a0.toList == ([115, 104, 111, 119] : List UInt8)) = false := beq_eq_false_iff_ne.mpr c5
          have c5b1 : (a0.toList != ([115, 104, 111, 119] : List UInt8)) = true := bne_iff_ne.mpr c5
          by_cases c6 : a0.toList = ([102, 111, 114, 109] : List UInt8)
          · rw [if_pos c6] at H
            have c6b0 : (a0.toList == ([102, 111, 114, 109] : List UInt8)) = true := beq_iff_eq.mpr c6
            have c6b1 : (a0.toList != ([102, 111, 114, 109] : List UInt8)) = false := bne_eq_false_iff_eq.mpr c6
            clear c6
            have H' := Aside0.mk H
            clear H
            go_wp2
            go_meet
            case rel => exact ⟨_, ((a0.toList == ([102, 111, 114, 109] : List UInt8))), (by first | rfl | (simp; done) | (simp [*]; done)), H', ⟨by first | omega | exact Nat.le_refl _⟩, by repeat (first | exact Drawn0.refl _ | apply Drawn0.step)⟩
          · rw [if_neg c6] at H
            have c6b0 : (a0.toList == ([102, 111, 114, 109] : List UInt8)) = false := beq_eq_false_iff_ne.mpr c6
            have c6b1 : (a0.toList != ([102, 111, 114, 109] : List UInt8)) = true := bne_iff_ne.mpr c6
            have H' := Aside0.mk H
            clear H
            go_wp2
            go_meet
            case rel => exact ⟨_, ((a0.toList == ([118, 97, 114] : List UInt8))), (by first | rfl | (simp; done) | (simp [*]; done)), H', ⟨by first | omega | exact Nat.le_refl _⟩, by repeat (first | exact Drawn0.refl _ | apply Drawn0.step)⟩
    case rest =>
      clear HC3
      try clear c2
      try clear c2b0
      try clear c2b1
      try clear p2
      try clear c3
      try clear c4
      try clear c4b0
      try clear c4b1
      try clear c5
      try clear c5b0
      try clear c5b1
      try clear c6
      try clear c6b0
      try clear c6b1
      obtain ⟨kq, x7_2, rfl, HA, HJ2, ⟨mc2, rfl⟩⟩ := hcut
      cases kq with
      | zero => exact absurd HA.out (by simp [epactref11_Shape.j0])
      | succ kj2 =>
        have H := HA.out
        clear HA
        simp only [epactref11_Shape.j0] at H
        by_cases c7 : x7_2 = true
        · subst c7
          have H1 : (some ((⟨#[110]⟩ : ByteArray), true)) = some (r1, r2) := by rw [if_pos rfl] at H; exact H
          clear H
          have H := H1
          clear H1
          simp only [Option.some.injEq, Prod.mk.injEq] at H
          obtain ⟨rfl, rfl⟩ := H
          go_wp2
          go_ret2
          exact ⟨by first | rfl | (simp; done) | (simp [*]; done), by repeat (first | exact Drawn0.refl _ | apply Drawn0.step)⟩
        · replace c7 := Bool.eq_false_iff.mpr c7
          subst c7
          have H1 : (if a0.toList = ([101, 120, 116, 101, 110, 116] : List UInt8) then (epactref11_Shape.j1 kj2 a0 (a0.toList == ([101, 120, 116, 101, 110, 116] : List UInt8))) else (if a0.toList = ([103, 114, 97, 110, 117, 108, 101] : List UInt8) then (epactref11_Shape.j1 kj2 a0 (a0.toList == ([103, 114, 97, 110, 117, 108, 101] : List UInt8))) else (if a0.toList = ([110, 101, 120, 116] : List UInt8) then (epactref11_Shape.j1 kj2 a0 (a0.toList == ([110, 101, 120, 116] : List UInt8))) else (if a0.toList = ([112, 114, 101, 118] : List UInt8) then (epactref11_Shape.j1 kj2 a0 (a0.toList == ([112, 114, 101, 118] : List UInt8))) else (epactref11_Shape.j1 kj2 a0 (a0.toList == ([115, 112, 97, 110] : List UInt8))))))) = some (r1, r2) := by rw [if_neg (show ¬ (false = true) by decide)] at H; exact H
          clear H
          have H := H1
          clear H1
          have HC8 := Aside0.mk H
          clear H
          go_upto_if 12 with (fail)
          go_cut [12] (fun v12 wc => ∃ (kq : Nat) (x12_7 : Bool), v12 = .bool x12_7 ∧ Aside0 (epactref11_Shape.j1 kq a0 x12_7 = some (r1, r2)) ∧ Aside0 (kq ≤ kj2) ∧ Drawn0 w wc)
          case first =>
            have H := HC8.out
            clear HC8
            by_cases c9 : a0.toList = ([101, 120, 116, 101, 110, 116] : List UInt8)
            · rw [if_pos c9] at H
              have c9b0 : (a0.toList == ([101, 120, 116, 101, 110, 116] : List UInt8)) = true := beq_iff_eq.mpr c9
              have c9b1 : (a0.toList != ([101, 120, 116, 101, 110, 116] : List UInt8)) = false := bne_eq_false_iff_eq.mpr c9
              clear c9
              (first | rw [c9b0] | (simp only [i64_w, i32_w]; rw [c9b0]) | skip)
              have H' := Aside0.mk H
              clear H
              go_wp2
              go_meet
              case rel => exact ⟨_, ((a0.toList == ([101, 120, 116, 101, 110, 116] : List UInt8))), (by first | rfl | (simp; done) | (simp [*]; done)), H', ⟨by have := HJ2.out; first | omega | exact Nat.le_refl _⟩, by repeat (first | exact Drawn0.refl _ | apply Drawn0.step)⟩
            · rw [if_neg c9] at H
              have c9b0 : (a0.toList == ([101, 120, 116, 101, 110, 116] : List UInt8)) = false := beq_eq_false_iff_ne.mpr c9
              have c9b1 : (a0.toList != ([101, 120, 116, 101, 110, 116] : List UInt8)) = true := bne_iff_ne.mpr c9
              (first | rw [c9b0] | (simp only [i64_w, i32_w]; rw [c9b0]) | skip)
              by_cases c10 : a0.toList = ([103, 114, 97, 110, 117, 108, 101] : List UInt8)
              · rw [if_pos c10] at H
                have c10b0 : (a0.toList == ([103, 114, 97, 110, 117, 108, 101] : List UInt8)) = true := beq_iff_eq.mpr c10
                have c10b1 : (a0.toList != ([103, 114, 97, 110, 117, 108, 101] : List UInt8)) = false := bne_eq_false_iff_eq.mpr c10
                clear c10
                have H' := Aside0.mk H
                clear H
                go_wp2
                go_meet
                case rel => exact ⟨_, ((a0.toList == ([103, 114, 97, 110, 117, 108, 101] : List UInt8))), (by first | rfl | (simp; done) | (simp [*]; done)), H', ⟨by have := HJ2.out; first | omega | exact Nat.le_refl _⟩, by repeat (first | exact Drawn0.refl _ | apply Drawn0.step)⟩
              · rw [if_neg c10] at H
                have c10b0 : (a0.toList == ([103, 114, 97, 110, 117, 108, 101] : List UInt8)) = false := beq_eq_false_iff_ne.mpr c10
                have c10b1 : (a0.toList != ([103, 114, 97, 110, 117, 108, 101] : List UInt8)) = true := bne_iff_ne.mpr c10
                by_cases c11 : a0.toList = ([110, 101, 120, 116] : List UInt8)
                · rw [if_pos c11] at H
                  have c11b0 : (a0.toList == ([110, 101, 120, 116] : List UInt8)) = true := beq_iff_eq.mpr c11
                  have c11b1 : (a0.toList != ([110, 101, 120, 116] : List UInt8)) = false := bne_eq_false_iff_eq.mpr c11
                  clear c11
                  have H' := Aside0.mk H
                  clear H
                  go_wp2
                  go_meet
                  case rel => exact ⟨_, ((a0.toList == ([110, 101, 120, 116] : List UInt8))), (by first | rfl | (simp; done) | (simp [*]; done)), H', ⟨by have := HJ2.out; first | omega | exact Nat.le_refl _⟩, by repeat (first | exact Drawn0.refl _ | apply Drawn0.step)⟩
                · rw [if_neg c11] at H
                  have c11b0 : (a0.toList == ([110, 101, 120, 116] : List UInt8)) = false := beq_eq_false_iff_ne.mpr c11
                  have c11b1 : (a0.toList != ([110, 101, 120, 116] : List UInt8)) = true := bne_iff_ne.mpr c11
                  by_cases c12 : a0.toList = ([112, 114, 101, 118] : List UInt8)
                  · rw [if_pos c12] at H
                    have c12b0 : (a0.toList == ([112, 114, 101, 118] : List UInt8)) = true := beq_iff_eq.mpr c12
                    have c12b1 : (a0.toList != ([112, 114, 101, 118] : List UInt8)) = false := bne_eq_false_iff_eq.mpr c12
                    clear c12
                    have H' := Aside0.mk H
                    clear H
                    go_wp2
                    go_meet
                    case rel => exact ⟨_, ((a0.toList == ([112, 114, 101, 118] : List UInt8))), (by first | rfl | (simp; done) | (simp [*]; done)), H', ⟨by have := HJ2.out; first | omega | exact Nat.le_refl _⟩, by repeat (first | exact Drawn0.refl _ | apply Drawn0.step)⟩
                  · rw [if_neg c12] at H
                    have c12b0 : (a0.toList == ([112, 114, 101, 118] : List UInt8)) = false := beq_eq_false_iff_ne.mpr c12
                    have c12b1 : (a0.toList != ([112, 114, 101, 118] : List UInt8)) = true := bne_iff_ne.mpr c12
                    have H' := Aside0.mk H
                    clear H
                    go_wp2
                    go_meet
                    case rel => exact ⟨_, ((a0.toList == ([115, 112, 97, 110] : List UInt8))), (by first | rfl | (simp; done) | (simp [*]; done)), H', ⟨by have := HJ2.out; first | omega | exact Nat.le_refl _⟩, by repeat (first | exact Drawn0.refl _ | apply Drawn0.step)⟩
          case rest =>
            clear HC8
            try clear c1
            try clear c2
            try clear c2b0
            try clear c2b1
            try clear p2
            try clear c3
            try clear c4
            try clear c4b0
            try clear c4b1
            try clear c5
            try clear c5b0
            try clear c5b1
            try clear c6
            try clear c6b0
            try clear c6b1
            try clear c7
            try clear c9
            try clear c9b0
            try clear c9b1
            try clear c10
            try clear c10b0
            try clear c10b1
            try clear c11
            try clear c11b0
            try clear c11b1
            try clear c12
            try clear c12b0
            try clear c12b1
            try clear p2
            obtain ⟨kq, x12_7, rfl, HA, HJ7, ⟨mc7, rfl⟩⟩ := hcut
            cases kq with
            | zero => exact absurd HA.out (by simp [epactref11_Shape.j1])
            | succ kj7 =>
              have H := HA.out
              clear HA
              simp only [epactref11_Shape.j1] at H
              by_cases c13 : x12_7 = true
              · subst c13
                have H1 : (some ((⟨#[110, 105]⟩ : ByteArray), true)) = some (r1, r2) := by rw [if_pos rfl] at H; exact H
                clear H
                have H := H1
                clear H1
                simp only [Option.some.injEq, Prod.mk.injEq] at H
                obtain ⟨rfl, rfl⟩ := H
                go_wp2
                go_ret2
                exact ⟨by first | rfl | (simp; done) | (simp [*]; done), by repeat (first | exact Drawn0.refl _ | apply Drawn0.step)⟩
              · replace c13 := Bool.eq_false_iff.mpr c13
                subst c13
                have H1 : (if a0.toList = ([114, 101, 108] : List UInt8) then (some ((⟨#[110, 110]⟩ : ByteArray), true)) else (if a0.toList = ([99, 111, 118, 101, 114] : List UInt8) then (some ((⟨#[110, 110, 105]⟩ : ByteArray), true)) else (if a0.toList = ([98, 111, 117, 110, 100] : List UInt8) then (some ((⟨#[110, 110, 110, 114]⟩ : ByteArray), true)) else (if a0.toList = ([100, 97, 116, 101] : List UInt8) then (some ((⟨#[105]⟩ : ByteArray), true)) else (if a0.toList = ([115, 111, 108, 118, 101] : List UInt8) then (some ((⟨#[105, 105, 105]⟩ : ByteArray), true)) else (if a0.toList = ([110, 101, 116] : List UInt8) then (some ((⟨#[]⟩ : ByteArray), true)) else (if a0.toList = ([105, 110, 102, 101, 114] : List UInt8) then (some ((⟨#[]⟩ : ByteArray), true)) else (if a0.toList = ([114, 101, 115, 101, 116] : List UInt8) then (some ((⟨#[]⟩ : ByteArray), true)) else (some ((⟨#[]⟩ : ByteArray), false)))))))))) = some (r1, r2) := by rw [if_neg (show ¬ (false = true) by decide)] at H; exact H
                clear H
                have H := H1
                clear H1
                by_cases c14 : a0.toList = ([114, 101, 108] : List UInt8)
                · rw [if_pos c14] at H
                  have c14b0 : (a0.toList == ([114, 101, 108] : List UInt8)) = true := beq_iff_eq.mpr c14
                  have c14b1 : (a0.toList != ([114, 101, 108] : List UInt8)) = false := bne_eq_false_iff_eq.mpr c14
                  clear c14
                  simp only [Option.some.injEq, Prod.mk.injEq] at H
                  obtain ⟨rfl, rfl⟩ := H
                  go_wp2
                  go_ret2
                  exact ⟨by first | rfl | (simp; done) | (simp [*]; done), by repeat (first | exact Drawn0.refl _ | apply Drawn0.step)⟩
                · rw [if_neg c14] at H
                  have c14b0 : (a0.toList == ([114, 101, 108] : List UInt8)) = false := beq_eq_false_iff_ne.mpr c14
                  have c14b1 : (a0.toList != ([114, 101, 108] : List UInt8)) = true := bne_iff_ne.mpr c14
                  by_cases c15 : a0.toList = ([99, 111, 118, 101, 114] : List UInt8)
                  · rw [if_pos c15] at H
                    have c15b0 : (a0.toList == ([99, 111, 118, 101, 114] : List UInt8)) = true := beq_iff_eq.mpr c15
                    have c15b1 : (a0.toList != ([99, 111, 118, 101, 114] : List UInt8)) = false := bne_eq_false_iff_eq.mpr c15
                    clear c15
                    simp only [Option.some.injEq, Prod.mk.injEq] at H
                    obtain ⟨rfl, rfl⟩ := H
                    go_wp2
                    go_ret2
                    exact ⟨by first | rfl | (simp; done) | (simp [*]; done), by repeat (first | exact Drawn0.refl _ | apply Drawn0.step)⟩
                  · rw [if_neg c15] at H
                    have c15b0 : (a0.toList == ([99, 111, 118, 101, 114] : List UInt8)) = false := beq_eq_false_iff_ne.mpr c15
                    have c15b1 : (a0.toList != ([99, 111, 118, 101, 114] : List UInt8)) = true := bne_iff_ne.mpr c15
                    by_cases c16 : a0.toList = ([98, 111, 117, 110, 100] : List UInt8)
                    · rw [if_pos c16] at H
                      have c16b0 : (a0.toList == ([98, 111, 117, 110, 100] : List UInt8)) = true := beq_iff_eq.mpr c16
                      have c16b1 : (a0.toList != ([98, 111, 117, 110, 100] : List UInt8)) = false := bne_eq_false_iff_eq.mpr c16
                      clear c16
                      simp only [Option.some.injEq, Prod.mk.injEq] at H
                      obtain ⟨rfl, rfl⟩ := H
                      go_wp2
                      go_ret2
                      exact ⟨by first | rfl | (simp; done) | (simp [*]; done), by repeat (first | exact Drawn0.refl _ | apply Drawn0.step)⟩
                    · rw [if_neg c16] at H
                      have c16b0 : (a0.toList == ([98, 111, 117, 110, 100] : List UInt8)) = false := beq_eq_false_iff_ne.mpr c16
                      have c16b1 : (a0.toList != ([98, 111, 117, 110, 100] : List UInt8)) = true := bne_iff_ne.mpr c16
                      by_cases c17 : a0.toList = ([100, 97, 116, 101] : List UInt8)
                      · rw [if_pos c17] at H
                        have c17b0 : (a0.toList == ([100, 97, 116, 101] : List UInt8)) = true := beq_iff_eq.mpr c17
                        have c17b1 : (a0.toList != ([100, 97, 116, 101] : List UInt8)) = false := bne_eq_false_iff_eq.mpr c17
                        clear c17
                        simp only [Option.some.injEq, Prod.mk.injEq] at H
                        obtain ⟨rfl, rfl⟩ := H
                        go_wp2
                        go_ret2
                        exact ⟨by first | rfl | (simp; done) | (simp [*]; done), by repeat (first | exact Drawn0.refl _ | apply Drawn0.step)⟩
                      · rw [if_neg c17] at H
                        have c17b0 : (a0.toList == ([100, 97, 116, 101] : List UInt8)) = false := beq_eq_false_iff_ne.mpr c17
                        have c17b1 : (a0.toList != ([100, 97, 116, 101] : List UInt8)) = true := bne_iff_ne.mpr c17
                        by_cases c18 : a0.toList = ([115, 111, 108, 118, 101] : List UInt8)
                        · rw [if_pos c18] at H
                          have c18b0 : (a0.toList == ([115, 111, 108, 118, 101] : List UInt8)) = true := beq_iff_eq.mpr c18
                          have c18b1 : (a0.toList != ([115, 111, 108, 118, 101] : List UInt8)) = false := bne_eq_false_iff_eq.mpr c18
                          clear c18
                          simp only [Option.some.injEq, Prod.mk.injEq] at H
                          obtain ⟨rfl, rfl⟩ := H
                          go_wp2
                          go_ret2
                          exact ⟨by first | rfl | (simp; done) | (simp [*]; done), by repeat (first | exact Drawn0.refl _ | apply Drawn0.step)⟩
                        · rw [if_neg c18] at H
                          have c18b0 : (a0.toList == ([115, 111, 108, 118, 101] : List UInt8)) = false := beq_eq_false_iff_ne.mpr c18
                          have c18b1 : (a0.toList != ([115, 111, 108, 118, 101] : List UInt8)) = true := bne_iff_ne.mpr c18
                          by_cases c19 : a0.toList = ([110, 101, 116] : List UInt8)
                          · rw [if_pos c19] at H
                            have c19b0 : (a0.toList == ([110, 101, 116] : List UInt8)) = true := beq_iff_eq.mpr c19
                            have c19b1 : (a0.toList != ([110, 101, 116] : List UInt8)) = false := bne_eq_false_iff_eq.mpr c19
                            clear c19
                            simp only [Option.some.injEq, Prod.mk.injEq] at H
                            obtain ⟨rfl, rfl⟩ := H
                            go_wp2
                            go_ret2
                            exact ⟨by first | rfl | (simp; done) | (simp [*]; done), by repeat (first | exact Drawn0.refl _ | apply Drawn0.step)⟩
                          · rw [if_neg c19] at H
                            have c19b0 : (a0.toList == ([110, 101, 116] : List UInt8)) = false := beq_eq_false_iff_ne.mpr c19
                            have c19b1 : (a0.toList != ([110, 101, 116] : List UInt8)) = true := bne_iff_ne.mpr c19
                            by_cases c20 : a0.toList = ([105, 110, 102, 101, 114] : List UInt8)
                            · rw [if_pos c20] at H
                              have c20b0 : (a0.toList == ([105, 110, 102, 101, 114] : List UInt8)) = true := beq_iff_eq.mpr c20
                              have c20b1 : (a0.toList != ([105, 110, 102, 101, 114] : List UInt8)) = false := bne_eq_false_iff_eq.mpr c20
                              clear c20
                              simp only [Option.some.injEq, Prod.mk.injEq] at H
                              obtain ⟨rfl, rfl⟩ := H
                              go_wp2
                              go_ret2
                              exact ⟨by first | rfl | (simp; done) | (simp [*]; done), by repeat (first | exact Drawn0.refl _ | apply Drawn0.step)⟩
                            · rw [if_neg c20] at H
                              have c20b0 : (a0.toList == ([105, 110, 102, 101, 114] : List UInt8)) = false := beq_eq_false_iff_ne.mpr c20
                              have c20b1 : (a0.toList != ([105, 110, 102, 101, 114] : List UInt8)) = true := bne_iff_ne.mpr c20
                              by_cases c21 : a0.toList = ([114, 101, 115, 101, 116] : List UInt8)
                              · rw [if_pos c21] at H
                                have c21b0 : (a0.toList == ([114, 101, 115, 101, 116] : List UInt8)) = true := beq_iff_eq.mpr c21
                                have c21b1 : (a0.toList != ([114, 101, 115, 101, 116] : List UInt8)) = false := bne_eq_false_iff_eq.mpr c21
                                clear c21
                                simp only [Option.some.injEq, Prod.mk.injEq] at H
                                obtain ⟨rfl, rfl⟩ := H
                                go_wp2
                                go_ret2
                                exact ⟨by first | rfl | (simp; done) | (simp [*]; done), by repeat (first | exact Drawn0.refl _ | apply Drawn0.step)⟩
                              · rw [if_neg c21] at H
                                have c21b0 : (a0.toList == ([114, 101, 115, 101, 116] : List UInt8)) = false := beq_eq_false_iff_ne.mpr c21
                                have c21b1 : (a0.toList != ([114, 101, 115, 101, 116] : List UInt8)) = true := bne_iff_ne.mpr c21
                                simp only [Option.some.injEq, Prod.mk.injEq] at H
                                obtain ⟨rfl, rfl⟩ := H
                                go_wp2
                                go_ret2
                                exact ⟨by first | rfl | (simp; done) | (simp [*]; done), by repeat (first | exact Drawn0.refl _ | apply Drawn0.step)⟩
mutual
def epactref09_kind.j0 : Nat → Int → Bool → Option (Int × Int)
  | 0, _, _ => none
  | k + 1, x4, x7 => if x7 = true then (some (1, 1)) else (if x4 = 3 then (some (2, 1)) else (if x4 = 4 then (some (3, 2)) else (if x4 = 7 then (epactref09_kind.j1 k x4 (x4 == 7)) else (epactref09_kind.j1 k x4 (x4 == 9)))))
def epactref09_kind.j1 : Nat → Int → Bool → Option (Int × Int)
  | 0, _, _ => none
  | k + 1, x4, x14 => if x14 = true then (some (2, 2)) else (if x4 = 5 then (some (0, 2)) else (if x4 = 6 then (some (0, 2)) else (if x4 = 8 then (some (0, 2)) else (if x4 = 10 then (some (0, 2)) else (if x4 = 11 then (some (0, 2)) else (if x4 = 12 then (some (0, 2)) else (some ((-1), 0))))))))
end
def epactref09_kind.f (k : Nat) (a0 : Int) : Option (Int × Int) := if a0 = 0 then (some (0, 0)) else (if a0 = 1 then (epactref09_kind.j0 k a0 (a0 == 1)) else (epactref09_kind.j0 k a0 (a0 == 2)))
set_option maxHeartbeats 8000000 in
set_option maxRecDepth 100000 in
theorem epactref09_kind.calls (k : Nat) (a0 : Int) (r1 : Int) (r2 : Int) (w : World) (h : epactref09_kind.f k a0 = some (r1, r2)) :
    Calls Tryd.prog 50 #[.int .u8 a0] w fun e w' => e = .returned (.tuple #[.int .i64 r1, .int .i64 r2]) ∧ Drawn0 w w' := by
  have H : (if a0 = 0 then (some (0, 0)) else (if a0 = 1 then (epactref09_kind.j0 k a0 (a0 == 1)) else (epactref09_kind.j0 k a0 (a0 == 2)))) = some (r1, r2) := h
  clear h
  by_cases c2 : a0 = 0
  · rw [if_pos c2] at H
    have c2b0 : (a0 == 0) = true := beq_iff_eq.mpr c2
    have c2b1 : (a0 != 0) = false := bne_eq_false_iff_eq.mpr c2
    clear c2
    simp only [Option.some.injEq, Prod.mk.injEq] at H
    obtain ⟨rfl, rfl⟩ := H
    go_enter Tryd.func50, Tryd.ntmps50
    go_wp2
    go_ret2
    exact ⟨by first | rfl | (simp; done) | (simp [*]; done), by repeat (first | exact Drawn0.refl _ | apply Drawn0.step)⟩
  · rw [if_neg c2] at H
    have c2b0 : (a0 == 0) = false := beq_eq_false_iff_ne.mpr c2
    have c2b1 : (a0 != 0) = true := bne_iff_ne.mpr c2
    have HC3 := Aside0.mk H
    clear H
    go_enter Tryd.func50, Tryd.ntmps50
    go_upto_if 7 with (fail)
    go_cut [7] (fun v7 wc => ∃ (kq : Nat) (x7_2 : Bool), v7 = .bool x7_2 ∧ Aside0 (epactref09_kind.j0 kq a0 x7_2 = some (r1, r2)) ∧ Aside0 (kq ≤ k) ∧ Drawn0 w wc)
    case first =>
      have H := HC3.out
      clear HC3
      by_cases c4 : a0 = 1
      · rw [if_pos c4] at H
        have c4b0 : (a0 == 1) = true := beq_iff_eq.mpr c4
        have c4b1 : (a0 != 1) = false := bne_eq_false_iff_eq.mpr c4
        clear c4
        (first | rw [c4b0] | (simp only [i64_w, i32_w]; rw [c4b0]) | skip)
        have H' := Aside0.mk H
        clear H
        go_wp2
        go_meet
        case rel => exact ⟨_, ((a0 == 1)), (by first | rfl | (simp; done) | (simp [*]; done)), H', ⟨by first | omega | exact Nat.le_refl _⟩, by repeat (first | exact Drawn0.refl _ | apply Drawn0.step)⟩
      · rw [if_neg c4] at H
        have c4b0 : (a0 == 1) = false := beq_eq_false_iff_ne.mpr c4
        have c4b1 : (a0 != 1) = true := bne_iff_ne.mpr c4
        (first | rw [c4b0] | (simp only [i64_w, i32_w]; rw [c4b0]) | skip)
        have H' := Aside0.mk H
        clear H
        go_wp2
        go_meet
        case rel => exact ⟨_, ((a0 == 2)), (by first | rfl | (simp; done) | (simp [*]; done)), H', ⟨by first | omega | exact Nat.le_refl _⟩, by repeat (first | exact Drawn0.refl _ | apply Drawn0.step)⟩
    case rest =>
      clear HC3
      try clear c2
      try clear c2b0
      try clear c2b1
      try clear p2
      try clear c4
      try clear c4b0
      try clear c4b1
      obtain ⟨kq, x7_2, rfl, HA, HJ2, ⟨mc2, rfl⟩⟩ := hcut
      cases kq with
      | zero => exact absurd HA.out (by simp [epactref09_kind.j0])
      | succ kj2 =>
        have H := HA.out
        clear HA
        simp only [epactref09_kind.j0] at H
        by_cases c5 : x7_2 = true
        · subst c5
          have H1 : (some (1, 1)) = some (r1, r2) := by rw [if_pos rfl] at H; exact H
          clear H
          have H := H1
          clear H1
          simp only [Option.some.injEq, Prod.mk.injEq] at H
          obtain ⟨rfl, rfl⟩ := H
          go_wp2
          go_ret2
          exact ⟨by first | rfl | (simp; done) | (simp [*]; done), by repeat (first | exact Drawn0.refl _ | apply Drawn0.step)⟩
        · replace c5 := Bool.eq_false_iff.mpr c5
          subst c5
          have H1 : (if a0 = 3 then (some (2, 1)) else (if a0 = 4 then (some (3, 2)) else (if a0 = 7 then (epactref09_kind.j1 kj2 a0 (a0 == 7)) else (epactref09_kind.j1 kj2 a0 (a0 == 9))))) = some (r1, r2) := by rw [if_neg (show ¬ (false = true) by decide)] at H; exact H
          clear H
          have H := H1
          clear H1
          by_cases c6 : a0 = 3
          · rw [if_pos c6] at H
            have c6b0 : (a0 == 3) = true := beq_iff_eq.mpr c6
            have c6b1 : (a0 != 3) = false := bne_eq_false_iff_eq.mpr c6
            clear c6
            simp only [Option.some.injEq, Prod.mk.injEq] at H
            obtain ⟨rfl, rfl⟩ := H
            go_wp2
            go_ret2
            exact ⟨by first | rfl | (simp; done) | (simp [*]; done), by repeat (first | exact Drawn0.refl _ | apply Drawn0.step)⟩
          · rw [if_neg c6] at H
            have c6b0 : (a0 == 3) = false := beq_eq_false_iff_ne.mpr c6
            have c6b1 : (a0 != 3) = true := bne_iff_ne.mpr c6
            by_cases c7 : a0 = 4
            · rw [if_pos c7] at H
              have c7b0 : (a0 == 4) = true := beq_iff_eq.mpr c7
              have c7b1 : (a0 != 4) = false := bne_eq_false_iff_eq.mpr c7
              clear c7
              simp only [Option.some.injEq, Prod.mk.injEq] at H
              obtain ⟨rfl, rfl⟩ := H
              go_wp2
              go_ret2
              exact ⟨by first | rfl | (simp; done) | (simp [*]; done), by repeat (first | exact Drawn0.refl _ | apply Drawn0.step)⟩
            · rw [if_neg c7] at H
              have c7b0 : (a0 == 4) = false := beq_eq_false_iff_ne.mpr c7
              have c7b1 : (a0 != 4) = true := bne_iff_ne.mpr c7
              have HC8 := Aside0.mk H
              clear H
              go_upto_if 14 with (fail)
              go_cut [14] (fun v14 wc => ∃ (kq : Nat) (x14_7 : Bool), v14 = .bool x14_7 ∧ Aside0 (epactref09_kind.j1 kq a0 x14_7 = some (r1, r2)) ∧ Aside0 (kq ≤ kj2) ∧ Drawn0 w wc)
              case first =>
                have H := HC8.out
                clear HC8
                by_cases c9 : a0 = 7
                · rw [if_pos c9] at H
                  have c9b0 : (a0 == 7) = true := beq_iff_eq.mpr c9
                  have c9b1 : (a0 != 7) = false := bne_eq_false_iff_eq.mpr c9
                  clear c9
                  (first | rw [c9b0] | (simp only [i64_w, i32_w]; rw [c9b0]) | skip)
                  have H' := Aside0.mk H
                  clear H
                  go_wp2
                  go_meet
                  case rel => exact ⟨_, ((a0 == 7)), (by first | rfl | (simp; done) | (simp [*]; done)), H', ⟨by have := HJ2.out; first | omega | exact Nat.le_refl _⟩, by repeat (first | exact Drawn0.refl _ | apply Drawn0.step)⟩
                · rw [if_neg c9] at H
                  have c9b0 : (a0 == 7) = false := beq_eq_false_iff_ne.mpr c9
                  have c9b1 : (a0 != 7) = true := bne_iff_ne.mpr c9
                  (first | rw [c9b0] | (simp only [i64_w, i32_w]; rw [c9b0]) | skip)
                  have H' := Aside0.mk H
                  clear H
                  go_wp2
                  go_meet
                  case rel => exact ⟨_, ((a0 == 9)), (by first | rfl | (simp; done) | (simp [*]; done)), H', ⟨by have := HJ2.out; first | omega | exact Nat.le_refl _⟩, by repeat (first | exact Drawn0.refl _ | apply Drawn0.step)⟩
              case rest =>
                clear HC8
                try clear c2
                try clear c2b0
                try clear c2b1
                try clear p2
                try clear c4
                try clear c4b0
                try clear c4b1
                try clear c5
                try clear c6
                try clear c6b0
                try clear c6b1
                try clear c7
                try clear c7b0
                try clear c7b1
                try clear c9
                try clear c9b0
                try clear c9b1
                try clear p2
                obtain ⟨kq, x14_7, rfl, HA, HJ7, ⟨mc7, rfl⟩⟩ := hcut
                cases kq with
                | zero => exact absurd HA.out (by simp [epactref09_kind.j1])
                | succ kj7 =>
                  have H := HA.out
                  clear HA
                  simp only [epactref09_kind.j1] at H
                  by_cases c10 : x14_7 = true
                  · subst c10
                    have H1 : (some (2, 2)) = some (r1, r2) := by rw [if_pos rfl] at H; exact H
                    clear H
                    have H := H1
                    clear H1
                    simp only [Option.some.injEq, Prod.mk.injEq] at H
                    obtain ⟨rfl, rfl⟩ := H
                    go_wp2
                    go_ret2
                    exact ⟨by first | rfl | (simp; done) | (simp [*]; done), by repeat (first | exact Drawn0.refl _ | apply Drawn0.step)⟩
                  · replace c10 := Bool.eq_false_iff.mpr c10
                    subst c10
                    have H1 : (if a0 = 5 then (some (0, 2)) else (if a0 = 6 then (some (0, 2)) else (if a0 = 8 then (some (0, 2)) else (if a0 = 10 then (some (0, 2)) else (if a0 = 11 then (some (0, 2)) else (if a0 = 12 then (some (0, 2)) else (some ((-1), 0)))))))) = some (r1, r2) := by rw [if_neg (show ¬ (false = true) by decide)] at H; exact H
                    clear H
                    have H := H1
                    clear H1
                    by_cases c11 : a0 = 5
                    · rw [if_pos c11] at H
                      have c11b0 : (a0 == 5) = true := beq_iff_eq.mpr c11
                      have c11b1 : (a0 != 5) = false := bne_eq_false_iff_eq.mpr c11
                      clear c11
                      simp only [Option.some.injEq, Prod.mk.injEq] at H
                      obtain ⟨rfl, rfl⟩ := H
                      go_wp2
                      go_ret2
                      exact ⟨by first | rfl | (simp; done) | (simp [*]; done), by repeat (first | exact Drawn0.refl _ | apply Drawn0.step)⟩
                    · rw [if_neg c11] at H
                      have c11b0 : (a0 == 5) = false := beq_eq_false_iff_ne.mpr c11
                      have c11b1 : (a0 != 5) = true := bne_iff_ne.mpr c11
                      by_cases c12 : a0 = 6
                      · rw [if_pos c12] at H
                        have c12b0 : (a0 == 6) = true := beq_iff_eq.mpr c12
                        have c12b1 : (a0 != 6) = false := bne_eq_false_iff_eq.mpr c12
                        clear c12
                        simp only [Option.some.injEq, Prod.mk.injEq] at H
                        obtain ⟨rfl, rfl⟩ := H
                        go_wp2
                        go_ret2
                        exact ⟨by first | rfl | (simp; done) | (simp [*]; done), by repeat (first | exact Drawn0.refl _ | apply Drawn0.step)⟩
                      · rw [if_neg c12] at H
                        have c12b0 : (a0 == 6) = false := beq_eq_false_iff_ne.mpr c12
                        have c12b1 : (a0 != 6) = true := bne_iff_ne.mpr c12
                        by_cases c13 : a0 = 8
                        · rw [if_pos c13] at H
                          have c13b0 : (a0 == 8) = true := beq_iff_eq.mpr c13
                          have c13b1 : (a0 != 8) = false := bne_eq_false_iff_eq.mpr c13
                          clear c13
                          simp only [Option.some.injEq, Prod.mk.injEq] at H
                          obtain ⟨rfl, rfl⟩ := H
                          go_wp2
                          go_ret2
                          exact ⟨by first | rfl | (simp; done) | (simp [*]; done), by repeat (first | exact Drawn0.refl _ | apply Drawn0.step)⟩
                        · rw [if_neg c13] at H
                          have c13b0 : (a0 == 8) = false := beq_eq_false_iff_ne.mpr c13
                          have c13b1 : (a0 != 8) = true := bne_iff_ne.mpr c13
                          by_cases c14 : a0 = 10
                          · rw [if_pos c14] at H
                            have c14b0 : (a0 == 10) = true := beq_iff_eq.mpr c14
                            have c14b1 : (a0 != 10) = false := bne_eq_false_iff_eq.mpr c14
                            clear c14
                            simp only [Option.some.injEq, Prod.mk.injEq] at H
                            obtain ⟨rfl, rfl⟩ := H
                            go_wp2
                            go_ret2
                            exact ⟨by first | rfl | (simp; done) | (simp [*]; done), by repeat (first | exact Drawn0.refl _ | apply Drawn0.step)⟩
                          · rw [if_neg c14] at H
                            have c14b0 : (a0 == 10) = false := beq_eq_false_iff_ne.mpr c14
                            have c14b1 : (a0 != 10) = true := bne_iff_ne.mpr c14
                            by_cases c15 : a0 = 11
                            · rw [if_pos c15] at H
                              have c15b0 : (a0 == 11) = true := beq_iff_eq.mpr c15
                              have c15b1 : (a0 != 11) = false := bne_eq_false_iff_eq.mpr c15
                              clear c15
                              simp only [Option.some.injEq, Prod.mk.injEq] at H
                              obtain ⟨rfl, rfl⟩ := H
                              go_wp2
                              go_ret2
                              exact ⟨by first | rfl | (simp; done) | (simp [*]; done), by repeat (first | exact Drawn0.refl _ | apply Drawn0.step)⟩
                            · rw [if_neg c15] at H
                              have c15b0 : (a0 == 11) = false := beq_eq_false_iff_ne.mpr c15
                              have c15b1 : (a0 != 11) = true := bne_iff_ne.mpr c15
                              by_cases c16 : a0 = 12
                              · rw [if_pos c16] at H
                                have c16b0 : (a0 == 12) = true := beq_iff_eq.mpr c16
                                have c16b1 : (a0 != 12) = false := bne_eq_false_iff_eq.mpr c16
                                clear c16
                                simp only [Option.some.injEq, Prod.mk.injEq] at H
                                obtain ⟨rfl, rfl⟩ := H
                                go_wp2
                                go_ret2
                                exact ⟨by first | rfl | (simp; done) | (simp [*]; done), by repeat (first | exact Drawn0.refl _ | apply Drawn0.step)⟩
                              · rw [if_neg c16] at H
                                have c16b0 : (a0 == 12) = false := beq_eq_false_iff_ne.mpr c16
                                have c16b1 : (a0 != 12) = true := bne_iff_ne.mpr c16
                                simp only [Option.some.injEq, Prod.mk.injEq] at H
                                obtain ⟨rfl, rfl⟩ := H
                                go_wp2
                                go_ret2
                                exact ⟨by first | rfl | (simp; done) | (simp [*]; done), by repeat (first | exact Drawn0.refl _ | apply Drawn0.step)⟩
def epactref09_Nums.f (k : Nat) (a0 : Int) : Option (Int × Bool) := (epactref09_kind.f k a0).bind fun bt279 => (if bt279.1 < 0 then (some (0, false)) else (some (bt279.1, true)))
set_option maxHeartbeats 8000000 in
set_option maxRecDepth 100000 in
theorem epactref09_Nums.calls (k : Nat) (a0 : Int) (r1 : Int) (r2 : Bool) (w : World) (h : epactref09_Nums.f k a0 = some (r1, r2)) :
    Calls Tryd.prog 20 #[.int .u8 a0] w fun e w' => e = .returned (.tuple #[.int .i64 r1, .bool r2]) ∧ Drawn0 w w' := by
  have H : ((epactref09_kind.f k a0).bind fun bt279 => (if bt279.1 < 0 then (some (0, false)) else (some (bt279.1, true)))) = some (r1, r2) := h
  clear h
  replace H := Option.bind_eq_some_iff.mp H
  obtain ⟨⟨t279, t280⟩, A20, H⟩ := H
  replace H : (if t279 < 0 then (some (0, false)) else (some (t279, true))) = some (r1, r2) := H
  have A2 := Aside0.mk A20
  clear A20
  by_cases c3 : t279 < 0
  · rw [if_pos c3] at H
    have c3b0 : decide (t279 < 0) = true := decide_eq_true c3
    clear c3
    simp only [Option.some.injEq, Prod.mk.injEq] at H
    obtain ⟨rfl, rfl⟩ := H
    go_enter Tryd.func20, Tryd.ntmps20
    go_wp2_with (first | ((with_reducible refine gate_callee (f := 50) rfl ?_); refine goesL_ (some 8) rfl rfl Tryd.func50 (by kernel_rfl) rfl #[.int .u8 a0] rfl (by (try simp only [List.map_toArray, List.map_cons, List.map_nil]); first | done | rfl | (simp only [List.length_drop, List.length_take]; rfl)) ?_; (with_reducible refine (epactref09_kind.calls k a0 t279 t280 _ A2.out).mono ?_); rintro e w' ⟨rfl, ⟨nd, rfl⟩⟩; refine ⟨_, rfl, ?_⟩))
    go_ret2
    exact ⟨by first | rfl | (simp; done) | (simp [*]; done), by repeat (first | exact Drawn0.refl _ | apply Drawn0.step)⟩
  · rw [if_neg c3] at H
    have c3b0 : decide (t279 < 0) = false := decide_eq_false c3
    clear c3
    simp only [Option.some.injEq, Prod.mk.injEq] at H
    obtain ⟨rfl, rfl⟩ := H
    go_enter Tryd.func20, Tryd.ntmps20
    go_wp2_with (first | ((with_reducible refine gate_callee (f := 50) rfl ?_); refine goesL_ (some 8) rfl rfl Tryd.func50 (by kernel_rfl) rfl #[.int .u8 a0] rfl (by (try simp only [List.map_toArray, List.map_cons, List.map_nil]); first | done | rfl | (simp only [List.length_drop, List.length_take]; rfl)) ?_; (with_reducible refine (epactref09_kind.calls k a0 t279 t280 _ A2.out).mono ?_); rintro e w' ⟨rfl, ⟨nd, rfl⟩⟩; refine ⟨_, rfl, ?_⟩))
    go_ret2
    exact ⟨by first | rfl | (simp; done) | (simp [*]; done), by repeat (first | exact Drawn0.refl _ | apply Drawn0.step)⟩
end Go.Proofs.YtjeofffddbibeaaDoor.PParseTells
end

section
namespace Go.Proofs.YtjeofffddbibeaaDoor.PParseTells
open Go.RowKit Go.Proofs.YtjeofffddbibeaaDoorW.PrintWords Go.Proofs.YtjeofffddbibeaaDoorW.PrintLast Go.Proofs.YtjeofffddbibeaaDoorW.PrintMore
attribute [local go_sem] max2_int min2_int max_two min_two max_three min_three max_four min_four   -- for this text's walks alone
set_option linter.unusedVariables false
set_option linter.unusedSimpArgs false
def epactref09_Args.f (k : Nat) (a0 : Int) : Option (Int) := (epactref09_kind.f k a0).bind fun bt281 => (some bt281.2)
set_option maxHeartbeats 8000000 in
set_option maxRecDepth 100000 in
theorem epactref09_Args.calls (k : Nat) (a0 : Int) (r : Int) (w : World) (h : epactref09_Args.f k a0 = some r) :
    Calls Tryd.prog 22 #[.int .u8 a0] w fun e w' => e = .returned (.int .i64 r) ∧ Drawn0 w w' := by
  have H : ((epactref09_kind.f k a0).bind fun bt281 => (some bt281.2)) = some r := h
  clear h
  replace H := Option.bind_eq_some_iff.mp H
  obtain ⟨⟨t281, t282⟩, A20, H⟩ := H
  replace H : (some t282) = some r := H
  have A2 := Aside0.mk A20
  clear A20
  obtain rfl := Option.some.inj H
  go_enter Tryd.func22, Tryd.ntmps22
  go_wp2_with (first | ((with_reducible refine gate_callee (f := 50) rfl ?_); refine goesL_ (some 7) rfl rfl Tryd.func50 (by kernel_rfl) rfl #[.int .u8 a0] rfl (by (try simp only [List.map_toArray, List.map_cons, List.map_nil]); first | done | rfl | (simp only [List.length_drop, List.length_take]; rfl)) ?_; (with_reducible refine (epactref09_kind.calls k a0 t281 t282 _ A2.out).mono ?_); rintro e w' ⟨rfl, ⟨nd, rfl⟩⟩; refine ⟨_, rfl, ?_⟩))
  go_ret
  exact ⟨by first | rfl | (simp; done) | (simp [*]; done), by repeat (first | exact Drawn0.refl _ | apply Drawn0.step)⟩
/-- A state of type 101 at block g of W; what its slices lead to came in by w0. -/
def IsS101 (w0 W : World) (g : Nat) (f0 : List (S61)) (f1 : Int) (f2 : Int) (f3 : Int) : Prop := ∃ A0 c0, W.heap[g]? = some (.cells #[.slice A0 f0.length c0, .int .i64 f1, .int .i64 f2, .int .i64 f3] 101 (0, 0)) ∧ w0.heap.size ≤ g ∧ Kd.C k61 w0 A0 f0.length f0
theorem IsS101.grown {w0 W : World} {g : Nat} {f0 : List (S61)} {f1 : Int} {f2 : Int} {f3 : Int} {W1 : World} {row : Option Nat} (h : IsS101 w0 W g f0 f1 f2 f3) (hw : W.grownBy W1 row) (hne : some g ≠ row) : IsS101 w0 W1 g f0 f1 f2 f3 := by
  obtain ⟨A0, c0, hb, hg, hr0⟩ := h
  exact ⟨A0, c0, blk_grown hb hw hne, hg, hr0⟩
theorem IsS101.kept {w0 W : World} {g : Nat} {f0 : List (S61)} {f1 : Int} {f2 : Int} {f3 : Int} {W1 : World} {S : Nat → Prop} (h : IsS101 w0 W g f0 f1 f2 f3) (hk : Kept W W1 S) (hne : ¬ S g) : IsS101 w0 W1 g f0 f1 f2 f3 := by
  obtain ⟨A0, c0, hb, hg, hr0⟩ := h
  exact ⟨A0, c0, blk_kept hb hk hne, hg, hr0⟩
theorem IsS101.below {w0 W : World} {g : Nat} {f0 : List (S61)} {f1 : Int} {f2 : Int} {f3 : Int} {W1 : World} (h : IsS101 w0 W g f0 f1 f2 f3) (hw : Below W.heap.size W W1) : IsS101 w0 W1 g f0 f1 f2 f3 := h.grown (grown_of_below hw none) (by simp)
theorem IsS101.alloc {w0 W : World} {g : Nat} {f0 : List (S61)} {f1 : Int} {f2 : Int} {f3 : Int} (h : IsS101 w0 W g f0 f1 f2 f3) (o : Obj) : IsS101 w0 (W.alloc o) g f0 f1 f2 f3 := h.below (below_alloc (Below.refl _ _) o)
theorem IsS101.drewN {w0 W : World} {g : Nat} {f0 : List (S61)} {f1 : Int} {f2 : Int} {f3 : Int} (h : IsS101 w0 W g f0 f1 f2 f3) (m : Nat) : IsS101 w0 (W.drewN m) g f0 f1 f2 f3 := h
theorem IsS101.drew {w0 W : World} {g : Nat} {f0 : List (S61)} {f1 : Int} {f2 : Int} {f3 : Int} (h : IsS101 w0 W g f0 f1 f2 f3) : IsS101 w0 W.drew g f0 f1 f2 f3 := h
theorem IsS101.at_ {w0 W : World} {g : Nat} {f0 : List (S61)} {f1 : Int} {f2 : Int} {f3 : Int} {w' : World} {m : Nat} (hq : W.drewN m = w') (h : IsS101 w0 W g f0 f1 f2 f3) : IsS101 w0 w' g f0 f1 f2 f3 := by subst hq; exact IsS101.drewN h m
theorem IsS101.apart {w0 W : World} {g : Nat} {f0 : List (S61)} {f1 : Int} {f2 : Int} {f3 : Int} {α : Type} {d : Kd α} {e : Nat} {base : Nat} {ok : Nat → Prop} {v : Value} {xs : List α} (h : IsS101 w0 W g f0 f1 f2 f3) (ho : d.R e W base ok v xs) (ht : ∀ q, q ∈ e :: d.E → q ≠ 101) : d.R e W base (fun k => ok k ∧ k ≠ g) v xs := by
  obtain ⟨A0, c0, hb, hg, hr0⟩ := h
  exact Kd.R_types ho hb ht
theorem IsS101.own_ne {w0 W : World} {g : Nat} {f0 : List (S61)} {f1 : Int} {f2 : Int} {f3 : Int} {α : Type} {d : Kd α} {e : Nat} {base : Nat} {ok : Nat → Prop} {v : Value} {xs : List α} (h : IsS101 w0 W g f0 f1 f2 f3) (ho : d.R e W base ok v xs) (ht : e ≠ 101) : some g ≠ v.ownBlock := by
  obtain ⟨A0, c0, hb, hg, hr0⟩ := h
  exact Kd.R_ne ho hb ht
theorem IsS101.lt {w0 W : World} {g : Nat} {f0 : List (S61)} {f1 : Int} {f2 : Int} {f3 : Int} (h : IsS101 w0 W g f0 f1 f2 f3) : g < W.heap.size := by
  obtain ⟨A0, c0, hb, hg, hr0⟩ := h
  exact blk_lt hb
theorem IsS101.ge {w0 W : World} {g : Nat} {f0 : List (S61)} {f1 : Int} {f2 : Int} {f3 : Int} (h : IsS101 w0 W g f0 f1 f2 f3) : w0.heap.size ≤ g := by
  obtain ⟨A0, c0, hb, hg, hr0⟩ := h
  exact hg
theorem IsS101.far {w0 W : World} {g : Nat} {f0 : List (S61)} {f1 : Int} {f2 : Int} {f3 : Int} {p : Addr} (h : IsS101 w0 W g f0 f1 f2 f3) (hne : g ≠ p.block) (u : Value) : IsS101 w0 (W.setCell p u) g f0 f1 f2 f3 := by
  obtain ⟨A0, c0, hb, hg, hr0⟩ := h
  exact ⟨A0, c0, blk_far hb hne u, hg, hr0⟩
theorem cellS101_0 {W : World} {g : Nat} {A0 : Option Addr} {c0 : Nat} {f0 : List (S61)} {f1 : Int} {f2 : Int} {f3 : Int} (h : W.heap[g]? = some (.cells #[.slice A0 f0.length c0, .int .i64 f1, .int .i64 f2, .int .i64 f3] 101 (0, 0))) : W.cell? ⟨g, 0, none⟩ = some (.slice A0 f0.length c0) := (blk_cell h 0).trans rfl
theorem cellS101_1 {W : World} {g : Nat} {A0 : Option Addr} {c0 : Nat} {f0 : List (S61)} {f1 : Int} {f2 : Int} {f3 : Int} (h : W.heap[g]? = some (.cells #[.slice A0 f0.length c0, .int .i64 f1, .int .i64 f2, .int .i64 f3] 101 (0, 0))) : W.cell? ⟨g, 1, none⟩ = some (.int .i64 f1) := (blk_cell h 1).trans rfl
theorem IsS101.set_1 {w0 W : World} {g : Nat} {f0 : List (S61)} {f1 : Int} {f2 : Int} {f3 : Int} (h : IsS101 w0 W g f0 f1 f2 f3) (x : Int) : IsS101 w0 (W.setCell ⟨g, 1, none⟩ (.int .i64 x)) g f0 x f2 f3 := by
  obtain ⟨A0, c0, hb, hg, hr0⟩ := h
  exact ⟨A0, c0, by simpa using blk_set hb 1 (.int .i64 x), hg, hr0⟩
theorem cellS101_2 {W : World} {g : Nat} {A0 : Option Addr} {c0 : Nat} {f0 : List (S61)} {f1 : Int} {f2 : Int} {f3 : Int} (h : W.heap[g]? = some (.cells #[.slice A0 f0.length c0, .int .i64 f1, .int .i64 f2, .int .i64 f3] 101 (0, 0))) : W.cell? ⟨g, 2, none⟩ = some (.int .i64 f2) := (blk_cell h 2).trans rfl
theorem IsS101.set_2 {w0 W : World} {g : Nat} {f0 : List (S61)} {f1 : Int} {f2 : Int} {f3 : Int} (h : IsS101 w0 W g f0 f1 f2 f3) (x : Int) : IsS101 w0 (W.setCell ⟨g, 2, none⟩ (.int .i64 x)) g f0 f1 x f3 := by
  obtain ⟨A0, c0, hb, hg, hr0⟩ := h
  exact ⟨A0, c0, by simpa using blk_set hb 2 (.int .i64 x), hg, hr0⟩
theorem cellS101_3 {W : World} {g : Nat} {A0 : Option Addr} {c0 : Nat} {f0 : List (S61)} {f1 : Int} {f2 : Int} {f3 : Int} (h : W.heap[g]? = some (.cells #[.slice A0 f0.length c0, .int .i64 f1, .int .i64 f2, .int .i64 f3] 101 (0, 0))) : W.cell? ⟨g, 3, none⟩ = some (.int .i64 f3) := (blk_cell h 3).trans rfl
theorem IsS101.set_3 {w0 W : World} {g : Nat} {f0 : List (S61)} {f1 : Int} {f2 : Int} {f3 : Int} (h : IsS101 w0 W g f0 f1 f2 f3) (x : Int) : IsS101 w0 (W.setCell ⟨g, 3, none⟩ (.int .i64 x)) g f0 f1 f2 x := by
  obtain ⟨A0, c0, hb, hg, hr0⟩ := h
  exact ⟨A0, c0, by simpa using blk_set hb 3 (.int .i64 x), hg, hr0⟩
theorem IsS101.new (w0 W : World) (A0 : Option Addr) (c0 : Nat) (f0 : List (S61)) (f1 : Int) (f2 : Int) (f3 : Int) (hB : Below w0.heap.size w0 W) (hr0 : Kd.C k61 w0 A0 f0.length f0) : IsS101 w0 (W.alloc (.cells #[.slice A0 f0.length c0, .int .i64 f1, .int .i64 f2, .int .i64 f3] 101)) W.heap.size f0 f1 f2 f3 := ⟨A0, c0, by simpa using heap_alloc_new W _, hB.size, hr0⟩
def epactref11_reader_fail.f (s0_0 : List (S61)) (s0_1 : Int) (s0_2 : Int) (s0_3 : Int) (a1 : Int) : Option (Int × Int × Int) := if s0_3 = 0 then (some (s0_1, s0_2, a1)) else (some (s0_1, s0_2, s0_3))
set_option maxHeartbeats 8000000 in
set_option maxRecDepth 100000 in
theorem epactref11_reader_fail.calls (g : Nat) (s0_0 : List (S61)) (s0_1 : Int) (s0_2 : Int) (s0_3 : Int) (a1 : Int) (r1 : Int) (r2 : Int) (r3 : Int) (w0 w : World) (hI : IsS101 w0 w g s0_0 s0_1 s0_2 s0_3) (hB : Below w0.heap.size w0 w) (h : epactref11_reader_fail.f s0_0 s0_1 s0_2 s0_3 a1 = some (r1, r2, r3)) :
    Calls Tryd.prog 86 #[.pointer (some ⟨g, 0, none⟩), .int .i64 a1] w fun e w' => e = .returned (.tuple #[]) ∧ IsS101 w0 w' g s0_0 r1 r2 r3 ∧ Below w0.heap.size w0 w' ∧ KeepBut w w' g none := by
  have HI0 := Aside0.mk hI
  have HK := Aside0.mk (KeepBut.refl w g none)
  have HL := Aside0.mk hB.size
  clear hI
  have HW0 := Aside0.mk hB.size
  have HB := Aside0.mk hB
  clear hB
  have H : (if s0_3 = 0 then (some (s0_1, s0_2, a1)) else (some (s0_1, s0_2, s0_3))) = some (r1, r2, r3) := h
  clear h
  by_cases c3 : s0_3 = 0
  · rw [if_pos c3] at H
    have c3b0 : (s0_3 == 0) = true := beq_iff_eq.mpr c3
    have c3b1 : (s0_3 != 0) = false := bne_eq_false_iff_eq.mpr c3
    clear c3
    simp only [Option.some.injEq, Prod.mk.injEq] at H
    obtain ⟨rfl, rfl, rfl⟩ := H
    obtain ⟨ASz4_0, cSz4_0, HGz4, hgz4, HSz4_0⟩ := HI0.out
    have hcz4_0 := cellS101_0 HGz4
    have hcz4_1 := cellS101_1 HGz4
    have hcz4_2 := cellS101_2 HGz4
    have hcz4_3 := cellS101_3 HGz4
    have hfz4_1 := blk_frozen HGz4 1
    have hfz4_2 := blk_frozen HGz4 2
    have hfz4_3 := blk_frozen HGz4 3
    clear HGz4 hgz4
    go_enter Tryd.func86, Tryd.ntmps86
    go_wp2
    first | go_end0 | ((try simp only [Exit.inBlock, Exit.then]); refine bodyPost_ret (results_none rfl _ _ _) rfl ?_)
    exact ⟨by first | rfl | (simp [errW_none, errW_some] <;> rfl) | (simp [*, errW_none, errW_some] <;> rfl), by repeat (first | (with_reducible first | exact HI0.out | apply IsS101.alloc | apply IsS101.drewN | apply IsS101.drew | apply IsS101.set_1 | apply IsS101.set_2 | apply IsS101.set_3) | exact HI0.out), by repeat (first | (with_reducible first | exact HB.out | apply below_alloc | apply pw_below_drewN | apply below_drew1 | refine below_set ?_ (IsS101.ge HI0.out)) | exact HB.out), by repeat (first | (with_reducible first | exact HK.out | apply KeepBut.set_ | apply keep_drewN | apply keep_drew | apply keep_alloc) | exact HK.out)⟩
  · rw [if_neg c3] at H
    have c3b0 : (s0_3 == 0) = false := beq_eq_false_iff_ne.mpr c3
    have c3b1 : (s0_3 != 0) = true := bne_iff_ne.mpr c3
    simp only [Option.some.injEq, Prod.mk.injEq] at H
    obtain ⟨rfl, rfl, rfl⟩ := H
    obtain ⟨ASz5_0, cSz5_0, HGz5, hgz5, HSz5_0⟩ := HI0.out
    have hcz5_0 := cellS101_0 HGz5
    have hcz5_1 := cellS101_1 HGz5
    have hcz5_2 := cellS101_2 HGz5
    have hcz5_3 := cellS101_3 HGz5
    have hfz5_1 := blk_frozen HGz5 1
    have hfz5_2 := blk_frozen HGz5 2
    have hfz5_3 := blk_frozen HGz5 3
    clear HGz5 hgz5
    go_enter Tryd.func86, Tryd.ntmps86
    go_wp2
    first | go_end0 | ((try simp only [Exit.inBlock, Exit.then]); refine bodyPost_ret (results_none rfl _ _ _) rfl ?_)
    exact ⟨by first | rfl | (simp [errW_none, errW_some] <;> rfl) | (simp [*, errW_none, errW_some] <;> rfl), by repeat (first | (with_reducible first | exact HI0.out | apply IsS101.alloc | apply IsS101.drewN | apply IsS101.drew | apply IsS101.set_1 | apply IsS101.set_2 | apply IsS101.set_3) | exact HI0.out), by repeat (first | (with_reducible first | exact HB.out | apply below_alloc | apply pw_below_drewN | apply below_drew1 | refine below_set ?_ (IsS101.ge HI0.out)) | exact HB.out), by repeat (first | (with_reducible first | exact HK.out | apply KeepBut.set_ | apply keep_drewN | apply keep_drew | apply keep_alloc) | exact HK.out)⟩
def epactref11_reader_name.f (s0_0 : List (S61)) (s0_1 : Int) (s0_2 : Int) (s0_3 : Int) : Option (ByteArray × Int × Int × Int) := if s0_3 = 0 then (if s0_1 < (s0_0.length : Int) then (if 0 ≤ s0_1 then (if ((rd_T61 s0_0 s0_1).f0) = 1 then (if 0 ≤ (wrap64 ((wrap64 (s0_1 + 1)) - 1)) then (if (wrap64 ((wrap64 (s0_1 + 1)) - 1)) < (s0_0.length : Int) then (some ((rd_T61 s0_0 (wrap64 ((wrap64 (s0_1 + 1)) - 1))).f1, wrap64 (s0_1 + 1), s0_2, s0_3)) else (none)) else (none)) else ((epactref11_reader_fail.f s0_0 s0_1 s0_2 s0_3 110).bind fun bt285 => (some ((⟨#[]⟩ : ByteArray), bt285.1, bt285.2.1, bt285.2.2)))) else (none)) else ((epactref11_reader_fail.f s0_0 s0_1 s0_2 s0_3 110).bind fun bt288 => (some ((⟨#[]⟩ : ByteArray), bt288.1, bt288.2.1, bt288.2.2)))) else (some ((⟨#[]⟩ : ByteArray), s0_1, s0_2, s0_3))
set_option maxHeartbeats 8000000 in
set_option maxRecDepth 100000 in
theorem epactref11_reader_name.calls (g : Nat) (s0_0 : List (S61)) (s0_1 : Int) (s0_2 : Int) (s0_3 : Int) (r1 : ByteArray) (r2 : Int) (r3 : Int) (r4 : Int) (w0 w : World) (hI : IsS101 w0 w g s0_0 s0_1 s0_2 s0_3) (hB : Below w0.heap.size w0 w) (h : epactref11_reader_name.f s0_0 s0_1 s0_2 s0_3 = some (r1, r2, r3, r4)) :
    Calls Tryd.prog 69 #[.pointer (some ⟨g, 0, none⟩)] w fun e w' => e = .returned (.string r1) ∧ IsS101 w0 w' g s0_0 r2 r3 r4 ∧ Below w0.heap.size w0 w' ∧ KeepBut w w' g none := by
  have HI0 := Aside0.mk hI
  have HK := Aside0.mk (KeepBut.refl w g none)
  have HL := Aside0.mk hB.size
  clear hI
  have HW0 := Aside0.mk hB.size
  have HB := Aside0.mk hB
  clear hB
  have H : (if s0_3 = 0 then (if s0_1 < (s0_0.length : Int) then (if 0 ≤ s0_1 then (if ((rd_T61 s0_0 s0_1).f0) = 1 then (if 0 ≤ (wrap64 ((wrap64 (s0_1 + 1)) - 1)) then (if (wrap64 ((wrap64 (s0_1 + 1)) - 1)) < (s0_0.length : Int) then (some ((rd_T61 s0_0 (wrap64 ((wrap64 (s0_1 + 1)) - 1))).f1, wrap64 (s0_1 + 1), s0_2, s0_3)) else (none)) else (none)) else ((epactref11_reader_fail.f s0_0 s0_1 s0_2 s0_3 110).bind fun bt285 => (some ((⟨#[]⟩ : ByteArray), bt285.1, bt285.2.1, bt285.2.2)))) else (none)) else ((epactref11_reader_fail.f s0_0 s0_1 s0_2 s0_3 110).bind fun bt288 => (some ((⟨#[]⟩ : ByteArray), bt288.1, bt288.2.1, bt288.2.2)))) else (some ((⟨#[]⟩ : ByteArray), s0_1, s0_2, s0_3))) = some (r1, r2, r3, r4) := h
  clear h
  by_cases c2 : s0_3 = 0
  · rw [if_pos c2] at H
    have c2b0 : (s0_3 == 0) = true := beq_iff_eq.mpr c2
    have c2b1 : (s0_3 != 0) = false := bne_eq_false_iff_eq.mpr c2
    clear c2
    by_cases c3 : s0_1 < (s0_0.length : Int)
    · rw [if_pos c3] at H
      have c3b0 : decide (s0_1 < (s0_0.length : Int)) = true := decide_eq_true c3
      clear c3
      by_cases c4 : 0 ≤ s0_1
      · rw [if_pos c4] at H
        have c4b0 : decide (0 ≤ s0_1) = true := decide_eq_true c4
        clear c4
        by_cases c5 : ((rd_T61 s0_0 s0_1).f0) = 1
        · rw [if_pos c5] at H
          have c5b0 : (((rd_T61 s0_0 s0_1).f0) == 1) = true := beq_iff_eq.mpr c5
          have c5b1 : (((rd_T61 s0_0 s0_1).f0) != 1) = false := bne_eq_false_iff_eq.mpr c5
          clear c5
          obtain ⟨ji6, hji6⟩ : ∃ j_ : Int, (wrap64 ((wrap64 (s0_1 + 1)) - 1)) = j_ := ⟨_, rfl⟩
          replace H : (if 0 ≤ (ji6) then (if (ji6) < (s0_0.length : Int) then (some ((rd_T61 s0_0 (ji6)).f1, wrap64 (s0_1 + 1), s0_2, s0_3)) else (none)) else (none)) = some (r1, r2, r3, r4) := by first | (rw [hji6] at H; exact H) | (simp only [hji6] at H ⊢; exact H)
          have hji6w : (IntKind.i64.wrap ((wrap64 (s0_1 + 1)) - 1)) = ji6 := (i64_w _).trans hji6
          by_cases c7 : 0 ≤ (ji6)
          · rw [if_pos c7] at H
            have c7b0 : decide (0 ≤ (ji6)) = true := decide_eq_true c7
            clear c7
            by_cases c8 : (ji6) < (s0_0.length : Int)
            · rw [if_pos c8] at H
              have c8b0 : decide ((ji6) < (s0_0.length : Int)) = true := decide_eq_true c8
              clear c8
              simp only [Option.some.injEq, Prod.mk.injEq] at H
              obtain ⟨rfl, rfl, rfl, rfl⟩ := H
              obtain ⟨ASz9_0, cSz9_0, HGz9, hgz9, HSz9_0⟩ := HI0.out
              have hcz9_0 := cellS101_0 HGz9
              have hcz9_1 := cellS101_1 HGz9
              have hcz9_2 := cellS101_2 HGz9
              have hcz9_3 := cellS101_3 HGz9
              have hfz9_1 := blk_frozen HGz9 1
              have hfz9_2 := blk_frozen HGz9 2
              have hfz9_3 := blk_frozen HGz9 3
              clear HGz9 hgz9
              have p283 : 0 ≤ (s0_1 : Int) := of_decide_eq_true (by first | (with_reducible assumption) | assumption)
              have q283 : s0_1 < (s0_0.length : Int) := of_decide_eq_true (by first | (with_reducible assumption) | assumption)
              obtain ⟨ad283, e283, hx283_0, hx283_1, hx283_2⟩ := at_T61 HSz9_0 s0_1 p283 q283
              cases e283
              replace hx283_0 := pw_cell_below HB.out hx283_0
              replace hx283_1 := pw_cell_below HB.out hx283_1
              replace hx283_2 := pw_cell_below HB.out hx283_2
              replace p283 := eq_true p283
              replace q283 := eq_true q283
              have p284 : 0 ≤ ((ji6) : Int) := of_decide_eq_true (by first | (with_reducible assumption) | assumption)
              have q284 : (ji6) < (s0_0.length : Int) := of_decide_eq_true (by first | (with_reducible assumption) | assumption)
              obtain ⟨ad284, e284, hx284_0, hx284_1, hx284_2⟩ := at_T61 HSz9_0 (ji6) p284 q284
              obtain rfl : ad283 = ad284 := (by injection e284)
              have hn284_0 : ad283.block ≠ g := Nat.ne_of_lt (Nat.lt_of_lt_of_le (by have := World.block_lt_of_cell? _ _ hx284_0; first | rwa [add_block] at this | exact this) (IsS101.ge HI0.out))
              replace hx284_0 := pw_cell_below HB.out hx284_0
              replace hx284_1 := pw_cell_below HB.out hx284_1
              replace hx284_2 := pw_cell_below HB.out hx284_2
              replace hx284_0 := (cell_far (p := ⟨g, 1, none⟩) (by first | (rw [add_block]; exact hn284_0) | (show (Addr.add _ _).block ≠ _; rw [add_block]; exact hn284_0) | exact hn284_0) (.int .i64 (wrap64 (s0_1 + 1)))).trans hx284_0
              replace hx284_1 := (cell_far (p := ⟨g, 1, none⟩) (by first | (rw [add_block]; exact hn284_0) | (show (Addr.add _ _).block ≠ _; rw [add_block]; exact hn284_0) | exact hn284_0) (.int .i64 (wrap64 (s0_1 + 1)))).trans hx284_1
              replace hx284_2 := (cell_far (p := ⟨g, 1, none⟩) (by first | (rw [add_block]; exact hn284_0) | (show (Addr.add _ _).block ≠ _; rw [add_block]; exact hn284_0) | exact hn284_0) (.int .i64 (wrap64 (s0_1 + 1)))).trans hx284_2
              (try have hy284_0 := fun (n_ : Nat) => (show (((w.drewN n_).setCell ⟨g, 1, none⟩ (.int .i64 (wrap64 (s0_1 + 1))))).cell? _ = some _ from hx284_0))
              (try have hy284_1 := fun (n_ : Nat) => (show (((w.drewN n_).setCell ⟨g, 1, none⟩ (.int .i64 (wrap64 (s0_1 + 1))))).cell? _ = some _ from hx284_1))
              (try have hy284_2 := fun (n_ : Nat) => (show (((w.drewN n_).setCell ⟨g, 1, none⟩ (.int .i64 (wrap64 (s0_1 + 1))))).cell? _ = some _ from hx284_2))
              clear hn284_0
              replace p284 := eq_true p284
              replace q284 := eq_true q284
              go_enter Tryd.func69, Tryd.ntmps69
              go_wp2
              repeat (go_quiet (fail); try go_wp2)
              go_ret
              exact ⟨by first | rfl | (simp [errW_none, errW_some] <;> rfl) | (simp only [← hji6]; first | rfl | (simp [errW_none, errW_some] <;> rfl)) | (simp [*, errW_none, errW_some] <;> rfl), by repeat (first | (with_reducible first | exact HI0.out | apply IsS101.alloc | apply IsS101.drewN | apply IsS101.drew | apply IsS101.set_1 | apply IsS101.set_2 | apply IsS101.set_3) | exact HI0.out), by repeat (first | (with_reducible first | exact HB.out | apply below_alloc | apply pw_below_drewN | apply below_drew1 | refine below_set ?_ (IsS101.ge HI0.out)) | exact HB.out), by repeat (first | (with_reducible first | exact HK.out | apply KeepBut.set_ | apply keep_drewN | apply keep_drew | apply keep_alloc) | exact HK.out)⟩
            · rw [if_neg c8] at H
              exact absurd H (by simp)
          · rw [if_neg c7] at H
            exact absurd H (by simp)
        · rw [if_neg c5] at H
          have c5b0 : (((rd_T61 s0_0 s0_1).f0) == 1) = false := beq_eq_false_iff_ne.mpr c5
          have c5b1 : (((rd_T61 s0_0 s0_1).f0) != 1) = true := bne_iff_ne.mpr c5
          replace H := Option.bind_eq_some_iff.mp H
          obtain ⟨⟨t285, t286, t287⟩, A100, H⟩ := H
          replace H : (some ((⟨#[]⟩ : ByteArray), t285, t286, t287)) = some (r1, r2, r3, r4) := H
          have A10 := Aside0.mk A100
          clear A100
          simp only [Option.some.injEq, Prod.mk.injEq] at H
          obtain ⟨rfl, rfl, rfl, rfl⟩ := H
          obtain ⟨ASz11_0, cSz11_0, HGz11, hgz11, HSz11_0⟩ := HI0.out
          have hcz11_0 := cellS101_0 HGz11
          have hcz11_1 := cellS101_1 HGz11
          have hcz11_2 := cellS101_2 HGz11
          have hcz11_3 := cellS101_3 HGz11
          have hfz11_1 := blk_frozen HGz11 1
          have hfz11_2 := blk_frozen HGz11 2
          have hfz11_3 := blk_frozen HGz11 3
          clear HGz11 hgz11
          have p283 : 0 ≤ (s0_1 : Int) := of_decide_eq_true (by first | (with_reducible assumption) | assumption)
          have q283 : s0_1 < (s0_0.length : Int) := of_decide_eq_true (by first | (with_reducible assumption) | assumption)
          obtain ⟨ad283, e283, hx283_0, hx283_1, hx283_2⟩ := at_T61 HSz11_0 s0_1 p283 q283
          cases e283
          replace hx283_0 := pw_cell_below HB.out hx283_0
          replace hx283_1 := pw_cell_below HB.out hx283_1
          replace hx283_2 := pw_cell_below HB.out hx283_2
          replace p283 := eq_true p283
          replace q283 := eq_true q283
          go_enter Tryd.func69, Tryd.ntmps69
          go_wp2_with (first | (go_at_call 86; (with_reducible refine (epactref11_reader_fail.calls g s0_0 s0_1 s0_2 s0_3 110 t285 t286 t287 w0 _ ?side1 ?side2 A10.out).mono ?_); (case side1 => repeat (first | (with_reducible first | exact HI0.out | apply IsS101.alloc | apply IsS101.drewN | apply IsS101.drew | apply IsS101.set_1 | apply IsS101.set_2 | apply IsS101.set_3) | exact HI0.out)); (case side2 => repeat (first | (with_reducible first | exact HB.out | apply below_alloc | apply pw_below_drewN | apply below_drew1 | refine below_set ?_ (IsS101.ge HI0.out)) | exact HB.out)); rintro e w12 ⟨rfl, hi, hb, hk⟩; have n0_ := Aside0.mk (KeepBut.trans (by repeat (first | (with_reducible first | exact HK.out | apply KeepBut.set_ | apply keep_drewN | apply keep_drew | apply keep_alloc) | exact HK.out)) hk (.inl rfl)); have n1_ := Aside0.mk (hb); have n2_ := Aside0.mk (hi); clear HK; clear HB; clear HI0; have HK := n0_; have HB := n1_; have HI0 := n2_; clear n0_ n1_ n2_; (try clear hb); (try clear hb2); (try clear hk); (try clear hi)))
          repeat (go_quiet (first | (go_at_call 86; (with_reducible refine (epactref11_reader_fail.calls g s0_0 s0_1 s0_2 s0_3 110 t285 t286 t287 w0 _ ?side1 ?side2 A10.out).mono ?_); (case side1 => repeat (first | (with_reducible first | exact HI0.out | apply IsS101.alloc | apply IsS101.drewN | apply IsS101.drew | apply IsS101.set_1 | apply IsS101.set_2 | apply IsS101.set_3) | exact HI0.out)); (case side2 => repeat (first | (with_reducible first | exact HB.out | apply below_alloc | apply pw_below_drewN | apply below_drew1 | refine below_set ?_ (IsS101.ge HI0.out)) | exact HB.out)); rintro e w12 ⟨rfl, hi, hb, hk⟩; have n0_ := Aside0.mk (KeepBut.trans (by repeat (first | (with_reducible first | exact HK.out | apply KeepBut.set_ | apply keep_drewN | apply keep_drew | apply keep_alloc) | exact HK.out)) hk (.inl rfl)); have n1_ := Aside0.mk (hb); have n2_ := Aside0.mk (hi); clear HK; clear HB; clear HI0; have HK := n0_; have HB := n1_; have HI0 := n2_; clear n0_ n1_ n2_; (try clear hb); (try clear hb2); (try clear hk); (try clear hi))); try go_wp2_with (first | (go_at_call 86; (with_reducible refine (epactref11_reader_fail.calls g s0_0 s0_1 s0_2 s0_3 110 t285 t286 t287 w0 _ ?side1 ?side2 A10.out).mono ?_); (case side1 => repeat (first | (with_reducible first | exact HI0.out | apply IsS101.alloc | apply IsS101.drewN | apply IsS101.drew | apply IsS101.set_1 | apply IsS101.set_2 | apply IsS101.set_3) | exact HI0.out)); (case side2 => repeat (first | (with_reducible first | exact HB.out | apply below_alloc | apply pw_below_drewN | apply below_drew1 | refine below_set ?_ (IsS101.ge HI0.out)) | exact HB.out)); rintro e w12 ⟨rfl, hi, hb, hk⟩; have n0_ := Aside0.mk (KeepBut.trans (by repeat (first | (with_reducible first | exact HK.out | apply KeepBut.set_ | apply keep_drewN | apply keep_drew | apply keep_alloc) | exact HK.out)) hk (.inl rfl)); have n1_ := Aside0.mk (hb); have n2_ := Aside0.mk (hi); clear HK; clear HB; clear HI0; have HK := n0_; have HB := n1_; have HI0 := n2_; clear n0_ n1_ n2_; (try clear hb); (try clear hb2); (try clear hk); (try clear hi))))
          go_ret
          exact ⟨by first | rfl | (simp [errW_none, errW_some] <;> rfl) | (simp [*, errW_none, errW_some] <;> rfl), by repeat (first | (with_reducible first | exact HI0.out | apply IsS101.alloc | apply IsS101.drewN | apply IsS101.drew | apply IsS101.set_1 | apply IsS101.set_2 | apply IsS101.set_3) | exact HI0.out), by repeat (first | (with_reducible first | exact HB.out | apply below_alloc | apply pw_below_drewN | apply below_drew1 | refine below_set ?_ (IsS101.ge HI0.out)) | exact HB.out), by repeat (first | (with_reducible first | exact HK.out | apply KeepBut.set_ | apply keep_drewN | apply keep_drew | apply keep_alloc) | exact HK.out)⟩
      · rw [if_neg c4] at H
        exact absurd H (by simp)
    · rw [if_neg c3] at H
      have c3b0 : decide (s0_1 < (s0_0.length : Int)) = false := decide_eq_false c3
      clear c3
      replace H := Option.bind_eq_some_iff.mp H
      obtain ⟨⟨t288, t289, t290⟩, A130, H⟩ := H
      replace H : (some ((⟨#[]⟩ : ByteArray), t288, t289, t290)) = some (r1, r2, r3, r4) := H
      have A13 := Aside0.mk A130
      clear A130
      simp only [Option.some.injEq, Prod.mk.injEq] at H
      obtain ⟨rfl, rfl, rfl, rfl⟩ := H
      obtain ⟨ASz14_0, cSz14_0, HGz14, hgz14, HSz14_0⟩ := HI0.out
      have hcz14_0 := cellS101_0 HGz14
      have hcz14_1 := cellS101_1 HGz14
      have hcz14_2 := cellS101_2 HGz14
      have hcz14_3 := cellS101_3 HGz14
      have hfz14_1 := blk_frozen HGz14 1
      have hfz14_2 := blk_frozen HGz14 2
      have hfz14_3 := blk_frozen HGz14 3
      clear HGz14 hgz14
      go_enter Tryd.func69, Tryd.ntmps69
      go_wp2_with (first | (go_at_call 86; (with_reducible refine (epactref11_reader_fail.calls g s0_0 s0_1 s0_2 s0_3 110 t288 t289 t290 w0 _ ?side1 ?side2 A13.out).mono ?_); (case side1 => repeat (first | (with_reducible first | exact HI0.out | apply IsS101.alloc | apply IsS101.drewN | apply IsS101.drew | apply IsS101.set_1 | apply IsS101.set_2 | apply IsS101.set_3) | exact HI0.out)); (case side2 => repeat (first | (with_reducible first | exact HB.out | apply below_alloc | apply pw_below_drewN | apply below_drew1 | refine below_set ?_ (IsS101.ge HI0.out)) | exact HB.out)); rintro e w15 ⟨rfl, hi, hb, hk⟩; have n0_ := Aside0.mk (KeepBut.trans (by repeat (first | (with_reducible first | exact HK.out | apply KeepBut.set_ | apply keep_drewN | apply keep_drew | apply keep_alloc) | exact HK.out)) hk (.inl rfl)); have n1_ := Aside0.mk (hb); have n2_ := Aside0.mk (hi); clear HK; clear HB; clear HI0; have HK := n0_; have HB := n1_; have HI0 := n2_; clear n0_ n1_ n2_; (try clear hb); (try clear hb2); (try clear hk); (try clear hi)))
      repeat (go_quiet (first | (go_at_call 86; (with_reducible refine (epactref11_reader_fail.calls g s0_0 s0_1 s0_2 s0_3 110 t288 t289 t290 w0 _ ?side1 ?side2 A13.out).mono ?_); (case side1 => repeat (first | (with_reducible first | exact HI0.out | apply IsS101.alloc | apply IsS101.drewN | apply IsS101.drew | apply IsS101.set_1 | apply IsS101.set_2 | apply IsS101.set_3) | exact HI0.out)); (case side2 => repeat (first | (with_reducible first | exact HB.out | apply below_alloc | apply pw_below_drewN | apply below_drew1 | refine below_set ?_ (IsS101.ge HI0.out)) | exact HB.out)); rintro e w15 ⟨rfl, hi, hb, hk⟩; have n0_ := Aside0.mk (KeepBut.trans (by repeat (first | (with_reducible first | exact HK.out | apply KeepBut.set_ | apply keep_drewN | apply keep_drew | apply keep_alloc) | exact HK.out)) hk (.inl rfl)); have n1_ := Aside0.mk (hb); have n2_ := Aside0.mk (hi); clear HK; clear HB; clear HI0; have HK := n0_; have HB := n1_; have HI0 := n2_; clear n0_ n1_ n2_; (try clear hb); (try clear hb2); (try clear hk); (try clear hi))); try go_wp2_with (first | (go_at_call 86; (with_reducible refine (epactref11_reader_fail.calls g s0_0 s0_1 s0_2 s0_3 110 t288 t289 t290 w0 _ ?side1 ?side2 A13.out).mono ?_); (case side1 => repeat (first | (with_reducible first | exact HI0.out | apply IsS101.alloc | apply IsS101.drewN | apply IsS101.drew | apply IsS101.set_1 | apply IsS101.set_2 | apply IsS101.set_3) | exact HI0.out)); (case side2 => repeat (first | (with_reducible first | exact HB.out | apply below_alloc | apply pw_below_drewN | apply below_drew1 | refine below_set ?_ (IsS101.ge HI0.out)) | exact HB.out)); rintro e w15 ⟨rfl, hi, hb, hk⟩; have n0_ := Aside0.mk (KeepBut.trans (by repeat (first | (with_reducible first | exact HK.out | apply KeepBut.set_ | apply keep_drewN | apply keep_drew | apply keep_alloc) | exact HK.out)) hk (.inl rfl)); have n1_ := Aside0.mk (hb); have n2_ := Aside0.mk (hi); clear HK; clear HB; clear HI0; have HK := n0_; have HB := n1_; have HI0 := n2_; clear n0_ n1_ n2_; (try clear hb); (try clear hb2); (try clear hk); (try clear hi))))
      go_ret
      exact ⟨by first | rfl | (simp [errW_none, errW_some] <;> rfl) | (simp [*, errW_none, errW_some] <;> rfl), by repeat (first | (with_reducible first | exact HI0.out | apply IsS101.alloc | apply IsS101.drewN | apply IsS101.drew | apply IsS101.set_1 | apply IsS101.set_2 | apply IsS101.set_3) | exact HI0.out), by repeat (first | (with_reducible first | exact HB.out | apply below_alloc | apply pw_below_drewN | apply below_drew1 | refine below_set ?_ (IsS101.ge HI0.out)) | exact HB.out), by repeat (first | (with_reducible first | exact HK.out | apply KeepBut.set_ | apply keep_drewN | apply keep_drew | apply keep_alloc) | exact HK.out)⟩
  · rw [if_neg c2] at H
    have c2b0 : (s0_3 == 0) = false := beq_eq_false_iff_ne.mpr c2
    have c2b1 : (s0_3 != 0) = true := bne_iff_ne.mpr c2
    simp only [Option.some.injEq, Prod.mk.injEq] at H
    obtain ⟨rfl, rfl, rfl, rfl⟩ := H
    obtain ⟨ASz16_0, cSz16_0, HGz16, hgz16, HSz16_0⟩ := HI0.out
    have hcz16_0 := cellS101_0 HGz16
    have hcz16_1 := cellS101_1 HGz16
    have hcz16_2 := cellS101_2 HGz16
    have hcz16_3 := cellS101_3 HGz16
    have hfz16_1 := blk_frozen HGz16 1
    have hfz16_2 := blk_frozen HGz16 2
    have hfz16_3 := blk_frozen HGz16 3
    clear HGz16 hgz16
    go_enter Tryd.func69, Tryd.ntmps69
    go_wp2
    repeat (go_quiet (fail); try go_wp2)
    go_ret
    exact ⟨by first | rfl | (simp [errW_none, errW_some] <;> rfl) | (simp [*, errW_none, errW_some] <;> rfl), by repeat (first | (with_reducible first | exact HI0.out | apply IsS101.alloc | apply IsS101.drewN | apply IsS101.drew | apply IsS101.set_1 | apply IsS101.set_2 | apply IsS101.set_3) | exact HI0.out), by repeat (first | (with_reducible first | exact HB.out | apply below_alloc | apply pw_below_drewN | apply below_drew1 | refine below_set ?_ (IsS101.ge HI0.out)) | exact HB.out), by repeat (first | (with_reducible first | exact HK.out | apply KeepBut.set_ | apply keep_drewN | apply keep_drew | apply keep_alloc) | exact HK.out)⟩
def epactref11_reader_number.f (s0_0 : List (S61)) (s0_1 : Int) (s0_2 : Int) (s0_3 : Int) : Option (Int × Int × Int × Int) := if s0_3 = 0 then (if s0_1 < (s0_0.length : Int) then (if 0 ≤ s0_1 then (if ((rd_T61 s0_0 s0_1).f0) = 2 then (if 0 ≤ (wrap64 ((wrap64 (s0_1 + 1)) - 1)) then (if (wrap64 ((wrap64 (s0_1 + 1)) - 1)) < (s0_0.length : Int) then (some ((rd_T61 s0_0 (wrap64 ((wrap64 (s0_1 + 1)) - 1))).f2, wrap64 (s0_1 + 1), s0_2, s0_3)) else (none)) else (none)) else (if ((rd_T61 s0_0 s0_1).f0) = 3 then (if 0 ≤ (wrap64 ((wrap64 (s0_1 + 1)) - 1)) then (if (wrap64 ((wrap64 (s0_1 + 1)) - 1)) < (s0_0.length : Int) then (some ((rd_T61 s0_0 (wrap64 ((wrap64 (s0_1 + 1)) - 1))).f2, wrap64 (s0_1 + 1), s0_2, s0_3)) else (none)) else (none)) else ((epactref11_reader_fail.f s0_0 s0_1 s0_2 s0_3 110).bind fun bt295 => (some (0, bt295.1, bt295.2.1, bt295.2.2))))) else (none)) else ((epactref11_reader_fail.f s0_0 s0_1 s0_2 s0_3 110).bind fun bt298 => (some (0, bt298.1, bt298.2.1, bt298.2.2)))) else (some (0, s0_1, s0_2, s0_3))
set_option maxHeartbeats 8000000 in
set_option maxRecDepth 100000 in
theorem epactref11_reader_number.calls (g : Nat) (s0_0 : List (S61)) (s0_1 : Int) (s0_2 : Int) (s0_3 : Int) (r1 : Int) (r2 : Int) (r3 : Int) (r4 : Int) (w0 w : World) (hI : IsS101 w0 w g s0_0 s0_1 s0_2 s0_3) (hB : Below w0.heap.size w0 w) (h : epactref11_reader_number.f s0_0 s0_1 s0_2 s0_3 = some (r1, r2, r3, r4)) :
    Calls Tryd.prog 70 #[.pointer (some ⟨g, 0, none⟩)] w fun e w' => e = .returned (.int .i64 r1) ∧ IsS101 w0 w' g s0_0 r2 r3 r4 ∧ Below w0.heap.size w0 w' ∧ KeepBut w w' g none := by
  have HI0 := Aside0.mk hI
  have HK := Aside0.mk (KeepBut.refl w g none)
  have HL := Aside0.mk hB.size
  clear hI
  have HW0 := Aside0.mk hB.size
  have HB := Aside0.mk hB
  clear hB
  have H : (if s0_3 = 0 then (if s0_1 < (s0_0.length : Int) then (if 0 ≤ s0_1 then (if ((rd_T61 s0_0 s0_1).f0) = 2 then (if 0 ≤ (wrap64 ((wrap64 (s0_1 + 1)) - 1)) then (if (wrap64 ((wrap64 (s0_1 + 1)) - 1)) < (s0_0.length : Int) then (some ((rd_T61 s0_0 (wrap64 ((wrap64 (s0_1 + 1)) - 1))).f2, wrap64 (s0_1 + 1), s0_2, s0_3)) else (none)) else (none)) else (if ((rd_T61 s0_0 s0_1).f0) = 3 then (if 0 ≤ (wrap64 ((wrap64 (s0_1 + 1)) - 1)) then (if (wrap64 ((wrap64 (s0_1 + 1)) - 1)) < (s0_0.length : Int) then (some ((rd_T61 s0_0 (wrap64 ((wrap64 (s0_1 + 1)) - 1))).f2, wrap64 (s0_1 + 1), s0_2, s0_3)) else (none)) else (none)) else ((epactref11_reader_fail.f s0_0 s0_1 s0_2 s0_3 110).bind fun bt295 => (some (0, bt295.1, bt295.2.1, bt295.2.2))))) else (none)) else ((epactref11_reader_fail.f s0_0 s0_1 s0_2 s0_3 110).bind fun bt298 => (some (0, bt298.1, bt298.2.1, bt298.2.2)))) else (some (0, s0_1, s0_2, s0_3))) = some (r1, r2, r3, r4) := h
  clear h
  by_cases c2 : s0_3 = 0
  · rw [if_pos c2] at H
    have c2b0 : (s0_3 == 0) = true := beq_iff_eq.mpr c2
    have c2b1 : (s0_3 != 0) = false := bne_eq_false_iff_eq.mpr c2
    clear c2
    by_cases c3 : s0_1 < (s0_0.length : Int)
    · rw [if_pos c3] at H
      have c3b0 : decide (s0_1 < (s0_0.length : Int)) = true := decide_eq_true c3
      clear c3
      by_cases c4 : 0 ≤ s0_1
      · rw [if_pos c4] at H
        have c4b0 : decide (0 ≤ s0_1) = true := decide_eq_true c4
        clear c4
        by_cases c5 : ((rd_T61 s0_0 s0_1).f0) = 2
        · rw [if_pos c5] at H
          have c5b0 : (((rd_T61 s0_0 s0_1).f0) == 2) = true := beq_iff_eq.mpr c5
          have c5b1 : (((rd_T61 s0_0 s0_1).f0) != 2) = false := bne_eq_false_iff_eq.mpr c5
          clear c5
          obtain ⟨ji6, hji6⟩ : ∃ j_ : Int, (wrap64 ((wrap64 (s0_1 + 1)) - 1)) = j_ := ⟨_, rfl⟩
          replace H : (if 0 ≤ (ji6) then (if (ji6) < (s0_0.length : Int) then (some ((rd_T61 s0_0 (ji6)).f2, wrap64 (s0_1 + 1), s0_2, s0_3)) else (none)) else (none)) = some (r1, r2, r3, r4) := by first | (rw [hji6] at H; exact H) | (simp only [hji6] at H ⊢; exact H)
          have hji6w : (IntKind.i64.wrap ((wrap64 (s0_1 + 1)) - 1)) = ji6 := (i64_w _).trans hji6
          by_cases c7 : 0 ≤ (ji6)
          · rw [if_pos c7] at H
            have c7b0 : decide (0 ≤ (ji6)) = true := decide_eq_true c7
            clear c7
            by_cases c8 : (ji6) < (s0_0.length : Int)
            · rw [if_pos c8] at H
              have c8b0 : decide ((ji6) < (s0_0.length : Int)) = true := decide_eq_true c8
              clear c8
              simp only [Option.some.injEq, Prod.mk.injEq] at H
              obtain ⟨rfl, rfl, rfl, rfl⟩ := H
              obtain ⟨ASz9_0, cSz9_0, HGz9, hgz9, HSz9_0⟩ := HI0.out
              have hcz9_0 := cellS101_0 HGz9
              have hcz9_1 := cellS101_1 HGz9
              have hcz9_2 := cellS101_2 HGz9
              have hcz9_3 := cellS101_3 HGz9
              have hfz9_1 := blk_frozen HGz9 1
              have hfz9_2 := blk_frozen HGz9 2
              have hfz9_3 := blk_frozen HGz9 3
              clear HGz9 hgz9
              have p291 : 0 ≤ (s0_1 : Int) := of_decide_eq_true (by first | (with_reducible assumption) | assumption)
              have q291 : s0_1 < (s0_0.length : Int) := of_decide_eq_true (by first | (with_reducible assumption) | assumption)
              obtain ⟨ad291, e291, hx291_0, hx291_1, hx291_2⟩ := at_T61 HSz9_0 s0_1 p291 q291
              cases e291
              replace hx291_0 := pw_cell_below HB.out hx291_0
              replace hx291_1 := pw_cell_below HB.out hx291_1
              replace hx291_2 := pw_cell_below HB.out hx291_2
              replace p291 := eq_true p291
              replace q291 := eq_true q291
              have p292 : 0 ≤ ((ji6) : Int) := of_decide_eq_true (by first | (with_reducible assumption) | assumption)
              have q292 : (ji6) < (s0_0.length : Int) := of_decide_eq_true (by first | (with_reducible assumption) | assumption)
              obtain ⟨ad292, e292, hx292_0, hx292_1, hx292_2⟩ := at_T61 HSz9_0 (ji6) p292 q292
              obtain rfl : ad291 = ad292 := (by injection e292)
              have hn292_0 : ad291.block ≠ g := Nat.ne_of_lt (Nat.lt_of_lt_of_le (by have := World.block_lt_of_cell? _ _ hx292_0; first | rwa [add_block] at this | exact this) (IsS101.ge HI0.out))
              replace hx292_0 := pw_cell_below HB.out hx292_0
              replace hx292_1 := pw_cell_below HB.out hx292_1
              replace hx292_2 := pw_cell_below HB.out hx292_2
              replace hx292_0 := (cell_far (p := ⟨g, 1, none⟩) (by first | (rw [add_block]; exact hn292_0) | (show (Addr.add _ _).block ≠ _; rw [add_block]; exact hn292_0) | exact hn292_0) (.int .i64 (wrap64 (s0_1 + 1)))).trans hx292_0
              replace hx292_1 := (cell_far (p := ⟨g, 1, none⟩) (by first | (rw [add_block]; exact hn292_0) | (show (Addr.add _ _).block ≠ _; rw [add_block]; exact hn292_0) | exact hn292_0) (.int .i64 (wrap64 (s0_1 + 1)))).trans hx292_1
              replace hx292_2 := (cell_far (p := ⟨g, 1, none⟩) (by first | (rw [add_block]; exact hn292_0) | (show (Addr.add _ _).block ≠ _; rw [add_block]; exact hn292_0) | exact hn292_0) (.int .i64 (wrap64 (s0_1 + 1)))).trans hx292_2
              (try have hy292_0 := fun (n_ : Nat) => (show (((w.drewN n_).setCell ⟨g, 1, none⟩ (.int .i64 (wrap64 (s0_1 + 1))))).cell? _ = some _ from hx292_0))
              (try have hy292_1 := fun (n_ : Nat) => (show (((w.drewN n_).setCell ⟨g, 1, none⟩ (.int .i64 (wrap64 (s0_1 + 1))))).cell? _ = some _ from hx292_1))
              (try have hy292_2 := fun (n_ : Nat) => (show (((w.drewN n_).setCell ⟨g, 1, none⟩ (.int .i64 (wrap64 (s0_1 + 1))))).cell? _ = some _ from hx292_2))
              clear hn292_0
              replace p292 := eq_true p292
              replace q292 := eq_true q292
              go_enter Tryd.func70, Tryd.ntmps70
              go_wp2
              repeat (go_quiet (fail); try go_wp2)
              go_ret
              exact ⟨by first | rfl | (simp [errW_none, errW_some] <;> rfl) | (simp only [← hji6]; first | rfl | (simp [errW_none, errW_some] <;> rfl)) | (simp [*, errW_none, errW_some] <;> rfl), by repeat (first | (with_reducible first | exact HI0.out | apply IsS101.alloc | apply IsS101.drewN | apply IsS101.drew | apply IsS101.set_1 | apply IsS101.set_2 | apply IsS101.set_3) | exact HI0.out), by repeat (first | (with_reducible first | exact HB.out | apply below_alloc | apply pw_below_drewN | apply below_drew1 | refine below_set ?_ (IsS101.ge HI0.out)) | exact HB.out), by repeat (first | (with_reducible first | exact HK.out | apply KeepBut.set_ | apply keep_drewN | apply keep_drew | apply keep_alloc) | exact HK.out)⟩
            · rw [if_neg c8] at H
              exact absurd H (by simp)
          · rw [if_neg c7] at H
            exact absurd H (by simp)
        · rw [if_neg c5] at H
          have c5b0 : (((rd_T61 s0_0 s0_1).f0) == 2) = false := beq_eq_false_iff_ne.mpr c5
          have c5b1 : (((rd_T61 s0_0 s0_1).f0) != 2) = true := bne_iff_ne.mpr c5
          by_cases c10 : ((rd_T61 s0_0 s0_1).f0) = 3
          · rw [if_pos c10] at H
            have c10b0 : (((rd_T61 s0_0 s0_1).f0) == 3) = true := beq_iff_eq.mpr c10
            have c10b1 : (((rd_T61 s0_0 s0_1).f0) != 3) = false := bne_eq_false_iff_eq.mpr c10
            clear c10
            obtain ⟨ji11, hji11⟩ : ∃ j_ : Int, (wrap64 ((wrap64 (s0_1 + 1)) - 1)) = j_ := ⟨_, rfl⟩
            replace H : (if 0 ≤ (ji11) then (if (ji11) < (s0_0.length : Int) then (some ((rd_T61 s0_0 (ji11)).f2, wrap64 (s0_1 + 1), s0_2, s0_3)) else (none)) else (none)) = some (r1, r2, r3, r4) := by first | (rw [hji11] at H; exact H) | (simp only [hji11] at H ⊢; exact H)
            have hji11w : (IntKind.i64.wrap ((wrap64 (s0_1 + 1)) - 1)) = ji11 := (i64_w _).trans hji11
            by_cases c12 : 0 ≤ (ji11)
            · rw [if_pos c12] at H
              have c12b0 : decide (0 ≤ (ji11)) = true := decide_eq_true c12
              clear c12
              by_cases c13 : (ji11) < (s0_0.length : Int)
              · rw [if_pos c13] at H
                have c13b0 : decide ((ji11) < (s0_0.length : Int)) = true := decide_eq_true c13
                clear c13
                simp only [Option.some.injEq, Prod.mk.injEq] at H
                obtain ⟨rfl, rfl, rfl, rfl⟩ := H
                obtain ⟨ASz14_0, cSz14_0, HGz14, hgz14, HSz14_0⟩ := HI0.out
                have hcz14_0 := cellS101_0 HGz14
                have hcz14_1 := cellS101_1 HGz14
                have hcz14_2 := cellS101_2 HGz14
                have hcz14_3 := cellS101_3 HGz14
                have hfz14_1 := blk_frozen HGz14 1
                have hfz14_2 := blk_frozen HGz14 2
                have hfz14_3 := blk_frozen HGz14 3
                clear HGz14 hgz14
                have p291 : 0 ≤ (s0_1 : Int) := of_decide_eq_true (by first | (with_reducible assumption) | assumption)
                have q291 : s0_1 < (s0_0.length : Int) := of_decide_eq_true (by first | (with_reducible assumption) | assumption)
                obtain ⟨ad291, e291, hx291_0, hx291_1, hx291_2⟩ := at_T61 HSz14_0 s0_1 p291 q291
                cases e291
                replace hx291_0 := pw_cell_below HB.out hx291_0
                replace hx291_1 := pw_cell_below HB.out hx291_1
                replace hx291_2 := pw_cell_below HB.out hx291_2
                replace p291 := eq_true p291
                replace q291 := eq_true q291
                have p293 : 0 ≤ (s0_1 : Int) := of_decide_eq_true (by first | (with_reducible assumption) | assumption)
                have q293 : s0_1 < (s0_0.length : Int) := of_decide_eq_true (by first | (with_reducible assumption) | assumption)
                obtain ⟨ad293, e293, hx293_0, hx293_1, hx293_2⟩ := at_T61 HSz14_0 s0_1 p293 q293
                obtain rfl : ad291 = ad293 := (by injection e293)
                replace hx293_0 := pw_cell_below HB.out hx293_0
                replace hx293_1 := pw_cell_below HB.out hx293_1
                replace hx293_2 := pw_cell_below HB.out hx293_2
                replace p293 := eq_true p293
                replace q293 := eq_true q293
                have p294 : 0 ≤ ((ji11) : Int) := of_decide_eq_true (by first | (with_reducible assumption) | assumption)
                have q294 : (ji11) < (s0_0.length : Int) := of_decide_eq_true (by first | (with_reducible assumption) | assumption)
                obtain ⟨ad294, e294, hx294_0, hx294_1, hx294_2⟩ := at_T61 HSz14_0 (ji11) p294 q294
                obtain rfl : ad291 = ad294 := (by injection e294)
                have hn294_0 : ad291.block ≠ g := Nat.ne_of_lt (Nat.lt_of_lt_of_le (by have := World.block_lt_of_cell? _ _ hx294_0; first | rwa [add_block] at this | exact this) (IsS101.ge HI0.out))
                replace hx294_0 := pw_cell_below HB.out hx294_0
                replace hx294_1 := pw_cell_below HB.out hx294_1
                replace hx294_2 := pw_cell_below HB.out hx294_2
                replace hx294_0 := (cell_far (p := ⟨g, 1, none⟩) (by first | (rw [add_block]; exact hn294_0) | (show (Addr.add _ _).block ≠ _; rw [add_block]; exact hn294_0) | exact hn294_0) (.int .i64 (wrap64 (s0_1 + 1)))).trans hx294_0
                replace hx294_1 := (cell_far (p := ⟨g, 1, none⟩) (by first | (rw [add_block]; exact hn294_0) | (show (Addr.add _ _).block ≠ _; rw [add_block]; exact hn294_0) | exact hn294_0) (.int .i64 (wrap64 (s0_1 + 1)))).trans hx294_1
                replace hx294_2 := (cell_far (p := ⟨g, 1, none⟩) (by first | (rw [add_block]; exact hn294_0) | (show (Addr.add _ _).block ≠ _; rw [add_block]; exact hn294_0) | exact hn294_0) (.int .i64 (wrap64 (s0_1 + 1)))).trans hx294_2
                (try have hy294_0 := fun (n_ : Nat) => (show (((w.drewN n_).setCell ⟨g, 1, none⟩ (.int .i64 (wrap64 (s0_1 + 1))))).cell? _ = some _ from hx294_0))
                (try have hy294_1 := fun (n_ : Nat) => (show (((w.drewN n_).setCell ⟨g, 1, none⟩ (.int .i64 (wrap64 (s0_1 + 1))))).cell? _ = some _ from hx294_1))
                (try have hy294_2 := fun (n_ : Nat) => (show (((w.drewN n_).setCell ⟨g, 1, none⟩ (.int .i64 (wrap64 (s0_1 + 1))))).cell? _ = some _ from hx294_2))
                clear hn294_0
                replace p294 := eq_true p294
                replace q294 := eq_true q294
                go_enter Tryd.func70, Tryd.ntmps70
                go_wp2
                repeat (go_quiet (fail); try go_wp2)
                go_ret
                exact ⟨by first | rfl | (simp [errW_none, errW_some] <;> rfl) | (simp only [← hji11]; first | rfl | (simp [errW_none, errW_some] <;> rfl)) | (simp [*, errW_none, errW_some] <;> rfl), by repeat (first | (with_reducible first | exact HI0.out | apply IsS101.alloc | apply IsS101.drewN | apply IsS101.drew | apply IsS101.set_1 | apply IsS101.set_2 | apply IsS101.set_3) | exact HI0.out), by repeat (first | (with_reducible first | exact HB.out | apply below_alloc | apply pw_below_drewN | apply below_drew1 | refine below_set ?_ (IsS101.ge HI0.out)) | exact HB.out), by repeat (first | (with_reducible first | exact HK.out | apply KeepBut.set_ | apply keep_drewN | apply keep_drew | apply keep_alloc) | exact HK.out)⟩
              · rw [if_neg c13] at H
                exact absurd H (by simp)
            · rw [if_neg c12] at H
              exact absurd H (by simp)
          · rw [if_neg c10] at H
            have c10b0 : (((rd_T61 s0_0 s0_1).f0) == 3) = false := beq_eq_false_iff_ne.mpr c10
            have c10b1 : (((rd_T61 s0_0 s0_1).f0) != 3) = true := bne_iff_ne.mpr c10
            replace H := Option.bind_eq_some_iff.mp H
            obtain ⟨⟨t295, t296, t297⟩, A150, H⟩ := H
            replace H : (some (0, t295, t296, t297)) = some (r1, r2, r3, r4) := H
            have A15 := Aside0.mk A150
            clear A150
            simp only [Option.some.injEq, Prod.mk.injEq] at H
            obtain ⟨rfl, rfl, rfl, rfl⟩ := H
            obtain ⟨ASz16_0, cSz16_0, HGz16, hgz16, HSz16_0⟩ := HI0.out
            have hcz16_0 := cellS101_0 HGz16
            have hcz16_1 := cellS101_1 HGz16
            have hcz16_2 := cellS101_2 HGz16
            have hcz16_3 := cellS101_3 HGz16
            have hfz16_1 := blk_frozen HGz16 1
            have hfz16_2 := blk_frozen HGz16 2
            have hfz16_3 := blk_frozen HGz16 3
            clear HGz16 hgz16
            have p291 : 0 ≤ (s0_1 : Int) := of_decide_eq_true (by first | (with_reducible assumption) | assumption)
            have q291 : s0_1 < (s0_0.length : Int) := of_decide_eq_true (by first | (with_reducible assumption) | assumption)
            obtain ⟨ad291, e291, hx291_0, hx291_1, hx291_2⟩ := at_T61 HSz16_0 s0_1 p291 q291
            cases e291
            replace hx291_0 := pw_cell_below HB.out hx291_0
            replace hx291_1 := pw_cell_below HB.out hx291_1
            replace hx291_2 := pw_cell_below HB.out hx291_2
            replace p291 := eq_true p291
            replace q291 := eq_true q291
            have p293 : 0 ≤ (s0_1 : Int) := of_decide_eq_true (by first | (with_reducible assumption) | assumption)
            have q293 : s0_1 < (s0_0.length : Int) := of_decide_eq_true (by first | (with_reducible assumption) | assumption)
            obtain ⟨ad293, e293, hx293_0, hx293_1, hx293_2⟩ := at_T61 HSz16_0 s0_1 p293 q293
            obtain rfl : ad291 = ad293 := (by injection e293)
            replace hx293_0 := pw_cell_below HB.out hx293_0
            replace hx293_1 := pw_cell_below HB.out hx293_1
            replace hx293_2 := pw_cell_below HB.out hx293_2
            replace p293 := eq_true p293
            replace q293 := eq_true q293
            go_enter Tryd.func70, Tryd.ntmps70
            go_wp2_with (first | (go_at_call 86; (with_reducible refine (epactref11_reader_fail.calls g s0_0 s0_1 s0_2 s0_3 110 t295 t296 t297 w0 _ ?side1 ?side2 A15.out).mono ?_); (case side1 => repeat (first | (with_reducible first | exact HI0.out | apply IsS101.alloc | apply IsS101.drewN | apply IsS101.drew | apply IsS101.set_1 | apply IsS101.set_2 | apply IsS101.set_3) | exact HI0.out)); (case side2 => repeat (first | (with_reducible first | exact HB.out | apply below_alloc | apply pw_below_drewN | apply below_drew1 | refine below_set ?_ (IsS101.ge HI0.out)) | exact HB.out)); rintro e w17 ⟨rfl, hi, hb, hk⟩; have n0_ := Aside0.mk (KeepBut.trans (by repeat (first | (with_reducible first | exact HK.out | apply KeepBut.set_ | apply keep_drewN | apply keep_drew | apply keep_alloc) | exact HK.out)) hk (.inl rfl)); have n1_ := Aside0.mk (hb); have n2_ := Aside0.mk (hi); clear HK; clear HB; clear HI0; have HK := n0_; have HB := n1_; have HI0 := n2_; clear n0_ n1_ n2_; (try clear hb); (try clear hb2); (try clear hk); (try clear hi)))
            repeat (go_quiet (first | (go_at_call 86; (with_reducible refine (epactref11_reader_fail.calls g s0_0 s0_1 s0_2 s0_3 110 t295 t296 t297 w0 _ ?side1 ?side2 A15.out).mono ?_); (case side1 => repeat (first | (with_reducible first | exact HI0.out | apply IsS101.alloc | apply IsS101.drewN | apply IsS101.drew | apply IsS101.set_1 | apply IsS101.set_2 | apply IsS101.set_3) | exact HI0.out)); (case side2 => repeat (first | (with_reducible first | exact HB.out | apply below_alloc | apply pw_below_drewN | apply below_drew1 | refine below_set ?_ (IsS101.ge HI0.out)) | exact HB.out)); rintro e w17 ⟨rfl, hi, hb, hk⟩; have n0_ := Aside0.mk (KeepBut.trans (by repeat (first | (with_reducible first | exact HK.out | apply KeepBut.set_ | apply keep_drewN | apply keep_drew | apply keep_alloc) | exact HK.out)) hk (.inl rfl)); have n1_ := Aside0.mk (hb); have n2_ := Aside0.mk (hi); clear HK; clear HB; clear HI0; have HK := n0_; have HB := n1_; have HI0 := n2_; clear n0_ n1_ n2_; (try clear hb); (try clear hb2); (try clear hk); (try clear hi))); try go_wp2_with (first | (go_at_call 86; (with_reducible refine (epactref11_reader_fail.calls g s0_0 s0_1 s0_2 s0_3 110 t295 t296 t297 w0 _ ?side1 ?side2 A15.out).mono ?_); (case side1 => repeat (first | (with_reducible first | exact HI0.out | apply IsS101.alloc | apply IsS101.drewN | apply IsS101.drew | apply IsS101.set_1 | apply IsS101.set_2 | apply IsS101.set_3) | exact HI0.out)); (case side2 => repeat (first | (with_reducible first | exact HB.out | apply below_alloc | apply pw_below_drewN | apply below_drew1 | refine below_set ?_ (IsS101.ge HI0.out)) | exact HB.out)); rintro e w17 ⟨rfl, hi, hb, hk⟩; have n0_ := Aside0.mk (KeepBut.trans (by repeat (first | (with_reducible first | exact HK.out | apply KeepBut.set_ | apply keep_drewN | apply keep_drew | apply keep_alloc) | exact HK.out)) hk (.inl rfl)); have n1_ := Aside0.mk (hb); have n2_ := Aside0.mk (hi); clear HK; clear HB; clear HI0; have HK := n0_; have HB := n1_; have HI0 := n2_; clear n0_ n1_ n2_; (try clear hb); (try clear hb2); (try clear hk); (try clear hi))))
            go_ret
            exact ⟨by first | rfl | (simp [errW_none, errW_some] <;> rfl) | (simp [*, errW_none, errW_some] <;> rfl), by repeat (first | (with_reducible first | exact HI0.out | apply IsS101.alloc | apply IsS101.drewN | apply IsS101.drew | apply IsS101.set_1 | apply IsS101.set_2 | apply IsS101.set_3) | exact HI0.out), by repeat (first | (with_reducible first | exact HB.out | apply below_alloc | apply pw_below_drewN | apply below_drew1 | refine below_set ?_ (IsS101.ge HI0.out)) | exact HB.out), by repeat (first | (with_reducible first | exact HK.out | apply KeepBut.set_ | apply keep_drewN | apply keep_drew | apply keep_alloc) | exact HK.out)⟩
      · rw [if_neg c4] at H
        exact absurd H (by simp)
    · rw [if_neg c3] at H
      have c3b0 : decide (s0_1 < (s0_0.length : Int)) = false := decide_eq_false c3
      clear c3
      replace H := Option.bind_eq_some_iff.mp H
      obtain ⟨⟨t298, t299, t300⟩, A180, H⟩ := H
      replace H : (some (0, t298, t299, t300)) = some (r1, r2, r3, r4) := H
      have A18 := Aside0.mk A180
      clear A180
      simp only [Option.some.injEq, Prod.mk.injEq] at H
      obtain ⟨rfl, rfl, rfl, rfl⟩ := H
      obtain ⟨ASz19_0, cSz19_0, HGz19, hgz19, HSz19_0⟩ := HI0.out
      have hcz19_0 := cellS101_0 HGz19
      have hcz19_1 := cellS101_1 HGz19
      have hcz19_2 := cellS101_2 HGz19
      have hcz19_3 := cellS101_3 HGz19
      have hfz19_1 := blk_frozen HGz19 1
      have hfz19_2 := blk_frozen HGz19 2
      have hfz19_3 := blk_frozen HGz19 3
      clear HGz19 hgz19
      go_enter Tryd.func70, Tryd.ntmps70
      go_wp2_with (first | (go_at_call 86; (with_reducible refine (epactref11_reader_fail.calls g s0_0 s0_1 s0_2 s0_3 110 t298 t299 t300 w0 _ ?side1 ?side2 A18.out).mono ?_); (case side1 => repeat (first | (with_reducible first | exact HI0.out | apply IsS101.alloc | apply IsS101.drewN | apply IsS101.drew | apply IsS101.set_1 | apply IsS101.set_2 | apply IsS101.set_3) | exact HI0.out)); (case side2 => repeat (first | (with_reducible first | exact HB.out | apply below_alloc | apply pw_below_drewN | apply below_drew1 | refine below_set ?_ (IsS101.ge HI0.out)) | exact HB.out)); rintro e w20 ⟨rfl, hi, hb, hk⟩; have n0_ := Aside0.mk (KeepBut.trans (by repeat (first | (with_reducible first | exact HK.out | apply KeepBut.set_ | apply keep_drewN | apply keep_drew | apply keep_alloc) | exact HK.out)) hk (.inl rfl)); have n1_ := Aside0.mk (hb); have n2_ := Aside0.mk (hi); clear HK; clear HB; clear HI0; have HK := n0_; have HB := n1_; have HI0 := n2_; clear n0_ n1_ n2_; (try clear hb); (try clear hb2); (try clear hk); (try clear hi)))
      repeat (go_quiet (first | (go_at_call 86; (with_reducible refine (epactref11_reader_fail.calls g s0_0 s0_1 s0_2 s0_3 110 t298 t299 t300 w0 _ ?side1 ?side2 A18.out).mono ?_); (case side1 => repeat (first | (with_reducible first | exact HI0.out | apply IsS101.alloc | apply IsS101.drewN | apply IsS101.drew | apply IsS101.set_1 | apply IsS101.set_2 | apply IsS101.set_3) | exact HI0.out)); (case side2 => repeat (first | (with_reducible first | exact HB.out | apply below_alloc | apply pw_below_drewN | apply below_drew1 | refine below_set ?_ (IsS101.ge HI0.out)) | exact HB.out)); rintro e w20 ⟨rfl, hi, hb, hk⟩; have n0_ := Aside0.mk (KeepBut.trans (by repeat (first | (with_reducible first | exact HK.out | apply KeepBut.set_ | apply keep_drewN | apply keep_drew | apply keep_alloc) | exact HK.out)) hk (.inl rfl)); have n1_ := Aside0.mk (hb); have n2_ := Aside0.mk (hi); clear HK; clear HB; clear HI0; have HK := n0_; have HB := n1_; have HI0 := n2_; clear n0_ n1_ n2_; (try clear hb); (try clear hb2); (try clear hk); (try clear hi))); try go_wp2_with (first | (go_at_call 86; (with_reducible refine (epactref11_reader_fail.calls g s0_0 s0_1 s0_2 s0_3 110 t298 t299 t300 w0 _ ?side1 ?side2 A18.out).mono ?_); (case side1 => repeat (first | (with_reducible first | exact HI0.out | apply IsS101.alloc | apply IsS101.drewN | apply IsS101.drew | apply IsS101.set_1 | apply IsS101.set_2 | apply IsS101.set_3) | exact HI0.out)); (case side2 => repeat (first | (with_reducible first | exact HB.out | apply below_alloc | apply pw_below_drewN | apply below_drew1 | refine below_set ?_ (IsS101.ge HI0.out)) | exact HB.out)); rintro e w20 ⟨rfl, hi, hb, hk⟩; have n0_ := Aside0.mk (KeepBut.trans (by repeat (first | (with_reducible first | exact HK.out | apply KeepBut.set_ | apply keep_drewN | apply keep_drew | apply keep_alloc) | exact HK.out)) hk (.inl rfl)); have n1_ := Aside0.mk (hb); have n2_ := Aside0.mk (hi); clear HK; clear HB; clear HI0; have HK := n0_; have HB := n1_; have HI0 := n2_; clear n0_ n1_ n2_; (try clear hb); (try clear hb2); (try clear hk); (try clear hi))))
      go_ret
      exact ⟨by first | rfl | (simp [errW_none, errW_some] <;> rfl) | (simp [*, errW_none, errW_some] <;> rfl), by repeat (first | (with_reducible first | exact HI0.out | apply IsS101.alloc | apply IsS101.drewN | apply IsS101.drew | apply IsS101.set_1 | apply IsS101.set_2 | apply IsS101.set_3) | exact HI0.out), by repeat (first | (with_reducible first | exact HB.out | apply below_alloc | apply pw_below_drewN | apply below_drew1 | refine below_set ?_ (IsS101.ge HI0.out)) | exact HB.out), by repeat (first | (with_reducible first | exact HK.out | apply KeepBut.set_ | apply keep_drewN | apply keep_drew | apply keep_alloc) | exact HK.out)⟩
  · rw [if_neg c2] at H
    have c2b0 : (s0_3 == 0) = false := beq_eq_false_iff_ne.mpr c2
    have c2b1 : (s0_3 != 0) = true := bne_iff_ne.mpr c2
    simp only [Option.some.injEq, Prod.mk.injEq] at H
    obtain ⟨rfl, rfl, rfl, rfl⟩ := H
    obtain ⟨ASz21_0, cSz21_0, HGz21, hgz21, HSz21_0⟩ := HI0.out
    have hcz21_0 := cellS101_0 HGz21
    have hcz21_1 := cellS101_1 HGz21
    have hcz21_2 := cellS101_2 HGz21
    have hcz21_3 := cellS101_3 HGz21
    have hfz21_1 := blk_frozen HGz21 1
    have hfz21_2 := blk_frozen HGz21 2
    have hfz21_3 := blk_frozen HGz21 3
    clear HGz21 hgz21
    go_enter Tryd.func70, Tryd.ntmps70
    go_wp2
    repeat (go_quiet (fail); try go_wp2)
    go_ret
    exact ⟨by first | rfl | (simp [errW_none, errW_some] <;> rfl) | (simp [*, errW_none, errW_some] <;> rfl), by repeat (first | (with_reducible first | exact HI0.out | apply IsS101.alloc | apply IsS101.drewN | apply IsS101.drew | apply IsS101.set_1 | apply IsS101.set_2 | apply IsS101.set_3) | exact HI0.out), by repeat (first | (with_reducible first | exact HB.out | apply below_alloc | apply pw_below_drewN | apply below_drew1 | refine below_set ?_ (IsS101.ge HI0.out)) | exact HB.out), by repeat (first | (with_reducible first | exact HK.out | apply KeepBut.set_ | apply keep_drewN | apply keep_drew | apply keep_alloc) | exact HK.out)⟩
def epactref11_reader_mark.f (s0_0 : List (S61)) (s0_1 : Int) (s0_2 : Int) (s0_3 : Int) (a1 : ByteArray) : Option (Int × Int × Int) := if s0_3 = 0 then (if s0_1 < (s0_0.length : Int) then (if 0 ≤ s0_1 then (if ((rd_T61 s0_0 s0_1).f0) = 4 then (if ((rd_T61 s0_0 s0_1).f1).toList = a1.toList then (some (wrap64 (s0_1 + 1), s0_2, s0_3)) else ((epactref11_reader_fail.f s0_0 s0_1 s0_2 s0_3 110).bind fun bt303 => (some (bt303.1, bt303.2.1, bt303.2.2)))) else ((epactref11_reader_fail.f s0_0 s0_1 s0_2 s0_3 110).bind fun bt306 => (some (bt306.1, bt306.2.1, bt306.2.2)))) else (none)) else ((epactref11_reader_fail.f s0_0 s0_1 s0_2 s0_3 110).bind fun bt309 => (some (bt309.1, bt309.2.1, bt309.2.2)))) else (some (s0_1, s0_2, s0_3))
set_option maxHeartbeats 8000000 in
set_option maxRecDepth 100000 in
theorem epactref11_reader_mark.calls (g : Nat) (s0_0 : List (S61)) (s0_1 : Int) (s0_2 : Int) (s0_3 : Int) (a1 : ByteArray) (r1 : Int) (r2 : Int) (r3 : Int) (w0 w : World) (hI : IsS101 w0 w g s0_0 s0_1 s0_2 s0_3) (hB : Below w0.heap.size w0 w) (h : epactref11_reader_mark.f s0_0 s0_1 s0_2 s0_3 a1 = some (r1, r2, r3)) :
    Calls Tryd.prog 72 #[.pointer (some ⟨g, 0, none⟩), .string a1] w fun e w' => e = .returned (.tuple #[]) ∧ IsS101 w0 w' g s0_0 r1 r2 r3 ∧ Below w0.heap.size w0 w' ∧ KeepBut w w' g none := by
  have HI0 := Aside0.mk hI
  have HK := Aside0.mk (KeepBut.refl w g none)
  have HL := Aside0.mk hB.size
  clear hI
  have HW0 := Aside0.mk hB.size
  have HB := Aside0.mk hB
  clear hB
  have H : (if s0_3 = 0 then (if s0_1 < (s0_0.length : Int) then (if 0 ≤ s0_1 then (if ((rd_T61 s0_0 s0_1).f0) = 4 then (if ((rd_T61 s0_0 s0_1).f1).toList = a1.toList then (some (wrap64 (s0_1 + 1), s0_2, s0_3)) else ((epactref11_reader_fail.f s0_0 s0_1 s0_2 s0_3 110).bind fun bt303 => (some (bt303.1, bt303.2.1, bt303.2.2)))) else ((epactref11_reader_fail.f s0_0 s0_1 s0_2 s0_3 110).bind fun bt306 => (some (bt306.1, bt306.2.1, bt306.2.2)))) else (none)) else ((epactref11_reader_fail.f s0_0 s0_1 s0_2 s0_3 110).bind fun bt309 => (some (bt309.1, bt309.2.1, bt309.2.2)))) else (some (s0_1, s0_2, s0_3))) = some (r1, r2, r3) := h
  clear h
  by_cases c3 : s0_3 = 0
  · rw [if_pos c3] at H
    have c3b0 : (s0_3 == 0) = true := beq_iff_eq.mpr c3
    have c3b1 : (s0_3 != 0) = false := bne_eq_false_iff_eq.mpr c3
    clear c3
    by_cases c4 : s0_1 < (s0_0.length : Int)
    · rw [if_pos c4] at H
      have c4b0 : decide (s0_1 < (s0_0.length : Int)) = true := decide_eq_true c4
      clear c4
      by_cases c5 : 0 ≤ s0_1
      · rw [if_pos c5] at H
        have c5b0 : decide (0 ≤ s0_1) = true := decide_eq_true c5
        clear c5
        by_cases c6 : ((rd_T61 s0_0 s0_1).f0) = 4
        · rw [if_pos c6] at H
          have c6b0 : (((rd_T61 s0_0 s0_1).f0) == 4) = true := beq_iff_eq.mpr c6
          have c6b1 : (((rd_T61 s0_0 s0_1).f0) != 4) = false := bne_eq_false_iff_eq.mpr c6
          clear c6
          by_cases c7 : ((rd_T61 s0_0 s0_1).f1).toList = a1.toList
          · rw [if_pos c7] at H
            have c7b0 : (((rd_T61 s0_0 s0_1).f1).toList == a1.toList) = true := beq_iff_eq.mpr c7
            have c7b1 : (((rd_T61 s0_0 s0_1).f1).toList != a1.toList) = false := bne_eq_false_iff_eq.mpr c7
            clear c7
            simp only [Option.some.injEq, Prod.mk.injEq] at H
            obtain ⟨rfl, rfl, rfl⟩ := H
            obtain ⟨ASz8_0, cSz8_0, HGz8, hgz8, HSz8_0⟩ := HI0.out
            have hcz8_0 := cellS101_0 HGz8
            have hcz8_1 := cellS101_1 HGz8
            have hcz8_2 := cellS101_2 HGz8
            have hcz8_3 := cellS101_3 HGz8
            have hfz8_1 := blk_frozen HGz8 1
            have hfz8_2 := blk_frozen HGz8 2
            have hfz8_3 := blk_frozen HGz8 3
            clear HGz8 hgz8
            have p301 : 0 ≤ (s0_1 : Int) := of_decide_eq_true (by first | (with_reducible assumption) | assumption)
            have q301 : s0_1 < (s0_0.length : Int) := of_decide_eq_true (by first | (with_reducible assumption) | assumption)
            obtain ⟨ad301, e301, hx301_0, hx301_1, hx301_2⟩ := at_T61 HSz8_0 s0_1 p301 q301
            cases e301
            replace hx301_0 := pw_cell_below HB.out hx301_0
            replace hx301_1 := pw_cell_below HB.out hx301_1
            replace hx301_2 := pw_cell_below HB.out hx301_2
            replace p301 := eq_true p301
            replace q301 := eq_true q301
            have p302 : 0 ≤ (s0_1 : Int) := of_decide_eq_true (by first | (with_reducible assumption) | assumption)
            have q302 : s0_1 < (s0_0.length : Int) := of_decide_eq_true (by first | (with_reducible assumption) | assumption)
            obtain ⟨ad302, e302, hx302_0, hx302_1, hx302_2⟩ := at_T61 HSz8_0 s0_1 p302 q302
            obtain rfl : ad301 = ad302 := (by injection e302)
            replace hx302_0 := pw_cell_below HB.out hx302_0
            replace hx302_1 := pw_cell_below HB.out hx302_1
            replace hx302_2 := pw_cell_below HB.out hx302_2
            replace p302 := eq_true p302
            replace q302 := eq_true q302
            go_enter Tryd.func72, Tryd.ntmps72
            go_wp2
            repeat (go_quiet (fail); try go_wp2)
            first | go_end0 | ((try simp only [Exit.inBlock, Exit.then]); refine bodyPost_ret (results_none rfl _ _ _) rfl ?_)
            exact ⟨by first | rfl | (simp [errW_none, errW_some] <;> rfl) | (simp [*, errW_none, errW_some] <;> rfl), by repeat (first | (with_reducible first | exact HI0.out | apply IsS101.alloc | apply IsS101.drewN | apply IsS101.drew | apply IsS101.set_1 | apply IsS101.set_2 | apply IsS101.set_3) | exact HI0.out), by repeat (first | (with_reducible first | exact HB.out | apply below_alloc | apply pw_below_drewN | apply below_drew1 | refine below_set ?_ (IsS101.ge HI0.out)) | exact HB.out), by repeat (first | (with_reducible first | exact HK.out | apply KeepBut.set_ | apply keep_drewN | apply keep_drew | apply keep_alloc) | exact HK.out)⟩
          · rw [if_neg c7] at H
            have c7b0 : (((rd_T61 s0_0 s0_1).f1).toList == a1.toList) = false := beq_eq_false_iff_ne.mpr c7
            have c7b1 : (((rd_T61 s0_0 s0_1).f1).toList != a1.toList) = true := bne_iff_ne.mpr c7
            replace H := Option.bind_eq_some_iff.mp H
            obtain ⟨⟨t303, t304, t305⟩, A90, H⟩ := H
            replace H : (some (t303, t304, t305)) = some (r1, r2, r3) := H
            have A9 := Aside0.mk A90
            clear A90
            simp only [Option.some.injEq, Prod.mk.injEq] at H
            obtain ⟨rfl, rfl, rfl⟩ := H
            obtain ⟨ASz10_0, cSz10_0, HGz10, hgz10, HSz10_0⟩ := HI0.out
            have hcz10_0 := cellS101_0 HGz10
            have hcz10_1 := cellS101_1 HGz10
            have hcz10_2 := cellS101_2 HGz10
            have hcz10_3 := cellS101_3 HGz10
            have hfz10_1 := blk_frozen HGz10 1
            have hfz10_2 := blk_frozen HGz10 2
            have hfz10_3 := blk_frozen HGz10 3
            clear HGz10 hgz10
            have p301 : 0 ≤ (s0_1 : Int) := of_decide_eq_true (by first | (with_reducible assumption) | assumption)
            have q301 : s0_1 < (s0_0.length : Int) := of_decide_eq_true (by first | (with_reducible assumption) | assumption)
            obtain ⟨ad301, e301, hx301_0, hx301_1, hx301_2⟩ := at_T61 HSz10_0 s0_1 p301 q301
            cases e301
            replace hx301_0 := pw_cell_below HB.out hx301_0
            replace hx301_1 := pw_cell_below HB.out hx301_1
            replace hx301_2 := pw_cell_below HB.out hx301_2
            replace p301 := eq_true p301
            replace q301 := eq_true q301
            have p302 : 0 ≤ (s0_1 : Int) := of_decide_eq_true (by first | (with_reducible assumption) | assumption)
            have q302 : s0_1 < (s0_0.length : Int) := of_decide_eq_true (by first | (with_reducible assumption) | assumption)
            obtain ⟨ad302, e302, hx302_0, hx302_1, hx302_2⟩ := at_T61 HSz10_0 s0_1 p302 q302
            obtain rfl : ad301 = ad302 := (by injection e302)
            replace hx302_0 := pw_cell_below HB.out hx302_0
            replace hx302_1 := pw_cell_below HB.out hx302_1
            replace hx302_2 := pw_cell_below HB.out hx302_2
            replace p302 := eq_true p302
            replace q302 := eq_true q302
            go_enter Tryd.func72, Tryd.ntmps72
            go_wp2_with (first | (go_at_call 86; (with_reducible refine (epactref11_reader_fail.calls g s0_0 s0_1 s0_2 s0_3 110 t303 t304 t305 w0 _ ?side1 ?side2 A9.out).mono ?_); (case side1 => repeat (first | (with_reducible first | exact HI0.out | apply IsS101.alloc | apply IsS101.drewN | apply IsS101.drew | apply IsS101.set_1 | apply IsS101.set_2 | apply IsS101.set_3) | exact HI0.out)); (case side2 => repeat (first | (with_reducible first | exact HB.out | apply below_alloc | apply pw_below_drewN | apply below_drew1 | refine below_set ?_ (IsS101.ge HI0.out)) | exact HB.out)); rintro e w11 ⟨rfl, hi, hb, hk⟩; have n0_ := Aside0.mk (KeepBut.trans (by repeat (first | (with_reducible first | exact HK.out | apply KeepBut.set_ | apply keep_drewN | apply keep_drew | apply keep_alloc) | exact HK.out)) hk (.inl rfl)); have n1_ := Aside0.mk (hb); have n2_ := Aside0.mk (hi); clear HK; clear HB; clear HI0; have HK := n0_; have HB := n1_; have HI0 := n2_; clear n0_ n1_ n2_; (try clear hb); (try clear hb2); (try clear hk); (try clear hi)))
            repeat (go_quiet (first | (go_at_call 86; (with_reducible refine (epactref11_reader_fail.calls g s0_0 s0_1 s0_2 s0_3 110 t303 t304 t305 w0 _ ?side1 ?side2 A9.out).mono ?_); (case side1 => repeat (first | (with_reducible first | exact HI0.out | apply IsS101.alloc | apply IsS101.drewN | apply IsS101.drew | apply IsS101.set_1 | apply IsS101.set_2 | apply IsS101.set_3) | exact HI0.out)); (case side2 => repeat (first | (with_reducible first | exact HB.out | apply below_alloc | apply pw_below_drewN | apply below_drew1 | refine below_set ?_ (IsS101.ge HI0.out)) | exact HB.out)); rintro e w11 ⟨rfl, hi, hb, hk⟩; have n0_ := Aside0.mk (KeepBut.trans (by repeat (first | (with_reducible first | exact HK.out | apply KeepBut.set_ | apply keep_drewN | apply keep_drew | apply keep_alloc) | exact HK.out)) hk (.inl rfl)); have n1_ := Aside0.mk (hb); have n2_ := Aside0.mk (hi); clear HK; clear HB; clear HI0; have HK := n0_; have HB := n1_; have HI0 := n2_; clear n0_ n1_ n2_; (try clear hb); (try clear hb2); (try clear hk); (try clear hi))); try go_wp2_with (first | (go_at_call 86; (with_reducible refine (epactref11_reader_fail.calls g s0_0 s0_1 s0_2 s0_3 110 t303 t304 t305 w0 _ ?side1 ?side2 A9.out).mono ?_); (case side1 => repeat (first | (with_reducible first | exact HI0.out | apply IsS101.alloc | apply IsS101.drewN | apply IsS101.drew | apply IsS101.set_1 | apply IsS101.set_2 | apply IsS101.set_3) | exact HI0.out)); (case side2 => repeat (first | (with_reducible first | exact HB.out | apply below_alloc | apply pw_below_drewN | apply below_drew1 | refine below_set ?_ (IsS101.ge HI0.out)) | exact HB.out)); rintro e w11 ⟨rfl, hi, hb, hk⟩; have n0_ := Aside0.mk (KeepBut.trans (by repeat (first | (with_reducible first | exact HK.out | apply KeepBut.set_ | apply keep_drewN | apply keep_drew | apply keep_alloc) | exact HK.out)) hk (.inl rfl)); have n1_ := Aside0.mk (hb); have n2_ := Aside0.mk (hi); clear HK; clear HB; clear HI0; have HK := n0_; have HB := n1_; have HI0 := n2_; clear n0_ n1_ n2_; (try clear hb); (try clear hb2); (try clear hk); (try clear hi))))
            first | go_end0 | ((try simp only [Exit.inBlock, Exit.then]); refine bodyPost_ret (results_none rfl _ _ _) rfl ?_)
            exact ⟨by first | rfl | (simp [errW_none, errW_some] <;> rfl) | (simp [*, errW_none, errW_some] <;> rfl), by repeat (first | (with_reducible first | exact HI0.out | apply IsS101.alloc | apply IsS101.drewN | apply IsS101.drew | apply IsS101.set_1 | apply IsS101.set_2 | apply IsS101.set_3) | exact HI0.out), by repeat (first | (with_reducible first | exact HB.out | apply below_alloc | apply pw_below_drewN | apply below_drew1 | refine below_set ?_ (IsS101.ge HI0.out)) | exact HB.out), by repeat (first | (with_reducible first | exact HK.out | apply KeepBut.set_ | apply keep_drewN | apply keep_drew | apply keep_alloc) | exact HK.out)⟩
        · rw [if_neg c6] at H
          have c6b0 : (((rd_T61 s0_0 s0_1).f0) == 4) = false := beq_eq_false_iff_ne.mpr c6
          have c6b1 : (((rd_T61 s0_0 s0_1).f0) != 4) = true := bne_iff_ne.mpr c6
          replace H := Option.bind_eq_some_iff.mp H
          obtain ⟨⟨t306, t307, t308⟩, A120, H⟩ := H
          replace H : (some (t306, t307, t308)) = some (r1, r2, r3) := H
          have A12 := Aside0.mk A120
          clear A120
          simp only [Option.some.injEq, Prod.mk.injEq] at H
          obtain ⟨rfl, rfl, rfl⟩ := H
          obtain ⟨ASz13_0, cSz13_0, HGz13, hgz13, HSz13_0⟩ := HI0.out
          have hcz13_0 := cellS101_0 HGz13
          have hcz13_1 := cellS101_1 HGz13
          have hcz13_2 := cellS101_2 HGz13
          have hcz13_3 := cellS101_3 HGz13
          have hfz13_1 := blk_frozen HGz13 1
          have hfz13_2 := blk_frozen HGz13 2
          have hfz13_3 := blk_frozen HGz13 3
          clear HGz13 hgz13
          have p301 : 0 ≤ (s0_1 : Int) := of_decide_eq_true (by first | (with_reducible assumption) | assumption)
          have q301 : s0_1 < (s0_0.length : Int) := of_decide_eq_true (by first | (with_reducible assumption) | assumption)
          obtain ⟨ad301, e301, hx301_0, hx301_1, hx301_2⟩ := at_T61 HSz13_0 s0_1 p301 q301
          cases e301
          replace hx301_0 := pw_cell_below HB.out hx301_0
          replace hx301_1 := pw_cell_below HB.out hx301_1
          replace hx301_2 := pw_cell_below HB.out hx301_2
          replace p301 := eq_true p301
          replace q301 := eq_true q301
          go_enter Tryd.func72, Tryd.ntmps72
          go_wp2_with (first | (go_at_call 86; (with_reducible refine (epactref11_reader_fail.calls g s0_0 s0_1 s0_2 s0_3 110 t306 t307 t308 w0 _ ?side1 ?side2 A12.out).mono ?_); (case side1 => repeat (first | (with_reducible first | exact HI0.out | apply IsS101.alloc | apply IsS101.drewN | apply IsS101.drew | apply IsS101.set_1 | apply IsS101.set_2 | apply IsS101.set_3) | exact HI0.out)); (case side2 => repeat (first | (with_reducible first | exact HB.out | apply below_alloc | apply pw_below_drewN | apply below_drew1 | refine below_set ?_ (IsS101.ge HI0.out)) | exact HB.out)); rintro e w14 ⟨rfl, hi, hb, hk⟩; have n0_ := Aside0.mk (KeepBut.trans (by repeat (first | (with_reducible first | exact HK.out | apply KeepBut.set_ | apply keep_drewN | apply keep_drew | apply keep_alloc) | exact HK.out)) hk (.inl rfl)); have n1_ := Aside0.mk (hb); have n2_ := Aside0.mk (hi); clear HK; clear HB; clear HI0; have HK := n0_; have HB := n1_; have HI0 := n2_; clear n0_ n1_ n2_; (try clear hb); (try clear hb2); (try clear hk); (try clear hi)))
          repeat (go_quiet (first | (go_at_call 86; (with_reducible refine (epactref11_reader_fail.calls g s0_0 s0_1 s0_2 s0_3 110 t306 t307 t308 w0 _ ?side1 ?side2 A12.out).mono ?_); (case side1 => repeat (first | (with_reducible first | exact HI0.out | apply IsS101.alloc | apply IsS101.drewN | apply IsS101.drew | apply IsS101.set_1 | apply IsS101.set_2 | apply IsS101.set_3) | exact HI0.out)); (case side2 => repeat (first | (with_reducible first | exact HB.out | apply below_alloc | apply pw_below_drewN | apply below_drew1 | refine below_set ?_ (IsS101.ge HI0.out)) | exact HB.out)); rintro e w14 ⟨rfl, hi, hb, hk⟩; have n0_ := Aside0.mk (KeepBut.trans (by repeat (first | (with_reducible first | exact HK.out | apply KeepBut.set_ | apply keep_drewN | apply keep_drew | apply keep_alloc) | exact HK.out)) hk (.inl rfl)); have n1_ := Aside0.mk (hb); have n2_ := Aside0.mk (hi); clear HK; clear HB; clear HI0; have HK := n0_; have HB := n1_; have HI0 := n2_; clear n0_ n1_ n2_; (try clear hb); (try clear hb2); (try clear hk); (try clear hi))); try go_wp2_with (first | (go_at_call 86; (with_reducible refine (epactref11_reader_fail.calls g s0_0 s0_1 s0_2 s0_3 110 t306 t307 t308 w0 _ ?side1 ?side2 A12.out).mono ?_); (case side1 => repeat (first | (with_reducible first | exact HI0.out | apply IsS101.alloc | apply IsS101.drewN | apply IsS101.drew | apply IsS101.set_1 | apply IsS101.set_2 | apply IsS101.set_3) | exact HI0.out)); (case side2 => repeat (first | (with_reducible first | exact HB.out | apply below_alloc | apply pw_below_drewN | apply below_drew1 | refine below_set ?_ (IsS101.ge HI0.out)) | exact HB.out)); rintro e w14 ⟨rfl, hi, hb, hk⟩; have n0_ := Aside0.mk (KeepBut.trans (by repeat (first | (with_reducible first | exact HK.out | apply KeepBut.set_ | apply keep_drewN | apply keep_drew | apply keep_alloc) | exact HK.out)) hk (.inl rfl)); have n1_ := Aside0.mk (hb); have n2_ := Aside0.mk (hi); clear HK; clear HB; clear HI0; have HK := n0_; have HB := n1_; have HI0 := n2_; clear n0_ n1_ n2_; (try clear hb); (try clear hb2); (try clear hk); (try clear hi))))
          first | go_end0 | ((try simp only [Exit.inBlock, Exit.then]); refine bodyPost_ret (results_none rfl _ _ _) rfl ?_)
          exact ⟨by first | rfl | (simp [errW_none, errW_some] <;> rfl) | (simp [*, errW_none, errW_some] <;> rfl), by repeat (first | (with_reducible first | exact HI0.out | apply IsS101.alloc | apply IsS101.drewN | apply IsS101.drew | apply IsS101.set_1 | apply IsS101.set_2 | apply IsS101.set_3) | exact HI0.out), by repeat (first | (with_reducible first | exact HB.out | apply below_alloc | apply pw_below_drewN | apply below_drew1 | refine below_set ?_ (IsS101.ge HI0.out)) | exact HB.out), by repeat (first | (with_reducible first | exact HK.out | apply KeepBut.set_ | apply keep_drewN | apply keep_drew | apply keep_alloc) | exact HK.out)⟩
      · rw [if_neg c5] at H
        exact absurd H (by simp)
    · rw [if_neg c4] at H
      have c4b0 : decide (s0_1 < (s0_0.length : Int)) = false := decide_eq_false c4
      clear c4
      replace H := Option.bind_eq_some_iff.mp H
      obtain ⟨⟨t309, t310, t311⟩, A150, H⟩ := H
      replace H : (some (t309, t310, t311)) = some (r1, r2, r3) := H
      have A15 := Aside0.mk A150
      clear A150
      simp only [Option.some.injEq, Prod.mk.injEq] at H
      obtain ⟨rfl, rfl, rfl⟩ := H
      obtain ⟨ASz16_0, cSz16_0, HGz16, hgz16, HSz16_0⟩ := HI0.out
      have hcz16_0 := cellS101_0 HGz16
      have hcz16_1 := cellS101_1 HGz16
      have hcz16_2 := cellS101_2 HGz16
      have hcz16_3 := cellS101_3 HGz16
      have hfz16_1 := blk_frozen HGz16 1
      have hfz16_2 := blk_frozen HGz16 2
      have hfz16_3 := blk_frozen HGz16 3
      clear HGz16 hgz16
      go_enter Tryd.func72, Tryd.ntmps72
      go_wp2_with (first | (go_at_call 86; (with_reducible refine (epactref11_reader_fail.calls g s0_0 s0_1 s0_2 s0_3 110 t309 t310 t311 w0 _ ?side1 ?side2 A15.out).mono ?_); (case side1 => repeat (first | (with_reducible first | exact HI0.out | apply IsS101.alloc | apply IsS101.drewN | apply IsS101.drew | apply IsS101.set_1 | apply IsS101.set_2 | apply IsS101.set_3) | exact HI0.out)); (case side2 => repeat (first | (with_reducible first | exact HB.out | apply below_alloc | apply pw_below_drewN | apply below_drew1 | refine below_set ?_ (IsS101.ge HI0.out)) | exact HB.out)); rintro e w17 ⟨rfl, hi, hb, hk⟩; have n0_ := Aside0.mk (KeepBut.trans (by repeat (first | (with_reducible first | exact HK.out | apply KeepBut.set_ | apply keep_drewN | apply keep_drew | apply keep_alloc) | exact HK.out)) hk (.inl rfl)); have n1_ := Aside0.mk (hb); have n2_ := Aside0.mk (hi); clear HK; clear HB; clear HI0; have HK := n0_; have HB := n1_; have HI0 := n2_; clear n0_ n1_ n2_; (try clear hb); (try clear hb2); (try clear hk); (try clear hi)))
      repeat (go_quiet (first | (go_at_call 86; (with_reducible refine (epactref11_reader_fail.calls g s0_0 s0_1 s0_2 s0_3 110 t309 t310 t311 w0 _ ?side1 ?side2 A15.out).mono ?_); (case side1 => repeat (first | (with_reducible first | exact HI0.out | apply IsS101.alloc | apply IsS101.drewN | apply IsS101.drew | apply IsS101.set_1 | apply IsS101.set_2 | apply IsS101.set_3) | exact HI0.out)); (case side2 => repeat (first | (with_reducible first | exact HB.out | apply below_alloc | apply pw_below_drewN | apply below_drew1 | refine below_set ?_ (IsS101.ge HI0.out)) | exact HB.out)); rintro e w17 ⟨rfl, hi, hb, hk⟩; have n0_ := Aside0.mk (KeepBut.trans (by repeat (first | (with_reducible first | exact HK.out | apply KeepBut.set_ | apply keep_drewN | apply keep_drew | apply keep_alloc) | exact HK.out)) hk (.inl rfl)); have n1_ := Aside0.mk (hb); have n2_ := Aside0.mk (hi); clear HK; clear HB; clear HI0; have HK := n0_; have HB := n1_; have HI0 := n2_; clear n0_ n1_ n2_; (try clear hb); (try clear hb2); (try clear hk); (try clear hi))); try go_wp2_with (first | (go_at_call 86; (with_reducible refine (epactref11_reader_fail.calls g s0_0 s0_1 s0_2 s0_3 110 t309 t310 t311 w0 _ ?side1 ?side2 A15.out).mono ?_); (case side1 => repeat (first | (with_reducible first | exact HI0.out | apply IsS101.alloc | apply IsS101.drewN | apply IsS101.drew | apply IsS101.set_1 | apply IsS101.set_2 | apply IsS101.set_3) | exact HI0.out)); (case side2 => repeat (first | (with_reducible first | exact HB.out | apply below_alloc | apply pw_below_drewN | apply below_drew1 | refine below_set ?_ (IsS101.ge HI0.out)) | exact HB.out)); rintro e w17 ⟨rfl, hi, hb, hk⟩; have n0_ := Aside0.mk (KeepBut.trans (by repeat (first | (with_reducible first | exact HK.out | apply KeepBut.set_ | apply keep_drewN | apply keep_drew | apply keep_alloc) | exact HK.out)) hk (.inl rfl)); have n1_ := Aside0.mk (hb); have n2_ := Aside0.mk (hi); clear HK; clear HB; clear HI0; have HK := n0_; have HB := n1_; have HI0 := n2_; clear n0_ n1_ n2_; (try clear hb); (try clear hb2); (try clear hk); (try clear hi))))
      first | go_end0 | ((try simp only [Exit.inBlock, Exit.then]); refine bodyPost_ret (results_none rfl _ _ _) rfl ?_)
      exact ⟨by first | rfl | (simp [errW_none, errW_some] <;> rfl) | (simp [*, errW_none, errW_some] <;> rfl), by repeat (first | (with_reducible first | exact HI0.out | apply IsS101.alloc | apply IsS101.drewN | apply IsS101.drew | apply IsS101.set_1 | apply IsS101.set_2 | apply IsS101.set_3) | exact HI0.out), by repeat (first | (with_reducible first | exact HB.out | apply below_alloc | apply pw_below_drewN | apply below_drew1 | refine below_set ?_ (IsS101.ge HI0.out)) | exact HB.out), by repeat (first | (with_reducible first | exact HK.out | apply KeepBut.set_ | apply keep_drewN | apply keep_drew | apply keep_alloc) | exact HK.out)⟩
  · rw [if_neg c3] at H
    have c3b0 : (s0_3 == 0) = false := beq_eq_false_iff_ne.mpr c3
    have c3b1 : (s0_3 != 0) = true := bne_iff_ne.mpr c3
    simp only [Option.some.injEq, Prod.mk.injEq] at H
    obtain ⟨rfl, rfl, rfl⟩ := H
    obtain ⟨ASz18_0, cSz18_0, HGz18, hgz18, HSz18_0⟩ := HI0.out
    have hcz18_0 := cellS101_0 HGz18
    have hcz18_1 := cellS101_1 HGz18
    have hcz18_2 := cellS101_2 HGz18
    have hcz18_3 := cellS101_3 HGz18
    have hfz18_1 := blk_frozen HGz18 1
    have hfz18_2 := blk_frozen HGz18 2
    have hfz18_3 := blk_frozen HGz18 3
    clear HGz18 hgz18
    go_enter Tryd.func72, Tryd.ntmps72
    go_wp2
    repeat (go_quiet (fail); try go_wp2)
    first | go_end0 | ((try simp only [Exit.inBlock, Exit.then]); refine bodyPost_ret (results_none rfl _ _ _) rfl ?_)
    exact ⟨by first | rfl | (simp [errW_none, errW_some] <;> rfl) | (simp [*, errW_none, errW_some] <;> rfl), by repeat (first | (with_reducible first | exact HI0.out | apply IsS101.alloc | apply IsS101.drewN | apply IsS101.drew | apply IsS101.set_1 | apply IsS101.set_2 | apply IsS101.set_3) | exact HI0.out), by repeat (first | (with_reducible first | exact HB.out | apply below_alloc | apply pw_below_drewN | apply below_drew1 | refine below_set ?_ (IsS101.ge HI0.out)) | exact HB.out), by repeat (first | (with_reducible first | exact HK.out | apply KeepBut.set_ | apply keep_drewN | apply keep_drew | apply keep_alloc) | exact HK.out)⟩
def epactref11_reader_is.f (s0_0 : List (S61)) (s0_1 : Int) (s0_2 : Int) (s0_3 : Int) (a1 : ByteArray) : Option (Bool × Int × Int × Int) := if s0_3 = 0 then (if s0_1 < (s0_0.length : Int) then (if 0 ≤ s0_1 then (if ((rd_T61 s0_0 s0_1).f0) = 4 then (some ((((rd_T61 s0_0 s0_1).f1).toList == a1.toList), s0_1, s0_2, s0_3)) else (some (false, s0_1, s0_2, s0_3))) else (none)) else (some (false, s0_1, s0_2, s0_3))) else (some (false, s0_1, s0_2, s0_3))
set_option maxHeartbeats 8000000 in
set_option maxRecDepth 100000 in
theorem epactref11_reader_is.calls (g : Nat) (s0_0 : List (S61)) (s0_1 : Int) (s0_2 : Int) (s0_3 : Int) (a1 : ByteArray) (r1 : Bool) (r2 : Int) (r3 : Int) (r4 : Int) (w0 w : World) (hI : IsS101 w0 w g s0_0 s0_1 s0_2 s0_3) (hB : Below w0.heap.size w0 w) (h : epactref11_reader_is.f s0_0 s0_1 s0_2 s0_3 a1 = some (r1, r2, r3, r4)) :
    Calls Tryd.prog 87 #[.pointer (some ⟨g, 0, none⟩), .string a1] w fun e w' => e = .returned (.bool r1) ∧ IsS101 w0 w' g s0_0 r2 r3 r4 ∧ Below w0.heap.size w0 w' ∧ KeepBut w w' g none := by
  have HI0 := Aside0.mk hI
  have HK := Aside0.mk (KeepBut.refl w g none)
  have HL := Aside0.mk hB.size
  clear hI
  have HW0 := Aside0.mk hB.size
  have HB := Aside0.mk hB
  clear hB
  have H : (if s0_3 = 0 then (if s0_1 < (s0_0.length : Int) then (if 0 ≤ s0_1 then (if ((rd_T61 s0_0 s0_1).f0) = 4 then (some ((((rd_T61 s0_0 s0_1).f1).toList == a1.toList), s0_1, s0_2, s0_3)) else (some (false, s0_1, s0_2, s0_3))) else (none)) else (some (false, s0_1, s0_2, s0_3))) else (some (false, s0_1, s0_2, s0_3))) = some (r1, r2, r3, r4) := h
  clear h
  by_cases c3 : s0_3 = 0
  · rw [if_pos c3] at H
    have c3b0 : (s0_3 == 0) = true := beq_iff_eq.mpr c3
    have c3b1 : (s0_3 != 0) = false := bne_eq_false_iff_eq.mpr c3
    clear c3
    by_cases c4 : s0_1 < (s0_0.length : Int)
    · rw [if_pos c4] at H
      have c4b0 : decide (s0_1 < (s0_0.length : Int)) = true := decide_eq_true c4
      clear c4
      by_cases c5 : 0 ≤ s0_1
      · rw [if_pos c5] at H
        have c5b0 : decide (0 ≤ s0_1) = true := decide_eq_true c5
        clear c5
        by_cases c6 : ((rd_T61 s0_0 s0_1).f0) = 4
        · rw [if_pos c6] at H
          have c6b0 : (((rd_T61 s0_0 s0_1).f0) == 4) = true := beq_iff_eq.mpr c6
          have c6b1 : (((rd_T61 s0_0 s0_1).f0) != 4) = false := bne_eq_false_iff_eq.mpr c6
          clear c6
          simp only [Option.some.injEq, Prod.mk.injEq] at H
          obtain ⟨rfl, rfl, rfl, rfl⟩ := H
          obtain ⟨ASz7_0, cSz7_0, HGz7, hgz7, HSz7_0⟩ := HI0.out
          have hcz7_0 := cellS101_0 HGz7
          have hcz7_1 := cellS101_1 HGz7
          have hcz7_2 := cellS101_2 HGz7
          have hcz7_3 := cellS101_3 HGz7
          have hfz7_1 := blk_frozen HGz7 1
          have hfz7_2 := blk_frozen HGz7 2
          have hfz7_3 := blk_frozen HGz7 3
          clear HGz7 hgz7
          have p312 : 0 ≤ (s0_1 : Int) := of_decide_eq_true (by first | (with_reducible assumption) | assumption)
          have q312 : s0_1 < (s0_0.length : Int) := of_decide_eq_true (by first | (with_reducible assumption) | assumption)
          obtain ⟨ad312, e312, hx312_0, hx312_1, hx312_2⟩ := at_T61 HSz7_0 s0_1 p312 q312
          cases e312
          replace hx312_0 := pw_cell_below HB.out hx312_0
          replace hx312_1 := pw_cell_below HB.out hx312_1
          replace hx312_2 := pw_cell_below HB.out hx312_2
          replace p312 := eq_true p312
          replace q312 := eq_true q312
          have p313 : 0 ≤ (s0_1 : Int) := of_decide_eq_true (by first | (with_reducible assumption) | assumption)
          have q313 : s0_1 < (s0_0.length : Int) := of_decide_eq_true (by first | (with_reducible assumption) | assumption)
          obtain ⟨ad313, e313, hx313_0, hx313_1, hx313_2⟩ := at_T61 HSz7_0 s0_1 p313 q313
          obtain rfl : ad312 = ad313 := (by injection e313)
          replace hx313_0 := pw_cell_below HB.out hx313_0
          replace hx313_1 := pw_cell_below HB.out hx313_1
          replace hx313_2 := pw_cell_below HB.out hx313_2
          replace p313 := eq_true p313
          replace q313 := eq_true q313
          go_enter Tryd.func87, Tryd.ntmps87
          go_wp2
          repeat (go_quiet (fail); try go_wp2)
          go_ret
          exact ⟨by first | rfl | (simp [errW_none, errW_some] <;> rfl) | (simp [*, errW_none, errW_some] <;> rfl), by repeat (first | (with_reducible first | exact HI0.out | apply IsS101.alloc | apply IsS101.drewN | apply IsS101.drew | apply IsS101.set_1 | apply IsS101.set_2 | apply IsS101.set_3) | exact HI0.out), by repeat (first | (with_reducible first | exact HB.out | apply below_alloc | apply pw_below_drewN | apply below_drew1 | refine below_set ?_ (IsS101.ge HI0.out)) | exact HB.out), by repeat (first | (with_reducible first | exact HK.out | apply KeepBut.set_ | apply keep_drewN | apply keep_drew | apply keep_alloc) | exact HK.out)⟩
        · rw [if_neg c6] at H
          have c6b0 : (((rd_T61 s0_0 s0_1).f0) == 4) = false := beq_eq_false_iff_ne.mpr c6
          have c6b1 : (((rd_T61 s0_0 s0_1).f0) != 4) = true := bne_iff_ne.mpr c6
          simp only [Option.some.injEq, Prod.mk.injEq] at H
          obtain ⟨rfl, rfl, rfl, rfl⟩ := H
          obtain ⟨ASz8_0, cSz8_0, HGz8, hgz8, HSz8_0⟩ := HI0.out
          have hcz8_0 := cellS101_0 HGz8
          have hcz8_1 := cellS101_1 HGz8
          have hcz8_2 := cellS101_2 HGz8
          have hcz8_3 := cellS101_3 HGz8
          have hfz8_1 := blk_frozen HGz8 1
          have hfz8_2 := blk_frozen HGz8 2
          have hfz8_3 := blk_frozen HGz8 3
          clear HGz8 hgz8
          have p312 : 0 ≤ (s0_1 : Int) := of_decide_eq_true (by first | (with_reducible assumption) | assumption)
          have q312 : s0_1 < (s0_0.length : Int) := of_decide_eq_true (by first | (with_reducible assumption) | assumption)
          obtain ⟨ad312, e312, hx312_0, hx312_1, hx312_2⟩ := at_T61 HSz8_0 s0_1 p312 q312
          cases e312
          replace hx312_0 := pw_cell_below HB.out hx312_0
          replace hx312_1 := pw_cell_below HB.out hx312_1
          replace hx312_2 := pw_cell_below HB.out hx312_2
          replace p312 := eq_true p312
          replace q312 := eq_true q312
          go_enter Tryd.func87, Tryd.ntmps87
          go_wp2
          repeat (go_quiet (fail); try go_wp2)
          go_ret
          exact ⟨by first | rfl | (simp [errW_none, errW_some] <;> rfl) | (simp [*, errW_none, errW_some] <;> rfl), by repeat (first | (with_reducible first | exact HI0.out | apply IsS101.alloc | apply IsS101.drewN | apply IsS101.drew | apply IsS101.set_1 | apply IsS101.set_2 | apply IsS101.set_3) | exact HI0.out), by repeat (first | (with_reducible first | exact HB.out | apply below_alloc | apply pw_below_drewN | apply below_drew1 | refine below_set ?_ (IsS101.ge HI0.out)) | exact HB.out), by repeat (first | (with_reducible first | exact HK.out | apply KeepBut.set_ | apply keep_drewN | apply keep_drew | apply keep_alloc) | exact HK.out)⟩
      · rw [if_neg c5] at H
        exact absurd H (by simp)
    · rw [if_neg c4] at H
      have c4b0 : decide (s0_1 < (s0_0.length : Int)) = false := decide_eq_false c4
      clear c4
      simp only [Option.some.injEq, Prod.mk.injEq] at H
      obtain ⟨rfl, rfl, rfl, rfl⟩ := H
      obtain ⟨ASz9_0, cSz9_0, HGz9, hgz9, HSz9_0⟩ := HI0.out
      have hcz9_0 := cellS101_0 HGz9
      have hcz9_1 := cellS101_1 HGz9
      have hcz9_2 := cellS101_2 HGz9
      have hcz9_3 := cellS101_3 HGz9
      have hfz9_1 := blk_frozen HGz9 1
      have hfz9_2 := blk_frozen HGz9 2
      have hfz9_3 := blk_frozen HGz9 3
      clear HGz9 hgz9
      go_enter Tryd.func87, Tryd.ntmps87
      go_wp2
      repeat (go_quiet (fail); try go_wp2)
      go_ret
      exact ⟨by first | rfl | (simp [errW_none, errW_some] <;> rfl) | (simp [*, errW_none, errW_some] <;> rfl), by repeat (first | (with_reducible first | exact HI0.out | apply IsS101.alloc | apply IsS101.drewN | apply IsS101.drew | apply IsS101.set_1 | apply IsS101.set_2 | apply IsS101.set_3) | exact HI0.out), by repeat (first | (with_reducible first | exact HB.out | apply below_alloc | apply pw_below_drewN | apply below_drew1 | refine below_set ?_ (IsS101.ge HI0.out)) | exact HB.out), by repeat (first | (with_reducible first | exact HK.out | apply KeepBut.set_ | apply keep_drewN | apply keep_drew | apply keep_alloc) | exact HK.out)⟩
  · rw [if_neg c3] at H
    have c3b0 : (s0_3 == 0) = false := beq_eq_false_iff_ne.mpr c3
    have c3b1 : (s0_3 != 0) = true := bne_iff_ne.mpr c3
    simp only [Option.some.injEq, Prod.mk.injEq] at H
    obtain ⟨rfl, rfl, rfl, rfl⟩ := H
    obtain ⟨ASz10_0, cSz10_0, HGz10, hgz10, HSz10_0⟩ := HI0.out
    have hcz10_0 := cellS101_0 HGz10
    have hcz10_1 := cellS101_1 HGz10
    have hcz10_2 := cellS101_2 HGz10
    have hcz10_3 := cellS101_3 HGz10
    have hfz10_1 := blk_frozen HGz10 1
    have hfz10_2 := blk_frozen HGz10 2
    have hfz10_3 := blk_frozen HGz10 3
    clear HGz10 hgz10
    go_enter Tryd.func87, Tryd.ntmps87
    go_wp2
    repeat (go_quiet (fail); try go_wp2)
    go_ret
    exact ⟨by first | rfl | (simp [errW_none, errW_some] <;> rfl) | (simp [*, errW_none, errW_some] <;> rfl), by repeat (first | (with_reducible first | exact HI0.out | apply IsS101.alloc | apply IsS101.drewN | apply IsS101.drew | apply IsS101.set_1 | apply IsS101.set_2 | apply IsS101.set_3) | exact HI0.out), by repeat (first | (with_reducible first | exact HB.out | apply below_alloc | apply pw_below_drewN | apply below_drew1 | refine below_set ?_ (IsS101.ge HI0.out)) | exact HB.out), by repeat (first | (with_reducible first | exact HK.out | apply KeepBut.set_ | apply keep_drewN | apply keep_drew | apply keep_alloc) | exact HK.out)⟩
end Go.Proofs.YtjeofffddbibeaaDoor.PParseTells
end

section
namespace Go.Proofs.YtjeofffddbibeaaDoor.PParseTells
open Go.RowKit Go.Proofs.YtjeofffddbibeaaDoorW.PrintWords Go.Proofs.YtjeofffddbibeaaDoorW.PrintLast Go.Proofs.YtjeofffddbibeaaDoorW.PrintMore
attribute [local go_sem] max2_int min2_int max_two min_two max_three min_three max_four min_four   -- for this text's walks alone
set_option linter.unusedVariables false
set_option linter.unusedSimpArgs false
def epactref11_reader_end.j0 : Nat → Bool → List (S61) → Int → Int → Int → Option (Int × Int × Int × Int × Int)
  | 0, _, _, _, _, _ => none
  | k + 1, x20, x1000, x1001, x1002, x1003 => if x20 = true then (if 110 = 0 then (some ((-1), 0, x1001, x1002, 110)) else (some (x1001, 110, x1001, x1002, 110))) else (if x1003 = 0 then (some ((-1), 0, x1001, x1002, x1003)) else (some (x1001, x1003, x1001, x1002, x1003)))
def epactref11_reader_end.f (k : Nat) (s0_0 : List (S61)) (s0_1 : Int) (s0_2 : Int) (s0_3 : Int) : Option (Int × Int × Int × Int × Int) := if s0_3 = 0 then (epactref11_reader_end.j0 k (decide (s0_1 < (s0_0.length : Int))) s0_0 s0_1 s0_2 s0_3) else (epactref11_reader_end.j0 k false s0_0 s0_1 s0_2 s0_3)
set_option maxHeartbeats 8000000 in
set_option maxRecDepth 100000 in
theorem epactref11_reader_end.calls (k : Nat) (g : Nat) (s0_0 : List (S61)) (s0_1 : Int) (s0_2 : Int) (s0_3 : Int) (r1 : Int) (r2 : Int) (r3 : Int) (r4 : Int) (r5 : Int) (w0 w : World) (hI : IsS101 w0 w g s0_0 s0_1 s0_2 s0_3) (hB : Below w0.heap.size w0 w) (h : epactref11_reader_end.f k s0_0 s0_1 s0_2 s0_3 = some (r1, r2, r3, r4, r5)) :
    Calls Tryd.prog 67 #[.pointer (some ⟨g, 0, none⟩)] w fun e w' => e = .returned (.tuple #[.int .i64 r1, .int .i64 r2]) ∧ IsS101 w0 w' g s0_0 r3 r4 r5 ∧ Below w0.heap.size w0 w' ∧ KeepBut w w' g none := by
  have HI0 := Aside0.mk hI
  have HK := Aside0.mk (KeepBut.refl w g none)
  have HL := Aside0.mk hB.size
  clear hI
  have HW0 := Aside0.mk hB.size
  have HB := Aside0.mk hB
  clear hB
  have H : (if s0_3 = 0 then (epactref11_reader_end.j0 k (decide (s0_1 < (s0_0.length : Int))) s0_0 s0_1 s0_2 s0_3) else (epactref11_reader_end.j0 k false s0_0 s0_1 s0_2 s0_3)) = some (r1, r2, r3, r4, r5) := h
  clear h
  have HC2 := Aside0.mk H
  clear H
  go_enter Tryd.func67, Tryd.ntmps67
  go_upto_region 1 with (fail)
  repeat (go_quiet (fail); go_upto_region 1 with (fail))
  go_cut [20] (fun v20 wc => ∃ (kq : Nat) (x20_1 : Bool), v20 = .bool x20_1 ∧ Aside0 (epactref11_reader_end.j0 kq x20_1 s0_0 s0_1 s0_2 s0_3 = some (r1, r2, r3, r4, r5)) ∧ Aside0 (kq ≤ k) ∧ Aside0 (IsS101 w0 wc g s0_0 s0_1 s0_2 s0_3) ∧ Aside0 (KeepBut w wc g none) ∧ Aside0 (Below w0.heap.size w0 wc))
  case first =>
    have H := HC2.out
    clear HC2
    by_cases c3 : s0_3 = 0
    · rw [if_pos c3] at H
      have c3b0 : (s0_3 == 0) = true := beq_iff_eq.mpr c3
      have c3b1 : (s0_3 != 0) = false := bne_eq_false_iff_eq.mpr c3
      clear c3
      (first | rw [c3b0] | (simp only [i64_w, i32_w]; rw [c3b0]) | skip)
      have H' := Aside0.mk H
      clear H
      obtain ⟨ASz4_0, cSz4_0, HGz4, hgz4, HSz4_0⟩ := HI0.out
      have hcz4_0 := cellS101_0 HGz4
      have hcz4_1 := cellS101_1 HGz4
      have hcz4_2 := cellS101_2 HGz4
      have hcz4_3 := cellS101_3 HGz4
      have hfz4_1 := blk_frozen HGz4 1
      have hfz4_2 := blk_frozen HGz4 2
      have hfz4_3 := blk_frozen HGz4 3
      clear HGz4 hgz4
      go_wp2
      repeat (go_quiet (fail); try go_wp2)
      go_meet
      case rel => exact ⟨_, (decide (s0_1 < (s0_0.length : Int))), (by first | rfl | (simp; done) | (simp [*]; done)), H', ⟨by first | omega | exact Nat.le_refl _⟩, ⟨by repeat (first | (with_reducible first | exact HI0.out | apply IsS101.alloc | apply IsS101.drewN | apply IsS101.drew | apply IsS101.set_1 | apply IsS101.set_2 | apply IsS101.set_3) | exact HI0.out)⟩, ⟨by repeat (first | (with_reducible first | exact HK.out | apply KeepBut.set_ | apply keep_drewN | apply keep_drew | apply keep_alloc) | exact HK.out)⟩, ⟨by repeat (first | (with_reducible first | exact HB.out | apply below_alloc | apply pw_below_drewN | apply below_drew1 | refine below_set ?_ (IsS101.ge HI0.out)) | exact HB.out)⟩⟩
    · rw [if_neg c3] at H
      have c3b0 : (s0_3 == 0) = false := beq_eq_false_iff_ne.mpr c3
      have c3b1 : (s0_3 != 0) = true := bne_iff_ne.mpr c3
      (first | rw [c3b0] | (simp only [i64_w, i32_w]; rw [c3b0]) | skip)
      have H' := Aside0.mk H
      clear H
      obtain ⟨ASz5_0, cSz5_0, HGz5, hgz5, HSz5_0⟩ := HI0.out
      have hcz5_0 := cellS101_0 HGz5
      have hcz5_1 := cellS101_1 HGz5
      have hcz5_2 := cellS101_2 HGz5
      have hcz5_3 := cellS101_3 HGz5
      have hfz5_1 := blk_frozen HGz5 1
      have hfz5_2 := blk_frozen HGz5 2
      have hfz5_3 := blk_frozen HGz5 3
      clear HGz5 hgz5
      go_wp2
      repeat (go_quiet (fail); try go_wp2)
      go_meet
      case rel => exact ⟨_, (false), (by first | rfl | (simp; done) | (simp [*]; done)), H', ⟨by first | omega | exact Nat.le_refl _⟩, ⟨by repeat (first | (with_reducible first | exact HI0.out | apply IsS101.alloc | apply IsS101.drewN | apply IsS101.drew | apply IsS101.set_1 | apply IsS101.set_2 | apply IsS101.set_3) | exact HI0.out)⟩, ⟨by repeat (first | (with_reducible first | exact HK.out | apply KeepBut.set_ | apply keep_drewN | apply keep_drew | apply keep_alloc) | exact HK.out)⟩, ⟨by repeat (first | (with_reducible first | exact HB.out | apply below_alloc | apply pw_below_drewN | apply below_drew1 | refine below_set ?_ (IsS101.ge HI0.out)) | exact HB.out)⟩⟩
  case rest =>
    clear HC2
    try clear p2
    try clear c3
    try clear c3b0
    try clear c3b1
    try clear hcz4_0
    try clear hcz4_1
    try clear hcz4_2
    try clear hcz4_3
    try clear hcz5_0
    try clear hcz5_1
    try clear hcz5_2
    try clear hcz5_3
    try clear hfz4_1
    try clear hfz4_2
    try clear hfz4_3
    try clear hfz5_1
    try clear hfz5_2
    try clear hfz5_3
    obtain ⟨kq, x20_1, rfl, HA, HJ1, HI0, HK, HB⟩ := hcut
    cases kq with
    | zero => exact absurd HA.out (by simp [epactref11_reader_end.j0])
    | succ kj1 =>
      have H := HA.out
      clear HA
      simp only [epactref11_reader_end.j0] at H
      by_cases c6 : x20_1 = true
      · subst c6
        have H1 : (if 110 = 0 then (some ((-1), 0, s0_1, s0_2, 110)) else (some (s0_1, 110, s0_1, s0_2, 110))) = some (r1, r2, r3, r4, r5) := by rw [if_pos rfl] at H; exact H
        clear H
        have H := H1
        clear H1
        by_cases c7 : 110 = 0
        · exact absurd c7 (by decide)
        · rw [if_neg c7] at H
          have c7b0 : (110 == 0) = false := beq_eq_false_iff_ne.mpr c7
          have c7b1 : (110 != 0) = true := bne_iff_ne.mpr c7
          simp only [Option.some.injEq, Prod.mk.injEq] at H
          obtain ⟨rfl, rfl, rfl, rfl, rfl⟩ := H
          obtain ⟨ASz9_0, cSz9_0, HGz9, hgz9, HSz9_0⟩ := HI0.out
          have hcz9_0 := cellS101_0 HGz9
          have hcz9_1 := cellS101_1 HGz9
          have hcz9_2 := cellS101_2 HGz9
          have hcz9_3 := cellS101_3 HGz9
          have hfz9_1 := blk_frozen HGz9 1
          have hfz9_2 := blk_frozen HGz9 2
          have hfz9_3 := blk_frozen HGz9 3
          clear HGz9 hgz9
          go_wp2
          repeat (go_quiet (fail); try go_wp2)
          go_ret2
          exact ⟨by first | rfl | (simp [errW_none, errW_some] <;> rfl) | (simp [*, errW_none, errW_some] <;> rfl), by repeat (first | (with_reducible first | exact HI0.out | apply IsS101.alloc | apply IsS101.drewN | apply IsS101.drew | apply IsS101.set_1 | apply IsS101.set_2 | apply IsS101.set_3) | exact HI0.out), by repeat (first | (with_reducible first | exact HB.out | apply below_alloc | apply pw_below_drewN | apply below_drew1 | refine below_set ?_ (IsS101.ge HI0.out)) | exact HB.out), by repeat (first | (with_reducible first | exact HK.out | apply KeepBut.set_ | apply keep_drewN | apply keep_drew | apply keep_alloc) | exact HK.out)⟩
      · replace c6 := Bool.eq_false_iff.mpr c6
        subst c6
        have H1 : (if s0_3 = 0 then (some ((-1), 0, s0_1, s0_2, s0_3)) else (some (s0_1, s0_3, s0_1, s0_2, s0_3))) = some (r1, r2, r3, r4, r5) := by rw [if_neg (show ¬ (false = true) by decide)] at H; exact H
        clear H
        have H := H1
        clear H1
        by_cases c10 : s0_3 = 0
        · rw [if_pos c10] at H
          have c10b0 : (s0_3 == 0) = true := beq_iff_eq.mpr c10
          have c10b1 : (s0_3 != 0) = false := bne_eq_false_iff_eq.mpr c10
          clear c10
          simp only [Option.some.injEq, Prod.mk.injEq] at H
          obtain ⟨rfl, rfl, rfl, rfl, rfl⟩ := H
          obtain ⟨ASz11_0, cSz11_0, HGz11, hgz11, HSz11_0⟩ := HI0.out
          have hcz11_0 := cellS101_0 HGz11
          have hcz11_1 := cellS101_1 HGz11
          have hcz11_2 := cellS101_2 HGz11
          have hcz11_3 := cellS101_3 HGz11
          have hfz11_1 := blk_frozen HGz11 1
          have hfz11_2 := blk_frozen HGz11 2
          have hfz11_3 := blk_frozen HGz11 3
          clear HGz11 hgz11
          go_wp2
          repeat (go_quiet (fail); try go_wp2)
          go_ret2
          exact ⟨by first | rfl | (simp [errW_none, errW_some] <;> rfl) | (simp [*, errW_none, errW_some] <;> rfl), by repeat (first | (with_reducible first | exact HI0.out | apply IsS101.alloc | apply IsS101.drewN | apply IsS101.drew | apply IsS101.set_1 | apply IsS101.set_2 | apply IsS101.set_3) | exact HI0.out), by repeat (first | (with_reducible first | exact HB.out | apply below_alloc | apply pw_below_drewN | apply below_drew1 | refine below_set ?_ (IsS101.ge HI0.out)) | exact HB.out), by repeat (first | (with_reducible first | exact HK.out | apply KeepBut.set_ | apply keep_drewN | apply keep_drew | apply keep_alloc) | exact HK.out)⟩
        · rw [if_neg c10] at H
          have c10b0 : (s0_3 == 0) = false := beq_eq_false_iff_ne.mpr c10
          have c10b1 : (s0_3 != 0) = true := bne_iff_ne.mpr c10
          simp only [Option.some.injEq, Prod.mk.injEq] at H
          obtain ⟨rfl, rfl, rfl, rfl, rfl⟩ := H
          obtain ⟨ASz12_0, cSz12_0, HGz12, hgz12, HSz12_0⟩ := HI0.out
          have hcz12_0 := cellS101_0 HGz12
          have hcz12_1 := cellS101_1 HGz12
          have hcz12_2 := cellS101_2 HGz12
          have hcz12_3 := cellS101_3 HGz12
          have hfz12_1 := blk_frozen HGz12 1
          have hfz12_2 := blk_frozen HGz12 2
          have hfz12_3 := blk_frozen HGz12 3
          clear HGz12 hgz12
          go_wp2
          repeat (go_quiet (fail); try go_wp2)
          go_ret2
          exact ⟨by first | rfl | (simp [errW_none, errW_some] <;> rfl) | (simp [*, errW_none, errW_some] <;> rfl), by repeat (first | (with_reducible first | exact HI0.out | apply IsS101.alloc | apply IsS101.drewN | apply IsS101.drew | apply IsS101.set_1 | apply IsS101.set_2 | apply IsS101.set_3) | exact HI0.out), by repeat (first | (with_reducible first | exact HB.out | apply below_alloc | apply pw_below_drewN | apply below_drew1 | refine below_set ?_ (IsS101.ge HI0.out)) | exact HB.out), by repeat (first | (with_reducible first | exact HK.out | apply KeepBut.set_ | apply keep_drewN | apply keep_drew | apply keep_alloc) | exact HK.out)⟩
def epactref11_reader_scope.j0 : Nat → List (S61) → Int → Int → Int → Int → Int → Bool → Bool → Option (Int × Int × Bool × Bool × Int × Int × Int)
  | 0, _, _, _, _, _, _, _, _ => none
  | k + 1, x1000, x1001, x1002, x1003, x367000, x367001, x367002, x367003 => (epactref11_reader_mark.f x1000 x1001 x1002 x1003 (⟨#[58]⟩ : ByteArray)).bind fun bt378 => ((epactref11_reader_is.f x1000 bt378.1 bt378.2.1 bt378.2.2 (⟨#[93]⟩ : ByteArray)).bind fun bt381 => (if bt381.1 = true then ((epactref11_reader_mark.f x1000 bt381.2.1 bt381.2.2.1 bt381.2.2.2 (⟨#[93]⟩ : ByteArray)).bind fun bt385 => (some (x367000, x367001, x367002, x367003, bt385.1, bt385.2.1, bt385.2.2))) else ((epactref11_reader_number.f x1000 bt381.2.1 bt381.2.2.1 bt381.2.2.2).bind fun bt388 => ((epactref11_reader_mark.f x1000 bt388.2.1 bt388.2.2.1 bt388.2.2.2 (⟨#[93]⟩ : ByteArray)).bind fun bt392 => (some (x367000, bt388.1, x367002, true, bt392.1, bt392.2.1, bt392.2.2))))))
def epactref11_reader_scope.f (k : Nat) (s0_0 : List (S61)) (s0_1 : Int) (s0_2 : Int) (s0_3 : Int) : Option (Int × Int × Bool × Bool × Int × Int × Int) := (epactref11_reader_mark.f s0_0 s0_1 s0_2 s0_3 (⟨#[91]⟩ : ByteArray)).bind fun bt367 => ((epactref11_reader_is.f s0_0 bt367.1 bt367.2.1 bt367.2.2 (⟨#[58]⟩ : ByteArray)).bind fun bt370 => (if bt370.1 = true then (epactref11_reader_scope.j0 k s0_0 bt370.2.1 bt370.2.2.1 bt370.2.2.2 0 0 false false) else ((epactref11_reader_number.f s0_0 bt370.2.1 bt370.2.2.1 bt370.2.2.2).bind fun bt374 => (epactref11_reader_scope.j0 k s0_0 bt374.2.1 bt374.2.2.1 bt374.2.2.2 bt374.1 0 true false))))
set_option maxHeartbeats 8000000 in
set_option maxRecDepth 100000 in
theorem epactref11_reader_scope.calls (k : Nat) (g : Nat) (s0_0 : List (S61)) (s0_1 : Int) (s0_2 : Int) (s0_3 : Int) (r1 : Int) (r2 : Int) (r3 : Bool) (r4 : Bool) (r5 : Int) (r6 : Int) (r7 : Int) (w0 w : World) (hI : IsS101 w0 w g s0_0 s0_1 s0_2 s0_3) (hB : Below w0.heap.size w0 w) (h : epactref11_reader_scope.f k s0_0 s0_1 s0_2 s0_3 = some (r1, r2, r3, r4, r5, r6, r7)) :
    Calls Tryd.prog 71 #[.pointer (some ⟨g, 0, none⟩)] w fun e w' => e = .returned (.agg #[.int .i64 r1, .int .i64 r2, .bool r3, .bool r4]) ∧ IsS101 w0 w' g s0_0 r5 r6 r7 ∧ Below w0.heap.size w0 w' ∧ KeepBut w w' g none := by
  have hu52 := Tryd.underlying52
  have HI0 := Aside0.mk hI
  have HK := Aside0.mk (KeepBut.refl w g none)
  have HL := Aside0.mk hB.size
  clear hI
  have HW0 := Aside0.mk hB.size
  have HB := Aside0.mk hB
  clear hB
  have H : ((epactref11_reader_mark.f s0_0 s0_1 s0_2 s0_3 (⟨#[91]⟩ : ByteArray)).bind fun bt367 => ((epactref11_reader_is.f s0_0 bt367.1 bt367.2.1 bt367.2.2 (⟨#[58]⟩ : ByteArray)).bind fun bt370 => (if bt370.1 = true then (epactref11_reader_scope.j0 k s0_0 bt370.2.1 bt370.2.2.1 bt370.2.2.2 0 0 false false) else ((epactref11_reader_number.f s0_0 bt370.2.1 bt370.2.2.1 bt370.2.2.2).bind fun bt374 => (epactref11_reader_scope.j0 k s0_0 bt374.2.1 bt374.2.2.1 bt374.2.2.2 bt374.1 0 true false))))) = some (r1, r2, r3, r4, r5, r6, r7) := h
  clear h
  replace H := Option.bind_eq_some_iff.mp H
  obtain ⟨⟨t367, t368, t369⟩, A20, H⟩ := H
  replace H : ((epactref11_reader_is.f s0_0 t367 t368 t369 (⟨#[58]⟩ : ByteArray)).bind fun bt370 => (if bt370.1 = true then (epactref11_reader_scope.j0 k s0_0 bt370.2.1 bt370.2.2.1 bt370.2.2.2 0 0 false false) else ((epactref11_reader_number.f s0_0 bt370.2.1 bt370.2.2.1 bt370.2.2.2).bind fun bt374 => (epactref11_reader_scope.j0 k s0_0 bt374.2.1 bt374.2.2.1 bt374.2.2.2 bt374.1 0 true false)))) = some (r1, r2, r3, r4, r5, r6, r7) := H
  have A2 := Aside0.mk A20
  clear A20
  replace H := Option.bind_eq_some_iff.mp H
  obtain ⟨⟨t370, t371, t372, t373⟩, A30, H⟩ := H
  replace H : (if t370 = true then (epactref11_reader_scope.j0 k s0_0 t371 t372 t373 0 0 false false) else ((epactref11_reader_number.f s0_0 t371 t372 t373).bind fun bt374 => (epactref11_reader_scope.j0 k s0_0 bt374.2.1 bt374.2.2.1 bt374.2.2.2 bt374.1 0 true false))) = some (r1, r2, r3, r4, r5, r6, r7) := H
  have A3 := Aside0.mk A30
  clear A30
  have HC4 := Aside0.mk H
  clear H
  go_enter Tryd.func71, Tryd.ntmps71
  go_upto_if 8 with (first | ((with_reducible refine gate_dst (N := 2) rfl ?_); refine box_event ?hg (N := 2) ?hd (cs := #[.int .i64 0, .int .i64 0, .bool false, .bool false]) (t := 52) ?hr ?_; (case hd => rfl); (case hg => rfl); (case hr => first | (go_simp; done) | (go_simp; rfl)); intro gb365 hg w5 hbox hb; have n0_ := Aside0.mk (IsS101.below (by repeat (first | (with_reducible first | exact HI0.out | apply IsS101.alloc | apply IsS101.drewN | apply IsS101.drew | apply IsS101.set_1 | apply IsS101.set_2 | apply IsS101.set_3) | exact HI0.out)) hb); have n1_ := Aside0.mk (KeepBut.trans (by repeat (first | (with_reducible first | exact HK.out | apply KeepBut.set_ | apply keep_drewN | apply keep_drew | apply keep_alloc) | exact HK.out)) (KeepBut.of_below hb g none) (.inl rfl)); have n2_ := Aside0.mk (below_step (by repeat (first | (with_reducible first | exact HB.out | apply below_alloc | apply pw_below_drewN | apply below_drew1 | refine below_set ?_ (IsS101.ge HI0.out)) | exact HB.out)) hb); have n3_ := Aside0.mk (hbox); have n4_ := Aside0.mk ((by rw [hg]; exact (keep_size (w := w) (g := g) (row := none) (by repeat (first | (with_reducible first | exact HK.out | apply KeepBut.set_ | apply keep_drewN | apply keep_drew | apply keep_alloc) | exact HK.out))) : w.heap.size ≤ gb365)); have n5_ := Aside0.mk ((Nat.le_trans HW0.out (by rw [hg]; exact (keep_size (w := w) (g := g) (row := none) (by repeat (first | (with_reducible first | exact HK.out | apply KeepBut.set_ | apply keep_drewN | apply keep_drew | apply keep_alloc) | exact HK.out))) : w.heap.size ≤ gb365) : w0.heap.size ≤ gb365)); have n6_ := Aside0.mk ((by rw [hg]; exact Nat.ne_of_lt (IsS101.lt (show IsS101 w0 _ g s0_0 s0_1 s0_2 s0_3 from by repeat (first | (with_reducible first | exact HI0.out | apply IsS101.alloc | apply IsS101.drewN | apply IsS101.drew | apply IsS101.set_1 | apply IsS101.set_2 | apply IsS101.set_3) | exact HI0.out))) : g ≠ gb365)); have n7_ := Aside0.mk ((by rw [hg]; exact Nat.ne_of_gt (IsS101.lt (show IsS101 w0 _ g s0_0 s0_1 s0_2 s0_3 from by repeat (first | (with_reducible first | exact HI0.out | apply IsS101.alloc | apply IsS101.drewN | apply IsS101.drew | apply IsS101.set_1 | apply IsS101.set_2 | apply IsS101.set_3) | exact HI0.out))) : gb365 ≠ g)); clear HI0; clear HK; clear HB; have HI0 := n0_; have HK := n1_; have HB := n2_; have BK365 := n3_; have GW365 := n4_; have GE365 := n5_; have NB0_365 := n6_; have NB365_0 := n7_; clear n0_ n1_ n2_ n3_ n4_ n5_ n6_ n7_; clear hb hbox hg) | ((with_reducible refine gate_dst (N := 3) rfl ?_); refine box_event ?hg (N := 3) ?hd (cs := #[.int .i64 0, .int .i64 0, .bool false, .bool false]) (t := 52) ?hr ?_; (case hd => rfl); (case hg => rfl); (case hr => first | (go_simp; done) | (go_simp; rfl)); intro gb366 hg w6 hbox hb; have n0_ := Aside0.mk (IsS101.below (by repeat (first | (with_reducible first | exact HI0.out | apply IsS101.alloc | apply IsS101.drewN | apply IsS101.drew | apply IsS101.set_1 | apply IsS101.set_2 | apply IsS101.set_3 | refine IsS101.far ?_ NB0_365.out _) | exact HI0.out)) hb); have n1_ := Aside0.mk (blk_below (g := gb365) (o := .cells #[.int .i64 0, .int .i64 0, .bool false, .bool false] 52 (0, 0)) (by (with_reducible repeat (first | refine blk_drewN ?_ _ | refine blk_drew ?_ | refine blk_alloc ?_ _)); exact BK365.out) hb); have n2_ := Aside0.mk (KeepBut.trans (by repeat (first | (with_reducible first | exact HK.out | apply KeepBut.set_ | apply keep_drewN | apply keep_drew | apply keep_alloc | refine keep_far ?_ GW365.out _) | exact HK.out)) (KeepBut.of_below hb g none) (.inl rfl)); have n3_ := Aside0.mk (below_step (by repeat (first | (with_reducible first | exact HB.out | apply below_alloc | apply pw_below_drewN | apply below_drew1 | refine below_set ?_ (IsS101.ge HI0.out) | refine below_set ?_ GE365.out) | exact HB.out)) hb); have n4_ := Aside0.mk (hbox); have n5_ := Aside0.mk ((by rw [hg]; exact (keep_size (w := w) (g := g) (row := none) (by repeat (first | (with_reducible first | exact HK.out | apply KeepBut.set_ | apply keep_drewN | apply keep_drew | apply keep_alloc | refine keep_far ?_ GW365.out _) | exact HK.out))) : w.heap.size ≤ gb366)); have n6_ := Aside0.mk ((Nat.le_trans HW0.out (by rw [hg]; exact (keep_size (w := w) (g := g) (row := none) (by repeat (first | (with_reducible first | exact HK.out | apply KeepBut.set_ | apply keep_drewN | apply keep_drew | apply keep_alloc | refine keep_far ?_ GW365.out _) | exact HK.out))) : w.heap.size ≤ gb366) : w0.heap.size ≤ gb366)); have n7_ := Aside0.mk ((by rw [hg]; exact Nat.ne_of_lt (blk_lt (g := gb365) (o := .cells #[.int .i64 0, .int .i64 0, .bool false, .bool false] 52 (0, 0)) (by (with_reducible repeat (first | refine blk_drewN ?_ _ | refine blk_drew ?_ | refine blk_alloc ?_ _)); exact BK365.out)) : gb365 ≠ gb366)); have n8_ := Aside0.mk ((by rw [hg]; exact Nat.ne_of_gt (blk_lt (g := gb365) (o := .cells #[.int .i64 0, .int .i64 0, .bool false, .bool false] 52 (0, 0)) (by (with_reducible repeat (first | refine blk_drewN ?_ _ | refine blk_drew ?_ | refine blk_alloc ?_ _)); exact BK365.out)) : gb366 ≠ gb365)); have n9_ := Aside0.mk ((by rw [hg]; exact Nat.ne_of_lt (IsS101.lt (show IsS101 w0 _ g s0_0 s0_1 s0_2 s0_3 from by repeat (first | (with_reducible first | exact HI0.out | apply IsS101.alloc | apply IsS101.drewN | apply IsS101.drew | apply IsS101.set_1 | apply IsS101.set_2 | apply IsS101.set_3 | refine IsS101.far ?_ NB0_365.out _) | exact HI0.out))) : g ≠ gb366)); have n10_ := Aside0.mk ((by rw [hg]; exact Nat.ne_of_gt (IsS101.lt (show IsS101 w0 _ g s0_0 s0_1 s0_2 s0_3 from by repeat (first | (with_reducible first | exact HI0.out | apply IsS101.alloc | apply IsS101.drewN | apply IsS101.drew | apply IsS101.set_1 | apply IsS101.set_2 | apply IsS101.set_3 | refine IsS101.far ?_ NB0_365.out _) | exact HI0.out))) : gb366 ≠ g)); clear HI0; clear BK365; clear HK; clear HB; have HI0 := n0_; have BK365 := n1_; have HK := n2_; have HB := n3_; have BK366 := n4_; have GW366 := n5_; have GE366 := n6_; have NB365_366 := n7_; have NB366_365 := n8_; have NB0_366 := n9_; have NB366_0 := n10_; clear n0_ n1_ n2_ n3_ n4_ n5_ n6_ n7_ n8_ n9_ n10_; clear hb hbox hg) | ((with_reducible refine gate_callee (f := 72) rfl ?_); refine goesL_ (some 5) rfl rfl Tryd.func72 (by kernel_rfl) rfl #[.pointer (some ⟨g, 0, none⟩), .string (⟨#[91]⟩ : ByteArray)] rfl (by (try simp only [List.map_toArray, List.map_cons, List.map_nil]); first | done | rfl | (simp only [List.length_drop, List.length_take]; rfl)) ?_; (with_reducible refine (epactref11_reader_mark.calls g s0_0 s0_1 s0_2 s0_3 (⟨#[91]⟩ : ByteArray) t367 t368 t369 w0 _ ?side1 ?side2 A2.out).mono ?_); (case side1 => repeat (first | (with_reducible first | exact HI0.out | apply IsS101.alloc | apply IsS101.drewN | apply IsS101.drew | apply IsS101.set_1 | apply IsS101.set_2 | apply IsS101.set_3 | refine IsS101.far ?_ NB0_365.out _ | refine IsS101.far ?_ NB0_366.out _) | exact HI0.out)); (case side2 => repeat (first | (with_reducible first | exact HB.out | apply below_alloc | apply pw_below_drewN | apply below_drew1 | refine below_set ?_ (IsS101.ge HI0.out) | refine below_set ?_ GE365.out | refine below_set ?_ GE366.out) | exact HB.out)); rintro e w7 ⟨rfl, hi, hb, hk⟩; refine ⟨_, rfl, ?_⟩; have n0_ := Aside0.mk (KeepBut.blk hk (g' := gb365) (o := .cells #[.int .i64 0, .int .i64 0, .bool false, .bool false] 52 (0, 0)) (by (with_reducible repeat (first | refine blk_drewN ?_ _ | refine blk_drew ?_ | refine blk_alloc ?_ _)); exact BK365.out) NB365_0.out (by simp)); have n1_ := Aside0.mk (KeepBut.blk hk (g' := gb366) (o := .cells #[.int .i64 0, .int .i64 0, .bool false, .bool false] 52 (0, 0)) (by (with_reducible repeat (first | refine blk_drewN ?_ _ | refine blk_drew ?_ | refine blk_alloc ?_ _)); exact BK366.out) NB366_0.out (by simp)); have n2_ := Aside0.mk (KeepBut.trans (by repeat (first | (with_reducible first | exact HK.out | apply KeepBut.set_ | apply keep_drewN | apply keep_drew | apply keep_alloc | refine keep_far ?_ GW365.out _ | refine keep_far ?_ GW366.out _) | exact HK.out)) hk (.inl rfl)); have n3_ := Aside0.mk (hb); have n4_ := Aside0.mk (hi); clear BK365; clear BK366; clear HK; clear HB; clear HI0; have BK365 := n0_; have BK366 := n1_; have HK := n2_; have HB := n3_; have HI0 := n4_; clear n0_ n1_ n2_ n3_ n4_; (try clear hb); (try clear hb2); (try clear hk); (try clear hi)) | ((with_reducible refine gate_callee (f := 87) rfl ?_); refine goesL_ (some 7) rfl rfl Tryd.func87 (by kernel_rfl) rfl #[.pointer (some ⟨g, 0, none⟩), .string (⟨#[58]⟩ : ByteArray)] rfl (by (try simp only [List.map_toArray, List.map_cons, List.map_nil]); first | done | rfl | (simp only [List.length_drop, List.length_take]; rfl)) ?_; (with_reducible refine (epactref11_reader_is.calls g s0_0 t367 t368 t369 (⟨#[58]⟩ : ByteArray) t370 t371 t372 t373 w0 _ ?side1 ?side2 A3.out).mono ?_); (case side1 => repeat (first | (with_reducible first | exact HI0.out | apply IsS101.alloc | apply IsS101.drewN | apply IsS101.drew | apply IsS101.set_1 | apply IsS101.set_2 | apply IsS101.set_3 | refine IsS101.far ?_ NB0_365.out _ | refine IsS101.far ?_ NB0_366.out _) | exact HI0.out)); (case side2 => repeat (first | (with_reducible first | exact HB.out | apply below_alloc | apply pw_below_drewN | apply below_drew1 | refine below_set ?_ (IsS101.ge HI0.out) | refine below_set ?_ GE365.out | refine below_set ?_ GE366.out) | exact HB.out)); rintro e w8 ⟨rfl, hi, hb, hk⟩; refine ⟨_, rfl, ?_⟩; have n0_ := Aside0.mk (KeepBut.blk hk (g' := gb365) (o := .cells #[.int .i64 0, .int .i64 0, .bool false, .bool false] 52 (0, 0)) (by (with_reducible repeat (first | refine blk_drewN ?_ _ | refine blk_drew ?_ | refine blk_alloc ?_ _)); exact BK365.out) NB365_0.out (by simp)); have n1_ := Aside0.mk (KeepBut.blk hk (g' := gb366) (o := .cells #[.int .i64 0, .int .i64 0, .bool false, .bool false] 52 (0, 0)) (by (with_reducible repeat (first | refine blk_drewN ?_ _ | refine blk_drew ?_ | refine blk_alloc ?_ _)); exact BK366.out) NB366_0.out (by simp)); have n2_ := Aside0.mk (KeepBut.trans (by repeat (first | (with_reducible first | exact HK.out | apply KeepBut.set_ | apply keep_drewN | apply keep_drew | apply keep_alloc | refine keep_far ?_ GW365.out _ | refine keep_far ?_ GW366.out _) | exact HK.out)) hk (.inl rfl)); have n3_ := Aside0.mk (hb); have n4_ := Aside0.mk (hi); clear BK365; clear BK366; clear HK; clear HB; clear HI0; have BK365 := n0_; have BK366 := n1_; have HK := n2_; have HB := n3_; have HI0 := n4_; clear n0_ n1_ n2_ n3_ n4_; (try clear hb); (try clear hb2); (try clear hk); (try clear hi)))
  (try simp only [Act.put, List.setIfInBounds_toArray, List.set_cons_zero, List.set_cons_succ])
  go_cut [] (fun wc => ∃ (kq : Nat) (x1001_3 : Int) (x1002_3 : Int) (x1003_3 : Int) (x367000_3 : Int) (x367002_3 : Bool), Aside0 (epactref11_reader_scope.j0 kq s0_0 x1001_3 x1002_3 x1003_3 x367000_3 0 x367002_3 false = some (r1, r2, r3, r4, r5, r6, r7)) ∧ Aside0 (kq ≤ k) ∧ Aside0 (wc.heap[gb365]? = some (.cells #[.int .i64 0, .int .i64 0, .bool false, .bool false] 52 (0, 0))) ∧ Aside0 (wc.heap[gb366]? = some (.cells #[.int .i64 x367000_3, .int .i64 0, .bool x367002_3, .bool false] 52 (0, 0))) ∧ Aside0 (IsS101 w0 wc g s0_0 x1001_3 x1002_3 x1003_3) ∧ Aside0 (KeepBut w wc g none) ∧ Aside0 (Below w0.heap.size w0 wc))
  case first =>
    have H := HC4.out
    clear HC4
    by_cases c9 : t370 = true
    · subst c9
      have H1 : (epactref11_reader_scope.j0 k s0_0 t371 t372 t373 0 0 false false) = some (r1, r2, r3, r4, r5, r6, r7) := by rw [if_pos rfl] at H; exact H
      clear H
      have H := H1
      clear H1
      have H' := Aside0.mk H
      clear H
      go_wp2
      go_meet
      case rel => exact ⟨_, (t371), (t372), (t373), (0), (false), H', ⟨by first | omega | exact Nat.le_refl _⟩, ⟨by (with_reducible repeat (first | refine blk_drewN ?_ _ | refine blk_drew ?_ | refine blk_alloc ?_ _)); exact BK365.out⟩, ⟨by (with_reducible repeat (first | refine blk_drewN ?_ _ | refine blk_drew ?_ | refine blk_alloc ?_ _)); exact BK366.out⟩, ⟨by repeat (first | (with_reducible first | exact HI0.out | apply IsS101.alloc | apply IsS101.drewN | apply IsS101.drew | apply IsS101.set_1 | apply IsS101.set_2 | apply IsS101.set_3 | refine IsS101.far ?_ NB0_365.out _ | refine IsS101.far ?_ NB0_366.out _) | exact HI0.out)⟩, ⟨by repeat (first | (with_reducible first | exact HK.out | apply KeepBut.set_ | apply keep_drewN | apply keep_drew | apply keep_alloc | refine keep_far ?_ GW365.out _ | refine keep_far ?_ GW366.out _) | exact HK.out)⟩, ⟨by repeat (first | (with_reducible first | exact HB.out | apply below_alloc | apply pw_below_drewN | apply below_drew1 | refine below_set ?_ (IsS101.ge HI0.out) | refine below_set ?_ GE365.out | refine below_set ?_ GE366.out) | exact HB.out)⟩⟩
    · replace c9 := Bool.eq_false_iff.mpr c9
      subst c9
      have H1 : ((epactref11_reader_number.f s0_0 t371 t372 t373).bind fun bt374 => (epactref11_reader_scope.j0 k s0_0 bt374.2.1 bt374.2.2.1 bt374.2.2.2 bt374.1 0 true false)) = some (r1, r2, r3, r4, r5, r6, r7) := by rw [if_neg (show ¬ (false = true) by decide)] at H; exact H
      clear H
      have H := H1
      clear H1
      replace H := Option.bind_eq_some_iff.mp H
      obtain ⟨⟨t374, t375, t376, t377⟩, A100, H⟩ := H
      replace H : (epactref11_reader_scope.j0 k s0_0 t375 t376 t377 t374 0 true false) = some (r1, r2, r3, r4, r5, r6, r7) := H
      have A10 := Aside0.mk A100
      clear A100
      have H' := Aside0.mk H
      clear H
      go_wp2_with (first | ((with_reducible refine gate_callee (f := 70) rfl ?_); refine goesL_ (some 10) rfl rfl Tryd.func70 (by kernel_rfl) rfl #[.pointer (some ⟨g, 0, none⟩)] rfl (by (try simp only [List.map_toArray, List.map_cons, List.map_nil]); first | done | rfl | (simp only [List.length_drop, List.length_take]; rfl)) ?_; (with_reducible refine (epactref11_reader_number.calls g s0_0 t371 t372 t373 t374 t375 t376 t377 w0 _ ?side1 ?side2 A10.out).mono ?_); (case side1 => repeat (first | (with_reducible first | exact HI0.out | apply IsS101.alloc | apply IsS101.drewN | apply IsS101.drew | apply IsS101.set_1 | apply IsS101.set_2 | apply IsS101.set_3 | refine IsS101.far ?_ NB0_365.out _ | refine IsS101.far ?_ NB0_366.out _) | exact HI0.out)); (case side2 => repeat (first | (with_reducible first | exact HB.out | apply below_alloc | apply pw_below_drewN | apply below_drew1 | refine below_set ?_ (IsS101.ge HI0.out) | refine below_set ?_ GE365.out | refine below_set ?_ GE366.out) | exact HB.out)); rintro e w11 ⟨rfl, hi, hb, hk⟩; refine ⟨_, rfl, ?_⟩; have n0_ := Aside0.mk (KeepBut.blk hk (g' := gb365) (o := .cells #[.int .i64 0, .int .i64 0, .bool false, .bool false] 52 (0, 0)) (by (with_reducible repeat (first | refine blk_drewN ?_ _ | refine blk_drew ?_ | refine blk_alloc ?_ _)); exact BK365.out) NB365_0.out (by simp)); have n1_ := Aside0.mk (KeepBut.blk hk (g' := gb366) (o := .cells #[.int .i64 0, .int .i64 0, .bool false, .bool false] 52 (0, 0)) (by (with_reducible repeat (first | refine blk_drewN ?_ _ | refine blk_drew ?_ | refine blk_alloc ?_ _)); exact BK366.out) NB366_0.out (by simp)); have n2_ := Aside0.mk (KeepBut.trans (by repeat (first | (with_reducible first | exact HK.out | apply KeepBut.set_ | apply keep_drewN | apply keep_drew | apply keep_alloc | refine keep_far ?_ GW365.out _ | refine keep_far ?_ GW366.out _) | exact HK.out)) hk (.inl rfl)); have n3_ := Aside0.mk (hb); have n4_ := Aside0.mk (hi); clear BK365; clear BK366; clear HK; clear HB; clear HI0; have BK365 := n0_; have BK366 := n1_; have HK := n2_; have HB := n3_; have HI0 := n4_; clear n0_ n1_ n2_ n3_ n4_; (try clear hb); (try clear hb2); (try clear hk); (try clear hi); have hnb12 := NB366_365.out; have hnc12 := NB365_366.out; have hnb13 := NB366_0.out; have hnc13 := NB0_366.out; have hcz14_0 : w11.cell? ⟨gb366, 0, none⟩ = some (.int .i64 0) := (blk_cell BK366.out 0).trans rfl; have hcz14_1 : w11.cell? ⟨gb366, 1, none⟩ = some (.int .i64 0) := (blk_cell BK366.out 1).trans rfl; have hcz14_2 : w11.cell? ⟨gb366, 2, none⟩ = some (.bool false) := (blk_cell BK366.out 2).trans rfl; have hcz14_3 : w11.cell? ⟨gb366, 3, none⟩ = some (.bool false) := (blk_cell BK366.out 3).trans rfl; have hfz14_0 := blk_frozen BK366.out 0; have hfz14_1 := blk_frozen BK366.out 1; have hfz14_2 := blk_frozen BK366.out 2; have hfz14_3 := blk_frozen BK366.out 3))
      go_meet
      case rel => exact ⟨_, (t375), (t376), (t377), (t374), (true), H', ⟨by first | omega | exact Nat.le_refl _⟩, ⟨by (with_reducible repeat (first | refine blk_drewN ?_ _ | refine blk_drew ?_ | refine blk_alloc ?_ _)); refine blk_far ?_ NB365_366.out _; (with_reducible repeat (first | refine blk_drewN ?_ _ | refine blk_drew ?_ | refine blk_alloc ?_ _)); refine blk_far ?_ NB365_366.out _; (with_reducible repeat (first | refine blk_drewN ?_ _ | refine blk_drew ?_ | refine blk_alloc ?_ _)); exact BK365.out⟩, ⟨by (with_reducible repeat (first | refine blk_drewN ?_ _ | refine blk_drew ?_ | refine blk_alloc ?_ _)); refine blk_put (cs := #[.int .i64 t374, .int .i64 0, .bool false, .bool false]) ?_ 2 _ rfl; (with_reducible repeat (first | refine blk_drewN ?_ _ | refine blk_drew ?_ | refine blk_alloc ?_ _)); refine blk_put (cs := #[.int .i64 0, .int .i64 0, .bool false, .bool false]) ?_ 0 _ rfl; (with_reducible repeat (first | refine blk_drewN ?_ _ | refine blk_drew ?_ | refine blk_alloc ?_ _)); exact BK366.out⟩, ⟨by repeat (first | (with_reducible first | exact HI0.out | apply IsS101.alloc | apply IsS101.drewN | apply IsS101.drew | apply IsS101.set_1 | apply IsS101.set_2 | apply IsS101.set_3 | refine IsS101.far ?_ NB0_365.out _ | refine IsS101.far ?_ NB0_366.out _) | exact HI0.out)⟩, ⟨by repeat (first | (with_reducible first | exact HK.out | apply KeepBut.set_ | apply keep_drewN | apply keep_drew | apply keep_alloc | refine keep_far ?_ GW365.out _ | refine keep_far ?_ GW366.out _) | exact HK.out)⟩, ⟨by repeat (first | (with_reducible first | exact HB.out | apply below_alloc | apply pw_below_drewN | apply below_drew1 | refine below_set ?_ (IsS101.ge HI0.out) | refine below_set ?_ GE365.out | refine below_set ?_ GE366.out) | exact HB.out)⟩⟩
  case rest =>
    clear HC4
    try clear c1
    try clear p2
    try clear c7
    try clear c8
    try clear c9
    try clear c12
    try clear c13
    try clear hcz14_0
    try clear hcz14_1
    try clear hcz14_2
    try clear hcz14_3
    try clear hfz14_0
    try clear hfz14_1
    try clear hfz14_2
    try clear hfz14_3
    obtain ⟨kq, x1001_3, x1002_3, x1003_3, x367000_3, x367002_3, HA, HJ3, BK365, BK366, HI0, HK, HB⟩ := hcut
    cases kq with
    | zero => exact absurd HA.out (by simp [epactref11_reader_scope.j0])
    | succ kj3 =>
      have H := HA.out
      clear HA
      simp only [epactref11_reader_scope.j0] at H
      replace H := Option.bind_eq_some_iff.mp H
      obtain ⟨⟨t378, t379, t380⟩, A150, H⟩ := H
      replace H : ((epactref11_reader_is.f s0_0 t378 t379 t380 (⟨#[93]⟩ : ByteArray)).bind fun bt381 => (if bt381.1 = true then ((epactref11_reader_mark.f s0_0 bt381.2.1 bt381.2.2.1 bt381.2.2.2 (⟨#[93]⟩ : ByteArray)).bind fun bt385 => (some (x367000_3, 0, x367002_3, false, bt385.1, bt385.2.1, bt385.2.2))) else ((epactref11_reader_number.f s0_0 bt381.2.1 bt381.2.2.1 bt381.2.2.2).bind fun bt388 => ((epactref11_reader_mark.f s0_0 bt388.2.1 bt388.2.2.1 bt388.2.2.2 (⟨#[93]⟩ : ByteArray)).bind fun bt392 => (some (x367000_3, bt388.1, x367002_3, true, bt392.1, bt392.2.1, bt392.2.2)))))) = some (r1, r2, r3, r4, r5, r6, r7) := H
      have A15 := Aside0.mk A150
      clear A150
      replace H := Option.bind_eq_some_iff.mp H
      obtain ⟨⟨t381, t382, t383, t384⟩, A160, H⟩ := H
      replace H : (if t381 = true then ((epactref11_reader_mark.f s0_0 t382 t383 t384 (⟨#[93]⟩ : ByteArray)).bind fun bt385 => (some (x367000_3, 0, x367002_3, false, bt385.1, bt385.2.1, bt385.2.2))) else ((epactref11_reader_number.f s0_0 t382 t383 t384).bind fun bt388 => ((epactref11_reader_mark.f s0_0 bt388.2.1 bt388.2.2.1 bt388.2.2.2 (⟨#[93]⟩ : ByteArray)).bind fun bt392 => (some (x367000_3, bt388.1, x367002_3, true, bt392.1, bt392.2.1, bt392.2.2))))) = some (r1, r2, r3, r4, r5, r6, r7) := H
      have A16 := Aside0.mk A160
      clear A160
      by_cases c17 : t381 = true
      · subst c17
        have H1 : ((epactref11_reader_mark.f s0_0 t382 t383 t384 (⟨#[93]⟩ : ByteArray)).bind fun bt385 => (some (x367000_3, 0, x367002_3, false, bt385.1, bt385.2.1, bt385.2.2))) = some (r1, r2, r3, r4, r5, r6, r7) := by rw [if_pos rfl] at H; exact H
        clear H
        have H := H1
        clear H1
        replace H := Option.bind_eq_some_iff.mp H
        obtain ⟨⟨t385, t386, t387⟩, A180, H⟩ := H
        replace H : (some (x367000_3, 0, x367002_3, false, t385, t386, t387)) = some (r1, r2, r3, r4, r5, r6, r7) := H
        have A18 := Aside0.mk A180
        clear A180
        simp only [Option.some.injEq, Prod.mk.injEq] at H
        obtain ⟨rfl, rfl, rfl, rfl, rfl, rfl, rfl⟩ := H
        go_wp2_with (first | ((with_reducible refine gate_callee (f := 72) rfl ?_); refine goesL_ (some 14) rfl rfl Tryd.func72 (by kernel_rfl) rfl #[.pointer (some ⟨g, 0, none⟩), .string (⟨#[58]⟩ : ByteArray)] rfl (by (try simp only [List.map_toArray, List.map_cons, List.map_nil]); first | done | rfl | (simp only [List.length_drop, List.length_take]; rfl)) ?_; (with_reducible refine (epactref11_reader_mark.calls g s0_0 x1001_3 x1002_3 x1003_3 (⟨#[58]⟩ : ByteArray) t378 t379 t380 w0 _ ?side1 ?side2 A15.out).mono ?_); (case side1 => repeat (first | (with_reducible first | exact HI0.out | apply IsS101.alloc | apply IsS101.drewN | apply IsS101.drew | apply IsS101.set_1 | apply IsS101.set_2 | apply IsS101.set_3 | refine IsS101.far ?_ NB0_365.out _ | refine IsS101.far ?_ NB0_366.out _) | exact HI0.out)); (case side2 => repeat (first | (with_reducible first | exact HB.out | apply below_alloc | apply pw_below_drewN | apply below_drew1 | refine below_set ?_ (IsS101.ge HI0.out) | refine below_set ?_ GE365.out | refine below_set ?_ GE366.out) | exact HB.out)); rintro e w19 ⟨rfl, hi, hb, hk⟩; refine ⟨_, rfl, ?_⟩; have n0_ := Aside0.mk (KeepBut.blk hk (g' := gb365) (o := .cells #[.int .i64 0, .int .i64 0, .bool false, .bool false] 52 (0, 0)) (by (with_reducible repeat (first | refine blk_drewN ?_ _ | refine blk_drew ?_ | refine blk_alloc ?_ _)); exact BK365.out) NB365_0.out (by simp)); have n1_ := Aside0.mk (KeepBut.blk hk (g' := gb366) (o := .cells #[.int .i64 x367000_3, .int .i64 0, .bool x367002_3, .bool false] 52 (0, 0)) (by (with_reducible repeat (first | refine blk_drewN ?_ _ | refine blk_drew ?_ | refine blk_alloc ?_ _)); exact BK366.out) NB366_0.out (by simp)); have n2_ := Aside0.mk (KeepBut.trans (by repeat (first | (with_reducible first | exact HK.out | apply KeepBut.set_ | apply keep_drewN | apply keep_drew | apply keep_alloc | refine keep_far ?_ GW365.out _ | refine keep_far ?_ GW366.out _) | exact HK.out)) hk (.inl rfl)); have n3_ := Aside0.mk (hb); have n4_ := Aside0.mk (hi); clear BK365; clear BK366; clear HK; clear HB; clear HI0; have BK365 := n0_; have BK366 := n1_; have HK := n2_; have HB := n3_; have HI0 := n4_; clear n0_ n1_ n2_ n3_ n4_; (try clear hb); (try clear hb2); (try clear hk); (try clear hi)) | ((with_reducible refine gate_callee (f := 87) rfl ?_); refine goesL_ (some 16) rfl rfl Tryd.func87 (by kernel_rfl) rfl #[.pointer (some ⟨g, 0, none⟩), .string (⟨#[93]⟩ : ByteArray)] rfl (by (try simp only [List.map_toArray, List.map_cons, List.map_nil]); first | done | rfl | (simp only [List.length_drop, List.length_take]; rfl)) ?_; (with_reducible refine (epactref11_reader_is.calls g s0_0 t378 t379 t380 (⟨#[93]⟩ : ByteArray) true t382 t383 t384 w0 _ ?side1 ?side2 A16.out).mono ?_); (case side1 => repeat (first | (with_reducible first | exact HI0.out | apply IsS101.alloc | apply IsS101.drewN | apply IsS101.drew | apply IsS101.set_1 | apply IsS101.set_2 | apply IsS101.set_3 | refine IsS101.far ?_ NB0_365.out _ | refine IsS101.far ?_ NB0_366.out _) | exact HI0.out)); (case side2 => repeat (first | (with_reducible first | exact HB.out | apply below_alloc | apply pw_below_drewN | apply below_drew1 | refine below_set ?_ (IsS101.ge HI0.out) | refine below_set ?_ GE365.out | refine below_set ?_ GE366.out) | exact HB.out)); rintro e w20 ⟨rfl, hi, hb, hk⟩; refine ⟨_, rfl, ?_⟩; have n0_ := Aside0.mk (KeepBut.blk hk (g' := gb365) (o := .cells #[.int .i64 0, .int .i64 0, .bool false, .bool false] 52 (0, 0)) (by (with_reducible repeat (first | refine blk_drewN ?_ _ | refine blk_drew ?_ | refine blk_alloc ?_ _)); exact BK365.out) NB365_0.out (by simp)); have n1_ := Aside0.mk (KeepBut.blk hk (g' := gb366) (o := .cells #[.int .i64 x367000_3, .int .i64 0, .bool x367002_3, .bool false] 52 (0, 0)) (by (with_reducible repeat (first | refine blk_drewN ?_ _ | refine blk_drew ?_ | refine blk_alloc ?_ _)); exact BK366.out) NB366_0.out (by simp)); have n2_ := Aside0.mk (KeepBut.trans (by repeat (first | (with_reducible first | exact HK.out | apply KeepBut.set_ | apply keep_drewN | apply keep_drew | apply keep_alloc | refine keep_far ?_ GW365.out _ | refine keep_far ?_ GW366.out _) | exact HK.out)) hk (.inl rfl)); have n3_ := Aside0.mk (hb); have n4_ := Aside0.mk (hi); clear BK365; clear BK366; clear HK; clear HB; clear HI0; have BK365 := n0_; have BK366 := n1_; have HK := n2_; have HB := n3_; have HI0 := n4_; clear n0_ n1_ n2_ n3_ n4_; (try clear hb); (try clear hb2); (try clear hk); (try clear hi)) | ((with_reducible refine gate_callee (f := 72) rfl ?_); refine goesL_ (some 23) rfl rfl Tryd.func72 (by kernel_rfl) rfl #[.pointer (some ⟨g, 0, none⟩), .string (⟨#[93]⟩ : ByteArray)] rfl (by (try simp only [List.map_toArray, List.map_cons, List.map_nil]); first | done | rfl | (simp only [List.length_drop, List.length_take]; rfl)) ?_; (with_reducible refine (epactref11_reader_mark.calls g s0_0 t382 t383 t384 (⟨#[93]⟩ : ByteArray) t385 t386 t387 w0 _ ?side1 ?side2 A18.out).mono ?_); (case side1 => repeat (first | (with_reducible first | exact HI0.out | apply IsS101.alloc | apply IsS101.drewN | apply IsS101.drew | apply IsS101.set_1 | apply IsS101.set_2 | apply IsS101.set_3 | refine IsS101.far ?_ NB0_365.out _ | refine IsS101.far ?_ NB0_366.out _) | exact HI0.out)); (case side2 => repeat (first | (with_reducible first | exact HB.out | apply below_alloc | apply pw_below_drewN | apply below_drew1 | refine below_set ?_ (IsS101.ge HI0.out) | refine below_set ?_ GE365.out | refine below_set ?_ GE366.out) | exact HB.out)); rintro e w21 ⟨rfl, hi, hb, hk⟩; refine ⟨_, rfl, ?_⟩; have n0_ := Aside0.mk (KeepBut.blk hk (g' := gb365) (o := .cells #[.int .i64 0, .int .i64 0, .bool false, .bool false] 52 (0, 0)) (by (with_reducible repeat (first | refine blk_drewN ?_ _ | refine blk_drew ?_ | refine blk_alloc ?_ _)); exact BK365.out) NB365_0.out (by simp)); have n1_ := Aside0.mk (KeepBut.blk hk (g' := gb366) (o := .cells #[.int .i64 x367000_3, .int .i64 0, .bool x367002_3, .bool false] 52 (0, 0)) (by (with_reducible repeat (first | refine blk_drewN ?_ _ | refine blk_drew ?_ | refine blk_alloc ?_ _)); exact BK366.out) NB366_0.out (by simp)); have n2_ := Aside0.mk (KeepBut.trans (by repeat (first | (with_reducible first | exact HK.out | apply KeepBut.set_ | apply keep_drewN | apply keep_drew | apply keep_alloc | refine keep_far ?_ GW365.out _ | refine keep_far ?_ GW366.out _) | exact HK.out)) hk (.inl rfl)); have n3_ := Aside0.mk (hb); have n4_ := Aside0.mk (hi); clear BK365; clear BK366; clear HK; clear HB; clear HI0; have BK365 := n0_; have BK366 := n1_; have HK := n2_; have HB := n3_; have HI0 := n4_; clear n0_ n1_ n2_ n3_ n4_; (try clear hb); (try clear hb2); (try clear hk); (try clear hi); have hnb22 := NB366_365.out; have hnc22 := NB365_366.out; have hnb23 := NB366_0.out; have hnc23 := NB0_366.out; have hcz24_0 : w21.cell? ⟨gb366, 0, none⟩ = some (.int .i64 x367000_3) := (blk_cell BK366.out 0).trans rfl; have hcz24_1 : w21.cell? ⟨gb366, 1, none⟩ = some (.int .i64 0) := (blk_cell BK366.out 1).trans rfl; have hcz24_2 : w21.cell? ⟨gb366, 2, none⟩ = some (.bool x367002_3) := (blk_cell BK366.out 2).trans rfl; have hcz24_3 : w21.cell? ⟨gb366, 3, none⟩ = some (.bool false) := (blk_cell BK366.out 3).trans rfl; have hfz24_0 := blk_frozen BK366.out 0; have hfz24_1 := blk_frozen BK366.out 1; have hfz24_2 := blk_frozen BK366.out 2; have hfz24_3 := blk_frozen BK366.out 3; have hnb25 := NB365_0.out; have hnc25 := NB0_365.out; have hcz26_0 : w21.cell? ⟨gb365, 0, none⟩ = some (.int .i64 0) := (blk_cell BK365.out 0).trans rfl; have hcz26_1 : w21.cell? ⟨gb365, 1, none⟩ = some (.int .i64 0) := (blk_cell BK365.out 1).trans rfl; have hcz26_2 : w21.cell? ⟨gb365, 2, none⟩ = some (.bool false) := (blk_cell BK365.out 2).trans rfl; have hcz26_3 : w21.cell? ⟨gb365, 3, none⟩ = some (.bool false) := (blk_cell BK365.out 3).trans rfl; have hfz26_0 := blk_frozen BK365.out 0; have hfz26_1 := blk_frozen BK365.out 1; have hfz26_2 := blk_frozen BK365.out 2; have hfz26_3 := blk_frozen BK365.out 3))
        refine bodyPost_ret (results_cell_row rfl _ _ gb365 52 #[.int .i64 x367000_3, .int .i64 0, .bool x367002_3, .bool false] (0, 0) _ rfl (by (with_reducible repeat (first | refine blk_drewN ?_ _ | refine blk_drew ?_ | refine blk_alloc ?_ _)); refine blk_put (cs := #[.int .i64 x367000_3, .int .i64 0, .bool x367002_3, .bool false]) ?_ 3 _ rfl; (with_reducible repeat (first | refine blk_drewN ?_ _ | refine blk_drew ?_ | refine blk_alloc ?_ _)); refine blk_put (cs := #[.int .i64 x367000_3, .int .i64 0, .bool false, .bool false]) ?_ 2 _ rfl; (with_reducible repeat (first | refine blk_drewN ?_ _ | refine blk_drew ?_ | refine blk_alloc ?_ _)); refine blk_put (cs := #[.int .i64 x367000_3, .int .i64 0, .bool false, .bool false]) ?_ 1 _ rfl; (with_reducible repeat (first | refine blk_drewN ?_ _ | refine blk_drew ?_ | refine blk_alloc ?_ _)); refine blk_put (cs := #[.int .i64 0, .int .i64 0, .bool false, .bool false]) ?_ 0 _ rfl; (with_reducible repeat (first | refine blk_drewN ?_ _ | refine blk_drew ?_ | refine blk_alloc ?_ _)); exact BK365.out) Tryd.underlying52 rfl (by kernel_rfl)) rfl ?_
        exact ⟨by first | rfl | (simp [errW_none, errW_some] <;> rfl) | (simp [*, errW_none, errW_some] <;> rfl), by repeat (first | (with_reducible first | exact HI0.out | apply IsS101.alloc | apply IsS101.drewN | apply IsS101.drew | apply IsS101.set_1 | apply IsS101.set_2 | apply IsS101.set_3 | refine IsS101.far ?_ NB0_365.out _ | refine IsS101.far ?_ NB0_366.out _) | exact HI0.out), by repeat (first | (with_reducible first | exact HB.out | apply below_alloc | apply pw_below_drewN | apply below_drew1 | refine below_set ?_ (IsS101.ge HI0.out) | refine below_set ?_ GE365.out | refine below_set ?_ GE366.out) | exact HB.out), by repeat (first | (with_reducible first | exact HK.out | apply KeepBut.set_ | apply keep_drewN | apply keep_drew | apply keep_alloc | refine keep_far ?_ GW365.out _ | refine keep_far ?_ GW366.out _) | exact HK.out)⟩
      · replace c17 := Bool.eq_false_iff.mpr c17
        subst c17
        have H1 : ((epactref11_reader_number.f s0_0 t382 t383 t384).bind fun bt388 => ((epactref11_reader_mark.f s0_0 bt388.2.1 bt388.2.2.1 bt388.2.2.2 (⟨#[93]⟩ : ByteArray)).bind fun bt392 => (some (x367000_3, bt388.1, x367002_3, true, bt392.1, bt392.2.1, bt392.2.2)))) = some (r1, r2, r3, r4, r5, r6, r7) := by rw [if_neg (show ¬ (false = true) by decide)] at H; exact H
        clear H
        have H := H1
        clear H1
        replace H := Option.bind_eq_some_iff.mp H
        obtain ⟨⟨t388, t389, t390, t391⟩, A270, H⟩ := H
        replace H : ((epactref11_reader_mark.f s0_0 t389 t390 t391 (⟨#[93]⟩ : ByteArray)).bind fun bt392 => (some (x367000_3, t388, x367002_3, true, bt392.1, bt392.2.1, bt392.2.2))) = some (r1, r2, r3, r4, r5, r6, r7) := H
        have A27 := Aside0.mk A270
        clear A270
        replace H := Option.bind_eq_some_iff.mp H
        obtain ⟨⟨t392, t393, t394⟩, A280, H⟩ := H
        replace H : (some (x367000_3, t388, x367002_3, true, t392, t393, t394)) = some (r1, r2, r3, r4, r5, r6, r7) := H
        have A28 := Aside0.mk A280
        clear A280
        simp only [Option.some.injEq, Prod.mk.injEq] at H
        obtain ⟨rfl, rfl, rfl, rfl, rfl, rfl, rfl⟩ := H
        go_wp2_with (first | ((with_reducible refine gate_callee (f := 72) rfl ?_); refine goesL_ (some 14) rfl rfl Tryd.func72 (by kernel_rfl) rfl #[.pointer (some ⟨g, 0, none⟩), .string (⟨#[58]⟩ : ByteArray)] rfl (by (try simp only [List.map_toArray, List.map_cons, List.map_nil]); first | done | rfl | (simp only [List.length_drop, List.length_take]; rfl)) ?_; (with_reducible refine (epactref11_reader_mark.calls g s0_0 x1001_3 x1002_3 x1003_3 (⟨#[58]⟩ : ByteArray) t378 t379 t380 w0 _ ?side1 ?side2 A15.out).mono ?_); (case side1 => repeat (first | (with_reducible first | exact HI0.out | apply IsS101.alloc | apply IsS101.drewN | apply IsS101.drew | apply IsS101.set_1 | apply IsS101.set_2 | apply IsS101.set_3 | refine IsS101.far ?_ NB0_365.out _ | refine IsS101.far ?_ NB0_366.out _) | exact HI0.out)); (case side2 => repeat (first | (with_reducible first | exact HB.out | apply below_alloc | apply pw_below_drewN | apply below_drew1 | refine below_set ?_ (IsS101.ge HI0.out) | refine below_set ?_ GE365.out | refine below_set ?_ GE366.out) | exact HB.out)); rintro e w29 ⟨rfl, hi, hb, hk⟩; refine ⟨_, rfl, ?_⟩; have n0_ := Aside0.mk (KeepBut.blk hk (g' := gb365) (o := .cells #[.int .i64 0, .int .i64 0, .bool false, .bool false] 52 (0, 0)) (by (with_reducible repeat (first | refine blk_drewN ?_ _ | refine blk_drew ?_ | refine blk_alloc ?_ _)); exact BK365.out) NB365_0.out (by simp)); have n1_ := Aside0.mk (KeepBut.blk hk (g' := gb366) (o := .cells #[.int .i64 x367000_3, .int .i64 0, .bool x367002_3, .bool false] 52 (0, 0)) (by (with_reducible repeat (first | refine blk_drewN ?_ _ | refine blk_drew ?_ | refine blk_alloc ?_ _)); exact BK366.out) NB366_0.out (by simp)); have n2_ := Aside0.mk (KeepBut.trans (by repeat (first | (with_reducible first | exact HK.out | apply KeepBut.set_ | apply keep_drewN | apply keep_drew | apply keep_alloc | refine keep_far ?_ GW365.out _ | refine keep_far ?_ GW366.out _) | exact HK.out)) hk (.inl rfl)); have n3_ := Aside0.mk (hb); have n4_ := Aside0.mk (hi); clear BK365; clear BK366; clear HK; clear HB; clear HI0; have BK365 := n0_; have BK366 := n1_; have HK := n2_; have HB := n3_; have HI0 := n4_; clear n0_ n1_ n2_ n3_ n4_; (try clear hb); (try clear hb2); (try clear hk); (try clear hi)) | ((with_reducible refine gate_callee (f := 87) rfl ?_); refine goesL_ (some 16) rfl rfl Tryd.func87 (by kernel_rfl) rfl #[.pointer (some ⟨g, 0, none⟩), .string (⟨#[93]⟩ : ByteArray)] rfl (by (try simp only [List.map_toArray, List.map_cons, List.map_nil]); first | done | rfl | (simp only [List.length_drop, List.length_take]; rfl)) ?_; (with_reducible refine (epactref11_reader_is.calls g s0_0 t378 t379 t380 (⟨#[93]⟩ : ByteArray) false t382 t383 t384 w0 _ ?side1 ?side2 A16.out).mono ?_); (case side1 => repeat (first | (with_reducible first | exact HI0.out | apply IsS101.alloc | apply IsS101.drewN | apply IsS101.drew | apply IsS101.set_1 | apply IsS101.set_2 | apply IsS101.set_3 | refine IsS101.far ?_ NB0_365.out _ | refine IsS101.far ?_ NB0_366.out _) | exact HI0.out)); (case side2 => repeat (first | (with_reducible first | exact HB.out | apply below_alloc | apply pw_below_drewN | apply below_drew1 | refine below_set ?_ (IsS101.ge HI0.out) | refine below_set ?_ GE365.out | refine below_set ?_ GE366.out) | exact HB.out)); rintro e w30 ⟨rfl, hi, hb, hk⟩; refine ⟨_, rfl, ?_⟩; have n0_ := Aside0.mk (KeepBut.blk hk (g' := gb365) (o := .cells #[.int .i64 0, .int .i64 0, .bool false, .bool false] 52 (0, 0)) (by (with_reducible repeat (first | refine blk_drewN ?_ _ | refine blk_drew ?_ | refine blk_alloc ?_ _)); exact BK365.out) NB365_0.out (by simp)); have n1_ := Aside0.mk (KeepBut.blk hk (g' := gb366) (o := .cells #[.int .i64 x367000_3, .int .i64 0, .bool x367002_3, .bool false] 52 (0, 0)) (by (with_reducible repeat (first | refine blk_drewN ?_ _ | refine blk_drew ?_ | refine blk_alloc ?_ _)); exact BK366.out) NB366_0.out (by simp)); have n2_ := Aside0.mk (KeepBut.trans (by repeat (first | (with_reducible first | exact HK.out | apply KeepBut.set_ | apply keep_drewN | apply keep_drew | apply keep_alloc | refine keep_far ?_ GW365.out _ | refine keep_far ?_ GW366.out _) | exact HK.out)) hk (.inl rfl)); have n3_ := Aside0.mk (hb); have n4_ := Aside0.mk (hi); clear BK365; clear BK366; clear HK; clear HB; clear HI0; have BK365 := n0_; have BK366 := n1_; have HK := n2_; have HB := n3_; have HI0 := n4_; clear n0_ n1_ n2_ n3_ n4_; (try clear hb); (try clear hb2); (try clear hk); (try clear hi)) | ((with_reducible refine gate_callee (f := 70) rfl ?_); refine goesL_ (some 19) rfl rfl Tryd.func70 (by kernel_rfl) rfl #[.pointer (some ⟨g, 0, none⟩)] rfl (by (try simp only [List.map_toArray, List.map_cons, List.map_nil]); first | done | rfl | (simp only [List.length_drop, List.length_take]; rfl)) ?_; (with_reducible refine (epactref11_reader_number.calls g s0_0 t382 t383 t384 t388 t389 t390 t391 w0 _ ?side1 ?side2 A27.out).mono ?_); (case side1 => repeat (first | (with_reducible first | exact HI0.out | apply IsS101.alloc | apply IsS101.drewN | apply IsS101.drew | apply IsS101.set_1 | apply IsS101.set_2 | apply IsS101.set_3 | refine IsS101.far ?_ NB0_365.out _ | refine IsS101.far ?_ NB0_366.out _) | exact HI0.out)); (case side2 => repeat (first | (with_reducible first | exact HB.out | apply below_alloc | apply pw_below_drewN | apply below_drew1 | refine below_set ?_ (IsS101.ge HI0.out) | refine below_set ?_ GE365.out | refine below_set ?_ GE366.out) | exact HB.out)); rintro e w31 ⟨rfl, hi, hb, hk⟩; refine ⟨_, rfl, ?_⟩; have n0_ := Aside0.mk (KeepBut.blk hk (g' := gb365) (o := .cells #[.int .i64 0, .int .i64 0, .bool false, .bool false] 52 (0, 0)) (by (with_reducible repeat (first | refine blk_drewN ?_ _ | refine blk_drew ?_ | refine blk_alloc ?_ _)); exact BK365.out) NB365_0.out (by simp)); have n1_ := Aside0.mk (KeepBut.blk hk (g' := gb366) (o := .cells #[.int .i64 x367000_3, .int .i64 0, .bool x367002_3, .bool false] 52 (0, 0)) (by (with_reducible repeat (first | refine blk_drewN ?_ _ | refine blk_drew ?_ | refine blk_alloc ?_ _)); exact BK366.out) NB366_0.out (by simp)); have n2_ := Aside0.mk (KeepBut.trans (by repeat (first | (with_reducible first | exact HK.out | apply KeepBut.set_ | apply keep_drewN | apply keep_drew | apply keep_alloc | refine keep_far ?_ GW365.out _ | refine keep_far ?_ GW366.out _) | exact HK.out)) hk (.inl rfl)); have n3_ := Aside0.mk (hb); have n4_ := Aside0.mk (hi); clear BK365; clear BK366; clear HK; clear HB; clear HI0; have BK365 := n0_; have BK366 := n1_; have HK := n2_; have HB := n3_; have HI0 := n4_; clear n0_ n1_ n2_ n3_ n4_; (try clear hb); (try clear hb2); (try clear hk); (try clear hi); have hnb32 := NB366_365.out; have hnc32 := NB365_366.out; have hnb33 := NB366_0.out; have hnc33 := NB0_366.out; have hcz34_0 : w31.cell? ⟨gb366, 0, none⟩ = some (.int .i64 x367000_3) := (blk_cell BK366.out 0).trans rfl; have hcz34_1 : w31.cell? ⟨gb366, 1, none⟩ = some (.int .i64 0) := (blk_cell BK366.out 1).trans rfl; have hcz34_2 : w31.cell? ⟨gb366, 2, none⟩ = some (.bool x367002_3) := (blk_cell BK366.out 2).trans rfl; have hcz34_3 : w31.cell? ⟨gb366, 3, none⟩ = some (.bool false) := (blk_cell BK366.out 3).trans rfl; have hfz34_0 := blk_frozen BK366.out 0; have hfz34_1 := blk_frozen BK366.out 1; have hfz34_2 := blk_frozen BK366.out 2; have hfz34_3 := blk_frozen BK366.out 3) | ((with_reducible refine gate_callee (f := 72) rfl ?_); refine goesL_ (some 23) rfl rfl Tryd.func72 (by kernel_rfl) rfl #[.pointer (some ⟨g, 0, none⟩), .string (⟨#[93]⟩ : ByteArray)] rfl (by (try simp only [List.map_toArray, List.map_cons, List.map_nil]); first | done | rfl | (simp only [List.length_drop, List.length_take]; rfl)) ?_; (with_reducible refine (epactref11_reader_mark.calls g s0_0 t389 t390 t391 (⟨#[93]⟩ : ByteArray) t392 t393 t394 w0 _ ?side1 ?side2 A28.out).mono ?_); (case side1 => repeat (first | (with_reducible first | exact HI0.out | apply IsS101.alloc | apply IsS101.drewN | apply IsS101.drew | apply IsS101.set_1 | apply IsS101.set_2 | apply IsS101.set_3 | refine IsS101.far ?_ NB0_365.out _ | refine IsS101.far ?_ NB0_366.out _) | exact HI0.out)); (case side2 => repeat (first | (with_reducible first | exact HB.out | apply below_alloc | apply pw_below_drewN | apply below_drew1 | refine below_set ?_ (IsS101.ge HI0.out) | refine below_set ?_ GE365.out | refine below_set ?_ GE366.out) | exact HB.out)); rintro e w35 ⟨rfl, hi, hb, hk⟩; refine ⟨_, rfl, ?_⟩; have n0_ := Aside0.mk (KeepBut.blk hk (g' := gb365) (o := .cells #[.int .i64 0, .int .i64 0, .bool false, .bool false] 52 (0, 0)) (by (with_reducible repeat (first | refine blk_drewN ?_ _ | refine blk_drew ?_ | refine blk_alloc ?_ _)); refine blk_far ?_ NB365_366.out _; (with_reducible repeat (first | refine blk_drewN ?_ _ | refine blk_drew ?_ | refine blk_alloc ?_ _)); refine blk_far ?_ NB365_366.out _; (with_reducible repeat (first | refine blk_drewN ?_ _ | refine blk_drew ?_ | refine blk_alloc ?_ _)); exact BK365.out) NB365_0.out (by simp)); have n1_ := Aside0.mk (KeepBut.blk hk (g' := gb366) (o := .cells #[.int .i64 x367000_3, .int .i64 t388, .bool x367002_3, .bool true] 52 (0, 0)) (by (with_reducible repeat (first | refine blk_drewN ?_ _ | refine blk_drew ?_ | refine blk_alloc ?_ _)); refine blk_put (cs := #[.int .i64 x367000_3, .int .i64 t388, .bool x367002_3, .bool false]) ?_ 3 _ rfl; (with_reducible repeat (first | refine blk_drewN ?_ _ | refine blk_drew ?_ | refine blk_alloc ?_ _)); refine blk_put (cs := #[.int .i64 x367000_3, .int .i64 0, .bool x367002_3, .bool false]) ?_ 1 _ rfl; (with_reducible repeat (first | refine blk_drewN ?_ _ | refine blk_drew ?_ | refine blk_alloc ?_ _)); exact BK366.out) NB366_0.out (by simp)); have n2_ := Aside0.mk (KeepBut.trans (by repeat (first | (with_reducible first | exact HK.out | apply KeepBut.set_ | apply keep_drewN | apply keep_drew | apply keep_alloc | refine keep_far ?_ GW365.out _ | refine keep_far ?_ GW366.out _) | exact HK.out)) hk (.inl rfl)); have n3_ := Aside0.mk (hb); have n4_ := Aside0.mk (hi); clear BK365; clear BK366; clear HK; clear HB; clear HI0; have BK365 := n0_; have BK366 := n1_; have HK := n2_; have HB := n3_; have HI0 := n4_; clear n0_ n1_ n2_ n3_ n4_; (try clear hb); (try clear hb2); (try clear hk); (try clear hi); have hcz36_0 : w35.cell? ⟨gb366, 0, none⟩ = some (.int .i64 x367000_3) := (blk_cell BK366.out 0).trans rfl; have hcz36_1 : w35.cell? ⟨gb366, 1, none⟩ = some (.int .i64 t388) := (blk_cell BK366.out 1).trans rfl; have hcz36_2 : w35.cell? ⟨gb366, 2, none⟩ = some (.bool x367002_3) := (blk_cell BK366.out 2).trans rfl; have hcz36_3 : w35.cell? ⟨gb366, 3, none⟩ = some (.bool true) := (blk_cell BK366.out 3).trans rfl; have hfz36_0 := blk_frozen BK366.out 0; have hfz36_1 := blk_frozen BK366.out 1; have hfz36_2 := blk_frozen BK366.out 2; have hfz36_3 := blk_frozen BK366.out 3; have hnb37 := NB365_0.out; have hnc37 := NB0_365.out; have hcz38_0 : w35.cell? ⟨gb365, 0, none⟩ = some (.int .i64 0) := (blk_cell BK365.out 0).trans rfl; have hcz38_1 : w35.cell? ⟨gb365, 1, none⟩ = some (.int .i64 0) := (blk_cell BK365.out 1).trans rfl; have hcz38_2 : w35.cell? ⟨gb365, 2, none⟩ = some (.bool false) := (blk_cell BK365.out 2).trans rfl; have hcz38_3 : w35.cell? ⟨gb365, 3, none⟩ = some (.bool false) := (blk_cell BK365.out 3).trans rfl; have hfz38_0 := blk_frozen BK365.out 0; have hfz38_1 := blk_frozen BK365.out 1; have hfz38_2 := blk_frozen BK365.out 2; have hfz38_3 := blk_frozen BK365.out 3))
        refine bodyPost_ret (results_cell_row rfl _ _ gb365 52 #[.int .i64 x367000_3, .int .i64 t388, .bool x367002_3, .bool true] (0, 0) _ rfl (by (with_reducible repeat (first | refine blk_drewN ?_ _ | refine blk_drew ?_ | refine blk_alloc ?_ _)); refine blk_put (cs := #[.int .i64 x367000_3, .int .i64 t388, .bool x367002_3, .bool false]) ?_ 3 _ rfl; (with_reducible repeat (first | refine blk_drewN ?_ _ | refine blk_drew ?_ | refine blk_alloc ?_ _)); refine blk_put (cs := #[.int .i64 x367000_3, .int .i64 t388, .bool false, .bool false]) ?_ 2 _ rfl; (with_reducible repeat (first | refine blk_drewN ?_ _ | refine blk_drew ?_ | refine blk_alloc ?_ _)); refine blk_put (cs := #[.int .i64 x367000_3, .int .i64 0, .bool false, .bool false]) ?_ 1 _ rfl; (with_reducible repeat (first | refine blk_drewN ?_ _ | refine blk_drew ?_ | refine blk_alloc ?_ _)); refine blk_put (cs := #[.int .i64 0, .int .i64 0, .bool false, .bool false]) ?_ 0 _ rfl; (with_reducible repeat (first | refine blk_drewN ?_ _ | refine blk_drew ?_ | refine blk_alloc ?_ _)); exact BK365.out) Tryd.underlying52 rfl (by kernel_rfl)) rfl ?_
        exact ⟨by first | rfl | (simp [errW_none, errW_some] <;> rfl) | (simp [*, errW_none, errW_some] <;> rfl), by repeat (first | (with_reducible first | exact HI0.out | apply IsS101.alloc | apply IsS101.drewN | apply IsS101.drew | apply IsS101.set_1 | apply IsS101.set_2 | apply IsS101.set_3 | refine IsS101.far ?_ NB0_365.out _ | refine IsS101.far ?_ NB0_366.out _) | exact HI0.out), by repeat (first | (with_reducible first | exact HB.out | apply below_alloc | apply pw_below_drewN | apply below_drew1 | refine below_set ?_ (IsS101.ge HI0.out) | refine below_set ?_ GE365.out | refine below_set ?_ GE366.out) | exact HB.out), by repeat (first | (with_reducible first | exact HK.out | apply KeepBut.set_ | apply keep_drewN | apply keep_drew | apply keep_alloc | refine keep_far ?_ GW365.out _ | refine keep_far ?_ GW366.out _) | exact HK.out)⟩
end Go.Proofs.YtjeofffddbibeaaDoor.PParseTells
end

section
namespace Go.Proofs.YtjeofffddbibeaaDoor.Pa
open Go Go.RowKit Go.Proofs.YtjeofffddbibeaaDoor.PParseTells Go.Proofs.YtjeofffddbibeaaDoor.Ex Go.Proofs.YtjeofffddbibeaaDoorW.PrintWords Go.Proofs.YtjeofffddbibeaaDoorW.PrintLast Go.Proofs.YtjeofffddbibeaaDoorW.PrintMore
set_option linter.unusedVariables false
set_option linter.unusedSimpArgs false
theorem ne_list {s t : ByteArray} (h : ¬ s = t) : ¬ s.toList = t.toList := fun he => h ((Lib.bytes_beq_iff s t).1 (beq_iff_eq.2 he))
set_option maxRecDepth 100000 in
set_option maxHeartbeats 4000000 in
theorem refOp_f (s : ByteArray) : epactref11_Op.f 14 s = some ((opF s).1, (opF s).2) := by
  by_cases h0 : s = ⟨#[103, 114, 111, 117, 112]⟩
  · subst h0
    decide +kernel
  by_cases h1 : s = ⟨#[115, 104, 105, 102, 116]⟩
  · subst h1
    decide +kernel
  by_cases h2 : s = ⟨#[115, 117, 98, 115, 101, 116]⟩
  · subst h2
    decide +kernel
  by_cases h3 : s = ⟨#[97, 108, 116, 101, 114]⟩
  · subst h3
    decide +kernel
  by_cases h4 : s = ⟨#[99, 111, 109, 98, 105, 110, 101]⟩
  · subst h4
    decide +kernel
  by_cases h5 : s = ⟨#[97, 110, 99, 104, 111, 114]⟩
  · subst h5
    decide +kernel
  by_cases h6 : s = ⟨#[100, 111, 119, 110]⟩
  · subst h6
    decide +kernel
  by_cases h7 : s = ⟨#[117, 112]⟩
  · subst h7
    decide +kernel
  by_cases h8 : s = ⟨#[109, 101, 101, 116]⟩
  · subst h8
    decide +kernel
  by_cases h9 : s = ⟨#[117, 110, 105, 111, 110]⟩
  · subst h9
    decide +kernel
  by_cases h10 : s = ⟨#[99, 117, 116]⟩
  · subst h10
    decide +kernel
  by_cases h11 : s = ⟨#[108, 101, 115, 115]⟩
  · subst h11
    decide +kernel
  have e0 : ¬ (([103, 114, 111, 117, 112] : List UInt8) = s.toList) := fun h => ne_list h0 (h.symm.trans (show ([103, 114, 111, 117, 112] : List UInt8) = (⟨#[103, 114, 111, 117, 112]⟩ : ByteArray).toList from by decide +kernel))
  have e1 : ¬ (([115, 104, 105, 102, 116] : List UInt8) = s.toList) := fun h => ne_list h1 (h.symm.trans (show ([115, 104, 105, 102, 116] : List UInt8) = (⟨#[115, 104, 105, 102, 116]⟩ : ByteArray).toList from by decide +kernel))
  have e2 : ¬ (([115, 117, 98, 115, 101, 116] : List UInt8) = s.toList) := fun h => ne_list h2 (h.symm.trans (show ([115, 117, 98, 115, 101, 116] : List UInt8) = (⟨#[115, 117, 98, 115, 101, 116]⟩ : ByteArray).toList from by decide +kernel))
  have e3 : ¬ (([97, 108, 116, 101, 114] : List UInt8) = s.toList) := fun h => ne_list h3 (h.symm.trans (show ([97, 108, 116, 101, 114] : List UInt8) = (⟨#[97, 108, 116, 101, 114]⟩ : ByteArray).toList from by decide +kernel))
  have e4 : ¬ (([99, 111, 109, 98, 105, 110, 101] : List UInt8) = s.toList) := fun h => ne_list h4 (h.symm.trans (show ([99, 111, 109, 98, 105, 110, 101] : List UInt8) = (⟨#[99, 111, 109, 98, 105, 110, 101]⟩ : ByteArray).toList from by decide +kernel))
  have e5 : ¬ (([97, 110, 99, 104, 111, 114] : List UInt8) = s.toList) := fun h => ne_list h5 (h.symm.trans (show ([97, 110, 99, 104, 111, 114] : List UInt8) = (⟨#[97, 110, 99, 104, 111, 114]⟩ : ByteArray).toList from by decide +kernel))
  have e6 : ¬ (([100, 111, 119, 110] : List UInt8) = s.toList) := fun h => ne_list h6 (h.symm.trans (show ([100, 111, 119, 110] : List UInt8) = (⟨#[100, 111, 119, 110]⟩ : ByteArray).toList from by decide +kernel))
  have e7 : ¬ (([117, 112] : List UInt8) = s.toList) := fun h => ne_list h7 (h.symm.trans (show ([117, 112] : List UInt8) = (⟨#[117, 112]⟩ : ByteArray).toList from by decide +kernel))
  have e8 : ¬ (([109, 101, 101, 116] : List UInt8) = s.toList) := fun h => ne_list h8 (h.symm.trans (show ([109, 101, 101, 116] : List UInt8) = (⟨#[109, 101, 101, 116]⟩ : ByteArray).toList from by decide +kernel))
  have e9 : ¬ (([117, 110, 105, 111, 110] : List UInt8) = s.toList) := fun h => ne_list h9 (h.symm.trans (show ([117, 110, 105, 111, 110] : List UInt8) = (⟨#[117, 110, 105, 111, 110]⟩ : ByteArray).toList from by decide +kernel))
  have e10 : ¬ (([99, 117, 116] : List UInt8) = s.toList) := fun h => ne_list h10 (h.symm.trans (show ([99, 117, 116] : List UInt8) = (⟨#[99, 117, 116]⟩ : ByteArray).toList from by decide +kernel))
  have e11 : ¬ (([108, 101, 115, 115] : List UInt8) = s.toList) := fun h => ne_list h11 (h.symm.trans (show ([108, 101, 115, 115] : List UInt8) = (⟨#[108, 101, 115, 115]⟩ : ByteArray).toList from by decide +kernel))
  have hA : opF s = (0, false) := by
    have hi : Lib.idxOfS opsL s = -1 := by
      unfold Lib.idxOfS opsL
      simp only [Lib.idxFromS]
      repeat rw [if_neg (by first | assumption | (intro hh; first | exact h0 hh.symm | exact h1 hh.symm | exact h2 hh.symm | exact h3 hh.symm | exact h4 hh.symm | exact h5 hh.symm | exact h6 hh.symm | exact h7 hh.symm | exact h8 hh.symm | exact h9 hh.symm | exact h10 hh.symm | exact h11 hh.symm))]
    unfold opF
    rw [hi, if_pos (by decide)]
  rw [hA]
  unfold epactref11_Op.f epactref11_Ops.f
  show epactref11_Op.l0 14 s _ 1 = _
  simp only [epactref11_Op.l0, rdOf]
  simp [e0, e1, e2, e3, e4, e5, e6, e7, e8, e9, e10, e11, wrap64]
set_option maxRecDepth 100000 in
set_option maxHeartbeats 4000000 in
theorem refShape_f (s : ByteArray) : epactref11_Shape.f 3 s = some ((shapeF s).1, (shapeF s).2) := by
  by_cases h0 : s = ⟨#[100, 101, 102, 105, 110, 101]⟩
  · subst h0
    decide +kernel
  by_cases h1 : s = ⟨#[100, 114, 111, 112]⟩
  · subst h1
    decide +kernel
  by_cases h2 : s = ⟨#[115, 104, 111, 119]⟩
  · subst h2
    decide +kernel
  by_cases h3 : s = ⟨#[102, 111, 114, 109]⟩
  · subst h3
    decide +kernel
  by_cases h4 : s = ⟨#[118, 97, 114]⟩
  · subst h4
    decide +kernel
  by_cases h5 : s = ⟨#[101, 120, 116, 101, 110, 116]⟩
  · subst h5
    decide +kernel
  by_cases h6 : s = ⟨#[103, 114, 97, 110, 117, 108, 101]⟩
  · subst h6
    decide +kernel
  by_cases h7 : s = ⟨#[110, 101, 120, 116]⟩
  · subst h7
    decide +kernel
  by_cases h8 : s = ⟨#[112, 114, 101, 118]⟩
  · subst h8
    decide +kernel
  by_cases h9 : s = ⟨#[115, 112, 97, 110]⟩
  · subst h9
    decide +kernel
  by_cases h10 : s = ⟨#[114, 101, 108]⟩
  · subst h10
    decide +kernel
  by_cases h11 : s = ⟨#[99, 111, 118, 101, 114]⟩
  · subst h11
    decide +kernel
  by_cases h12 : s = ⟨#[98, 111, 117, 110, 100]⟩
  · subst h12
    decide +kernel
  by_cases h13 : s = ⟨#[100, 97, 116, 101]⟩
  · subst h13
    decide +kernel
  by_cases h14 : s = ⟨#[115, 111, 108, 118, 101]⟩
  · subst h14
    decide +kernel
  by_cases h15 : s = ⟨#[110, 101, 116]⟩
  · subst h15
    decide +kernel
  by_cases h16 : s = ⟨#[105, 110, 102, 101, 114]⟩
  · subst h16
    decide +kernel
  by_cases h17 : s = ⟨#[114, 101, 115, 101, 116]⟩
  · subst h17
    decide +kernel
  have e0 : ¬ (s.toList = ([100, 101, 102, 105, 110, 101] : List UInt8)) := fun h => ne_list h0 (h.trans (show ([100, 101, 102, 105, 110, 101] : List UInt8) = (⟨#[100, 101, 102, 105, 110, 101]⟩ : ByteArray).toList from by decide +kernel))
  have e1 : ¬ (s.toList = ([100, 114, 111, 112] : List UInt8)) := fun h => ne_list h1 (h.trans (show ([100, 114, 111, 112] : List UInt8) = (⟨#[100, 114, 111, 112]⟩ : ByteArray).toList from by decide +kernel))
  have e2 : ¬ (s.toList = ([115, 104, 111, 119] : List UInt8)) := fun h => ne_list h2 (h.trans (show ([115, 104, 111, 119] : List UInt8) = (⟨#[115, 104, 111, 119]⟩ : ByteArray).toList from by decide +kernel))
  have e3 : ¬ (s.toList = ([102, 111, 114, 109] : List UInt8)) := fun h => ne_list h3 (h.trans (show ([102, 111, 114, 109] : List UInt8) = (⟨#[102, 111, 114, 109]⟩ : ByteArray).toList from by decide +kernel))
  have e4 : ¬ (s.toList = ([118, 97, 114] : List UInt8)) := fun h => ne_list h4 (h.trans (show ([118, 97, 114] : List UInt8) = (⟨#[118, 97, 114]⟩ : ByteArray).toList from by decide +kernel))
  have e5 : ¬ (s.toList = ([101, 120, 116, 101, 110, 116] : List UInt8)) := fun h => ne_list h5 (h.trans (show ([101, 120, 116, 101, 110, 116] : List UInt8) = (⟨#[101, 120, 116, 101, 110, 116]⟩ : ByteArray).toList from by decide +kernel))
  have e6 : ¬ (s.toList = ([103, 114, 97, 110, 117, 108, 101] : List UInt8)) := fun h => ne_list h6 (h.trans (show ([103, 114, 97, 110, 117, 108, 101] : List UInt8) = (⟨#[103, 114, 97, 110, 117, 108, 101]⟩ : ByteArray).toList from by decide +kernel))
  have e7 : ¬ (s.toList = ([110, 101, 120, 116] : List UInt8)) := fun h => ne_list h7 (h.trans (show ([110, 101, 120, 116] : List UInt8) = (⟨#[110, 101, 120, 116]⟩ : ByteArray).toList from by decide +kernel))
  have e8 : ¬ (s.toList = ([112, 114, 101, 118] : List UInt8)) := fun h => ne_list h8 (h.trans (show ([112, 114, 101, 118] : List UInt8) = (⟨#[112, 114, 101, 118]⟩ : ByteArray).toList from by decide +kernel))
  have e9 : ¬ (s.toList = ([115, 112, 97, 110] : List UInt8)) := fun h => ne_list h9 (h.trans (show ([115, 112, 97, 110] : List UInt8) = (⟨#[115, 112, 97, 110]⟩ : ByteArray).toList from by decide +kernel))
  have e10 : ¬ (s.toList = ([114, 101, 108] : List UInt8)) := fun h => ne_list h10 (h.trans (show ([114, 101, 108] : List UInt8) = (⟨#[114, 101, 108]⟩ : ByteArray).toList from by decide +kernel))
  have e11 : ¬ (s.toList = ([99, 111, 118, 101, 114] : List UInt8)) := fun h => ne_list h11 (h.trans (show ([99, 111, 118, 101, 114] : List UInt8) = (⟨#[99, 111, 118, 101, 114]⟩ : ByteArray).toList from by decide +kernel))
  have e12 : ¬ (s.toList = ([98, 111, 117, 110, 100] : List UInt8)) := fun h => ne_list h12 (h.trans (show ([98, 111, 117, 110, 100] : List UInt8) = (⟨#[98, 111, 117, 110, 100]⟩ : ByteArray).toList from by decide +kernel))
  have e13 : ¬ (s.toList = ([100, 97, 116, 101] : List UInt8)) := fun h => ne_list h13 (h.trans (show ([100, 97, 116, 101] : List UInt8) = (⟨#[100, 97, 116, 101]⟩ : ByteArray).toList from by decide +kernel))
  have e14 : ¬ (s.toList = ([115, 111, 108, 118, 101] : List UInt8)) := fun h => ne_list h14 (h.trans (show ([115, 111, 108, 118, 101] : List UInt8) = (⟨#[115, 111, 108, 118, 101]⟩ : ByteArray).toList from by decide +kernel))
  have e15 : ¬ (s.toList = ([110, 101, 116] : List UInt8)) := fun h => ne_list h15 (h.trans (show ([110, 101, 116] : List UInt8) = (⟨#[110, 101, 116]⟩ : ByteArray).toList from by decide +kernel))
  have e16 : ¬ (s.toList = ([105, 110, 102, 101, 114] : List UInt8)) := fun h => ne_list h16 (h.trans (show ([105, 110, 102, 101, 114] : List UInt8) = (⟨#[105, 110, 102, 101, 114]⟩ : ByteArray).toList from by decide +kernel))
  have e17 : ¬ (s.toList = ([114, 101, 115, 101, 116] : List UInt8)) := fun h => ne_list h17 (h.trans (show ([114, 101, 115, 101, 116] : List UInt8) = (⟨#[114, 101, 115, 101, 116]⟩ : ByteArray).toList from by decide +kernel))
  have hA : shapeF s = (nil8, false) := by
    have hk : ∀ l : List (ByteArray × ByteArray), (∀ q ∈ l, ¬ (q.2.toList = s.toList)) → shF l s = (nil8, false) := by
      intro l
      induction l with
      | nil => intro _; rw [shF]
      | cons q r ih => intro h; rw [shF, if_neg (by rw [beq_iff_eq]; exact h q (by simp)), ih (fun q' hq' => h q' (by simp [hq']))]
    refine hk shapeL ?_
    intro q hq he
    have hm : q.2.toList ∈ shapeL.map (fun q => q.2.toList) := List.mem_map_of_mem hq
    have hl : shapeL.map (fun q => q.2.toList) = [([100, 101, 102, 105, 110, 101] : List UInt8), ([100, 114, 111, 112] : List UInt8), ([115, 104, 111, 119] : List UInt8), ([102, 111, 114, 109] : List UInt8), ([118, 97, 114] : List UInt8), ([101, 120, 116, 101, 110, 116] : List UInt8), ([103, 114, 97, 110, 117, 108, 101] : List UInt8), ([110, 101, 120, 116] : List UInt8), ([112, 114, 101, 118] : List UInt8), ([115, 112, 97, 110] : List UInt8), ([114, 101, 108] : List UInt8), ([99, 111, 118, 101, 114] : List UInt8), ([98, 111, 117, 110, 100] : List UInt8), ([100, 97, 116, 101] : List UInt8), ([115, 111, 108, 118, 101] : List UInt8), ([110, 101, 116] : List UInt8), ([105, 110, 102, 101, 114] : List UInt8), ([114, 101, 115, 101, 116] : List UInt8)] := by decide +kernel
    rw [hl, he] at hm
    simp only [List.mem_cons, List.not_mem_nil, or_false] at hm
    rcases hm with h | h | h | h | h | h | h | h | h | h | h | h | h | h | h | h | h | h
    · exact e0 h
    · exact e1 h
    · exact e2 h
    · exact e3 h
    · exact e4 h
    · exact e5 h
    · exact e6 h
    · exact e7 h
    · exact e8 h
    · exact e9 h
    · exact e10 h
    · exact e11 h
    · exact e12 h
    · exact e13 h
    · exact e14 h
    · exact e15 h
    · exact e16 h
    · exact e17 h
  rw [hA]
  have b0 : ∀ l : List UInt8, ¬ (s.toList = l) → (s.toList == l) = false := fun l h => beq_eq_false_iff_ne.2 h
  simp only [epactref11_Shape.f, epactref11_Shape.j0, epactref11_Shape.j1, e0, b0 _ e0, e1, b0 _ e1, e2, b0 _ e2, e3, b0 _ e3, e4, b0 _ e4, e5, b0 _ e5, e6, b0 _ e6, e7, b0 _ e7, e8, b0 _ e8, e9, b0 _ e9, e10, b0 _ e10, e11, b0 _ e11, e12, b0 _ e12, e13, b0 _ e13, e14, b0 _ e14, e15, b0 _ e15, e16, b0 _ e16, e17, b0 _ e17, if_false]
  simp
theorem refKind_f (o : Int) (h0 : 0 ≤ o) : epactref09_kind.f 3 o = some (if o ≤ 12 then numsOf o else -1, argsOf o) := by
  by_cases h : o ≤ 12
  · rcases (show o = 0 ∨ o = 1 ∨ o = 2 ∨ o = 3 ∨ o = 4 ∨ o = 5 ∨ o = 6 ∨ o = 7 ∨ o = 8 ∨ o = 9 ∨ o = 10 ∨ o = 11 ∨ o = 12 by omega) with rfl | rfl | rfl | rfl | rfl | rfl | rfl | rfl | rfl | rfl | rfl | rfl | rfl <;> decide
  · have e2 : argsOf o = 0 := by unfold argsOf; rw [if_pos (by omega)]
    rw [if_neg h, e2]
    have hb : ∀ n : Int, n ≤ 12 → (o == n) = false := fun n hn => beq_eq_false_iff_ne.2 (by omega)
    simp only [epactref09_kind.f, epactref09_kind.j0, epactref09_kind.j1]
    rw [if_neg (by omega), if_neg (by omega), hb 2 (by omega), if_neg (by simp), if_neg (by omega), if_neg (by omega), if_neg (by omega), hb 9 (by omega), if_neg (by simp), if_neg (by omega), if_neg (by omega), if_neg (by omega), if_neg (by omega), if_neg (by omega), if_neg (by omega)]
theorem numsOf_nonneg (o : Int) : 0 ≤ numsOf o := by unfold numsOf; repeat' split <;> omega
theorem refNums_f (o : Int) (h0 : 0 ≤ o) : epactref09_Nums.f 3 o = some (numsOf o, decide (o ≤ 12)) := by
  unfold epactref09_Nums.f
  rw [refKind_f o h0]
  have := numsOf_nonneg o
  by_cases h : o ≤ 12
  · rw [if_pos h, decide_eq_true h]
    show (if numsOf o < 0 then _ else some (numsOf o, true)) = _
    rw [if_neg (by omega)]
  · have e1 : numsOf o = 0 := by unfold numsOf; rw [if_neg (by omega), if_neg (by omega), if_neg (by omega)]
    rw [if_neg h, decide_eq_false h, e1]
    rfl
theorem refArgs_f (o : Int) (h0 : 0 ≤ o) : epactref09_Args.f 3 o = some (argsOf o) := by
  unfold epactref09_Args.f
  rw [refKind_f o h0]
  rfl
end Go.Proofs.YtjeofffddbibeaaDoor.Pa
end

section
namespace Go.Proofs.YtjeofffddbibeaaDoor.Pa
open Go Go.RowKit Go.Proofs.YtjeofffddbibeaaDoor.PParseTells Go.Proofs.YtjeofffddbibeaaDoor.Ex Go.Proofs.YtjeofffddbibeaaDoorW.PrintWords Go.Proofs.YtjeofffddbibeaaDoorW.PrintLast Go.Proofs.YtjeofffddbibeaaDoorW.PrintMore
set_option linter.unusedVariables false
set_option linter.unusedSimpArgs false
/-- The reader lies at g: of the words L0 these are left, so many parts, the first error. -/
def RdR (w0 W : World) (g : Nat) (L0 L : List Tok) (p e : Int) : Prop :=
  ∃ k : Nat, k ≤ L0.length ∧ L0.drop k = L ∧ IsS101 w0 W g L0 k p e ∧ Below w0.heap.size w0 W ∧ L0.length ≤ 9223372036854775800
theorem keep_kept {w W : World} {g : Nat} (h : KeepBut w W g none) : Kept w W (At g) := ⟨h.1, fun i hi hn => h.2 i hi hn (by simp)⟩
theorem rd_at (L0 : List Tok) (k : Nat) {t : Tok} {r : List Tok} (h : L0.drop k = t :: r) : rd_T61 L0 (k : Int) = t ∧ k < L0.length ∧ L0.drop (k + 1) = r := by
  have hl : k < L0.length := by
    rcases Nat.lt_or_ge k L0.length with h1 | h1
    · exact h1
    · rw [List.drop_of_length_le h1] at h; cases h
  rw [List.drop_eq_getElem_cons hl] at h
  injection h with h1 h2
  refine ⟨?_, hl, h2⟩
  unfold rd_T61
  rw [Int.toNat_natCast, List.getD_eq_getElem?_getD, List.getElem?_eq_getElem hl, Option.getD_some]
  exact h1
theorem rd_end (L0 : List Tok) (k : Nat) (hk : k ≤ L0.length) (h : L0.drop k = []) : k = L0.length := by
  have := congrArg List.length h
  rw [List.length_drop, List.length_nil] at this
  omega
def rmark (s : ByteArray) (L : List Tok) (e : Int) : List Tok × Int := if e = 0 then markF s L else (L, e)
def rtake (ks : List Int) (L : List Tok) (e : Int) : Tok × List Tok × Int := if e = 0 then takeF ks L else (z61, L, e)
theorem w64s {k : Nat} (h : (k : Int) ≤ 9223372036854775800) : wrap64 ((k : Int) + 1) = (k : Int) + 1 := w64 (by omega) (by omega)
theorem mark_f (s : ByteArray) (L0 L : List Tok) (k : Nat) (p e : Int) (hk : k ≤ L0.length) (hL : L0.drop k = L) (hm : L0.length ≤ 9223372036854775800) :
    ∃ k' : Nat, k' ≤ L0.length ∧ L0.drop k' = (rmark s L e).1 ∧ epactref11_reader_mark.f L0 k p e s = some ((k' : Int), p, (rmark s L e).2) := by
  unfold rmark epactref11_reader_mark.f
  by_cases he : e = 0
  · subst he
    rw [if_pos rfl, if_pos rfl]
    cases L with
    | nil =>
      have hk' := rd_end L0 k hk hL
      have hm : markF s [] = ([], 110) := if_neg (by simp [isF])
      rw [hm, if_neg (by omega)]
      exact ⟨k, hk, hL, rfl⟩
    | cons t r =>
      obtain ⟨h1, h2, h3⟩ := rd_at L0 k hL
      rw [if_pos (by omega), if_pos (by omega), h1]
      by_cases h4 : t.f0 = 4
      · rw [if_pos h4]
        by_cases h5 : t.f1.toList = s.toList
        · have hi : isF s (t :: r) = true := by simp [isF, h4, h5]
          have hm : markF s (t :: r) = (r, 0) := if_pos hi
          rw [if_pos h5, hm]
          exact ⟨k + 1, h2, h3, by rw [w64s (by omega)]; rfl⟩
        · have hi : isF s (t :: r) = false := by simp [isF, h5]
          have hm : markF s (t :: r) = (t :: r, 110) := if_neg (by rw [hi]; simp)
          rw [if_neg h5, hm]
          exact ⟨k, hk, hL, rfl⟩
      · have hi : isF s (t :: r) = false := by simp [isF, h4]
        have hm : markF s (t :: r) = (t :: r, 110) := if_neg (by rw [hi]; simp)
        rw [if_neg h4, hm]
        exact ⟨k, hk, hL, rfl⟩
  · rw [if_neg he, if_neg he]
    exact ⟨k, hk, hL, rfl⟩
theorem is_f (s : ByteArray) (L0 L : List Tok) (k : Nat) (p e : Int) (hk : k ≤ L0.length) (hL : L0.drop k = L) :
    epactref11_reader_is.f L0 k p e s = some (decide (e = 0) && isF s L, (k : Int), p, e) := by
  unfold epactref11_reader_is.f
  by_cases he : e = 0
  · subst he
    rw [if_pos rfl]
    cases L with
    | nil =>
      have hk' := rd_end L0 k hk hL
      rw [if_neg (by omega)]
      rfl
    | cons t r =>
      obtain ⟨h1, h2, h3⟩ := rd_at L0 k hL
      rw [if_pos (by omega), if_pos (by omega), h1]
      by_cases h4 : t.f0 = 4
      · rw [if_pos h4]
        simp [isF, h4]
      · rw [if_neg h4]
        simp [isF, h4]
  · rw [if_neg he]
    simp [he]
theorem name_f (L0 L : List Tok) (k : Nat) (p e : Int) (hk : k ≤ L0.length) (hL : L0.drop k = L) (hm : L0.length ≤ 9223372036854775800) :
    ∃ k' : Nat, k' ≤ L0.length ∧ L0.drop k' = (rtake [1] L e).2.1 ∧ epactref11_reader_name.f L0 k p e = some ((rtake [1] L e).1.f1, (k' : Int), p, (rtake [1] L e).2.2) := by
  unfold rtake epactref11_reader_name.f
  by_cases he : e = 0
  · subst he
    rw [if_pos rfl, if_pos rfl]
    cases L with
    | nil =>
      have hk' := rd_end L0 k hk hL
      rw [show takeF [1] [] = (z61, [], 110) from rfl, if_neg (by omega)]
      exact ⟨k, hk, hL, rfl⟩
    | cons t r =>
      obtain ⟨h1, h2, h3⟩ := rd_at L0 k hL
      rw [if_pos (by omega), if_pos (by omega), h1]
      have hw : wrap64 (wrap64 ((k : Int) + 1) - 1) = (k : Int) := by rw [w64s (by omega), show (k : Int) + 1 - 1 = k by omega]; exact w64 (by omega) (by omega)
      by_cases h4 : t.f0 = 1
      · have ht : takeF [1] (t :: r) = (t, r, 0) := if_pos ⟨by omega, by simp [h4]⟩
        rw [if_pos h4, hw, if_pos (by omega), if_pos (by omega), h1, ht]
        exact ⟨k + 1, h2, h3, by rw [w64s (by omega)]; rfl⟩
      · have ht : takeF [1] (t :: r) = (z61, t :: r, 110) := if_neg (by simp [h4])
        rw [if_neg h4, ht]
        exact ⟨k, hk, hL, rfl⟩
  · rw [if_neg he, if_neg he]
    exact ⟨k, hk, hL, rfl⟩
theorem number_f (L0 L : List Tok) (k : Nat) (p e : Int) (hk : k ≤ L0.length) (hL : L0.drop k = L) (hm : L0.length ≤ 9223372036854775800) :
    ∃ k' : Nat, k' ≤ L0.length ∧ L0.drop k' = (rtake [2, 3] L e).2.1 ∧ epactref11_reader_number.f L0 k p e = some ((rtake [2, 3] L e).1.f2, (k' : Int), p, (rtake [2, 3] L e).2.2) := by
  unfold rtake epactref11_reader_number.f
  by_cases he : e = 0
  · subst he
    rw [if_pos rfl, if_pos rfl]
    cases L with
    | nil =>
      have hk' := rd_end L0 k hk hL
      rw [show takeF [2, 3] [] = (z61, [], 110) from rfl, if_neg (by omega)]
      exact ⟨k, hk, hL, rfl⟩
    | cons t r =>
      obtain ⟨h1, h2, h3⟩ := rd_at L0 k hL
      rw [if_pos (by omega), if_pos (by omega), h1]
      have hw : wrap64 (wrap64 ((k : Int) + 1) - 1) = (k : Int) := by rw [w64s (by omega), show (k : Int) + 1 - 1 = k by omega]; exact w64 (by omega) (by omega)
      by_cases h4 : t.f0 = 2
      · have ht : takeF [2, 3] (t :: r) = (t, r, 0) := if_pos ⟨by omega, by simp [h4]⟩
        rw [if_pos h4, hw, if_pos (by omega), if_pos (by omega), h1, ht]
        exact ⟨k + 1, h2, h3, by rw [w64s (by omega)]; rfl⟩
      · rw [if_neg h4]
        by_cases h5 : t.f0 = 3
        · have ht : takeF [2, 3] (t :: r) = (t, r, 0) := if_pos ⟨by omega, by simp [h5]⟩
          rw [if_pos h5, hw, if_pos (by omega), if_pos (by omega), h1, ht]
          exact ⟨k + 1, h2, h3, by rw [w64s (by omega)]; rfl⟩
        · have ht : takeF [2, 3] (t :: r) = (z61, t :: r, 110) := if_neg (by simp [h4, h5])
          rw [if_neg h5, ht]
          exact ⟨k, hk, hL, rfl⟩
  · rw [if_neg he, if_neg he]
    exact ⟨k, hk, hL, rfl⟩
section
variable {w0 w W W2 : World} {g : Nat} {L0 L : List Tok} {p e : Int}
theorem RdR.keep (h : RdR w0 W g L0 L p e) (hk : Below W.heap.size W W2) : RdR w0 W2 g L0 L p e := by
  obtain ⟨k, h1, h2, ⟨A0, c0, h3, h4, h5⟩, h6, h7⟩ := h
  exact ⟨k, h1, h2, ⟨A0, c0, (hk.block g (blk_lt h3)).trans h3, h4, h5⟩, below_then h6 h6.size hk, h7⟩
theorem RdR.mv (h : RdR w0 W g L0 L p e) {S : Nat → Prop} (hk : Kept W W2 S) (hB : Below w0.heap.size w0 W2) (hg : ¬ S g) : RdR w0 W2 g L0 L p e := by
  obtain ⟨k, h1, h2, ⟨A0, c0, h3, h4, h5⟩, h6, h7⟩ := h
  exact ⟨k, h1, h2, ⟨A0, c0, (hk.2 g (blk_lt h3) hg).trans h3, h4, h5⟩, hB, h7⟩
theorem RdR.lt (h : RdR w0 W g L0 L p e) : g < W.heap.size := by
  obtain ⟨k, h1, h2, ⟨A0, c0, h3, h4, h5⟩, h6, h7⟩ := h
  exact blk_lt h3
theorem RdR.ge (h : RdR w0 W g L0 L p e) : w0.heap.size ≤ g := by
  obtain ⟨k, h1, h2, ⟨A0, c0, h3, h4, h5⟩, h6, h7⟩ := h
  exact h4
theorem RdR.low (h : RdR w0 W g L0 L p e) : Below w0.heap.size w0 W := by
  obtain ⟨k, h1, h2, h3, h6, h7⟩ := h
  exact h6
theorem rmark_calls (s : ByteArray) (h : RdR w0 w g L0 L p e) : Calls Tryd.prog 72 #[.pointer (some ⟨g, 0, none⟩), .string s] w fun en w' => en = .returned (.tuple #[]) ∧ RdR w0 w' g L0 (rmark s L e).1 p (rmark s L e).2 ∧ Kept w w' (At g) := by
  obtain ⟨k, h1, h2, h3, h6, h7⟩ := h
  obtain ⟨k', q1, q2, q3⟩ := mark_f s L0 L k p e h1 h2 h7
  refine (epactref11_reader_mark.calls g L0 k p e s k' p _ w0 w h3 h6 q3).mono ?_
  rintro en w' ⟨rfl, hI, hB, hK⟩
  exact ⟨rfl, ⟨k', q1, q2, hI, hB, h7⟩, keep_kept hK⟩
theorem ris_calls (s : ByteArray) (h : RdR w0 w g L0 L p e) : Calls Tryd.prog 87 #[.pointer (some ⟨g, 0, none⟩), .string s] w fun en w' => en = .returned (.bool (decide (e = 0) && isF s L)) ∧ RdR w0 w' g L0 L p e ∧ Kept w w' (At g) := by
  obtain ⟨k, h1, h2, h3, h6, h7⟩ := h
  refine (epactref11_reader_is.calls g L0 k p e s _ k p e w0 w h3 h6 (is_f s L0 L k p e h1 h2)).mono ?_
  rintro en w' ⟨rfl, hI, hB, hK⟩
  exact ⟨rfl, ⟨k, h1, h2, hI, hB, h7⟩, keep_kept hK⟩
theorem rname_calls (h : RdR w0 w g L0 L p e) : Calls Tryd.prog 69 #[.pointer (some ⟨g, 0, none⟩)] w fun en w' => en = .returned (.string (rtake [1] L e).1.f1) ∧ RdR w0 w' g L0 (rtake [1] L e).2.1 p (rtake [1] L e).2.2 ∧ Kept w w' (At g) := by
  obtain ⟨k, h1, h2, h3, h6, h7⟩ := h
  obtain ⟨k', q1, q2, q3⟩ := name_f L0 L k p e h1 h2 h7
  refine (epactref11_reader_name.calls g L0 k p e _ k' p _ w0 w h3 h6 q3).mono ?_
  rintro en w' ⟨rfl, hI, hB, hK⟩
  exact ⟨rfl, ⟨k', q1, q2, hI, hB, h7⟩, keep_kept hK⟩
theorem rnumber_calls (h : RdR w0 w g L0 L p e) : Calls Tryd.prog 70 #[.pointer (some ⟨g, 0, none⟩)] w fun en w' => en = .returned (.int .i64 (rtake [2, 3] L e).1.f2) ∧ RdR w0 w' g L0 (rtake [2, 3] L e).2.1 p (rtake [2, 3] L e).2.2 ∧ Kept w w' (At g) := by
  obtain ⟨k, h1, h2, h3, h6, h7⟩ := h
  obtain ⟨k', q1, q2, q3⟩ := number_f L0 L k p e h1 h2 h7
  refine (epactref11_reader_number.calls g L0 k p e _ k' p _ w0 w h3 h6 q3).mono ?_
  rintro en w' ⟨rfl, hI, hB, hK⟩
  exact ⟨rfl, ⟨k', q1, q2, hI, hB, h7⟩, keep_kept hK⟩
theorem rfail_calls (h : RdR w0 w g L0 L p 0) (a : Int) : Calls Tryd.prog 86 #[.pointer (some ⟨g, 0, none⟩), .int .i64 a] w fun en w' => en = .returned (.tuple #[]) ∧ RdR w0 w' g L0 L p a ∧ Kept w w' (At g) := by
  obtain ⟨k, h1, h2, h3, h6, h7⟩ := h
  refine (epactref11_reader_fail.calls g L0 k p 0 a k p a w0 w h3 h6 (if_pos rfl)).mono ?_
  rintro en w' ⟨rfl, hI, hB, hK⟩
  exact ⟨rfl, ⟨k, h1, h2, hI, hB, h7⟩, keep_kept hK⟩
end
end Go.Proofs.YtjeofffddbibeaaDoor.Pa
end
