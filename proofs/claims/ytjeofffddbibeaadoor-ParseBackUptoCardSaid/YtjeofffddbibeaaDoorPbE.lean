/-
  Part 5 of what the row stands on, put together by a program: PBkX, PBkC, PPar11, ExprT, Bkv, Box, ExprP, ParH, ParI, ParJ.
-/
import Derived.Laws.RangeString
import Derived.Test.YtjeofffddbibeaaDoorPbD
section
namespace Go.Proofs.YtjeofffddbibeaaDoor.PParseTells
open Go.RowKit Go.Proofs.YtjeofffddbibeaaDoorW.PrintWords Go.Proofs.YtjeofffddbibeaaDoorW.PrintLast Go.Proofs.YtjeofffddbibeaaDoorW.PrintMore
attribute [local go_sem] max2_int min2_int max_two min_two max_three min_three max_four min_four   -- for this text's walks alone
set_option linter.unusedVariables false
set_option linter.unusedSimpArgs false
theorem more_ {P : Program} {ops : Array Oper} {Q : Exit → Act → World → Prop} {md : Region.Mode} {S S2 : World → Prop} {ds : List Nat} (hS : ∀ w, S2 w → S w) :
    ∀ (fuel : Nat) (l : Array Bool) (a : Act) (w : World), S2 w → wpAnyLast P md ops Q S2 [] fuel l a w → wpAnyLast P md ops Q S ds fuel l a w
  | 0, _, _, _, _, h => h
  | fuel + 1, _, _, _, h2, h => ⟨h.1, fun i hi => wpOp_mono (fun a' w' h' => ⟨fun _ _ => hS _ (h'.1 (by simp) h2), more_ hS fuel _ a' w' (h'.1 (by simp) h2) h'.2⟩) (h.2 i hi)⟩
mutual
def epactref11_Words.j0 : Nat → Bool → Int → ByteArray → List Int → List (S25) → Option ((List (S61)))
  | 0, _, _, _, _, _ => none
  | k + 1, x15, x293000, x293001, x293002, x293003 => if x15 = true then (some (([(⟨1, x293001, 0⟩ : S61)] : List (S61)))) else ((epactref11_Ops.f).bind fun t299 => (if 0 ≤ x293000 then (if x293000 < (t299.length : Int) then ((epactref11_mark.f (⟨#[40]⟩ : ByteArray)).bind fun bt303 => (epactref11_Words.l0 k (([(⟨1, rdOf ByteArray.empty t299 x293000, 0⟩ : S61), (⟨bt303.1, bt303.2.1, bt303.2.2⟩ : S61)] : List (S61))) 0 x293000 x293001 x293002 x293003)) else (none)) else (none)))
def epactref11_Words.l0 : Nat → List (S61) → Int → Int → ByteArray → List Int → List (S25) → Option ((List (S61)))
  | 0, _, _, _, _, _, _ => none
  | k + 1, x3, x4, x293000, x293001, x293002, x293003 => if x4 < (wrap64 ((x293002.length : Int) + (x293003.length : Int))) then (if x4 > 0 then ((epactref11_mark.f (⟨#[44]⟩ : ByteArray)).bind fun bt315 => (if x3.length < 4398046511104 then ((some (x3 ++ [(⟨bt315.1, bt315.2.1, bt315.2.2⟩ : S61)] : List (S61))).bind fun y318 => (if x4 < (x293002.length : Int) then (if 0 ≤ x4 then (if y318.length < 4398046511104 then (epactref11_Words.l0 k (y318 ++ [(⟨2, (⟨#[]⟩ : ByteArray), rd x293002 x4⟩ : S61)]) (wrap64 (x4 + 1)) x293000 x293001 x293002 x293003) else (none)) else (none)) else (if 0 ≤ (wrap64 (x4 - (x293002.length : Int))) then (if (wrap64 (x4 - (x293002.length : Int))) < (x293003.length : Int) then ((epactref11_Words.f k ((rd_T25 x293003 (wrap64 (x4 - (x293002.length : Int)))).f0) ((rd_T25 x293003 (wrap64 (x4 - (x293002.length : Int)))).f1) ((rd_T25 x293003 (wrap64 (x4 - (x293002.length : Int)))).f2) ((rd_T25 x293003 (wrap64 (x4 - (x293002.length : Int)))).f3)).bind fun t326 => (if y318.length + t326.length < 4398046511104 then (epactref11_Words.l0 k (y318 ++ t326) (wrap64 (x4 + 1)) x293000 x293001 x293002 x293003) else (none))) else (none)) else (none)))) else (none))) else (if x4 < (x293002.length : Int) then (if 0 ≤ x4 then (if x3.length < 4398046511104 then (epactref11_Words.l0 k (x3 ++ [(⟨2, (⟨#[]⟩ : ByteArray), rd x293002 x4⟩ : S61)]) (wrap64 (x4 + 1)) x293000 x293001 x293002 x293003) else (none)) else (none)) else (if 0 ≤ (wrap64 (x4 - (x293002.length : Int))) then (if (wrap64 (x4 - (x293002.length : Int))) < (x293003.length : Int) then ((epactref11_Words.f k ((rd_T25 x293003 (wrap64 (x4 - (x293002.length : Int)))).f0) ((rd_T25 x293003 (wrap64 (x4 - (x293002.length : Int)))).f1) ((rd_T25 x293003 (wrap64 (x4 - (x293002.length : Int)))).f2) ((rd_T25 x293003 (wrap64 (x4 - (x293002.length : Int)))).f3)).bind fun t337 => (if x3.length + t337.length < 4398046511104 then (epactref11_Words.l0 k (x3 ++ t337) (wrap64 (x4 + 1)) x293000 x293001 x293002 x293003) else (none))) else (none)) else (none)))) else ((epactref11_mark.f (⟨#[41]⟩ : ByteArray)).bind fun bt309 => (if x3.length < 4398046511104 then (some (x3 ++ [(⟨bt309.1, bt309.2.1, bt309.2.2⟩ : S61)])) else (none)))
def epactref11_Words.f : Nat → Int → ByteArray → List Int → List (S25) → Option ((List (S61)))
  | 0, _, _, _, _ => none
  | k + 1, a0_0, a0_1, l0_2, l0_3 => if a0_0 = 0 then (epactref11_Words.j0 k true a0_0 a0_1 l0_2 l0_3) else ((epactref11_Ops.f).bind fun t293 => (epactref11_Words.j0 k (decide ((wrap64 (a0_0)) ≥ (t293.length : Int))) a0_0 a0_1 l0_2 l0_3))
end
def epactref11_Words.T1 : Bool × List (List Nat × List Nat) := (true, [([], []), ([0], [0]), ([1], [1]), ([2], [2]), ([3], [3]), ([4, 3], [3, 4]), ([5, 3], [3, 5]), ([3, 3], [3]), ([7, 3], [3, 7]), ([6, 8, 3], [3, 6, 8]), ([3, 9], [3, 9])])
def epactref11_Words.B1 : List Nat := [0, 1, 3, 7, 15, 31, 63, 15, 143, 511, 1023]
theorem epactref11_Words.tab1 : rtab .any (opsOf Tryd.f41 1) = epactref11_Words.T1 := by kernel_rfl
theorem epactref11_Words.bits1 : waitsOk epactref11_Words.T1.2 epactref11_Words.B1 = true := by kernel_rfl
def epactref11_Words.T3 : Bool × List (List Nat × List Nat) := (true, [([], []), ([], []), ([1], [1]), ([0, 2], [0, 2]), ([3], [3]), ([4], [4]), ([0], []), ([5, 6], [5, 6]), ([7, 6, 0, 1, 2, 3, 4, 5, 6, 7], [7])])
def epactref11_Words.B3 : List Nat := [0, 0, 2, 7, 15, 31, 1, 127, 255]
theorem epactref11_Words.tab3 : rtab .any (opsOf Tryd.f41 3) = epactref11_Words.T3 := by kernel_rfl
theorem epactref11_Words.bits3 : waitsOk epactref11_Words.T3.2 epactref11_Words.B3 = true := by kernel_rfl
set_option maxHeartbeats 8000000 in
set_option maxRecDepth 100000 in
theorem epactref11_Words.calls (k : Nat) : ∀ (a0_0 : Int) (a0_1 : ByteArray) (A0_2 : Option Addr) (c0_2 : Nat) (l0_2 : List Int) (A0_3 : Option Addr) (c0_3 : Nat) (l0_3 : List (S25)) (r : List (S61)) (w : World) (hr0_2 : Kd.C (Kd.int .i64) w A0_2 l0_2.length l0_2) (hc0_2 : l0_2.length ≤ c0_2) (hr0_3 : Kd.C k25 w A0_3 l0_3.length l0_3) (hc0_3 : l0_3.length ≤ c0_3) (h : epactref11_Words.f k a0_0 a0_1 l0_2 l0_3 = some r),
    Calls Tryd.prog 41 #[.agg #[.int .u8 a0_0, .string a0_1, .slice A0_2 l0_2.length c0_2, .slice A0_3 l0_3.length c0_3]] w fun e w' => ∃ v0_ : Value, e = .returned (v0_) ∧ Kd.R k61 61 w' w.heap.size (fun _ => True) v0_ r ∧ Below w.heap.size w w' := by
  induction k using Nat.strongRecOn with
  | _ k ih =>
  intro a0_0 a0_1 A0_2 c0_2 l0_2 A0_3 c0_3 l0_3 r w hr0_2 hc0_2 hr0_3 hc0_3 h
  cases k with
  | zero => exact absurd h (by simp [epactref11_Words.f])
  | succ k =>
  simp only [epactref11_Words.f] at h
  have hu25 := Tryd.underlying25
  have hu61 := Tryd.underlying61
  have HR0_2 := Aside0.mk hr0_2
  have HC0_2 := Aside0.mk hc0_2
  clear hr0_2 hc0_2
  have HR0_3 := Aside0.mk hr0_3
  have HC0_3 := Aside0.mk hc0_3
  clear hr0_3 hc0_3
  have HB := Aside0.mk (Below.refl w.heap.size w)
  have H : (if a0_0 = 0 then (epactref11_Words.j0 k true a0_0 a0_1 l0_2 l0_3) else ((epactref11_Ops.f).bind fun t293 => (epactref11_Words.j0 k (decide ((wrap64 (a0_0)) ≥ (t293.length : Int))) a0_0 a0_1 l0_2 l0_3))) = some r := h
  clear h
  have HC2 := Aside0.mk H
  clear H
  go_enter Tryd.func41, Tryd.ntmps41
  go_upto_region 1 with (first | ((with_reducible refine gate_dst (N := 1) rfl ?_); (try (refine gate_guard (by rfl) ?_; dsimp only)); refine box_event ?hg (N := 1) ?hd (cs := #[.int .u8 a0_0, .string a0_1, .slice A0_2 l0_2.length c0_2, .slice A0_3 l0_3.length c0_3]) (t := 25) ?hr ?_; (case hd => rfl); (case hg => rfl); (case hr => first | (go_simp; done) | (go_simp; rfl)); intro gb292 hg w3 hbox hb; have n0_ := Aside0.mk (below_step (by repeat (first | (with_reducible first | exact HB.out | apply below_alloc | apply pw_below_drewN | apply below_drew1) | exact HB.out)) hb); have n1_ := Aside0.mk (hbox); have n2_ := Aside0.mk ((by rw [hg]; exact (below_size (by repeat (first | (with_reducible first | exact HB.out | apply below_alloc | apply pw_below_drewN | apply below_drew1) | exact HB.out))) : w.heap.size ≤ gb292)); have n3_ := Aside0.mk ((by rw [hg]; exact (below_size (by repeat (first | (with_reducible first | exact HB.out | apply below_alloc | apply pw_below_drewN | apply below_drew1) | exact HB.out))) : w.heap.size ≤ gb292)); clear HB; have HB := n0_; have BK292 := n1_; have GW292 := n2_; have GE292 := n3_; clear n0_ n1_ n2_ n3_; clear hb hbox hg))
  (try simp only [Act.put, List.setIfInBounds_toArray, List.set_cons_zero, List.set_cons_succ])
  go_cut [15] (fun v15 wc => ∃ (kq : Nat) (x15_1 : Bool), v15 = .bool x15_1 ∧ Aside0 (epactref11_Words.j0 kq x15_1 a0_0 a0_1 l0_2 l0_3 = some r) ∧ Aside0 (kq ≤ k) ∧ Aside0 (wc.heap[gb292]? = some (.cells #[.int .u8 a0_0, .string a0_1, (.slice A0_2 l0_2.length c0_2), (.slice A0_3 l0_3.length c0_3)] 25 (0, 0))) ∧ Aside0 (Below w.heap.size w wc))
  case first =>
    have H := HC2.out
    clear HC2
    by_cases c4 : a0_0 = 0
    · rw [if_pos c4] at H
      have c4b0 : (a0_0 == 0) = true := beq_iff_eq.mpr c4
      have c4b1 : (a0_0 != 0) = false := bne_eq_false_iff_eq.mpr c4
      clear c4
      (first | rw [c4b0] | (simp only [i64_w, i32_w]; rw [c4b0]) | skip)
      have H' := Aside0.mk H
      clear H
      try go_wp2
      have n0_ := Aside0.mk (blk_drew BK292.out)
      have n1_ := Aside0.mk (below_drew1 HB.out)
      clear BK292
      clear HB
      have BK292 := n0_
      have HB := n1_
      clear n0_ n1_
      refine start_ (n := 11) (S := fun w' => w'.cell? ⟨gb292, 0, none⟩ = some (.int .u8 a0_0) ∧ w'.cell? ⟨gb292, 1, none⟩ = some (.string a0_1) ∧ w'.cell? ⟨gb292, 2, none⟩ = some (.slice A0_2 l0_2.length c0_2) ∧ w'.cell? ⟨gb292, 3, none⟩ = some (.slice A0_3 l0_3.length c0_3)) (ds := []) #[false, false, false, false, false, false, false, false, false, false, false] (by kernel_rfl) rfl rfl ⟨(blk_cell BK292.out 0).trans rfl, (blk_cell BK292.out 1).trans rfl, (blk_cell BK292.out 2).trans rfl, (blk_cell BK292.out 3).trans rfl⟩ (fun hHeld => ?_); refine with_tabW epactref11_Words.tab1 epactref11_Words.bits1 (fun HT_ HW_ => ?_)
      generalize w3.drew = w5 at BK292 HB hHeld ⊢
      refine pure_ (i := 0) (N := some 5) (v := ?_) (a' := ?_) #[true, false, false, false, false, false, false, false, false, false, false] rfl rfl (any_of HT_.out (by kernel_rfl)) (fun _ _ _ h => h) (Or.inl ⟨by rfl, ?_⟩) ?_ ?_
      rotate_left
      · intro w'
        go_simp
        with_reducible rfl
      rotate_left
      · simp only [Act.put, List.setIfInBounds_toArray, List.set_cons_zero, List.set_cons_succ, i64_w, i32_w]
        rfl
      refine take_ (i := 1) (N := some 6) (v := ?_) (a' := ?_) #[true, true, false, false, false, false, false, false, false, false, false] rfl rfl (take_ofW HT_.out HW_.out (by kernel_rfl)) (fun _ _ _ h => h) (Or.inl ⟨by rfl, ?_⟩) hHeld ?_ ?_
      rotate_left
      · rintro w' ⟨s0, s1, s2, s3⟩
        go_simp
        with_reducible rfl
      rotate_left
      · simp only [Act.put, List.setIfInBounds_toArray, List.set_cons_zero, List.set_cons_succ, i64_w, i32_w]
        rfl
      refine pure_ (i := 2) (N := some 7) (v := ?_) (a' := ?_) #[true, true, true, false, false, false, false, false, false, false, false] rfl rfl (any_of HT_.out (by kernel_rfl)) (fun _ _ _ h => h) (Or.inl ⟨by rfl, ?_⟩) ?_ ?_
      rotate_left
      · intro w'
        go_simp
        with_reducible rfl
      rotate_left
      · simp only [Act.put, List.setIfInBounds_toArray, List.set_cons_zero, List.set_cons_succ, i64_w, i32_w]
        rfl
      refine pure_ (i := 3) (N := some 8) (v := ?_) (a' := ?_) #[true, true, true, true, false, false, false, false, false, false, false] rfl rfl (any_of HT_.out (by kernel_rfl)) (fun _ _ _ h => h) (Or.inl ⟨by rfl, ?_⟩) ?_ ?_
      rotate_left
      · intro w'
        go_simp
        with_reducible rfl
      rotate_left
      · simp only [Act.put, List.setIfInBounds_toArray, List.set_cons_zero, List.set_cons_succ, i64_w, i32_w]
        rfl
      refine pure_ (i := 4) (N := some 9) (v := undef) (a' := ?_) #[true, true, true, true, true, false, false, false, false, false, false] rfl rfl (any_of HT_.out (by kernel_rfl)) (fun _ _ _ h => h) (Or.inr ⟨by rfl, rfl⟩) ?_ ?_
      rotate_left
      · simp only [Act.put, List.setIfInBounds_toArray, List.set_cons_zero, List.set_cons_succ, i64_w, i32_w]
        rfl
      refine pure_ (i := 5) (N := some 10) (v := undef) (a' := ?_) #[true, true, true, true, true, true, false, false, false, false, false] rfl rfl (any_of HT_.out (by kernel_rfl)) (fun _ _ _ h => h) (Or.inr ⟨by rfl, rfl⟩) ?_ ?_
      rotate_left
      · simp only [Act.put, List.setIfInBounds_toArray, List.set_cons_zero, List.set_cons_succ, i64_w, i32_w]
        rfl
      refine pure_ (i := 6) (N := some 11) (v := undef) (a' := ?_) #[true, true, true, true, true, true, true, false, false, false, false] rfl rfl (any_of HT_.out (by kernel_rfl)) (fun _ _ _ h => h) (Or.inr ⟨by rfl, rfl⟩) ?_ ?_
      rotate_left
      · simp only [Act.put, List.setIfInBounds_toArray, List.set_cons_zero, List.set_cons_succ, i64_w, i32_w]
        rfl
      refine pure_ (i := 7) (N := some 12) (v := undef) (a' := ?_) #[true, true, true, true, true, true, true, true, false, false, false] rfl rfl (any_of HT_.out (by kernel_rfl)) (fun _ _ _ h => h) (Or.inr ⟨by rfl, rfl⟩) ?_ ?_
      rotate_left
      · simp only [Act.put, List.setIfInBounds_toArray, List.set_cons_zero, List.set_cons_succ, i64_w, i32_w]
        rfl
      refine pure_ (i := 8) (N := some 13) (v := undef) (a' := ?_) #[true, true, true, true, true, true, true, true, true, false, false] rfl rfl (any_of HT_.out (by kernel_rfl)) (fun _ _ _ h => h) (Or.inr ⟨by rfl, rfl⟩) ?_ ?_
      rotate_left
      · simp only [Act.put, List.setIfInBounds_toArray, List.set_cons_zero, List.set_cons_succ, i64_w, i32_w]
        rfl
      refine pure_ (i := 9) (N := some 14) (v := undef) (a' := ?_) #[true, true, true, true, true, true, true, true, true, true, false] rfl rfl (any_of HT_.out (by kernel_rfl)) (fun _ _ _ h => h) (Or.inr ⟨by rfl, rfl⟩) ?_ ?_
      rotate_left
      · simp only [Act.put, List.setIfInBounds_toArray, List.set_cons_zero, List.set_cons_succ, i64_w, i32_w]
        rfl
      refine pure_ (i := 10) (N := some 15) (v := ?_) (a' := ?_) #[true, true, true, true, true, true, true, true, true, true, true] rfl rfl (any_of HT_.out (by kernel_rfl)) (fun _ _ _ h => h) (Or.inl ⟨by rfl, ?_⟩) ?_ ?_
      rotate_left
      · intro w'
        go_simp
        with_reducible rfl
      rotate_left
      · simp only [Act.put, List.setIfInBounds_toArray, List.set_cons_zero, List.set_cons_succ, i64_w, i32_w]
        rfl
      refine done_ (done_of HT_.out (by kernel_rfl)) ?_
      try go_wp2
      go_meet
      case rel => exact ⟨_, (true), (by first | rfl | (simp; done) | (simp [*]; done)), H', ⟨by first | omega | exact Nat.le_refl _⟩, ⟨by (with_reducible repeat (first | refine blk_drewN ?_ _ | refine blk_drew ?_ | refine blk_alloc ?_ _)); exact BK292.out⟩, ⟨by repeat (first | (with_reducible first | exact HB.out | apply below_alloc | apply pw_below_drewN | apply below_drew1 | refine below_set ?_ GE292.out) | exact HB.out)⟩⟩
    · rw [if_neg c4] at H
      have c4b0 : (a0_0 == 0) = false := beq_eq_false_iff_ne.mpr c4
      have c4b1 : (a0_0 != 0) = true := bne_iff_ne.mpr c4
      (first | rw [c4b0] | (simp only [i64_w, i32_w]; rw [c4b0]) | skip)
      replace H := Option.bind_eq_some_iff.mp H
      obtain ⟨t293, A60, H⟩ := H
      replace H : (epactref11_Words.j0 k (decide ((wrap64 (a0_0)) ≥ (t293.length : Int))) a0_0 a0_1 l0_2 l0_3) = some r := H
      have A6 := Aside0.mk A60
      clear A60
      have H' := Aside0.mk H
      clear H
      try go_wp2
      have n0_ := Aside0.mk (blk_drew BK292.out)
      have n1_ := Aside0.mk (below_drew1 HB.out)
      clear BK292
      clear HB
      have BK292 := n0_
      have HB := n1_
      clear n0_ n1_
      refine start_ (n := 11) (S := fun w' => w'.cell? ⟨gb292, 0, none⟩ = some (.int .u8 a0_0) ∧ w'.cell? ⟨gb292, 1, none⟩ = some (.string a0_1) ∧ w'.cell? ⟨gb292, 2, none⟩ = some (.slice A0_2 l0_2.length c0_2) ∧ w'.cell? ⟨gb292, 3, none⟩ = some (.slice A0_3 l0_3.length c0_3)) (ds := []) #[false, false, false, false, false, false, false, false, false, false, false] (by kernel_rfl) rfl rfl ⟨(blk_cell BK292.out 0).trans rfl, (blk_cell BK292.out 1).trans rfl, (blk_cell BK292.out 2).trans rfl, (blk_cell BK292.out 3).trans rfl⟩ (fun hHeld => ?_); refine with_tabW epactref11_Words.tab1 epactref11_Words.bits1 (fun HT_ HW_ => ?_)
      generalize w3.drew = w7 at BK292 HB hHeld ⊢
      refine pure_ (i := 0) (N := some 5) (v := ?_) (a' := ?_) #[true, false, false, false, false, false, false, false, false, false, false] rfl rfl (any_of HT_.out (by kernel_rfl)) (fun _ _ _ h => h) (Or.inl ⟨by rfl, ?_⟩) ?_ ?_
      rotate_left
      · intro w'
        go_simp
        with_reducible rfl
      rotate_left
      · simp only [Act.put, List.setIfInBounds_toArray, List.set_cons_zero, List.set_cons_succ, i64_w, i32_w]
        rfl
      refine take_ (i := 1) (N := some 6) (v := ?_) (a' := ?_) #[true, true, false, false, false, false, false, false, false, false, false] rfl rfl (take_ofW HT_.out HW_.out (by kernel_rfl)) (fun _ _ _ h => h) (Or.inl ⟨by rfl, ?_⟩) hHeld ?_ ?_
      rotate_left
      · rintro w' ⟨s0, s1, s2, s3⟩
        go_simp
        with_reducible rfl
      rotate_left
      · simp only [Act.put, List.setIfInBounds_toArray, List.set_cons_zero, List.set_cons_succ, i64_w, i32_w]
        rfl
      refine pure_ (i := 2) (N := some 7) (v := ?_) (a' := ?_) #[true, true, true, false, false, false, false, false, false, false, false] rfl rfl (any_of HT_.out (by kernel_rfl)) (fun _ _ _ h => h) (Or.inl ⟨by rfl, ?_⟩) ?_ ?_
      rotate_left
      · intro w'
        go_simp
        with_reducible rfl
      rotate_left
      · simp only [Act.put, List.setIfInBounds_toArray, List.set_cons_zero, List.set_cons_succ, i64_w, i32_w]
        rfl
      refine pure_ (i := 3) (N := some 8) (v := ?_) (a' := ?_) #[true, true, true, true, false, false, false, false, false, false, false] rfl rfl (any_of HT_.out (by kernel_rfl)) (fun _ _ _ h => h) (Or.inl ⟨by rfl, ?_⟩) ?_ ?_
      rotate_left
      · intro w'
        go_simp
        with_reducible rfl
      rotate_left
      · simp only [Act.put, List.setIfInBounds_toArray, List.set_cons_zero, List.set_cons_succ, i64_w, i32_w]
        rfl
      refine pure_ (i := 4) (N := some 9) (v := ?_) (a' := ?_) #[true, true, true, true, true, false, false, false, false, false, false] rfl rfl (any_of HT_.out (by kernel_rfl)) (fun _ _ _ h => h) (Or.inl ⟨by rfl, ?_⟩) ?_ ?_
      rotate_left
      · intro w'
        go_simp
        with_reducible rfl
      rotate_left
      · simp only [Act.put, List.setIfInBounds_toArray, List.set_cons_zero, List.set_cons_succ, i64_w, i32_w]
        rfl
      refine take_ (i := 5) (N := some 10) (v := ?_) (a' := ?_) #[true, true, true, true, true, true, false, false, false, false, false] rfl rfl (take_ofW HT_.out HW_.out (by kernel_rfl)) (fun _ _ _ h => h) (Or.inl ⟨by rfl, ?_⟩) hHeld ?_ ?_
      rotate_left
      · rintro w' ⟨s0, s1, s2, s3⟩
        go_simp
        with_reducible rfl
      rotate_left
      · simp only [Act.put, List.setIfInBounds_toArray, List.set_cons_zero, List.set_cons_succ, i64_w, i32_w]
        rfl
      refine pure_ (i := 6) (N := some 11) (v := ?_) (a' := ?_) #[true, true, true, true, true, true, true, false, false, false, false] rfl rfl (any_of HT_.out (by kernel_rfl)) (fun _ _ _ h => h) (Or.inl ⟨by rfl, ?_⟩) ?_ ?_
      rotate_left
      · intro w'
        go_simp
        with_reducible rfl
      rotate_left
      · simp only [Act.put, List.setIfInBounds_toArray, List.set_cons_zero, List.set_cons_succ, i64_w, i32_w]
        rfl
      refine one_ (i := 7) (N := some 12) #[true, true, true, true, true, true, true, true, false, false, false] rfl rfl (one_of HT_.out (by kernel_rfl)) (by decide) (fun K hK => ?_)
      refine goes_ Tryd.func62 (by kernel_rfl) rfl #[] (by rfl) rfl rfl (by (try simp only [List.map_toArray, List.map_cons, List.map_nil]); first | done | rfl | (simp only [List.length_drop, List.length_take]; rfl)) ?_
      with_reducible refine (epactref11_Ops.calls  t293 _ A6.out).mono ?_
      rintro e w8 ⟨v294, rfl, ho0, hb⟩
      refine ⟨_, rfl, ?_⟩
      have n0_ := Aside0.mk (Kd.R_lower ho0 (below_size (by repeat (first | (with_reducible first | exact HB.out | apply below_alloc | apply pw_below_drewN | apply below_drew1 | refine below_set ?_ GE292.out) | exact HB.out))))
      have n1_ := Aside0.mk (blk_below (g := gb292) (o := .cells #[.int .u8 a0_0, .string a0_1, .slice A0_2 l0_2.length c0_2, .slice A0_3 l0_3.length c0_3] 25 (0, 0)) (by (with_reducible repeat (first | refine blk_drewN ?_ _ | refine blk_drew ?_ | refine blk_alloc ?_ _)); exact BK292.out) hb)
      have n2_ := Aside0.mk (below_step (by repeat (first | (with_reducible first | exact HB.out | apply below_alloc | apply pw_below_drewN | apply below_drew1 | refine below_set ?_ GE292.out) | exact HB.out)) hb)
      clear BK292
      clear HB
      have HO295 := n0_
      have BK292 := n1_
      have HB := n2_
      clear n0_ n1_ n2_
      (try clear hb)
      (try clear hb2)
      (try clear hk)
      (try clear hi)
      (try clear ho0)
      obtain ⟨Ao9, co9, eo9⟩ := Kd.R_slice HO295.out
      (first | subst eo9 | (injection eo9 with f1_ f2_ f3_; have f4_ := f1_.symm; have f5_ := f3_.symm; clear f1_ f2_ f3_; subst f4_; subst f5_))
      refine hK.out _ _ ⟨(blk_cell BK292.out 0).trans rfl, (blk_cell BK292.out 1).trans rfl, (blk_cell BK292.out 2).trans rfl, (blk_cell BK292.out 3).trans rfl⟩ (fun hHeld => ?_)
      clear hK K
      refine norm_ (a' := ?_) ?_ ?_
      rotate_left
      · show Act.put _ (some 12) _ = _
        simp only [Act.put, List.setIfInBounds_toArray, List.set_cons_zero, List.set_cons_succ, i64_w, i32_w]
        rfl
      refine pure_ (i := 8) (N := some 13) (v := ?_) (a' := ?_) #[true, true, true, true, true, true, true, true, true, false, false] rfl rfl (any_of HT_.out (by kernel_rfl)) (fun _ _ _ h => h) (Or.inl ⟨by rfl, ?_⟩) ?_ ?_
      rotate_left
      · intro w'
        go_simp
        with_reducible rfl
      rotate_left
      · simp only [Act.put, List.setIfInBounds_toArray, List.set_cons_zero, List.set_cons_succ, i64_w, i32_w]
        rfl
      refine pure_ (i := 9) (N := some 14) (v := ?_) (a' := ?_) #[true, true, true, true, true, true, true, true, true, true, false] rfl rfl (any_of HT_.out (by kernel_rfl)) (fun _ _ _ h => h) (Or.inl ⟨by rfl, ?_⟩) ?_ ?_
      rotate_left
      · intro w'
        go_simp
        with_reducible rfl
      rotate_left
      · simp only [Act.put, List.setIfInBounds_toArray, List.set_cons_zero, List.set_cons_succ, i64_w, i32_w]
        rfl
      refine pure_ (i := 10) (N := some 15) (v := ?_) (a' := ?_) #[true, true, true, true, true, true, true, true, true, true, true] rfl rfl (any_of HT_.out (by kernel_rfl)) (fun _ _ _ h => h) (Or.inl ⟨by rfl, ?_⟩) ?_ ?_
      rotate_left
      · intro w'
        go_simp
        with_reducible rfl
      rotate_left
      · simp only [Act.put, List.setIfInBounds_toArray, List.set_cons_zero, List.set_cons_succ, i64_w, i32_w]
        rfl
      refine done_ (done_of HT_.out (by kernel_rfl)) ?_
      try go_wp2
      go_meet
      case rel => exact ⟨_, (decide ((wrap64 (a0_0)) ≥ (t293.length : Int))), (by first | rfl | (simp; done) | (simp [*]; done)), H', ⟨by first | omega | exact Nat.le_refl _⟩, ⟨by (with_reducible repeat (first | refine blk_drewN ?_ _ | refine blk_drew ?_ | refine blk_alloc ?_ _)); exact BK292.out⟩, ⟨by repeat (first | (with_reducible first | exact HB.out | apply below_alloc | apply pw_below_drewN | apply below_drew1 | refine below_set ?_ GE292.out) | exact HB.out)⟩⟩
  case rest =>
    clear HC2
    try clear p2
    try clear c4
    try clear c4b0
    try clear c4b1
    try clear c6
    try clear p6
    obtain ⟨kq, x15_1, rfl, HA, HJ1, BK292, HB⟩ := hcut
    cases kq with
    | zero => exact absurd HA.out (by simp [epactref11_Words.j0])
    | succ kj1 =>
      have H := HA.out
      clear HA
      simp only [epactref11_Words.j0] at H
      by_cases c10 : x15_1 = true
      · subst c10
        have H1 : (some (([(⟨1, a0_1, 0⟩ : S61)] : List (S61)))) = some r := by rw [if_pos rfl] at H; exact H
        clear H
        have H := H1
        clear H1
        obtain ⟨y296, hy296⟩ : ∃ y_ : List (S61), y_ = (([(⟨1, a0_1, 0⟩ : S61)] : List (S61))) := ⟨_, rfl⟩
        replace H : (some y296) = some r := by first | (rw [hy296]; with_reducible exact H) | (have H2_ := (Option.bind_some _ _).symm.trans H; rw [hy296]; with_reducible exact H2_) | (have H2_ := (Option.bind_some _ _).symm.trans H; with_reducible exact H2_) | with_reducible exact H | (rw [hy296]; exact H) | exact H
        have Ny296 := Aside0.mk hy296
        clear hy296
        obtain rfl := Option.some.inj H
        have hcz11_0 : wc.cell? ⟨gb292, 0, none⟩ = some (.int .u8 a0_0) := (blk_cell BK292.out 0).trans rfl
        have hcz11_1 : wc.cell? ⟨gb292, 1, none⟩ = some (.string a0_1) := (blk_cell BK292.out 1).trans rfl
        have hcz11_2 : wc.cell? ⟨gb292, 2, none⟩ = some (.slice A0_2 l0_2.length c0_2) := (blk_cell BK292.out 2).trans rfl
        have hcz11_3 : wc.cell? ⟨gb292, 3, none⟩ = some (.slice A0_3 l0_3.length c0_3) := (blk_cell BK292.out 3).trans rfl
        have hfz11_0 := blk_frozen BK292.out 0
        have hfz11_1 := blk_frozen BK292.out 1
        have hfz11_2 := blk_frozen BK292.out 2
        have hfz11_3 := blk_frozen BK292.out 3
        go_wp2_with (first | ((with_reducible refine gate_dst (N := 19) rfl ?_); (try (refine gate_guard (by rfl) ?_; dsimp only)); refine Kd.R_lit k61 _ 61 ?hg (N := 19) ?hd (xs := ([(⟨1, a0_1, 0⟩ : S61)] : List (S61))) (inner := [.int .u8 1, .string a0_1, .int .i64 0]) (ok := fun _ => True) (okp := fun _ => True) ?hr ?hp (fun _ hk => hk) trivial (Below.refl _ _) (Nat.le_refl _) (by simp) ?_; (case hd => rfl); (case hg => rfl); (case hr => first | (go_simp; done) | (go_simp; rfl)); (case hp => exact (Reps.c3 (show Kd.M k61 _ _ _ (⟨1, a0_1, 0⟩ : S61) [.int .u8 1, .string a0_1, .int .i64 0] from (k61_mkM _ _ _ (⟨1, a0_1, 0⟩ : S61) )) (Reps.none _ _))); intro v297 w12 ho13 hb hg_ hnew_; clear hg_ hnew_; (first | rw [← Ny296.out] at ho13 | (simp only [Int.reduceToNat] at ho13; rw [← Ny296.out] at ho13)); have n0_ := Aside0.mk (Kd.R_lower ho13 (below_size (by repeat (first | (with_reducible first | exact HB.out | apply below_alloc | apply pw_below_drewN | apply below_drew1 | refine below_set ?_ GE292.out) | exact HB.out)))); have n1_ := Aside0.mk (blk_below (g := gb292) (o := .cells #[.int .u8 a0_0, .string a0_1, .slice A0_2 l0_2.length c0_2, .slice A0_3 l0_3.length c0_3] 25 (0, 0)) (by (with_reducible repeat (first | refine blk_drewN ?_ _ | refine blk_drew ?_ | refine blk_alloc ?_ _)); exact BK292.out) hb); have n2_ := Aside0.mk (below_step (by repeat (first | (with_reducible first | exact HB.out | apply below_alloc | apply pw_below_drewN | apply below_drew1 | refine below_set ?_ GE292.out) | exact HB.out)) hb); clear BK292; clear HB; have HO298 := n0_; have BK292 := n1_; have HB := n2_; clear n0_ n1_ n2_; clear hb ho13))
        go_ret
        exact ⟨_, by first | rfl | (simp [errW_none, errW_some] <;> rfl) | (simp [*, errW_none, errW_some] <;> rfl), by (with_reducible repeat (first | apply Kd.R_alloc | apply Kd.R_drewN | apply Kd.R_drew)); exact HO298.out, by repeat (first | (with_reducible first | exact HB.out | apply below_alloc | apply pw_below_drewN | apply below_drew1 | refine below_set ?_ GE292.out) | exact HB.out)⟩
      · replace c10 := Bool.eq_false_iff.mpr c10
        subst c10
        have H1 : ((epactref11_Ops.f).bind fun t299 => (if 0 ≤ a0_0 then (if a0_0 < (t299.length : Int) then ((epactref11_mark.f (⟨#[40]⟩ : ByteArray)).bind fun bt303 => (epactref11_Words.l0 kj1 (([(⟨1, rdOf ByteArray.empty t299 a0_0, 0⟩ : S61), (⟨bt303.1, bt303.2.1, bt303.2.2⟩ : S61)] : List (S61))) 0 a0_0 a0_1 l0_2 l0_3)) else (none)) else (none))) = some r := by rw [if_neg (show ¬ (false = true) by decide)] at H; exact H
        clear H
        have H := H1
        clear H1
        replace H := Option.bind_eq_some_iff.mp H
        obtain ⟨t299, A140, H⟩ := H
        replace H : (if 0 ≤ a0_0 then (if a0_0 < (t299.length : Int) then ((epactref11_mark.f (⟨#[40]⟩ : ByteArray)).bind fun bt303 => (epactref11_Words.l0 kj1 (([(⟨1, rdOf ByteArray.empty t299 a0_0, 0⟩ : S61), (⟨bt303.1, bt303.2.1, bt303.2.2⟩ : S61)] : List (S61))) 0 a0_0 a0_1 l0_2 l0_3)) else (none)) else (none)) = some r := H
        have A14 := Aside0.mk A140
        clear A140
        by_cases c15 : 0 ≤ a0_0
        · rw [if_pos c15] at H
          have c15b0 : decide (0 ≤ a0_0) = true := decide_eq_true c15
          clear c15
          by_cases c16 : a0_0 < (t299.length : Int)
          · rw [if_pos c16] at H
            have c16b0 : decide (a0_0 < (t299.length : Int)) = true := decide_eq_true c16
            clear c16
            replace H := Option.bind_eq_some_iff.mp H
            obtain ⟨⟨t303, t304, t305⟩, A170, H⟩ := H
            replace H : (epactref11_Words.l0 kj1 (([(⟨1, rdOf ByteArray.empty t299 a0_0, 0⟩ : S61), (⟨t303, t304, t305⟩ : S61)] : List (S61))) 0 a0_0 a0_1 l0_2 l0_3) = some r := H
            have A17 := Aside0.mk A170
            clear A170
            obtain ⟨y306, hy306⟩ : ∃ y_ : List (S61), y_ = (([(⟨1, rdOf ByteArray.empty t299 a0_0, 0⟩ : S61), (⟨t303, t304, t305⟩ : S61)] : List (S61))) := ⟨_, rfl⟩
            replace H : (epactref11_Words.l0 kj1 y306 0 a0_0 a0_1 l0_2 l0_3) = some r := by first | (rw [hy306]; with_reducible exact H) | (have H2_ := (Option.bind_some _ _).symm.trans H; rw [hy306]; with_reducible exact H2_) | (have H2_ := (Option.bind_some _ _).symm.trans H; with_reducible exact H2_) | with_reducible exact H | (rw [hy306]; exact H) | exact H
            have Ny306 := Aside0.mk hy306
            clear hy306
            have H' := Aside0.mk H
            clear H
            try go_wp2
            have n0_ := Aside0.mk (blk_drew BK292.out)
            have n1_ := Aside0.mk (below_drew1 HB.out)
            clear BK292
            clear HB
            have BK292 := n0_
            have HB := n1_
            clear n0_ n1_
            refine start_ (n := 9) (S := fun w' => w'.cell? ⟨gb292, 0, none⟩ = some (.int .u8 a0_0) ∧ w'.cell? ⟨gb292, 1, none⟩ = some (.string a0_1) ∧ w'.cell? ⟨gb292, 2, none⟩ = some (.slice A0_2 l0_2.length c0_2) ∧ w'.cell? ⟨gb292, 3, none⟩ = some (.slice A0_3 l0_3.length c0_3)) (ds := []) #[false, false, false, false, false, false, false, false, false] (by kernel_rfl) rfl rfl ⟨(blk_cell BK292.out 0).trans rfl, (blk_cell BK292.out 1).trans rfl, (blk_cell BK292.out 2).trans rfl, (blk_cell BK292.out 3).trans rfl⟩ (fun hHeld => ?_); refine with_tabW epactref11_Words.tab3 epactref11_Words.bits3 (fun HT_ HW_ => ?_)
            generalize wc.drew = w18 at BK292 HB hHeld ⊢
            refine pure_ (i := 1) (N := some 21) (v := ?_) (a' := ?_) #[false, true, false, false, false, false, false, false, false] rfl rfl (any_of HT_.out (by kernel_rfl)) (fun _ _ _ h => h) (Or.inl ⟨by rfl, ?_⟩) ?_ ?_
            rotate_left
            · intro w'
              go_simp
              with_reducible rfl
            rotate_left
            · simp only [Act.put, List.setIfInBounds_toArray, List.set_cons_zero, List.set_cons_succ, i64_w, i32_w]
              rfl
            refine take_ (i := 2) (N := some 22) (v := ?_) (a' := ?_) #[false, true, true, false, false, false, false, false, false] rfl rfl (take_ofW HT_.out HW_.out (by kernel_rfl)) (fun _ _ _ h => h) (Or.inl ⟨by rfl, ?_⟩) hHeld ?_ ?_
            rotate_left
            · rintro w' ⟨s0, s1, s2, s3⟩
              go_simp
              with_reducible rfl
            rotate_left
            · simp only [Act.put, List.setIfInBounds_toArray, List.set_cons_zero, List.set_cons_succ, i64_w, i32_w]
              rfl
            refine one_ (i := 0) (N := some 20) #[true, true, true, false, false, false, false, false, false] rfl rfl (one_of HT_.out (by kernel_rfl)) (by decide) (fun K hK => ?_)
            refine goes_ Tryd.func62 (by kernel_rfl) rfl #[] (by rfl) rfl rfl (by (try simp only [List.map_toArray, List.map_cons, List.map_nil]); first | done | rfl | (simp only [List.length_drop, List.length_take]; rfl)) ?_
            with_reducible refine (epactref11_Ops.calls  t299 _ A14.out).mono ?_
            rintro e w19 ⟨v300, rfl, ho0, hb⟩
            refine ⟨_, rfl, ?_⟩
            have n0_ := Aside0.mk (Kd.R_lower ho0 (below_size (by repeat (first | (with_reducible first | exact HB.out | apply below_alloc | apply pw_below_drewN | apply below_drew1 | refine below_set ?_ GE292.out) | exact HB.out))))
            have n1_ := Aside0.mk (blk_below (g := gb292) (o := .cells #[.int .u8 a0_0, .string a0_1, .slice A0_2 l0_2.length c0_2, .slice A0_3 l0_3.length c0_3] 25 (0, 0)) (by (with_reducible repeat (first | refine blk_drewN ?_ _ | refine blk_drew ?_ | refine blk_alloc ?_ _)); exact BK292.out) hb)
            have n2_ := Aside0.mk (below_step (by repeat (first | (with_reducible first | exact HB.out | apply below_alloc | apply pw_below_drewN | apply below_drew1 | refine below_set ?_ GE292.out) | exact HB.out)) hb)
            clear BK292
            clear HB
            have HO301 := n0_
            have BK292 := n1_
            have HB := n2_
            clear n0_ n1_ n2_
            (try clear hb)
            (try clear hb2)
            (try clear hk)
            (try clear hi)
            (try clear ho0)
            obtain ⟨Ao20, co20, eo20⟩ := Kd.R_slice HO301.out
            (first | subst eo20 | (injection eo20 with f1_ f2_ f3_; have f4_ := f1_.symm; have f5_ := f3_.symm; clear f1_ f2_ f3_; subst f4_; subst f5_))
            have p302 : 0 ≤ (a0_0 : Int) := of_decide_eq_true (by first | (with_reducible assumption) | assumption)
            have q302 : a0_0 < (t299.length : Int) := of_decide_eq_true (by first | (with_reducible assumption) | assumption)
            obtain ⟨ad302, e302, hx302_0⟩ := Kd.at_string (Kd.R_reads' HO301.out).2.2 a0_0 p302 q302
            cases e302
            replace p302 := eq_true p302
            replace q302 := eq_true q302
            refine hK.out _ _ ⟨(blk_cell BK292.out 0).trans rfl, (blk_cell BK292.out 1).trans rfl, (blk_cell BK292.out 2).trans rfl, (blk_cell BK292.out 3).trans rfl⟩ (fun hHeld0 => ?_)
            clear hK K
            refine norm_ (a' := ?_) ?_ ?_
            rotate_left
            · show Act.put _ (some 20) _ = _
              simp only [Act.put, List.setIfInBounds_toArray, List.set_cons_zero, List.set_cons_succ, i64_w, i32_w]
              rfl
            refine more_ (S2 := fun w' => w'.cell? ⟨gb292, 0, none⟩ = some (.int .u8 a0_0) ∧ w'.cell? ⟨gb292, 1, none⟩ = some (.string a0_1) ∧ w'.cell? ⟨gb292, 2, none⟩ = some (.slice A0_2 l0_2.length c0_2) ∧ w'.cell? ⟨gb292, 3, none⟩ = some (.slice A0_3 l0_3.length c0_3) ∧ w'.cell? (ad302.add (a0_0).toNat) = some (.string (rdOf ByteArray.empty t299 a0_0))) (fun _ h => ⟨h.1, h.2.1, h.2.2.1, h.2.2.2.1⟩) _ _ _ _ ⟨hHeld0.1, hHeld0.2.1, hHeld0.2.2.1, hHeld0.2.2.2, hx302_0⟩ ?_
            have hHeld : _ ∧ _ ∧ _ ∧ _ ∧ _ := ⟨hHeld0.1, hHeld0.2.1, hHeld0.2.2.1, hHeld0.2.2.2, hx302_0⟩
            refine pure_ (i := 3) (N := some 23) (v := ?_) (a' := ?_) #[true, true, true, true, false, false, false, false, false] rfl rfl (any_of HT_.out (by kernel_rfl)) (fun _ _ _ h => h) (Or.inl ⟨by rfl, ?_⟩) ?_ ?_
            rotate_left
            · intro w'
              go_simp
              with_reducible rfl
            rotate_left
            · simp only [Act.put, List.setIfInBounds_toArray, List.set_cons_zero, List.set_cons_succ, i64_w, i32_w]
              rfl
            refine take_ (i := 4) (N := some 24) (v := ?_) (a' := ?_) #[true, true, true, true, true, false, false, false, false] rfl rfl (take_ofW HT_.out HW_.out (by kernel_rfl)) (fun _ _ _ h => h) (Or.inl ⟨by rfl, ?_⟩) hHeld ?_ ?_
            rotate_left
            · rintro w' ⟨s0, s1, s2, s3, s4⟩
              go_simp
              with_reducible rfl
            rotate_left
            · simp only [Act.put, List.setIfInBounds_toArray, List.set_cons_zero, List.set_cons_succ, i64_w, i32_w]
              rfl
            refine pure_ (i := 5) (N := some 25) (v := ?_) (a' := ?_) #[true, true, true, true, true, true, false, false, false] rfl rfl (any_of HT_.out (by kernel_rfl)) (fun _ _ _ h => h) (Or.inl ⟨by rfl, ?_⟩) ?_ ?_
            rotate_left
            · intro w'
              go_simp
              with_reducible rfl
            rotate_left
            · simp only [Act.put, List.setIfInBounds_toArray, List.set_cons_zero, List.set_cons_succ, i64_w, i32_w]
              rfl
            refine one_ (i := 6) (N := some 26) #[true, true, true, true, true, true, true, false, false] rfl rfl (one_of HT_.out (by kernel_rfl)) (by decide) (fun K hK => ?_)
            refine goes_ Tryd.func73 (by kernel_rfl) rfl #[.string (⟨#[40]⟩ : ByteArray)] (by rfl) rfl rfl (by (try simp only [List.map_toArray, List.map_cons, List.map_nil]); first | done | rfl | (simp only [List.length_drop, List.length_take]; rfl)) ?_
            with_reducible refine (epactref11_mark.calls (⟨#[40]⟩ : ByteArray) t303 t304 t305 _ A17.out).mono ?_
            rintro e w21 ⟨rfl, hb⟩
            have HS4_ := (hb.cell (World.block_lt_of_cell? _ _ (hHeld.2.2.2.2))).trans (hHeld.2.2.2.2)
            refine ⟨_, rfl, ?_⟩
            have n0_ := Aside0.mk (Kd.R_below (by (with_reducible repeat (first | apply Kd.R_alloc | apply Kd.R_drewN | apply Kd.R_drew)); exact HO301.out) hb)
            have n1_ := Aside0.mk (blk_below (g := gb292) (o := .cells #[.int .u8 a0_0, .string a0_1, .slice A0_2 l0_2.length c0_2, .slice A0_3 l0_3.length c0_3] 25 (0, 0)) (by (with_reducible repeat (first | refine blk_drewN ?_ _ | refine blk_drew ?_ | refine blk_alloc ?_ _)); exact BK292.out) hb)
            have n2_ := Aside0.mk (below_step (by repeat (first | (with_reducible first | exact HB.out | apply below_alloc | apply pw_below_drewN | apply below_drew1 | refine below_set ?_ GE292.out) | exact HB.out)) hb)
            clear HO301
            clear BK292
            clear HB
            have HO301 := n0_
            have BK292 := n1_
            have HB := n2_
            clear n0_ n1_ n2_
            (try clear hb)
            (try clear hb2)
            (try clear hk)
            (try clear hi)
            refine hK.out _ _ ⟨(blk_cell BK292.out 0).trans rfl, (blk_cell BK292.out 1).trans rfl, (blk_cell BK292.out 2).trans rfl, (blk_cell BK292.out 3).trans rfl, HS4_⟩ (fun hHeld => ?_)
            clear hK K
            refine norm_ (a' := ?_) ?_ ?_
            rotate_left
            · show Act.put _ (some 26) _ = _
              simp only [Act.put, List.setIfInBounds_toArray, List.set_cons_zero, List.set_cons_succ, i64_w, i32_w]
              rfl
            refine one_ (i := 7) (N := some 27) #[true, true, true, true, true, true, true, true, false] rfl rfl (one_of HT_.out (by kernel_rfl)) (by decide) (fun K hK => ?_)
            refine Kd.R_lit_step k61 _ 61 ?hg (N := 27) ?hd (xs := ([(⟨1, rdOf ByteArray.empty t299 a0_0, 0⟩ : S61), (⟨t303, t304, t305⟩ : S61)] : List (S61))) (inner := [.int .u8 1, .string (rdOf ByteArray.empty t299 a0_0), .int .i64 0, .int .u8 t303, .string t304, .int .i64 t305]) (ok := fun _ => True) (okp := fun _ => True) ?hr ?hp (fun _ hk => hk) trivial (Below.refl _ _) (Nat.le_refl _) (by simp) ?_; (case hd => rfl); (case hg => rfl); (case hr => first | (go_simp; done) | (go_simp; rfl)); (case hp => exact (Reps.c3 (show Kd.M k61 _ _ _ (⟨1, rdOf ByteArray.empty t299 a0_0, 0⟩ : S61) [.int .u8 1, .string (rdOf ByteArray.empty t299 a0_0), .int .i64 0] from (k61_mkM _ _ _ (⟨1, rdOf ByteArray.empty t299 a0_0, 0⟩ : S61) )) (Reps.c3 (show Kd.M k61 _ _ _ (⟨t303, t304, t305⟩ : S61) [.int .u8 t303, .string t304, .int .i64 t305] from (k61_mkM _ _ _ (⟨t303, t304, t305⟩ : S61) )) (Reps.none _ _))))
            intro v307 w22 ho23 hb hg_ hnew_
            have HS4_ := (hb.cell (World.block_lt_of_cell? _ _ (hHeld.2.2.2.2))).trans (hHeld.2.2.2.2)
            clear hg_ hnew_
            (first | rw [← Ny306.out] at ho23 | (simp only [Int.reduceToNat] at ho23; rw [← Ny306.out] at ho23))
            have n0_ := Aside0.mk (Kd.R_below (by (with_reducible repeat (first | apply Kd.R_alloc | apply Kd.R_drewN | apply Kd.R_drew)); exact HO301.out) hb)
            have n1_ := Aside0.mk (Kd.R_lower ho23 (below_size (by repeat (first | (with_reducible first | exact HB.out | apply below_alloc | apply pw_below_drewN | apply below_drew1 | refine below_set ?_ GE292.out) | exact HB.out))))
            have n2_ := Aside0.mk (blk_below (g := gb292) (o := .cells #[.int .u8 a0_0, .string a0_1, .slice A0_2 l0_2.length c0_2, .slice A0_3 l0_3.length c0_3] 25 (0, 0)) (by (with_reducible repeat (first | refine blk_drewN ?_ _ | refine blk_drew ?_ | refine blk_alloc ?_ _)); exact BK292.out) hb)
            have n3_ := Aside0.mk (below_step (by repeat (first | (with_reducible first | exact HB.out | apply below_alloc | apply pw_below_drewN | apply below_drew1 | refine below_set ?_ GE292.out) | exact HB.out)) hb)
            clear HO301
            clear BK292
            clear HB
            have HO301 := n0_
            have HO308 := n1_
            have BK292 := n2_
            have HB := n3_
            clear n0_ n1_ n2_ n3_
            clear hb ho23
            refine hK.out _ _ ⟨(blk_cell BK292.out 0).trans rfl, (blk_cell BK292.out 1).trans rfl, (blk_cell BK292.out 2).trans rfl, (blk_cell BK292.out 3).trans rfl, HS4_⟩ (fun hHeld => ?_)
            clear hK K
            refine norm_ (a' := ?_) ?_ ?_
            rotate_left
            · show Act.put _ (some 27) _ = _
              simp only [Act.put, List.setIfInBounds_toArray, List.set_cons_zero, List.set_cons_succ, i64_w, i32_w]
              rfl
            refine pure_ (i := 8) (N := some 3) (v := ?_) (a' := ?_) #[true, true, true, true, true, true, true, true, true] rfl rfl (any_of HT_.out (by kernel_rfl)) (fun _ _ _ h => h) (Or.inl ⟨by rfl, ?_⟩) ?_ ?_
            rotate_left
            · intro w'
              go_simp
              with_reducible rfl
            rotate_left
            · simp only [Act.put, List.setIfInBounds_toArray, List.set_cons_zero, List.set_cons_succ, i64_w, i32_w]
              rfl
            refine done_ (done_of HT_.out (by kernel_rfl)) ?_
            try go_wp2
            go_loopg [3, 4] kj1 (fun kq v3 v4 w' => ∃ (x3_2 : List (S61)) (x4_2 : Int), v4 = .int .i64 x4_2 ∧ Aside0 (epactref11_Words.l0 kq x3_2 x4_2 a0_0 a0_1 l0_2 l0_3 = some r) ∧ Aside0 (kq ≤ kj1) ∧ Aside0 (Kd.R k61 61 w' w.heap.size (fun _ => True) v3 x3_2) ∧ Aside0 (w'.heap[gb292]? = some (.cells #[.int .u8 a0_0, .string a0_1, (.slice A0_2 l0_2.length c0_2), (.slice A0_3 l0_3.length c0_3)] 25 (0, 0))) ∧ Aside0 (Below w.heap.size w w'))
            case atStart => exact ⟨(y306), (0), (by first | rfl | (simp; done) | (simp [*]; done)), H', ⟨Nat.le_refl _⟩, ⟨by (with_reducible repeat (first | apply Kd.R_alloc | apply Kd.R_drewN | apply Kd.R_drew)); exact HO308.out⟩, ⟨by (with_reducible repeat (first | refine blk_drewN ?_ _ | refine blk_drew ?_ | refine blk_alloc ?_ _)); exact BK292.out⟩, ⟨by repeat (first | (with_reducible first | exact HB.out | apply below_alloc | apply pw_below_drewN | apply below_drew1 | refine below_set ?_ GE292.out) | exact HB.out)⟩⟩
            case round =>
              clear H'
              try clear c1
              try clear p2
              try clear c3
              try clear p3
              try clear q3
              try clear hx3
              try clear c4
              try clear c4b0
              try clear c4b1
              try clear c6
              try clear p6
              try clear c7
              try clear c10
              try clear c15
              try clear c15b0
              try clear c16
              try clear c16b0
              try clear hcz11_0
              try clear hcz11_1
              try clear hcz11_2
              try clear hcz11_3
              try clear hfz11_0
              try clear hfz11_1
              try clear hfz11_2
              try clear hfz11_3
              try clear hx302_0
              try clear p2
              try clear p302
              try clear p6
              try clear q302
              obtain ⟨x3_2, x4_2, rfl, HA, HK2, HO_3, BK292, HB⟩ := hrel
              cases gk with
              | zero => exact absurd HA.out (by simp [epactref11_Words.l0])
              | succ k2 =>
                have H := HA.out
                clear HA
                simp only [epactref11_Words.l0] at H
                by_cases c24 : x4_2 < (wrap64 ((l0_2.length : Int) + (l0_3.length : Int)))
                · rw [if_pos c24] at H
                  have c24b0 : decide (x4_2 < (wrap64 ((l0_2.length : Int) + (l0_3.length : Int)))) = true := decide_eq_true c24
                  clear c24
                  by_cases c25 : x4_2 > 0
                  · rw [if_pos c25] at H
                    have c25b0 : decide (0 < x4_2) = true := decide_eq_true c25
                    clear c25
                    replace H := Option.bind_eq_some_iff.mp H
                    obtain ⟨⟨t315, t316, t317⟩, A260, H⟩ := H
                    replace H : (if x3_2.length < 4398046511104 then ((some (x3_2 ++ [(⟨t315, t316, t317⟩ : S61)] : List (S61))).bind fun y318 => (if x4_2 < (l0_2.length : Int) then (if 0 ≤ x4_2 then (if y318.length < 4398046511104 then (epactref11_Words.l0 k2 (y318 ++ [(⟨2, (⟨#[]⟩ : ByteArray), rd l0_2 x4_2⟩ : S61)]) (wrap64 (x4_2 + 1)) a0_0 a0_1 l0_2 l0_3) else (none)) else (none)) else (if 0 ≤ (wrap64 (x4_2 - (l0_2.length : Int))) then (if (wrap64 (x4_2 - (l0_2.length : Int))) < (l0_3.length : Int) then ((epactref11_Words.f k2 ((rd_T25 l0_3 (wrap64 (x4_2 - (l0_2.length : Int)))).f0) ((rd_T25 l0_3 (wrap64 (x4_2 - (l0_2.length : Int)))).f1) ((rd_T25 l0_3 (wrap64 (x4_2 - (l0_2.length : Int)))).f2) ((rd_T25 l0_3 (wrap64 (x4_2 - (l0_2.length : Int)))).f3)).bind fun t326 => (if y318.length + t326.length < 4398046511104 then (epactref11_Words.l0 k2 (y318 ++ t326) (wrap64 (x4_2 + 1)) a0_0 a0_1 l0_2 l0_3) else (none))) else (none)) else (none)))) else (none)) = some r := H
                    have A26 := Aside0.mk A260
                    clear A260
                    by_cases c27 : x3_2.length < 4398046511104
                    · rw [if_pos c27] at H
                      have LMc27 := Aside0.mk c27
                      clear c27
                      obtain ⟨y318, hy318⟩ : ∃ y_ : List (S61), y_ = (x3_2 ++ [(⟨t315, t316, t317⟩ : S61)]) := ⟨_, rfl⟩
                      replace H : (if x4_2 < (l0_2.length : Int) then (if 0 ≤ x4_2 then (if y318.length < 4398046511104 then (epactref11_Words.l0 k2 (y318 ++ [(⟨2, (⟨#[]⟩ : ByteArray), rd l0_2 x4_2⟩ : S61)]) (wrap64 (x4_2 + 1)) a0_0 a0_1 l0_2 l0_3) else (none)) else (none)) else (if 0 ≤ (wrap64 (x4_2 - (l0_2.length : Int))) then (if (wrap64 (x4_2 - (l0_2.length : Int))) < (l0_3.length : Int) then ((epactref11_Words.f k2 ((rd_T25 l0_3 (wrap64 (x4_2 - (l0_2.length : Int)))).f0) ((rd_T25 l0_3 (wrap64 (x4_2 - (l0_2.length : Int)))).f1) ((rd_T25 l0_3 (wrap64 (x4_2 - (l0_2.length : Int)))).f2) ((rd_T25 l0_3 (wrap64 (x4_2 - (l0_2.length : Int)))).f3)).bind fun t326 => (if y318.length + t326.length < 4398046511104 then (epactref11_Words.l0 k2 (y318 ++ t326) (wrap64 (x4_2 + 1)) a0_0 a0_1 l0_2 l0_3) else (none))) else (none)) else (none))) = some r := by first | (rw [hy318]; with_reducible exact H) | (have H2_ := (Option.bind_some _ _).symm.trans H; rw [hy318]; with_reducible exact H2_) | (have H2_ := (Option.bind_some _ _).symm.trans H; with_reducible exact H2_) | with_reducible exact H | (rw [hy318]; exact H) | exact H
                      have Ny318 := Aside0.mk hy318
                      clear hy318
                      by_cases c28 : x4_2 < (l0_2.length : Int)
                      · rw [if_pos c28] at H
                        have c28b0 : decide (x4_2 < (l0_2.length : Int)) = true := decide_eq_true c28
                        clear c28
                        by_cases c29 : 0 ≤ x4_2
                        · rw [if_pos c29] at H
                          have c29b0 : decide (0 ≤ x4_2) = true := decide_eq_true c29
                          clear c29
                          by_cases c30 : y318.length < 4398046511104
                          · rw [if_pos c30] at H
                            have LMc30 := Aside0.mk c30
                            clear c30
                            obtain ⟨y322, hy322⟩ : ∃ y_ : List (S61), y_ = (y318 ++ [(⟨2, (⟨#[]⟩ : ByteArray), rd l0_2 x4_2⟩ : S61)]) := ⟨_, rfl⟩
                            replace H : (epactref11_Words.l0 k2 y322 (wrap64 (x4_2 + 1)) a0_0 a0_1 l0_2 l0_3) = some r := by first | (rw [hy322]; with_reducible exact H) | (have H2_ := (Option.bind_some _ _).symm.trans H; rw [hy322]; with_reducible exact H2_) | (have H2_ := (Option.bind_some _ _).symm.trans H; with_reducible exact H2_) | with_reducible exact H | (rw [hy322]; exact H) | exact H
                            have Ny322 := Aside0.mk hy322
                            clear hy322
                            have H' := Aside0.mk H
                            clear H
                            have hcz31_0 : wr.cell? ⟨gb292, 0, none⟩ = some (.int .u8 a0_0) := (blk_cell BK292.out 0).trans rfl
                            have hcz31_1 : wr.cell? ⟨gb292, 1, none⟩ = some (.string a0_1) := (blk_cell BK292.out 1).trans rfl
                            have hcz31_2 : wr.cell? ⟨gb292, 2, none⟩ = some (.slice A0_2 l0_2.length c0_2) := (blk_cell BK292.out 2).trans rfl
                            have hcz31_3 : wr.cell? ⟨gb292, 3, none⟩ = some (.slice A0_3 l0_3.length c0_3) := (blk_cell BK292.out 3).trans rfl
                            have hfz31_0 := blk_frozen BK292.out 0
                            have hfz31_1 := blk_frozen BK292.out 1
                            have hfz31_2 := blk_frozen BK292.out 2
                            have hfz31_3 := blk_frozen BK292.out 3
                            go_wp2_with (first | ((with_reducible refine gate_callee (f := 73) rfl ?_); refine goesL_ (some 42) rfl rfl Tryd.func73 (by kernel_rfl) rfl #[.string (⟨#[44]⟩ : ByteArray)] rfl (by (try simp only [List.map_toArray, List.map_cons, List.map_nil]); first | done | rfl | (simp only [List.length_drop, List.length_take]; rfl)) ?_; (with_reducible refine (epactref11_mark.calls (⟨#[44]⟩ : ByteArray) t315 t316 t317 _ A26.out).mono ?_); rintro e w32 ⟨rfl, hb⟩; refine ⟨_, rfl, ?_⟩; have n0_ := Aside0.mk (Kd.R_below (by (with_reducible repeat (first | apply Kd.R_alloc | apply Kd.R_drewN | apply Kd.R_drew)); exact HO_3.out) hb); have n1_ := Aside0.mk (blk_below (g := gb292) (o := .cells #[.int .u8 a0_0, .string a0_1, .slice A0_2 l0_2.length c0_2, .slice A0_3 l0_3.length c0_3] 25 (0, 0)) (by (with_reducible repeat (first | refine blk_drewN ?_ _ | refine blk_drew ?_ | refine blk_alloc ?_ _)); exact BK292.out) hb); have n2_ := Aside0.mk (below_step (by repeat (first | (with_reducible first | exact HB.out | apply below_alloc | apply pw_below_drewN | apply below_drew1 | refine below_set ?_ GE292.out) | exact HB.out)) hb); clear HO_3; clear BK292; clear HB; have HO_3 := n0_; have BK292 := n1_; have HB := n2_; clear n0_ n1_ n2_; (try clear hb); (try clear hb2); (try clear hk); (try clear hi)) | ((with_reducible refine gate_builtin (b := .append) (xs := #[.tmp 41, .tmp 43]) rfl ?_); (try (refine gate_guard (by rfl) ?_; dsimp only)); at_builtin; refine Kd.R_append k61 (w0 := w) w.heap.size rfl (.tmp 41) (.tmp 43) 43 61 (.agg #[(.int .u8 0), (.string ⟨#[]⟩), (.int .i64 0)]) 32 rfl Tryd.underlying43 info61 rfl (by decide) (by omega) u3 x3_2 (⟨t315, t316, t317⟩ : S61) [.int .u8 t315, .string t316, .int .i64 t317] (fun _ => True) (fun _ => False) rfl rfl ?aP (fun _ hk => hk.elim) ?aF ?aO ?aB ?aS ?aL ?_; (case aP => exact k61_mkM _ _ _ (⟨t315, t316, t317⟩ : S61)); (case aB => exact (by repeat (first | (with_reducible first | exact HB.out | apply below_alloc | apply pw_below_drewN | apply below_drew1 | refine below_set ?_ GE292.out) | exact HB.out))); (case aF => exact (fun _ _ => trivial)); (case aO => exact (by (with_reducible repeat (first | apply Kd.R_alloc | apply Kd.R_drewN | apply Kd.R_drew)); exact HO_3.out)); (case aS => exact (below_size (by repeat (first | (with_reducible first | exact HB.out | apply below_alloc | apply pw_below_drewN | apply below_drew1 | refine below_set ?_ GE292.out) | exact HB.out)))); (case aL => have := LMc27.out; omega); intro v319 w33 ho hb hg hat; rw [← Ny318.out] at ho; have n0_ := Aside0.mk (blk_grown (g := gb292) (o := .cells #[.int .u8 a0_0, .string a0_1, .slice A0_2 l0_2.length c0_2, .slice A0_3 l0_3.length c0_3] 25 (0, 0)) (by (with_reducible repeat (first | refine blk_drewN ?_ _ | refine blk_drew ?_ | refine blk_alloc ?_ _)); exact BK292.out) hg (Kd.R_ne HO_3.out BK292.out (by decide))); have n1_ := Aside0.mk (hb); have n2_ := Aside0.mk (ho); clear BK292; clear HB; clear HO_3; have BK292 := n0_; have HB := n1_; have HO320 := n2_; clear n0_ n1_ n2_; clear ho hb hg hat; have hcz34_0 : w33.cell? ⟨gb292, 0, none⟩ = some (.int .u8 a0_0) := (blk_cell BK292.out 0).trans rfl; have hcz34_1 : w33.cell? ⟨gb292, 1, none⟩ = some (.string a0_1) := (blk_cell BK292.out 1).trans rfl; have hcz34_2 : w33.cell? ⟨gb292, 2, none⟩ = some (.slice A0_2 l0_2.length c0_2) := (blk_cell BK292.out 2).trans rfl; have hcz34_3 : w33.cell? ⟨gb292, 3, none⟩ = some (.slice A0_3 l0_3.length c0_3) := (blk_cell BK292.out 3).trans rfl; have hfz34_0 := blk_frozen BK292.out 0; have hfz34_1 := blk_frozen BK292.out 1; have hfz34_2 := blk_frozen BK292.out 2; have hfz34_3 := blk_frozen BK292.out 3; have p321 : 0 ≤ (x4_2 : Int) := of_decide_eq_true (by first | (with_reducible assumption) | assumption); have q321 : x4_2 < (l0_2.length : Int) := of_decide_eq_true (by first | (with_reducible assumption) | assumption); obtain ⟨ad321, e321, hx321_0⟩ := Kd.at_int HR0_2.out x4_2 p321 q321; cases e321; replace hx321_0 := (HB.out.cell (World.block_lt_of_cell? w _ hx321_0)).trans hx321_0; replace p321 := eq_true p321; replace q321 := eq_true q321) | ((with_reducible refine gate_builtin (b := .append) (xs := #[.tmp 50, .tmp 57]) rfl ?_); (try (refine gate_guard (by rfl) ?_; dsimp only)); at_builtin; refine Kd.R_append k61 (w0 := w) w.heap.size rfl (.tmp 50) (.tmp 57) 43 61 (.agg #[(.int .u8 0), (.string ⟨#[]⟩), (.int .i64 0)]) 32 rfl Tryd.underlying43 info61 rfl (by decide) (by omega) v319 y318 (⟨2, (⟨#[]⟩ : ByteArray), rd l0_2 x4_2⟩ : S61) [.int .u8 2, .string (⟨#[]⟩ : ByteArray), .int .i64 (rd l0_2 x4_2)] (fun _ => True) (fun _ => False) rfl rfl ?aP (fun _ hk => hk.elim) ?aF ?aO ?aB ?aS ?aL ?_; (case aP => exact k61_mkM _ _ _ (⟨2, (⟨#[]⟩ : ByteArray), rd l0_2 x4_2⟩ : S61)); (case aB => exact (by repeat (first | (with_reducible first | exact HB.out | apply below_alloc | apply pw_below_drewN | apply below_drew1 | refine below_set ?_ GE292.out) | exact HB.out))); (case aF => exact (fun _ _ => trivial)); (case aO => exact (by (with_reducible repeat (first | apply Kd.R_alloc | apply Kd.R_drewN | apply Kd.R_drew)); exact HO320.out)); (case aS => exact (below_size (by repeat (first | (with_reducible first | exact HB.out | apply below_alloc | apply pw_below_drewN | apply below_drew1 | refine below_set ?_ GE292.out) | exact HB.out)))); (case aL => have := LMc30.out; omega); intro v323 w35 ho hb hg hat; rw [← Ny322.out] at ho; have n0_ := Aside0.mk (blk_grown (g := gb292) (o := .cells #[.int .u8 a0_0, .string a0_1, .slice (some ad321) l0_2.length c0_2, .slice A0_3 l0_3.length c0_3] 25 (0, 0)) (by (with_reducible repeat (first | refine blk_drewN ?_ _ | refine blk_drew ?_ | refine blk_alloc ?_ _)); exact BK292.out) hg (Kd.R_ne HO320.out BK292.out (by decide))); have n1_ := Aside0.mk (hb); have n2_ := Aside0.mk (ho); clear BK292; clear HB; clear HO320; have BK292 := n0_; have HB := n1_; have HO324 := n2_; clear n0_ n1_ n2_; clear ho hb hg hat))
                            go_roundg k2
                            case measure => have := HJ1.out; have := HK2.out; omega
                            case rel => exact ⟨(y322), (wrap64 (x4_2 + 1)), (by first | rfl | (simp; done) | (simp [*]; done)), H', ⟨by have := HJ1.out; have := HK2.out; omega⟩, ⟨by (with_reducible repeat (first | apply Kd.R_alloc | apply Kd.R_drewN | apply Kd.R_drew)); exact HO324.out⟩, ⟨by (with_reducible repeat (first | refine blk_drewN ?_ _ | refine blk_drew ?_ | refine blk_alloc ?_ _)); exact BK292.out⟩, ⟨by repeat (first | (with_reducible first | exact HB.out | apply below_alloc | apply pw_below_drewN | apply below_drew1 | refine below_set ?_ GE292.out) | exact HB.out)⟩⟩
                          · rw [if_neg c30] at H
                            exact absurd H (by simp)
                        · rw [if_neg c29] at H
                          exact absurd H (by simp)
                      · rw [if_neg c28] at H
                        have c28b0 : decide (x4_2 < (l0_2.length : Int)) = false := decide_eq_false c28
                        clear c28
                        obtain ⟨ji36, hji36⟩ : ∃ j_ : Int, (wrap64 (x4_2 - (l0_2.length : Int))) = j_ := ⟨_, rfl⟩
                        replace H : (if 0 ≤ (ji36) then (if (ji36) < (l0_3.length : Int) then ((epactref11_Words.f k2 ((rd_T25 l0_3 (ji36)).f0) ((rd_T25 l0_3 (ji36)).f1) ((rd_T25 l0_3 (ji36)).f2) ((rd_T25 l0_3 (ji36)).f3)).bind fun t326 => (if y318.length + t326.length < 4398046511104 then (epactref11_Words.l0 k2 (y318 ++ t326) (wrap64 (x4_2 + 1)) a0_0 a0_1 l0_2 l0_3) else (none))) else (none)) else (none)) = some r := by first | (rw [hji36] at H; exact H) | (simp only [hji36] at H ⊢; exact H)
                        (try rw [hji36] at A26)
                        have hji36w : (IntKind.i64.wrap (x4_2 - (l0_2.length : Int))) = ji36 := (i64_w _).trans hji36
                        by_cases c37 : 0 ≤ (ji36)
                        · rw [if_pos c37] at H
                          have c37b0 : decide (0 ≤ (ji36)) = true := decide_eq_true c37
                          clear c37
                          by_cases c38 : (ji36) < (l0_3.length : Int)
                          · rw [if_pos c38] at H
                            have c38b0 : decide ((ji36) < (l0_3.length : Int)) = true := decide_eq_true c38
                            clear c38
                            replace H := Option.bind_eq_some_iff.mp H
                            obtain ⟨t326, A390, H⟩ := H
                            replace H : (if y318.length + t326.length < 4398046511104 then (epactref11_Words.l0 k2 (y318 ++ t326) (wrap64 (x4_2 + 1)) a0_0 a0_1 l0_2 l0_3) else (none)) = some r := H
                            have A39 := Aside0.mk A390
                            clear A390
                            by_cases c40 : y318.length + t326.length < 4398046511104
                            · rw [if_pos c40] at H
                              have LMc40 := Aside0.mk c40
                              clear c40
                              obtain ⟨y329, hy329⟩ : ∃ y_ : List (S61), y_ = (y318 ++ t326) := ⟨_, rfl⟩
                              replace H : (epactref11_Words.l0 k2 y329 (wrap64 (x4_2 + 1)) a0_0 a0_1 l0_2 l0_3) = some r := by first | (rw [hy329]; with_reducible exact H) | (have H2_ := (Option.bind_some _ _).symm.trans H; rw [hy329]; with_reducible exact H2_) | (have H2_ := (Option.bind_some _ _).symm.trans H; with_reducible exact H2_) | with_reducible exact H | (rw [hy329]; exact H) | exact H
                              have Ny329 := Aside0.mk hy329
                              clear hy329
                              have H' := Aside0.mk H
                              clear H
                              have hcz41_0 : wr.cell? ⟨gb292, 0, none⟩ = some (.int .u8 a0_0) := (blk_cell BK292.out 0).trans rfl
                              have hcz41_1 : wr.cell? ⟨gb292, 1, none⟩ = some (.string a0_1) := (blk_cell BK292.out 1).trans rfl
                              have hcz41_2 : wr.cell? ⟨gb292, 2, none⟩ = some (.slice A0_2 l0_2.length c0_2) := (blk_cell BK292.out 2).trans rfl
                              have hcz41_3 : wr.cell? ⟨gb292, 3, none⟩ = some (.slice A0_3 l0_3.length c0_3) := (blk_cell BK292.out 3).trans rfl
                              have hfz41_0 := blk_frozen BK292.out 0
                              have hfz41_1 := blk_frozen BK292.out 1
                              have hfz41_2 := blk_frozen BK292.out 2
                              have hfz41_3 := blk_frozen BK292.out 3
                              go_wp2_with (first | ((with_reducible refine gate_callee (f := 73) rfl ?_); refine goesL_ (some 42) rfl rfl Tryd.func73 (by kernel_rfl) rfl #[.string (⟨#[44]⟩ : ByteArray)] rfl (by (try simp only [List.map_toArray, List.map_cons, List.map_nil]); first | done | rfl | (simp only [List.length_drop, List.length_take]; rfl)) ?_; (with_reducible refine (epactref11_mark.calls (⟨#[44]⟩ : ByteArray) t315 t316 t317 _ A26.out).mono ?_); rintro e w42 ⟨rfl, hb⟩; refine ⟨_, rfl, ?_⟩; have n0_ := Aside0.mk (Kd.R_below (by (with_reducible repeat (first | apply Kd.R_alloc | apply Kd.R_drewN | apply Kd.R_drew)); exact HO_3.out) hb); have n1_ := Aside0.mk (blk_below (g := gb292) (o := .cells #[.int .u8 a0_0, .string a0_1, .slice A0_2 l0_2.length c0_2, .slice A0_3 l0_3.length c0_3] 25 (0, 0)) (by (with_reducible repeat (first | refine blk_drewN ?_ _ | refine blk_drew ?_ | refine blk_alloc ?_ _)); exact BK292.out) hb); have n2_ := Aside0.mk (below_step (by repeat (first | (with_reducible first | exact HB.out | apply below_alloc | apply pw_below_drewN | apply below_drew1 | refine below_set ?_ GE292.out) | exact HB.out)) hb); clear HO_3; clear BK292; clear HB; have HO_3 := n0_; have BK292 := n1_; have HB := n2_; clear n0_ n1_ n2_; (try clear hb); (try clear hb2); (try clear hk); (try clear hi)) | ((with_reducible refine gate_builtin (b := .append) (xs := #[.tmp 41, .tmp 43]) rfl ?_); (try (refine gate_guard (by rfl) ?_; dsimp only)); at_builtin; refine Kd.R_append k61 (w0 := w) w.heap.size rfl (.tmp 41) (.tmp 43) 43 61 (.agg #[(.int .u8 0), (.string ⟨#[]⟩), (.int .i64 0)]) 32 rfl Tryd.underlying43 info61 rfl (by decide) (by omega) u3 x3_2 (⟨t315, t316, t317⟩ : S61) [.int .u8 t315, .string t316, .int .i64 t317] (fun _ => True) (fun _ => False) rfl rfl ?aP (fun _ hk => hk.elim) ?aF ?aO ?aB ?aS ?aL ?_; (case aP => exact k61_mkM _ _ _ (⟨t315, t316, t317⟩ : S61)); (case aB => exact (by repeat (first | (with_reducible first | exact HB.out | apply below_alloc | apply pw_below_drewN | apply below_drew1 | refine below_set ?_ GE292.out) | exact HB.out))); (case aF => exact (fun _ _ => trivial)); (case aO => exact (by (with_reducible repeat (first | apply Kd.R_alloc | apply Kd.R_drewN | apply Kd.R_drew)); exact HO_3.out)); (case aS => exact (below_size (by repeat (first | (with_reducible first | exact HB.out | apply below_alloc | apply pw_below_drewN | apply below_drew1 | refine below_set ?_ GE292.out) | exact HB.out)))); (case aL => have := LMc27.out; omega); intro v319 w43 ho hb hg hat; rw [← Ny318.out] at ho; have n0_ := Aside0.mk (blk_grown (g := gb292) (o := .cells #[.int .u8 a0_0, .string a0_1, .slice A0_2 l0_2.length c0_2, .slice A0_3 l0_3.length c0_3] 25 (0, 0)) (by (with_reducible repeat (first | refine blk_drewN ?_ _ | refine blk_drew ?_ | refine blk_alloc ?_ _)); exact BK292.out) hg (Kd.R_ne HO_3.out BK292.out (by decide))); have n1_ := Aside0.mk (hb); have n2_ := Aside0.mk (ho); clear BK292; clear HB; clear HO_3; have BK292 := n0_; have HB := n1_; have HO320 := n2_; clear n0_ n1_ n2_; clear ho hb hg hat; have hcz44_0 : w43.cell? ⟨gb292, 0, none⟩ = some (.int .u8 a0_0) := (blk_cell BK292.out 0).trans rfl; have hcz44_1 : w43.cell? ⟨gb292, 1, none⟩ = some (.string a0_1) := (blk_cell BK292.out 1).trans rfl; have hcz44_2 : w43.cell? ⟨gb292, 2, none⟩ = some (.slice A0_2 l0_2.length c0_2) := (blk_cell BK292.out 2).trans rfl; have hcz44_3 : w43.cell? ⟨gb292, 3, none⟩ = some (.slice A0_3 l0_3.length c0_3) := (blk_cell BK292.out 3).trans rfl; have hfz44_0 := blk_frozen BK292.out 0; have hfz44_1 := blk_frozen BK292.out 1; have hfz44_2 := blk_frozen BK292.out 2; have hfz44_3 := blk_frozen BK292.out 3; have p325 : 0 ≤ ((ji36) : Int) := of_decide_eq_true (by first | (with_reducible assumption) | assumption); have q325 : (ji36) < (l0_3.length : Int) := of_decide_eq_true (by first | (with_reducible assumption) | assumption); obtain ⟨ad325, A325_2, c325_2, A325_3, c325_3, e325, hx325_0, hx325_1, hx325_2, hx325_3, hl325_2, hi325_2, hl325_3, hi325_3⟩ := at_T25 HR0_3.out (ji36) p325 q325; cases e325; replace hx325_0 := (HB.out.cell (World.block_lt_of_cell? w _ hx325_0)).trans hx325_0; replace hx325_1 := (HB.out.cell (World.block_lt_of_cell? w _ hx325_1)).trans hx325_1; replace hx325_2 := (HB.out.cell (World.block_lt_of_cell? w _ hx325_2)).trans hx325_2; replace hx325_3 := (HB.out.cell (World.block_lt_of_cell? w _ hx325_3)).trans hx325_3; have HR325_2 := Aside0.mk hi325_2; have HC325_2 := Aside0.mk hl325_2; clear hi325_2 hl325_2; have HR325_3 := Aside0.mk hi325_3; have HC325_3 := Aside0.mk hl325_3; clear hi325_3 hl325_3; replace p325 := eq_true p325; replace q325 := eq_true q325) | ((with_reducible refine gate_callee (f := 41) rfl ?_); refine goesL_ (some 69) rfl rfl Tryd.func41 (by kernel_rfl) rfl #[.agg #[.int .u8 ((rd_T25 l0_3 (ji36)).f0), .string ((rd_T25 l0_3 (ji36)).f1), .slice A325_2 ((rd_T25 l0_3 (ji36)).f2).length c325_2, .slice A325_3 ((rd_T25 l0_3 (ji36)).f3).length c325_3]] rfl (by (try simp only [List.map_toArray, List.map_cons, List.map_nil]); first | done | (simp only [hji36]; rfl) | rfl | (simp only [List.length_drop, List.length_take]; rfl)) ?_; (with_reducible refine (ih k2 (by have := HJ1.out; have := HK2.out; omega) ((rd_T25 l0_3 (ji36)).f0) ((rd_T25 l0_3 (ji36)).f1) _ _ ((rd_T25 l0_3 (ji36)).f2) _ _ ((rd_T25 l0_3 (ji36)).f3) t326 _ ?side1 ?side2 ?side3 ?side4 A39.out).mono ?_); (case side1 => repeat (first | exact (Kd.C_below HR325_2.out HB.out) | (with_reducible refine Kd.C_alloc ?_ _) | (with_reducible refine Kd.C_drewN ?_ _) | (with_reducible refine Kd.C_drew ?_))); (case side2 => exact HC325_2.out); (case side3 => repeat (first | exact (Kd.C_below HR325_3.out HB.out) | (with_reducible refine Kd.C_alloc ?_ _) | (with_reducible refine Kd.C_drewN ?_ _) | (with_reducible refine Kd.C_drew ?_))); (case side4 => exact HC325_3.out); rintro e w45 ⟨v327, rfl, ho0, hb⟩; refine ⟨_, rfl, ?_⟩; have n0_ := Aside0.mk (Kd.R_elder' (by (with_reducible repeat (first | apply Kd.R_alloc | apply Kd.R_drewN | apply Kd.R_drew)); exact HO320.out) (Kd.R_base ho0) hb); have n1_ := Aside0.mk (Kd.R_lower (Kd.R_new' ho0 (Kd.R_lt (by (with_reducible repeat (first | apply Kd.R_alloc | apply Kd.R_drewN | apply Kd.R_drew)); exact HO320.out))) (below_size (by repeat (first | (with_reducible first | exact HB.out | apply below_alloc | apply pw_below_drewN | apply below_drew1 | refine below_set ?_ GE292.out) | exact HB.out)))); have n2_ := Aside0.mk (blk_below (g := gb292) (o := .cells #[.int .u8 a0_0, .string a0_1, .slice A0_2 l0_2.length c0_2, .slice (some ad325) l0_3.length c0_3] 25 (0, 0)) (by (with_reducible repeat (first | refine blk_drewN ?_ _ | refine blk_drew ?_ | refine blk_alloc ?_ _)); exact BK292.out) hb); have n3_ := Aside0.mk (below_step (by repeat (first | (with_reducible first | exact HB.out | apply below_alloc | apply pw_below_drewN | apply below_drew1 | refine below_set ?_ GE292.out) | exact HB.out)) hb); clear HO320; clear BK292; clear HB; have HO320 := n0_; have HO328 := n1_; have BK292 := n2_; have HB := n3_; clear n0_ n1_ n2_ n3_; (try clear hb); (try clear hb2); (try clear hk); (try clear hi); (try clear ho0); obtain ⟨Ao47, co47, eo47⟩ := Kd.R_slice HO328.out; subst eo47) | ((with_reducible refine gate_builtin (b := .append) (xs := #[.tmp 59, .tmp 69]) rfl ?_); (try (refine gate_guard (by rfl) ?_; dsimp only)); at_builtin; refine Kd.R_append_rows k61 (w0 := w) w.heap.size rfl (.tmp 59) (.tmp 69) 43 61 (.agg #[(.int .u8 0), (.string ⟨#[]⟩), (.int .i64 0)]) 32 rfl Tryd.underlying43 info61 rfl (by decide) (by omega) v319 y318 t326 _ _ _ (fun k_ => some k_ ≠ (.slice Ao47 t326.length co47 : Value).ownBlock) (fun _ => False) rfl rfl ?aO ?aR (fun _ _ h => h) (fun _ h => h.elim) ?aF ?aB ?aS ?aL ?_; (case aR => repeat (first | exact (Kd.R_reads' HO328.out).2.2 | (with_reducible refine Kd.C_alloc ?_ _) | (with_reducible refine Kd.C_drewN ?_ _) | (with_reducible refine Kd.C_drew ?_))); (case aB => exact (by repeat (first | (with_reducible first | exact HB.out | apply below_alloc | apply pw_below_drewN | apply below_drew1 | refine below_set ?_ GE292.out) | exact HB.out))); (case aF => exact (fun k_ hk => Kd.fresh' (Kd.R_lt (by (with_reducible repeat (first | apply Kd.R_alloc | apply Kd.R_drewN | apply Kd.R_drew)); exact HO328.out)) k_ hk)); (case aO => exact (by (with_reducible repeat (first | apply Kd.R_alloc | apply Kd.R_drewN | apply Kd.R_drew)); exact Kd.R_mono HO320.out (fun _ hk => hk.2))); (case aS => exact (below_size (by repeat (first | (with_reducible first | exact HB.out | apply below_alloc | apply pw_below_drewN | apply below_drew1 | refine below_set ?_ GE292.out) | exact HB.out)))); (case aL => have := LMc40.out; omega); intro v330 w46 ho hb hg hat; rw [← Ny329.out] at ho; have n0_ := Aside0.mk (blk_grown (g := gb292) (o := .cells #[.int .u8 a0_0, .string a0_1, .slice A0_2 l0_2.length c0_2, .slice (some ad325) l0_3.length c0_3] 25 (0, 0)) (by (with_reducible repeat (first | refine blk_drewN ?_ _ | refine blk_drew ?_ | refine blk_alloc ?_ _)); exact BK292.out) hg (Kd.R_ne HO320.out BK292.out (by decide))); have n1_ := Aside0.mk (Kd.R_after (ok := (fun _ => True)) (by (with_reducible repeat (first | apply Kd.R_alloc | apply Kd.R_drewN | apply Kd.R_drew)); exact HO328.out) hg hat); have n2_ := Aside0.mk (hb); have n3_ := Aside0.mk (ho); clear BK292; clear HO328; clear HB; clear HO320; have BK292 := n0_; have HO328 := n1_; have HB := n2_; have HO331 := n3_; clear n0_ n1_ n2_ n3_; clear ho hb hg hat))
                              go_roundg k2
                              case measure => have := HJ1.out; have := HK2.out; omega
                              case rel => exact ⟨(y329), (wrap64 (x4_2 + 1)), (by first | rfl | (simp; done) | (simp [*]; done)), H', ⟨by have := HJ1.out; have := HK2.out; omega⟩, ⟨by (with_reducible repeat (first | apply Kd.R_alloc | apply Kd.R_drewN | apply Kd.R_drew)); exact Kd.R_mono HO331.out (fun _ hk => trivial)⟩, ⟨by (with_reducible repeat (first | refine blk_drewN ?_ _ | refine blk_drew ?_ | refine blk_alloc ?_ _)); exact BK292.out⟩, ⟨by repeat (first | (with_reducible first | exact HB.out | apply below_alloc | apply pw_below_drewN | apply below_drew1 | refine below_set ?_ GE292.out) | exact HB.out)⟩⟩
                            · rw [if_neg c40] at H
                              exact absurd H (by simp)
                          · rw [if_neg c38] at H
                            exact absurd H (by simp)
                        · rw [if_neg c37] at H
                          exact absurd H (by simp)
                    · rw [if_neg c27] at H
                      exact absurd H (by simp)
                  · rw [if_neg c25] at H
                    have c25b0 : decide (0 < x4_2) = false := decide_eq_false c25
                    clear c25
                    by_cases c48 : x4_2 < (l0_2.length : Int)
                    · rw [if_pos c48] at H
                      have c48b0 : decide (x4_2 < (l0_2.length : Int)) = true := decide_eq_true c48
                      clear c48
                      by_cases c49 : 0 ≤ x4_2
                      · rw [if_pos c49] at H
                        have c49b0 : decide (0 ≤ x4_2) = true := decide_eq_true c49
                        clear c49
                        by_cases c50 : x3_2.length < 4398046511104
                        · rw [if_pos c50] at H
                          have LMc50 := Aside0.mk c50
                          clear c50
                          obtain ⟨y333, hy333⟩ : ∃ y_ : List (S61), y_ = (x3_2 ++ [(⟨2, (⟨#[]⟩ : ByteArray), rd l0_2 x4_2⟩ : S61)]) := ⟨_, rfl⟩
                          replace H : (epactref11_Words.l0 k2 y333 (wrap64 (x4_2 + 1)) a0_0 a0_1 l0_2 l0_3) = some r := by first | (rw [hy333]; with_reducible exact H) | (have H2_ := (Option.bind_some _ _).symm.trans H; rw [hy333]; with_reducible exact H2_) | (have H2_ := (Option.bind_some _ _).symm.trans H; with_reducible exact H2_) | with_reducible exact H | (rw [hy333]; exact H) | exact H
                          have Ny333 := Aside0.mk hy333
                          clear hy333
                          have H' := Aside0.mk H
                          clear H
                          have hcz51_0 : wr.cell? ⟨gb292, 0, none⟩ = some (.int .u8 a0_0) := (blk_cell BK292.out 0).trans rfl
                          have hcz51_1 : wr.cell? ⟨gb292, 1, none⟩ = some (.string a0_1) := (blk_cell BK292.out 1).trans rfl
                          have hcz51_2 : wr.cell? ⟨gb292, 2, none⟩ = some (.slice A0_2 l0_2.length c0_2) := (blk_cell BK292.out 2).trans rfl
                          have hcz51_3 : wr.cell? ⟨gb292, 3, none⟩ = some (.slice A0_3 l0_3.length c0_3) := (blk_cell BK292.out 3).trans rfl
                          have hfz51_0 := blk_frozen BK292.out 0
                          have hfz51_1 := blk_frozen BK292.out 1
                          have hfz51_2 := blk_frozen BK292.out 2
                          have hfz51_3 := blk_frozen BK292.out 3
                          have p332 : 0 ≤ (x4_2 : Int) := of_decide_eq_true (by first | (with_reducible assumption) | assumption)
                          have q332 : x4_2 < (l0_2.length : Int) := of_decide_eq_true (by first | (with_reducible assumption) | assumption)
                          obtain ⟨ad332, e332, hx332_0⟩ := Kd.at_int HR0_2.out x4_2 p332 q332
                          cases e332
                          replace hx332_0 := (HB.out.cell (World.block_lt_of_cell? w _ hx332_0)).trans hx332_0
                          replace p332 := eq_true p332
                          replace q332 := eq_true q332
                          go_wp2_with (first | ((with_reducible refine gate_builtin (b := .append) (xs := #[.tmp 50, .tmp 57]) rfl ?_); (try (refine gate_guard (by rfl) ?_; dsimp only)); at_builtin; refine Kd.R_append k61 (w0 := w) w.heap.size rfl (.tmp 50) (.tmp 57) 43 61 (.agg #[(.int .u8 0), (.string ⟨#[]⟩), (.int .i64 0)]) 32 rfl Tryd.underlying43 info61 rfl (by decide) (by omega) u3 x3_2 (⟨2, (⟨#[]⟩ : ByteArray), rd l0_2 x4_2⟩ : S61) [.int .u8 2, .string (⟨#[]⟩ : ByteArray), .int .i64 (rd l0_2 x4_2)] (fun _ => True) (fun _ => False) rfl rfl ?aP (fun _ hk => hk.elim) ?aF ?aO ?aB ?aS ?aL ?_; (case aP => exact k61_mkM _ _ _ (⟨2, (⟨#[]⟩ : ByteArray), rd l0_2 x4_2⟩ : S61)); (case aB => exact (by repeat (first | (with_reducible first | exact HB.out | apply below_alloc | apply pw_below_drewN | apply below_drew1 | refine below_set ?_ GE292.out) | exact HB.out))); (case aF => exact (fun _ _ => trivial)); (case aO => exact (by (with_reducible repeat (first | apply Kd.R_alloc | apply Kd.R_drewN | apply Kd.R_drew)); exact HO_3.out)); (case aS => exact (below_size (by repeat (first | (with_reducible first | exact HB.out | apply below_alloc | apply pw_below_drewN | apply below_drew1 | refine below_set ?_ GE292.out) | exact HB.out)))); (case aL => have := LMc50.out; omega); intro v334 w52 ho hb hg hat; rw [← Ny333.out] at ho; have n0_ := Aside0.mk (blk_grown (g := gb292) (o := .cells #[.int .u8 a0_0, .string a0_1, .slice (some ad332) l0_2.length c0_2, .slice A0_3 l0_3.length c0_3] 25 (0, 0)) (by (with_reducible repeat (first | refine blk_drewN ?_ _ | refine blk_drew ?_ | refine blk_alloc ?_ _)); exact BK292.out) hg (Kd.R_ne HO_3.out BK292.out (by decide))); have n1_ := Aside0.mk (hb); have n2_ := Aside0.mk (ho); clear BK292; clear HB; clear HO_3; have BK292 := n0_; have HB := n1_; have HO335 := n2_; clear n0_ n1_ n2_; clear ho hb hg hat))
                          go_roundg k2
                          case measure => have := HJ1.out; have := HK2.out; omega
                          case rel => exact ⟨(y333), (wrap64 (x4_2 + 1)), (by first | rfl | (simp; done) | (simp [*]; done)), H', ⟨by have := HJ1.out; have := HK2.out; omega⟩, ⟨by (with_reducible repeat (first | apply Kd.R_alloc | apply Kd.R_drewN | apply Kd.R_drew)); exact HO335.out⟩, ⟨by (with_reducible repeat (first | refine blk_drewN ?_ _ | refine blk_drew ?_ | refine blk_alloc ?_ _)); exact BK292.out⟩, ⟨by repeat (first | (with_reducible first | exact HB.out | apply below_alloc | apply pw_below_drewN | apply below_drew1 | refine below_set ?_ GE292.out) | exact HB.out)⟩⟩
                        · rw [if_neg c50] at H
                          exact absurd H (by simp)
                      · rw [if_neg c49] at H
                        exact absurd H (by simp)
                    · rw [if_neg c48] at H
                      have c48b0 : decide (x4_2 < (l0_2.length : Int)) = false := decide_eq_false c48
                      clear c48
                      obtain ⟨ji53, hji53⟩ : ∃ j_ : Int, (wrap64 (x4_2 - (l0_2.length : Int))) = j_ := ⟨_, rfl⟩
                      replace H : (if 0 ≤ (ji53) then (if (ji53) < (l0_3.length : Int) then ((epactref11_Words.f k2 ((rd_T25 l0_3 (ji53)).f0) ((rd_T25 l0_3 (ji53)).f1) ((rd_T25 l0_3 (ji53)).f2) ((rd_T25 l0_3 (ji53)).f3)).bind fun t337 => (if x3_2.length + t337.length < 4398046511104 then (epactref11_Words.l0 k2 (x3_2 ++ t337) (wrap64 (x4_2 + 1)) a0_0 a0_1 l0_2 l0_3) else (none))) else (none)) else (none)) = some r := by first | (rw [hji53] at H; exact H) | (simp only [hji53] at H ⊢; exact H)
                      have hji53w : (IntKind.i64.wrap (x4_2 - (l0_2.length : Int))) = ji53 := (i64_w _).trans hji53
                      by_cases c54 : 0 ≤ (ji53)
                      · rw [if_pos c54] at H
                        have c54b0 : decide (0 ≤ (ji53)) = true := decide_eq_true c54
                        clear c54
                        by_cases c55 : (ji53) < (l0_3.length : Int)
                        · rw [if_pos c55] at H
                          have c55b0 : decide ((ji53) < (l0_3.length : Int)) = true := decide_eq_true c55
                          clear c55
                          replace H := Option.bind_eq_some_iff.mp H
                          obtain ⟨t337, A560, H⟩ := H
                          replace H : (if x3_2.length + t337.length < 4398046511104 then (epactref11_Words.l0 k2 (x3_2 ++ t337) (wrap64 (x4_2 + 1)) a0_0 a0_1 l0_2 l0_3) else (none)) = some r := H
                          have A56 := Aside0.mk A560
                          clear A560
                          by_cases c57 : x3_2.length + t337.length < 4398046511104
                          · rw [if_pos c57] at H
                            have LMc57 := Aside0.mk c57
                            clear c57
                            obtain ⟨y340, hy340⟩ : ∃ y_ : List (S61), y_ = (x3_2 ++ t337) := ⟨_, rfl⟩
                            replace H : (epactref11_Words.l0 k2 y340 (wrap64 (x4_2 + 1)) a0_0 a0_1 l0_2 l0_3) = some r := by first | (rw [hy340]; with_reducible exact H) | (have H2_ := (Option.bind_some _ _).symm.trans H; rw [hy340]; with_reducible exact H2_) | (have H2_ := (Option.bind_some _ _).symm.trans H; with_reducible exact H2_) | with_reducible exact H | (rw [hy340]; exact H) | exact H
                            have Ny340 := Aside0.mk hy340
                            clear hy340
                            have H' := Aside0.mk H
                            clear H
                            have hcz58_0 : wr.cell? ⟨gb292, 0, none⟩ = some (.int .u8 a0_0) := (blk_cell BK292.out 0).trans rfl
                            have hcz58_1 : wr.cell? ⟨gb292, 1, none⟩ = some (.string a0_1) := (blk_cell BK292.out 1).trans rfl
                            have hcz58_2 : wr.cell? ⟨gb292, 2, none⟩ = some (.slice A0_2 l0_2.length c0_2) := (blk_cell BK292.out 2).trans rfl
                            have hcz58_3 : wr.cell? ⟨gb292, 3, none⟩ = some (.slice A0_3 l0_3.length c0_3) := (blk_cell BK292.out 3).trans rfl
                            have hfz58_0 := blk_frozen BK292.out 0
                            have hfz58_1 := blk_frozen BK292.out 1
                            have hfz58_2 := blk_frozen BK292.out 2
                            have hfz58_3 := blk_frozen BK292.out 3
                            have p336 : 0 ≤ ((ji53) : Int) := of_decide_eq_true (by first | (with_reducible assumption) | assumption)
                            have q336 : (ji53) < (l0_3.length : Int) := of_decide_eq_true (by first | (with_reducible assumption) | assumption)
                            obtain ⟨ad336, A336_2, c336_2, A336_3, c336_3, e336, hx336_0, hx336_1, hx336_2, hx336_3, hl336_2, hi336_2, hl336_3, hi336_3⟩ := at_T25 HR0_3.out (ji53) p336 q336
                            cases e336
                            replace hx336_0 := (HB.out.cell (World.block_lt_of_cell? w _ hx336_0)).trans hx336_0
                            replace hx336_1 := (HB.out.cell (World.block_lt_of_cell? w _ hx336_1)).trans hx336_1
                            replace hx336_2 := (HB.out.cell (World.block_lt_of_cell? w _ hx336_2)).trans hx336_2
                            replace hx336_3 := (HB.out.cell (World.block_lt_of_cell? w _ hx336_3)).trans hx336_3
                            have HR336_2 := Aside0.mk hi336_2
                            have HC336_2 := Aside0.mk hl336_2
                            clear hi336_2 hl336_2
                            have HR336_3 := Aside0.mk hi336_3
                            have HC336_3 := Aside0.mk hl336_3
                            clear hi336_3 hl336_3
                            replace p336 := eq_true p336
                            replace q336 := eq_true q336
                            go_wp2_with (first | ((with_reducible refine gate_callee (f := 41) rfl ?_); refine goesL_ (some 69) rfl rfl Tryd.func41 (by kernel_rfl) rfl #[.agg #[.int .u8 ((rd_T25 l0_3 (ji53)).f0), .string ((rd_T25 l0_3 (ji53)).f1), .slice A336_2 ((rd_T25 l0_3 (ji53)).f2).length c336_2, .slice A336_3 ((rd_T25 l0_3 (ji53)).f3).length c336_3]] rfl (by (try simp only [List.map_toArray, List.map_cons, List.map_nil]); first | done | (simp only [hji53]; rfl) | rfl | (simp only [List.length_drop, List.length_take]; rfl)) ?_; (with_reducible refine (ih k2 (by have := HJ1.out; have := HK2.out; omega) ((rd_T25 l0_3 (ji53)).f0) ((rd_T25 l0_3 (ji53)).f1) _ _ ((rd_T25 l0_3 (ji53)).f2) _ _ ((rd_T25 l0_3 (ji53)).f3) t337 _ ?side1 ?side2 ?side3 ?side4 A56.out).mono ?_); (case side1 => repeat (first | exact (Kd.C_below HR336_2.out HB.out) | (with_reducible refine Kd.C_alloc ?_ _) | (with_reducible refine Kd.C_drewN ?_ _) | (with_reducible refine Kd.C_drew ?_))); (case side2 => exact HC336_2.out); (case side3 => repeat (first | exact (Kd.C_below HR336_3.out HB.out) | (with_reducible refine Kd.C_alloc ?_ _) | (with_reducible refine Kd.C_drewN ?_ _) | (with_reducible refine Kd.C_drew ?_))); (case side4 => exact HC336_3.out); rintro e w59 ⟨v338, rfl, ho0, hb⟩; refine ⟨_, rfl, ?_⟩; have n0_ := Aside0.mk (Kd.R_elder' (by (with_reducible repeat (first | apply Kd.R_alloc | apply Kd.R_drewN | apply Kd.R_drew)); exact HO_3.out) (Kd.R_base ho0) hb); have n1_ := Aside0.mk (Kd.R_lower (Kd.R_new' ho0 (Kd.R_lt (by (with_reducible repeat (first | apply Kd.R_alloc | apply Kd.R_drewN | apply Kd.R_drew)); exact HO_3.out))) (below_size (by repeat (first | (with_reducible first | exact HB.out | apply below_alloc | apply pw_below_drewN | apply below_drew1 | refine below_set ?_ GE292.out) | exact HB.out)))); have n2_ := Aside0.mk (blk_below (g := gb292) (o := .cells #[.int .u8 a0_0, .string a0_1, .slice A0_2 l0_2.length c0_2, .slice (some ad336) l0_3.length c0_3] 25 (0, 0)) (by (with_reducible repeat (first | refine blk_drewN ?_ _ | refine blk_drew ?_ | refine blk_alloc ?_ _)); exact BK292.out) hb); have n3_ := Aside0.mk (below_step (by repeat (first | (with_reducible first | exact HB.out | apply below_alloc | apply pw_below_drewN | apply below_drew1 | refine below_set ?_ GE292.out) | exact HB.out)) hb); clear HO_3; clear BK292; clear HB; have HO_3 := n0_; have HO339 := n1_; have BK292 := n2_; have HB := n3_; clear n0_ n1_ n2_ n3_; (try clear hb); (try clear hb2); (try clear hk); (try clear hi); (try clear ho0); obtain ⟨Ao61, co61, eo61⟩ := Kd.R_slice HO339.out; subst eo61) | ((with_reducible refine gate_builtin (b := .append) (xs := #[.tmp 59, .tmp 69]) rfl ?_); (try (refine gate_guard (by rfl) ?_; dsimp only)); at_builtin; refine Kd.R_append_rows k61 (w0 := w) w.heap.size rfl (.tmp 59) (.tmp 69) 43 61 (.agg #[(.int .u8 0), (.string ⟨#[]⟩), (.int .i64 0)]) 32 rfl Tryd.underlying43 info61 rfl (by decide) (by omega) u3 x3_2 t337 _ _ _ (fun k_ => some k_ ≠ (.slice Ao61 t337.length co61 : Value).ownBlock) (fun _ => False) rfl rfl ?aO ?aR (fun _ _ h => h) (fun _ h => h.elim) ?aF ?aB ?aS ?aL ?_; (case aR => repeat (first | exact (Kd.R_reads' HO339.out).2.2 | (with_reducible refine Kd.C_alloc ?_ _) | (with_reducible refine Kd.C_drewN ?_ _) | (with_reducible refine Kd.C_drew ?_))); (case aB => exact (by repeat (first | (with_reducible first | exact HB.out | apply below_alloc | apply pw_below_drewN | apply below_drew1 | refine below_set ?_ GE292.out) | exact HB.out))); (case aF => exact (fun k_ hk => Kd.fresh' (Kd.R_lt (by (with_reducible repeat (first | apply Kd.R_alloc | apply Kd.R_drewN | apply Kd.R_drew)); exact HO339.out)) k_ hk)); (case aO => exact (by (with_reducible repeat (first | apply Kd.R_alloc | apply Kd.R_drewN | apply Kd.R_drew)); exact Kd.R_mono HO_3.out (fun _ hk => hk.2))); (case aS => exact (below_size (by repeat (first | (with_reducible first | exact HB.out | apply below_alloc | apply pw_below_drewN | apply below_drew1 | refine below_set ?_ GE292.out) | exact HB.out)))); (case aL => have := LMc57.out; omega); intro v341 w60 ho hb hg hat; rw [← Ny340.out] at ho; have n0_ := Aside0.mk (blk_grown (g := gb292) (o := .cells #[.int .u8 a0_0, .string a0_1, .slice A0_2 l0_2.length c0_2, .slice (some ad336) l0_3.length c0_3] 25 (0, 0)) (by (with_reducible repeat (first | refine blk_drewN ?_ _ | refine blk_drew ?_ | refine blk_alloc ?_ _)); exact BK292.out) hg (Kd.R_ne HO_3.out BK292.out (by decide))); have n1_ := Aside0.mk (Kd.R_after (ok := (fun _ => True)) (by (with_reducible repeat (first | apply Kd.R_alloc | apply Kd.R_drewN | apply Kd.R_drew)); exact HO339.out) hg hat); have n2_ := Aside0.mk (hb); have n3_ := Aside0.mk (ho); clear BK292; clear HO339; clear HB; clear HO_3; have BK292 := n0_; have HO339 := n1_; have HB := n2_; have HO342 := n3_; clear n0_ n1_ n2_ n3_; clear ho hb hg hat))
                            go_roundg k2
                            case measure => have := HJ1.out; have := HK2.out; omega
                            case rel => exact ⟨(y340), (wrap64 (x4_2 + 1)), (by first | rfl | (simp; done) | (simp [*]; done)), H', ⟨by have := HJ1.out; have := HK2.out; omega⟩, ⟨by (with_reducible repeat (first | apply Kd.R_alloc | apply Kd.R_drewN | apply Kd.R_drew)); exact Kd.R_mono HO342.out (fun _ hk => trivial)⟩, ⟨by (with_reducible repeat (first | refine blk_drewN ?_ _ | refine blk_drew ?_ | refine blk_alloc ?_ _)); exact BK292.out⟩, ⟨by repeat (first | (with_reducible first | exact HB.out | apply below_alloc | apply pw_below_drewN | apply below_drew1 | refine below_set ?_ GE292.out) | exact HB.out)⟩⟩
                          · rw [if_neg c57] at H
                            exact absurd H (by simp)
                        · rw [if_neg c55] at H
                          exact absurd H (by simp)
                      · rw [if_neg c54] at H
                        exact absurd H (by simp)
                · rw [if_neg c24] at H
                  have c24b0 : decide (x4_2 < (wrap64 ((l0_2.length : Int) + (l0_3.length : Int)))) = false := decide_eq_false c24
                  clear c24
                  replace H := Option.bind_eq_some_iff.mp H
                  obtain ⟨⟨t309, t310, t311⟩, A620, H⟩ := H
                  replace H : (if x3_2.length < 4398046511104 then (some (x3_2 ++ [(⟨t309, t310, t311⟩ : S61)])) else (none)) = some r := H
                  have A62 := Aside0.mk A620
                  clear A620
                  by_cases c63 : x3_2.length < 4398046511104
                  · rw [if_pos c63] at H
                    have LMc63 := Aside0.mk c63
                    clear c63
                    obtain ⟨y312, hy312⟩ : ∃ y_ : List (S61), y_ = (x3_2 ++ [(⟨t309, t310, t311⟩ : S61)]) := ⟨_, rfl⟩
                    replace H : (some y312) = some r := by first | (rw [hy312]; with_reducible exact H) | (have H2_ := (Option.bind_some _ _).symm.trans H; rw [hy312]; with_reducible exact H2_) | (have H2_ := (Option.bind_some _ _).symm.trans H; with_reducible exact H2_) | with_reducible exact H | (rw [hy312]; exact H) | exact H
                    have Ny312 := Aside0.mk hy312
                    clear hy312
                    obtain rfl := Option.some.inj H
                    have hcz64_0 : wr.cell? ⟨gb292, 0, none⟩ = some (.int .u8 a0_0) := (blk_cell BK292.out 0).trans rfl
                    have hcz64_1 : wr.cell? ⟨gb292, 1, none⟩ = some (.string a0_1) := (blk_cell BK292.out 1).trans rfl
                    have hcz64_2 : wr.cell? ⟨gb292, 2, none⟩ = some (.slice A0_2 l0_2.length c0_2) := (blk_cell BK292.out 2).trans rfl
                    have hcz64_3 : wr.cell? ⟨gb292, 3, none⟩ = some (.slice A0_3 l0_3.length c0_3) := (blk_cell BK292.out 3).trans rfl
                    have hfz64_0 := blk_frozen BK292.out 0
                    have hfz64_1 := blk_frozen BK292.out 1
                    have hfz64_2 := blk_frozen BK292.out 2
                    have hfz64_3 := blk_frozen BK292.out 3
                    go_wp2_with (first | ((with_reducible refine gate_callee (f := 73) rfl ?_); refine goesL_ (some 72) rfl rfl Tryd.func73 (by kernel_rfl) rfl #[.string (⟨#[41]⟩ : ByteArray)] rfl (by (try simp only [List.map_toArray, List.map_cons, List.map_nil]); first | done | rfl | (simp only [List.length_drop, List.length_take]; rfl)) ?_; (with_reducible refine (epactref11_mark.calls (⟨#[41]⟩ : ByteArray) t309 t310 t311 _ A62.out).mono ?_); rintro e w65 ⟨rfl, hb⟩; refine ⟨_, rfl, ?_⟩; have n0_ := Aside0.mk (Kd.R_below (by (with_reducible repeat (first | apply Kd.R_alloc | apply Kd.R_drewN | apply Kd.R_drew)); exact HO_3.out) hb); have n1_ := Aside0.mk (blk_below (g := gb292) (o := .cells #[.int .u8 a0_0, .string a0_1, .slice A0_2 l0_2.length c0_2, .slice A0_3 l0_3.length c0_3] 25 (0, 0)) (by (with_reducible repeat (first | refine blk_drewN ?_ _ | refine blk_drew ?_ | refine blk_alloc ?_ _)); exact BK292.out) hb); have n2_ := Aside0.mk (below_step (by repeat (first | (with_reducible first | exact HB.out | apply below_alloc | apply pw_below_drewN | apply below_drew1 | refine below_set ?_ GE292.out) | exact HB.out)) hb); clear HO_3; clear BK292; clear HB; have HO_3 := n0_; have BK292 := n1_; have HB := n2_; clear n0_ n1_ n2_; (try clear hb); (try clear hb2); (try clear hk); (try clear hi)) | ((with_reducible refine gate_builtin (b := .append) (xs := #[.tmp 71, .tmp 73]) rfl ?_); (try (refine gate_guard (by rfl) ?_; dsimp only)); at_builtin; refine Kd.R_append k61 (w0 := w) w.heap.size rfl (.tmp 71) (.tmp 73) 43 61 (.agg #[(.int .u8 0), (.string ⟨#[]⟩), (.int .i64 0)]) 32 rfl Tryd.underlying43 info61 rfl (by decide) (by omega) u3 x3_2 (⟨t309, t310, t311⟩ : S61) [.int .u8 t309, .string t310, .int .i64 t311] (fun _ => True) (fun _ => False) rfl rfl ?aP (fun _ hk => hk.elim) ?aF ?aO ?aB ?aS ?aL ?_; (case aP => exact k61_mkM _ _ _ (⟨t309, t310, t311⟩ : S61)); (case aB => exact (by repeat (first | (with_reducible first | exact HB.out | apply below_alloc | apply pw_below_drewN | apply below_drew1 | refine below_set ?_ GE292.out) | exact HB.out))); (case aF => exact (fun _ _ => trivial)); (case aO => exact (by (with_reducible repeat (first | apply Kd.R_alloc | apply Kd.R_drewN | apply Kd.R_drew)); exact HO_3.out)); (case aS => exact (below_size (by repeat (first | (with_reducible first | exact HB.out | apply below_alloc | apply pw_below_drewN | apply below_drew1 | refine below_set ?_ GE292.out) | exact HB.out)))); (case aL => have := LMc63.out; omega); intro v313 w66 ho hb hg hat; rw [← Ny312.out] at ho; have n0_ := Aside0.mk (blk_grown (g := gb292) (o := .cells #[.int .u8 a0_0, .string a0_1, .slice A0_2 l0_2.length c0_2, .slice A0_3 l0_3.length c0_3] 25 (0, 0)) (by (with_reducible repeat (first | refine blk_drewN ?_ _ | refine blk_drew ?_ | refine blk_alloc ?_ _)); exact BK292.out) hg (Kd.R_ne HO_3.out BK292.out (by decide))); have n1_ := Aside0.mk (hb); have n2_ := Aside0.mk (ho); clear BK292; clear HB; clear HO_3; have BK292 := n0_; have HB := n1_; have HO314 := n2_; clear n0_ n1_ n2_; clear ho hb hg hat))
                    go_ret
                    exact ⟨_, by first | rfl | (simp [errW_none, errW_some] <;> rfl) | (simp [*, errW_none, errW_some] <;> rfl), by (with_reducible repeat (first | apply Kd.R_alloc | apply Kd.R_drewN | apply Kd.R_drew)); exact HO314.out, by repeat (first | (with_reducible first | exact HB.out | apply below_alloc | apply pw_below_drewN | apply below_drew1 | refine below_set ?_ GE292.out) | exact HB.out)⟩
                  · rw [if_neg c63] at H
                    exact absurd H (by simp)
          · rw [if_neg c16] at H
            exact absurd H (by simp)
        · rw [if_neg c15] at H
          exact absurd H (by simp)
end Go.Proofs.YtjeofffddbibeaaDoor.PParseTells
end

section
namespace Go.Proofs.YtjeofffddbibeaaDoor.PParseTells
open Go.RowKit Go.Proofs.YtjeofffddbibeaaDoorW.PrintWords Go.Proofs.YtjeofffddbibeaaDoorW.PrintLast Go.Proofs.YtjeofffddbibeaaDoorW.PrintMore
attribute [local go_sem] max2_int min2_int max_two min_two max_three min_three max_four min_four   -- for this text's walks alone
set_option linter.unusedVariables false
set_option linter.unusedSimpArgs false
mutual
def epactref09_Count.l0 : Nat → Int → Int → Int → ByteArray → List Int → List (S25) → Option (Int)
  | 0, _, _, _, _, _, _ => none
  | k + 1, x3, x4, x102000, x102001, x102002, x102003 => if x4 < (x102003.length : Int) then (if 0 ≤ x4 then ((epactref09_Count.f k ((rd_T25 x102003 x4).f0) ((rd_T25 x102003 x4).f1) ((rd_T25 x102003 x4).f2) ((rd_T25 x102003 x4).f3)).bind fun t103 => (epactref09_Count.l0 k (wrap64 (x3 + t103)) (wrap64 (x4 + 1)) x102000 x102001 x102002 x102003)) else (none)) else (some x3)
def epactref09_Count.f : Nat → Int → ByteArray → List Int → List (S25) → Option (Int)
  | 0, _, _, _, _ => none
  | k + 1, a0_0, a0_1, l0_2, l0_3 => epactref09_Count.l0 k 1 0 a0_0 a0_1 l0_2 l0_3
end
set_option maxHeartbeats 8000000 in
set_option maxRecDepth 100000 in
theorem epactref09_Count.calls (k : Nat) : ∀ (a0_0 : Int) (a0_1 : ByteArray) (A0_2 : Option Addr) (c0_2 : Nat) (l0_2 : List Int) (A0_3 : Option Addr) (c0_3 : Nat) (l0_3 : List (S25)) (r : Int) (w : World) (hr0_2 : Kd.C (Kd.int .i64) w A0_2 l0_2.length l0_2) (hc0_2 : l0_2.length ≤ c0_2) (hr0_3 : Kd.C k25 w A0_3 l0_3.length l0_3) (hc0_3 : l0_3.length ≤ c0_3) (h : epactref09_Count.f k a0_0 a0_1 l0_2 l0_3 = some r),
    Calls Tryd.prog 23 #[.agg #[.int .u8 a0_0, .string a0_1, .slice A0_2 l0_2.length c0_2, .slice A0_3 l0_3.length c0_3]] w fun e w' => e = .returned (.int .i64 r) ∧ Below w.heap.size w w' := by
  induction k using Nat.strongRecOn with
  | _ k ih =>
  intro a0_0 a0_1 A0_2 c0_2 l0_2 A0_3 c0_3 l0_3 r w hr0_2 hc0_2 hr0_3 hc0_3 h
  cases k with
  | zero => exact absurd h (by simp [epactref09_Count.f])
  | succ k =>
  simp only [epactref09_Count.f] at h
  have hu25 := Tryd.underlying25
  have HR0_2 := Aside0.mk hr0_2
  have HC0_2 := Aside0.mk hc0_2
  clear hr0_2 hc0_2
  have HR0_3 := Aside0.mk hr0_3
  have HC0_3 := Aside0.mk hc0_3
  clear hr0_3 hc0_3
  have HB := Aside0.mk (Below.refl w.heap.size w)
  have H : (epactref09_Count.l0 k 1 0 a0_0 a0_1 l0_2 l0_3) = some r := h
  clear h
  have H' := Aside0.mk H
  clear H
  go_enter Tryd.func23, Tryd.ntmps23
  go_wp2_with (first | ((with_reducible refine gate_dst (N := 1) rfl ?_); refine box_event ?hg (N := 1) ?hd (cs := #[.int .u8 a0_0, .string a0_1, .slice A0_2 l0_2.length c0_2, .slice A0_3 l0_3.length c0_3]) (t := 25) ?hr ?_; (case hd => rfl); (case hg => rfl); (case hr => first | (go_simp; done) | (go_simp; rfl)); intro gb101 hg w2 hbox hb; have n0_ := Aside0.mk (below_step (by repeat (first | (with_reducible first | exact HB.out | apply below_alloc | apply pw_below_drewN | apply below_drew1) | exact HB.out)) hb); have n1_ := Aside0.mk (hbox); have n2_ := Aside0.mk ((by rw [hg]; exact (below_size (by repeat (first | (with_reducible first | exact HB.out | apply below_alloc | apply pw_below_drewN | apply below_drew1) | exact HB.out))) : w.heap.size ≤ gb101)); have n3_ := Aside0.mk ((by rw [hg]; exact (below_size (by repeat (first | (with_reducible first | exact HB.out | apply below_alloc | apply pw_below_drewN | apply below_drew1) | exact HB.out))) : w.heap.size ≤ gb101)); clear HB; have HB := n0_; have BK101 := n1_; have GW101 := n2_; have GE101 := n3_; clear n0_ n1_ n2_ n3_; clear hb hbox hg))
  go_loopg [3, 4] k (fun kq v3 v4 w' => ∃ (x3_1 : Int) (x4_1 : Int), v3 = .int .i64 x3_1 ∧ v4 = .int .i64 x4_1 ∧ Aside0 (epactref09_Count.l0 kq x3_1 x4_1 a0_0 a0_1 l0_2 l0_3 = some r) ∧ Aside0 (kq ≤ k) ∧ Aside0 (w'.heap[gb101]? = some (.cells #[.int .u8 a0_0, .string a0_1, (.slice A0_2 l0_2.length c0_2), (.slice A0_3 l0_3.length c0_3)] 25 (0, 0))) ∧ Aside0 (Below w.heap.size w w'))
  case atStart => exact ⟨(1), (0), (by first | rfl | (simp; done) | (simp [*]; done)), (by first | rfl | (simp; done) | (simp [*]; done)), H', ⟨Nat.le_refl _⟩, ⟨by (with_reducible repeat (first | refine blk_drewN ?_ _ | refine blk_drew ?_ | refine blk_alloc ?_ _)); exact BK101.out⟩, ⟨by repeat (first | (with_reducible first | exact HB.out | apply below_alloc | apply pw_below_drewN | apply below_drew1 | refine below_set ?_ GE101.out) | exact HB.out)⟩⟩
  case round =>
    clear H'
    try clear c2
    try clear p2
    obtain ⟨x3_1, x4_1, rfl, rfl, HA, HK1, BK101, HB⟩ := hrel
    cases gk with
    | zero => exact absurd HA.out (by simp [epactref09_Count.l0])
    | succ k1 =>
      have H := HA.out
      clear HA
      simp only [epactref09_Count.l0] at H
      by_cases c3 : x4_1 < (l0_3.length : Int)
      · rw [if_pos c3] at H
        have c3b0 : decide (x4_1 < (l0_3.length : Int)) = true := decide_eq_true c3
        clear c3
        by_cases c4 : 0 ≤ x4_1
        · rw [if_pos c4] at H
          have c4b0 : decide (0 ≤ x4_1) = true := decide_eq_true c4
          clear c4
          replace H := Option.bind_eq_some_iff.mp H
          obtain ⟨t103, A50, H⟩ := H
          replace H : (epactref09_Count.l0 k1 (wrap64 (x3_1 + t103)) (wrap64 (x4_1 + 1)) a0_0 a0_1 l0_2 l0_3) = some r := H
          have A5 := Aside0.mk A50
          clear A50
          have H' := Aside0.mk H
          clear H
          have hcz6_0 : wr.cell? ⟨gb101, 0, none⟩ = some (.int .u8 a0_0) := (blk_cell BK101.out 0).trans rfl
          have hcz6_1 : wr.cell? ⟨gb101, 1, none⟩ = some (.string a0_1) := (blk_cell BK101.out 1).trans rfl
          have hcz6_2 : wr.cell? ⟨gb101, 2, none⟩ = some (.slice A0_2 l0_2.length c0_2) := (blk_cell BK101.out 2).trans rfl
          have hcz6_3 : wr.cell? ⟨gb101, 3, none⟩ = some (.slice A0_3 l0_3.length c0_3) := (blk_cell BK101.out 3).trans rfl
          have hfz6_0 := blk_frozen BK101.out 0
          have hfz6_1 := blk_frozen BK101.out 1
          have hfz6_2 := blk_frozen BK101.out 2
          have hfz6_3 := blk_frozen BK101.out 3
          have p102 : 0 ≤ (x4_1 : Int) := of_decide_eq_true (by first | (with_reducible assumption) | assumption)
          have q102 : x4_1 < (l0_3.length : Int) := of_decide_eq_true (by first | (with_reducible assumption) | assumption)
          obtain ⟨ad102, A102_2, c102_2, A102_3, c102_3, e102, hx102_0, hx102_1, hx102_2, hx102_3, hl102_2, hi102_2, hl102_3, hi102_3⟩ := at_T25 HR0_3.out x4_1 p102 q102
          cases e102
          replace hx102_0 := (HB.out.cell (World.block_lt_of_cell? w _ hx102_0)).trans hx102_0
          replace hx102_1 := (HB.out.cell (World.block_lt_of_cell? w _ hx102_1)).trans hx102_1
          replace hx102_2 := (HB.out.cell (World.block_lt_of_cell? w _ hx102_2)).trans hx102_2
          replace hx102_3 := (HB.out.cell (World.block_lt_of_cell? w _ hx102_3)).trans hx102_3
          have HR102_2 := Aside0.mk hi102_2
          have HC102_2 := Aside0.mk hl102_2
          clear hi102_2 hl102_2
          have HR102_3 := Aside0.mk hi102_3
          have HC102_3 := Aside0.mk hl102_3
          clear hi102_3 hl102_3
          replace p102 := eq_true p102
          replace q102 := eq_true q102
          go_wp2_with (first | ((with_reducible refine gate_callee (f := 23) rfl ?_); refine goesL_ (some 18) rfl rfl Tryd.func23 (by kernel_rfl) rfl #[.agg #[.int .u8 ((rd_T25 l0_3 x4_1).f0), .string ((rd_T25 l0_3 x4_1).f1), .slice A102_2 ((rd_T25 l0_3 x4_1).f2).length c102_2, .slice A102_3 ((rd_T25 l0_3 x4_1).f3).length c102_3]] rfl (by (try simp only [List.map_toArray, List.map_cons, List.map_nil]); first | done | rfl | (simp only [List.length_drop, List.length_take]; rfl)) ?_; (with_reducible refine (ih k1 (by have := HK1.out; omega) ((rd_T25 l0_3 x4_1).f0) ((rd_T25 l0_3 x4_1).f1) _ _ ((rd_T25 l0_3 x4_1).f2) _ _ ((rd_T25 l0_3 x4_1).f3) t103 _ ?side1 ?side2 ?side3 ?side4 A5.out).mono ?_); (case side1 => repeat (first | exact (Kd.C_below HR102_2.out HB.out) | (with_reducible refine Kd.C_alloc ?_ _) | (with_reducible refine Kd.C_drewN ?_ _) | (with_reducible refine Kd.C_drew ?_))); (case side2 => exact HC102_2.out); (case side3 => repeat (first | exact (Kd.C_below HR102_3.out HB.out) | (with_reducible refine Kd.C_alloc ?_ _) | (with_reducible refine Kd.C_drewN ?_ _) | (with_reducible refine Kd.C_drew ?_))); (case side4 => exact HC102_3.out); rintro e w7 ⟨rfl, hb⟩; refine ⟨_, rfl, ?_⟩; have n0_ := Aside0.mk (blk_below (g := gb101) (o := .cells #[.int .u8 a0_0, .string a0_1, .slice A0_2 l0_2.length c0_2, .slice (some ad102) l0_3.length c0_3] 25 (0, 0)) (by (with_reducible repeat (first | refine blk_drewN ?_ _ | refine blk_drew ?_ | refine blk_alloc ?_ _)); exact BK101.out) hb); have n1_ := Aside0.mk (below_step (by repeat (first | (with_reducible first | exact HB.out | apply below_alloc | apply pw_below_drewN | apply below_drew1 | refine below_set ?_ GE101.out) | exact HB.out)) hb); clear BK101; clear HB; have BK101 := n0_; have HB := n1_; clear n0_ n1_; (try clear hb); (try clear hb2); (try clear hk); (try clear hi)))
          go_roundg k1
          case measure => have := HK1.out; omega
          case rel => exact ⟨(wrap64 (x3_1 + t103)), (wrap64 (x4_1 + 1)), (by first | rfl | (simp; done) | (simp [*]; done)), (by first | rfl | (simp; done) | (simp [*]; done)), H', ⟨by have := HK1.out; omega⟩, ⟨by (with_reducible repeat (first | refine blk_drewN ?_ _ | refine blk_drew ?_ | refine blk_alloc ?_ _)); exact BK101.out⟩, ⟨by repeat (first | (with_reducible first | exact HB.out | apply below_alloc | apply pw_below_drewN | apply below_drew1 | refine below_set ?_ GE101.out) | exact HB.out)⟩⟩
        · rw [if_neg c4] at H
          exact absurd H (by simp)
      · rw [if_neg c3] at H
        have c3b0 : decide (x4_1 < (l0_3.length : Int)) = false := decide_eq_false c3
        clear c3
        obtain rfl := Option.some.inj H
        have hcz8_0 : wr.cell? ⟨gb101, 0, none⟩ = some (.int .u8 a0_0) := (blk_cell BK101.out 0).trans rfl
        have hcz8_1 : wr.cell? ⟨gb101, 1, none⟩ = some (.string a0_1) := (blk_cell BK101.out 1).trans rfl
        have hcz8_2 : wr.cell? ⟨gb101, 2, none⟩ = some (.slice A0_2 l0_2.length c0_2) := (blk_cell BK101.out 2).trans rfl
        have hcz8_3 : wr.cell? ⟨gb101, 3, none⟩ = some (.slice A0_3 l0_3.length c0_3) := (blk_cell BK101.out 3).trans rfl
        have hfz8_0 := blk_frozen BK101.out 0
        have hfz8_1 := blk_frozen BK101.out 1
        have hfz8_2 := blk_frozen BK101.out 2
        have hfz8_3 := blk_frozen BK101.out 3
        go_wp2
        go_ret
        exact ⟨by first | rfl | (simp [errW_none, errW_some] <;> rfl) | (simp [*, errW_none, errW_some] <;> rfl), by repeat (first | (with_reducible first | exact HB.out | apply below_alloc | apply pw_below_drewN | apply below_drew1 | refine below_set ?_ GE101.out) | exact HB.out)⟩
mutual
def epactref09_Depth.l0 : Nat → Int → Int → Int → ByteArray → List Int → List (S25) → Option (Int)
  | 0, _, _, _, _, _, _ => none
  | k + 1, x3, x4, x105000, x105001, x105002, x105003 => if x4 < (x105003.length : Int) then (if 0 ≤ x4 then ((epactref09_Depth.f k ((rd_T25 x105003 x4).f0) ((rd_T25 x105003 x4).f1) ((rd_T25 x105003 x4).f2) ((rd_T25 x105003 x4).f3)).bind fun t106 => (if t106 > x3 then (epactref09_Depth.l0 k t106 (wrap64 (x4 + 1)) x105000 x105001 x105002 x105003) else (epactref09_Depth.l0 k x3 (wrap64 (x4 + 1)) x105000 x105001 x105002 x105003))) else (none)) else (some (wrap64 (x3 + 1)))
def epactref09_Depth.f : Nat → Int → ByteArray → List Int → List (S25) → Option (Int)
  | 0, _, _, _, _ => none
  | k + 1, a0_0, a0_1, l0_2, l0_3 => epactref09_Depth.l0 k 0 0 a0_0 a0_1 l0_2 l0_3
end
set_option maxHeartbeats 8000000 in
set_option maxRecDepth 100000 in
theorem epactref09_Depth.calls (k : Nat) : ∀ (a0_0 : Int) (a0_1 : ByteArray) (A0_2 : Option Addr) (c0_2 : Nat) (l0_2 : List Int) (A0_3 : Option Addr) (c0_3 : Nat) (l0_3 : List (S25)) (r : Int) (w : World) (hr0_2 : Kd.C (Kd.int .i64) w A0_2 l0_2.length l0_2) (hc0_2 : l0_2.length ≤ c0_2) (hr0_3 : Kd.C k25 w A0_3 l0_3.length l0_3) (hc0_3 : l0_3.length ≤ c0_3) (h : epactref09_Depth.f k a0_0 a0_1 l0_2 l0_3 = some r),
    Calls Tryd.prog 25 #[.agg #[.int .u8 a0_0, .string a0_1, .slice A0_2 l0_2.length c0_2, .slice A0_3 l0_3.length c0_3]] w fun e w' => e = .returned (.int .i64 r) ∧ Below w.heap.size w w' := by
  induction k using Nat.strongRecOn with
  | _ k ih =>
  intro a0_0 a0_1 A0_2 c0_2 l0_2 A0_3 c0_3 l0_3 r w hr0_2 hc0_2 hr0_3 hc0_3 h
  cases k with
  | zero => exact absurd h (by simp [epactref09_Depth.f])
  | succ k =>
  simp only [epactref09_Depth.f] at h
  have hu25 := Tryd.underlying25
  have HR0_2 := Aside0.mk hr0_2
  have HC0_2 := Aside0.mk hc0_2
  clear hr0_2 hc0_2
  have HR0_3 := Aside0.mk hr0_3
  have HC0_3 := Aside0.mk hc0_3
  clear hr0_3 hc0_3
  have HB := Aside0.mk (Below.refl w.heap.size w)
  have H : (epactref09_Depth.l0 k 0 0 a0_0 a0_1 l0_2 l0_3) = some r := h
  clear h
  have H' := Aside0.mk H
  clear H
  go_enter Tryd.func25, Tryd.ntmps25
  go_wp2_with (first | ((with_reducible refine gate_dst (N := 1) rfl ?_); refine box_event ?hg (N := 1) ?hd (cs := #[.int .u8 a0_0, .string a0_1, .slice A0_2 l0_2.length c0_2, .slice A0_3 l0_3.length c0_3]) (t := 25) ?hr ?_; (case hd => rfl); (case hg => rfl); (case hr => first | (go_simp; done) | (go_simp; rfl)); intro gb104 hg w2 hbox hb; have n0_ := Aside0.mk (below_step (by repeat (first | (with_reducible first | exact HB.out | apply below_alloc | apply pw_below_drewN | apply below_drew1) | exact HB.out)) hb); have n1_ := Aside0.mk (hbox); have n2_ := Aside0.mk ((by rw [hg]; exact (below_size (by repeat (first | (with_reducible first | exact HB.out | apply below_alloc | apply pw_below_drewN | apply below_drew1) | exact HB.out))) : w.heap.size ≤ gb104)); have n3_ := Aside0.mk ((by rw [hg]; exact (below_size (by repeat (first | (with_reducible first | exact HB.out | apply below_alloc | apply pw_below_drewN | apply below_drew1) | exact HB.out))) : w.heap.size ≤ gb104)); clear HB; have HB := n0_; have BK104 := n1_; have GW104 := n2_; have GE104 := n3_; clear n0_ n1_ n2_ n3_; clear hb hbox hg))
  go_loopg [3, 4] k (fun kq v3 v4 w' => ∃ (x3_1 : Int) (x4_1 : Int), v3 = .int .i64 x3_1 ∧ v4 = .int .i64 x4_1 ∧ Aside0 (epactref09_Depth.l0 kq x3_1 x4_1 a0_0 a0_1 l0_2 l0_3 = some r) ∧ Aside0 (kq ≤ k) ∧ Aside0 (w'.heap[gb104]? = some (.cells #[.int .u8 a0_0, .string a0_1, (.slice A0_2 l0_2.length c0_2), (.slice A0_3 l0_3.length c0_3)] 25 (0, 0))) ∧ Aside0 (Below w.heap.size w w'))
  case atStart => exact ⟨(0), (0), (by first | rfl | (simp; done) | (simp [*]; done)), (by first | rfl | (simp; done) | (simp [*]; done)), H', ⟨Nat.le_refl _⟩, ⟨by (with_reducible repeat (first | refine blk_drewN ?_ _ | refine blk_drew ?_ | refine blk_alloc ?_ _)); exact BK104.out⟩, ⟨by repeat (first | (with_reducible first | exact HB.out | apply below_alloc | apply pw_below_drewN | apply below_drew1 | refine below_set ?_ GE104.out) | exact HB.out)⟩⟩
  case round =>
    clear H'
    try clear c2
    try clear p2
    obtain ⟨x3_1, x4_1, rfl, rfl, HA, HK1, BK104, HB⟩ := hrel
    cases gk with
    | zero => exact absurd HA.out (by simp [epactref09_Depth.l0])
    | succ k1 =>
      have H := HA.out
      clear HA
      simp only [epactref09_Depth.l0] at H
      by_cases c3 : x4_1 < (l0_3.length : Int)
      · rw [if_pos c3] at H
        have c3b0 : decide (x4_1 < (l0_3.length : Int)) = true := decide_eq_true c3
        clear c3
        by_cases c4 : 0 ≤ x4_1
        · rw [if_pos c4] at H
          have c4b0 : decide (0 ≤ x4_1) = true := decide_eq_true c4
          clear c4
          replace H := Option.bind_eq_some_iff.mp H
          obtain ⟨t106, A50, H⟩ := H
          replace H : (if t106 > x3_1 then (epactref09_Depth.l0 k1 t106 (wrap64 (x4_1 + 1)) a0_0 a0_1 l0_2 l0_3) else (epactref09_Depth.l0 k1 x3_1 (wrap64 (x4_1 + 1)) a0_0 a0_1 l0_2 l0_3)) = some r := H
          have A5 := Aside0.mk A50
          clear A50
          by_cases c6 : t106 > x3_1
          · rw [if_pos c6] at H
            have c6b0 : decide (x3_1 < t106) = true := decide_eq_true c6
            clear c6
            have H' := Aside0.mk H
            clear H
            have hcz7_0 : wr.cell? ⟨gb104, 0, none⟩ = some (.int .u8 a0_0) := (blk_cell BK104.out 0).trans rfl
            have hcz7_1 : wr.cell? ⟨gb104, 1, none⟩ = some (.string a0_1) := (blk_cell BK104.out 1).trans rfl
            have hcz7_2 : wr.cell? ⟨gb104, 2, none⟩ = some (.slice A0_2 l0_2.length c0_2) := (blk_cell BK104.out 2).trans rfl
            have hcz7_3 : wr.cell? ⟨gb104, 3, none⟩ = some (.slice A0_3 l0_3.length c0_3) := (blk_cell BK104.out 3).trans rfl
            have hfz7_0 := blk_frozen BK104.out 0
            have hfz7_1 := blk_frozen BK104.out 1
            have hfz7_2 := blk_frozen BK104.out 2
            have hfz7_3 := blk_frozen BK104.out 3
            have p105 : 0 ≤ (x4_1 : Int) := of_decide_eq_true (by first | (with_reducible assumption) | assumption)
            have q105 : x4_1 < (l0_3.length : Int) := of_decide_eq_true (by first | (with_reducible assumption) | assumption)
            obtain ⟨ad105, A105_2, c105_2, A105_3, c105_3, e105, hx105_0, hx105_1, hx105_2, hx105_3, hl105_2, hi105_2, hl105_3, hi105_3⟩ := at_T25 HR0_3.out x4_1 p105 q105
            cases e105
            replace hx105_0 := (HB.out.cell (World.block_lt_of_cell? w _ hx105_0)).trans hx105_0
            replace hx105_1 := (HB.out.cell (World.block_lt_of_cell? w _ hx105_1)).trans hx105_1
            replace hx105_2 := (HB.out.cell (World.block_lt_of_cell? w _ hx105_2)).trans hx105_2
            replace hx105_3 := (HB.out.cell (World.block_lt_of_cell? w _ hx105_3)).trans hx105_3
            have HR105_2 := Aside0.mk hi105_2
            have HC105_2 := Aside0.mk hl105_2
            clear hi105_2 hl105_2
            have HR105_3 := Aside0.mk hi105_3
            have HC105_3 := Aside0.mk hl105_3
            clear hi105_3 hl105_3
            replace p105 := eq_true p105
            replace q105 := eq_true q105
            go_wp2_with (first | ((with_reducible refine gate_callee (f := 25) rfl ?_); refine goesL_ (some 18) rfl rfl Tryd.func25 (by kernel_rfl) rfl #[.agg #[.int .u8 ((rd_T25 l0_3 x4_1).f0), .string ((rd_T25 l0_3 x4_1).f1), .slice A105_2 ((rd_T25 l0_3 x4_1).f2).length c105_2, .slice A105_3 ((rd_T25 l0_3 x4_1).f3).length c105_3]] rfl (by (try simp only [List.map_toArray, List.map_cons, List.map_nil]); first | done | rfl | (simp only [List.length_drop, List.length_take]; rfl)) ?_; (with_reducible refine (ih k1 (by have := HK1.out; omega) ((rd_T25 l0_3 x4_1).f0) ((rd_T25 l0_3 x4_1).f1) _ _ ((rd_T25 l0_3 x4_1).f2) _ _ ((rd_T25 l0_3 x4_1).f3) t106 _ ?side1 ?side2 ?side3 ?side4 A5.out).mono ?_); (case side1 => repeat (first | exact (Kd.C_below HR105_2.out HB.out) | (with_reducible refine Kd.C_alloc ?_ _) | (with_reducible refine Kd.C_drewN ?_ _) | (with_reducible refine Kd.C_drew ?_))); (case side2 => exact HC105_2.out); (case side3 => repeat (first | exact (Kd.C_below HR105_3.out HB.out) | (with_reducible refine Kd.C_alloc ?_ _) | (with_reducible refine Kd.C_drewN ?_ _) | (with_reducible refine Kd.C_drew ?_))); (case side4 => exact HC105_3.out); rintro e w8 ⟨rfl, hb⟩; refine ⟨_, rfl, ?_⟩; have n0_ := Aside0.mk (blk_below (g := gb104) (o := .cells #[.int .u8 a0_0, .string a0_1, .slice A0_2 l0_2.length c0_2, .slice (some ad105) l0_3.length c0_3] 25 (0, 0)) (by (with_reducible repeat (first | refine blk_drewN ?_ _ | refine blk_drew ?_ | refine blk_alloc ?_ _)); exact BK104.out) hb); have n1_ := Aside0.mk (below_step (by repeat (first | (with_reducible first | exact HB.out | apply below_alloc | apply pw_below_drewN | apply below_drew1 | refine below_set ?_ GE104.out) | exact HB.out)) hb); clear BK104; clear HB; have BK104 := n0_; have HB := n1_; clear n0_ n1_; (try clear hb); (try clear hb2); (try clear hk); (try clear hi)))
            go_roundg k1
            case measure => have := HK1.out; omega
            case rel => exact ⟨(t106), (wrap64 (x4_1 + 1)), (by first | rfl | (simp; done) | (simp [*]; done)), (by first | rfl | (simp; done) | (simp [*]; done)), H', ⟨by have := HK1.out; omega⟩, ⟨by (with_reducible repeat (first | refine blk_drewN ?_ _ | refine blk_drew ?_ | refine blk_alloc ?_ _)); exact BK104.out⟩, ⟨by repeat (first | (with_reducible first | exact HB.out | apply below_alloc | apply pw_below_drewN | apply below_drew1 | refine below_set ?_ GE104.out) | exact HB.out)⟩⟩
          · rw [if_neg c6] at H
            have c6b0 : decide (x3_1 < t106) = false := decide_eq_false c6
            clear c6
            have H' := Aside0.mk H
            clear H
            have hcz9_0 : wr.cell? ⟨gb104, 0, none⟩ = some (.int .u8 a0_0) := (blk_cell BK104.out 0).trans rfl
            have hcz9_1 : wr.cell? ⟨gb104, 1, none⟩ = some (.string a0_1) := (blk_cell BK104.out 1).trans rfl
            have hcz9_2 : wr.cell? ⟨gb104, 2, none⟩ = some (.slice A0_2 l0_2.length c0_2) := (blk_cell BK104.out 2).trans rfl
            have hcz9_3 : wr.cell? ⟨gb104, 3, none⟩ = some (.slice A0_3 l0_3.length c0_3) := (blk_cell BK104.out 3).trans rfl
            have hfz9_0 := blk_frozen BK104.out 0
            have hfz9_1 := blk_frozen BK104.out 1
            have hfz9_2 := blk_frozen BK104.out 2
            have hfz9_3 := blk_frozen BK104.out 3
            have p105 : 0 ≤ (x4_1 : Int) := of_decide_eq_true (by first | (with_reducible assumption) | assumption)
            have q105 : x4_1 < (l0_3.length : Int) := of_decide_eq_true (by first | (with_reducible assumption) | assumption)
            obtain ⟨ad105, A105_2, c105_2, A105_3, c105_3, e105, hx105_0, hx105_1, hx105_2, hx105_3, hl105_2, hi105_2, hl105_3, hi105_3⟩ := at_T25 HR0_3.out x4_1 p105 q105
            cases e105
            replace hx105_0 := (HB.out.cell (World.block_lt_of_cell? w _ hx105_0)).trans hx105_0
            replace hx105_1 := (HB.out.cell (World.block_lt_of_cell? w _ hx105_1)).trans hx105_1
            replace hx105_2 := (HB.out.cell (World.block_lt_of_cell? w _ hx105_2)).trans hx105_2
            replace hx105_3 := (HB.out.cell (World.block_lt_of_cell? w _ hx105_3)).trans hx105_3
            have HR105_2 := Aside0.mk hi105_2
            have HC105_2 := Aside0.mk hl105_2
            clear hi105_2 hl105_2
            have HR105_3 := Aside0.mk hi105_3
            have HC105_3 := Aside0.mk hl105_3
            clear hi105_3 hl105_3
            replace p105 := eq_true p105
            replace q105 := eq_true q105
            go_wp2_with (first | ((with_reducible refine gate_callee (f := 25) rfl ?_); refine goesL_ (some 18) rfl rfl Tryd.func25 (by kernel_rfl) rfl #[.agg #[.int .u8 ((rd_T25 l0_3 x4_1).f0), .string ((rd_T25 l0_3 x4_1).f1), .slice A105_2 ((rd_T25 l0_3 x4_1).f2).length c105_2, .slice A105_3 ((rd_T25 l0_3 x4_1).f3).length c105_3]] rfl (by (try simp only [List.map_toArray, List.map_cons, List.map_nil]); first | done | rfl | (simp only [List.length_drop, List.length_take]; rfl)) ?_; (with_reducible refine (ih k1 (by have := HK1.out; omega) ((rd_T25 l0_3 x4_1).f0) ((rd_T25 l0_3 x4_1).f1) _ _ ((rd_T25 l0_3 x4_1).f2) _ _ ((rd_T25 l0_3 x4_1).f3) t106 _ ?side1 ?side2 ?side3 ?side4 A5.out).mono ?_); (case side1 => repeat (first | exact (Kd.C_below HR105_2.out HB.out) | (with_reducible refine Kd.C_alloc ?_ _) | (with_reducible refine Kd.C_drewN ?_ _) | (with_reducible refine Kd.C_drew ?_))); (case side2 => exact HC105_2.out); (case side3 => repeat (first | exact (Kd.C_below HR105_3.out HB.out) | (with_reducible refine Kd.C_alloc ?_ _) | (with_reducible refine Kd.C_drewN ?_ _) | (with_reducible refine Kd.C_drew ?_))); (case side4 => exact HC105_3.out); rintro e w10 ⟨rfl, hb⟩; refine ⟨_, rfl, ?_⟩; have n0_ := Aside0.mk (blk_below (g := gb104) (o := .cells #[.int .u8 a0_0, .string a0_1, .slice A0_2 l0_2.length c0_2, .slice (some ad105) l0_3.length c0_3] 25 (0, 0)) (by (with_reducible repeat (first | refine blk_drewN ?_ _ | refine blk_drew ?_ | refine blk_alloc ?_ _)); exact BK104.out) hb); have n1_ := Aside0.mk (below_step (by repeat (first | (with_reducible first | exact HB.out | apply below_alloc | apply pw_below_drewN | apply below_drew1 | refine below_set ?_ GE104.out) | exact HB.out)) hb); clear BK104; clear HB; have BK104 := n0_; have HB := n1_; clear n0_ n1_; (try clear hb); (try clear hb2); (try clear hk); (try clear hi)))
            go_roundg k1
            case measure => have := HK1.out; omega
            case rel => exact ⟨(x3_1), (wrap64 (x4_1 + 1)), (by first | rfl | (simp; done) | (simp [*]; done)), (by first | rfl | (simp; done) | (simp [*]; done)), H', ⟨by have := HK1.out; omega⟩, ⟨by (with_reducible repeat (first | refine blk_drewN ?_ _ | refine blk_drew ?_ | refine blk_alloc ?_ _)); exact BK104.out⟩, ⟨by repeat (first | (with_reducible first | exact HB.out | apply below_alloc | apply pw_below_drewN | apply below_drew1 | refine below_set ?_ GE104.out) | exact HB.out)⟩⟩
        · rw [if_neg c4] at H
          exact absurd H (by simp)
      · rw [if_neg c3] at H
        have c3b0 : decide (x4_1 < (l0_3.length : Int)) = false := decide_eq_false c3
        clear c3
        obtain rfl := Option.some.inj H
        have hcz11_0 : wr.cell? ⟨gb104, 0, none⟩ = some (.int .u8 a0_0) := (blk_cell BK104.out 0).trans rfl
        have hcz11_1 : wr.cell? ⟨gb104, 1, none⟩ = some (.string a0_1) := (blk_cell BK104.out 1).trans rfl
        have hcz11_2 : wr.cell? ⟨gb104, 2, none⟩ = some (.slice A0_2 l0_2.length c0_2) := (blk_cell BK104.out 2).trans rfl
        have hcz11_3 : wr.cell? ⟨gb104, 3, none⟩ = some (.slice A0_3 l0_3.length c0_3) := (blk_cell BK104.out 3).trans rfl
        have hfz11_0 := blk_frozen BK104.out 0
        have hfz11_1 := blk_frozen BK104.out 1
        have hfz11_2 := blk_frozen BK104.out 2
        have hfz11_3 := blk_frozen BK104.out 3
        go_wp2
        go_ret
        exact ⟨by first | rfl | (simp [errW_none, errW_some] <;> rfl) | (simp [*, errW_none, errW_some] <;> rfl), by repeat (first | (with_reducible first | exact HB.out | apply below_alloc | apply pw_below_drewN | apply below_drew1 | refine below_set ?_ GE104.out) | exact HB.out)⟩
end Go.Proofs.YtjeofffddbibeaaDoor.PParseTells
end

section
namespace Go.Proofs.YtjeofffddbibeaaDoor.PParseTells
open Go.RowKit Go.Proofs.YtjeofffddbibeaaDoorW.PrintWords Go.Proofs.YtjeofffddbibeaaDoorW.PrintLast Go.Proofs.YtjeofffddbibeaaDoorW.PrintMore
attribute [local go_sem] max2_int min2_int max_two min_two max_three min_three max_four min_four   -- for this text's walks alone
set_option linter.unusedVariables false
set_option linter.unusedSimpArgs false
mutual
def epactref09_kind.j0 : Nat → Int → Bool → Option (Int × Int)
  | 0, _, _ => none
  | k + 1, x4, x7 => if x7 = true then (some (1, 1)) else (if x4 = 3 then (some (2, 1)) else (if x4 = 4 then (some (3, 2)) else (if x4 = 7 then (epactref09_kind.j1 k x4 (x4 == 7)) else (epactref09_kind.j1 k x4 (x4 == 9)))))
def epactref09_kind.j1 : Nat → Int → Bool → Option (Int × Int)
  | 0, _, _ => none
  | k + 1, x4, x14 => if x14 = true then (some (2, 2)) else (if x4 = 5 then (some (0, 2)) else (if x4 = 6 then (some (0, 2)) else (if x4 = 8 then (some (0, 2)) else (if x4 = 10 then (some (0, 2)) else (if x4 = 11 then (some (0, 2)) else (if x4 = 12 then (some (0, 2)) else (some ((-1), 0))))))))
end
def epactref09_kind.f (k : Nat) (a0 : Int) : Option (Int × Int) := if a0 = 0 then (some (0, 0)) else (if a0 = 1 then (epactref09_kind.j0 k a0 (a0 == 1)) else (epactref09_kind.j0 k a0 (a0 == 2)))
set_option maxHeartbeats 8000000 in
set_option maxRecDepth 100000 in
theorem epactref09_kind.calls (k : Nat) (a0 : Int) (r1 : Int) (r2 : Int) (w : World) (h : epactref09_kind.f k a0 = some (r1, r2)) :
    Calls Tryd.prog 50 #[.int .u8 a0] w fun e w' => e = .returned (.tuple #[.int .i64 r1, .int .i64 r2]) ∧ Drawn0 w w' := by
  have H : (if a0 = 0 then (some (0, 0)) else (if a0 = 1 then (epactref09_kind.j0 k a0 (a0 == 1)) else (epactref09_kind.j0 k a0 (a0 == 2)))) = some (r1, r2) := h
  clear h
  by_cases c2 : a0 = 0
  · rw [if_pos c2] at H
    have c2b0 : (a0 == 0) = true := beq_iff_eq.mpr c2
    have c2b1 : (a0 != 0) = false := bne_eq_false_iff_eq.mpr c2
    clear c2
    simp only [Option.some.injEq, Prod.mk.injEq] at H
    obtain ⟨rfl, rfl⟩ := H
    go_enter Tryd.func50, Tryd.ntmps50
    go_wp2
    go_ret2
    exact ⟨by first | rfl | (simp; done) | (simp [*]; done), by repeat (first | exact Drawn0.refl _ | apply Drawn0.step)⟩
  · rw [if_neg c2] at H
    have c2b0 : (a0 == 0) = false := beq_eq_false_iff_ne.mpr c2
    have c2b1 : (a0 != 0) = true := bne_iff_ne.mpr c2
    have HC3 := Aside0.mk H
    clear H
    go_enter Tryd.func50, Tryd.ntmps50
    go_upto_if 7 with (fail)
    go_cut [7] (fun v7 wc => ∃ (kq : Nat) (x7_2 : Bool), v7 = .bool x7_2 ∧ Aside0 (epactref09_kind.j0 kq a0 x7_2 = some (r1, r2)) ∧ Aside0 (kq ≤ k) ∧ Drawn0 w wc)
    case first =>
      have H := HC3.out
      clear HC3
      by_cases c4 : a0 = 1
      · rw [if_pos c4] at H
        have c4b0 : (a0 == 1) = true := beq_iff_eq.mpr c4
        have c4b1 : (a0 != 1) = false := bne_eq_false_iff_eq.mpr c4
        clear c4
        (first | rw [c4b0] | (simp only [i64_w, i32_w]; rw [c4b0]) | skip)
        have H' := Aside0.mk H
        clear H
        go_wp2
        go_meet
        case rel => exact ⟨_, ((a0 == 1)), (by first | rfl | (simp; done) | (simp [*]; done)), H', ⟨by first | omega | exact Nat.le_refl _⟩, by repeat (first | exact Drawn0.refl _ | apply Drawn0.step)⟩
      · rw [if_neg c4] at H
        have c4b0 : (a0 == 1) = false := beq_eq_false_iff_ne.mpr c4
        have c4b1 : (a0 != 1) = true := bne_iff_ne.mpr c4
        (first | rw [c4b0] | (simp only [i64_w, i32_w]; rw [c4b0]) | skip)
        have H' := Aside0.mk H
        clear H
        go_wp2
        go_meet
        case rel => exact ⟨_, ((a0 == 2)), (by first | rfl | (simp; done) | (simp [*]; done)), H', ⟨by first | omega | exact Nat.le_refl _⟩, by repeat (first | exact Drawn0.refl _ | apply Drawn0.step)⟩
    case rest =>
      clear HC3
      try clear c2
      try clear c2b0
      try clear c2b1
      try clear p2
      try clear c4
      try clear c4b0
      try clear c4b1
      obtain ⟨kq, x7_2, rfl, HA, HJ2, ⟨mc2, rfl⟩⟩ := hcut
      cases kq with
      | zero => exact absurd HA.out (by simp [epactref09_kind.j0])
      | succ kj2 =>
        have H := HA.out
        clear HA
        simp only [epactref09_kind.j0] at H
        by_cases c5 : x7_2 = true
        · subst c5
          have H1 : (some (1, 1)) = some (r1, r2) := by rw [if_pos rfl] at H; exact H
          clear H
          have H := H1
          clear H1
          simp only [Option.some.injEq, Prod.mk.injEq] at H
          obtain ⟨rfl, rfl⟩ := H
          go_wp2
          go_ret2
          exact ⟨by first | rfl | (simp; done) | (simp [*]; done), by repeat (first | exact Drawn0.refl _ | apply Drawn0.step)⟩
        · replace c5 := Bool.eq_false_iff.mpr c5
          subst c5
          have H1 : (if a0 = 3 then (some (2, 1)) else (if a0 = 4 then (some (3, 2)) else (if a0 = 7 then (epactref09_kind.j1 kj2 a0 (a0 == 7)) else (epactref09_kind.j1 kj2 a0 (a0 == 9))))) = some (r1, r2) := by rw [if_neg (show ¬ (false = true) by decide)] at H; exact H
          clear H
          have H := H1
          clear H1
          by_cases c6 : a0 = 3
          · rw [if_pos c6] at H
            have c6b0 : (a0 == 3) = true := beq_iff_eq.mpr c6
            have c6b1 : (a0 != 3) = false := bne_eq_false_iff_eq.mpr c6
            clear c6
            simp only [Option.some.injEq, Prod.mk.injEq] at H
            obtain ⟨rfl, rfl⟩ := H
            go_wp2
            go_ret2
            exact ⟨by first | rfl | (simp; done) | (simp [*]; done), by repeat (first | exact Drawn0.refl _ | apply Drawn0.step)⟩
          · rw [if_neg c6] at H
            have c6b0 : (a0 == 3) = false := beq_eq_false_iff_ne.mpr c6
            have c6b1 : (a0 != 3) = true := bne_iff_ne.mpr c6
            by_cases c7 : a0 = 4
            · rw [if_pos c7] at H
              have c7b0 : (a0 == 4) = true := beq_iff_eq.mpr c7
              have c7b1 : (a0 != 4) = false := bne_eq_false_iff_eq.mpr c7
              clear c7
              simp only [Option.some.injEq, Prod.mk.injEq] at H
              obtain ⟨rfl, rfl⟩ := H
              go_wp2
              go_ret2
              exact ⟨by first | rfl | (simp; done) | (simp [*]; done), by repeat (first | exact Drawn0.refl _ | apply Drawn0.step)⟩
            · rw [if_neg c7] at H
              have c7b0 : (a0 == 4) = false := beq_eq_false_iff_ne.mpr c7
              have c7b1 : (a0 != 4) = true := bne_iff_ne.mpr c7
              have HC8 := Aside0.mk H
              clear H
              go_upto_if 14 with (fail)
              go_cut [14] (fun v14 wc => ∃ (kq : Nat) (x14_7 : Bool), v14 = .bool x14_7 ∧ Aside0 (epactref09_kind.j1 kq a0 x14_7 = some (r1, r2)) ∧ Aside0 (kq ≤ kj2) ∧ Drawn0 w wc)
              case first =>
                have H := HC8.out
                clear HC8
                by_cases c9 : a0 = 7
                · rw [if_pos c9] at H
                  have c9b0 : (a0 == 7) = true := beq_iff_eq.mpr c9
                  have c9b1 : (a0 != 7) = false := bne_eq_false_iff_eq.mpr c9
                  clear c9
                  (first | rw [c9b0] | (simp only [i64_w, i32_w]; rw [c9b0]) | skip)
                  have H' := Aside0.mk H
                  clear H
                  go_wp2
                  go_meet
                  case rel => exact ⟨_, ((a0 == 7)), (by first | rfl | (simp; done) | (simp [*]; done)), H', ⟨by have := HJ2.out; first | omega | exact Nat.le_refl _⟩, by repeat (first | exact Drawn0.refl _ | apply Drawn0.step)⟩
                · rw [if_neg c9] at H
                  have c9b0 : (a0 == 7) = false := beq_eq_false_iff_ne.mpr c9
                  have c9b1 : (a0 != 7) = true := bne_iff_ne.mpr c9
                  (first | rw [c9b0] | (simp only [i64_w, i32_w]; rw [c9b0]) | skip)
                  have H' := Aside0.mk H
                  clear H
                  go_wp2
                  go_meet
                  case rel => exact ⟨_, ((a0 == 9)), (by first | rfl | (simp; done) | (simp [*]; done)), H', ⟨by have := HJ2.out; first | omega | exact Nat.le_refl _⟩, by repeat (first | exact Drawn0.refl _ | apply Drawn0.step)⟩
              case rest =>
                clear HC8
                try clear c2
                try clear c2b0
                try clear c2b1
                try clear p2
                try clear c4
                try clear c4b0
                try clear c4b1
                try clear c5
                try clear c6
                try clear c6b0
                try clear c6b1
                try clear c7
                try clear c7b0
                try clear c7b1
                try clear c9
                try clear c9b0
                try clear c9b1
                try clear p2
                obtain ⟨kq, x14_7, rfl, HA, HJ7, ⟨mc7, rfl⟩⟩ := hcut
                cases kq with
                | zero => exact absurd HA.out (by simp [epactref09_kind.j1])
                | succ kj7 =>
                  have H := HA.out
                  clear HA
                  simp only [epactref09_kind.j1] at H
                  by_cases c10 : x14_7 = true
                  · subst c10
                    have H1 : (some (2, 2)) = some (r1, r2) := by rw [if_pos rfl] at H; exact H
                    clear H
                    have H := H1
                    clear H1
                    simp only [Option.some.injEq, Prod.mk.injEq] at H
                    obtain ⟨rfl, rfl⟩ := H
                    go_wp2
                    go_ret2
                    exact ⟨by first | rfl | (simp; done) | (simp [*]; done), by repeat (first | exact Drawn0.refl _ | apply Drawn0.step)⟩
                  · replace c10 := Bool.eq_false_iff.mpr c10
                    subst c10
                    have H1 : (if a0 = 5 then (some (0, 2)) else (if a0 = 6 then (some (0, 2)) else (if a0 = 8 then (some (0, 2)) else (if a0 = 10 then (some (0, 2)) else (if a0 = 11 then (some (0, 2)) else (if a0 = 12 then (some (0, 2)) else (some ((-1), 0)))))))) = some (r1, r2) := by rw [if_neg (show ¬ (false = true) by decide)] at H; exact H
                    clear H
                    have H := H1
                    clear H1
                    by_cases c11 : a0 = 5
                    · rw [if_pos c11] at H
                      have c11b0 : (a0 == 5) = true := beq_iff_eq.mpr c11
                      have c11b1 : (a0 != 5) = false := bne_eq_false_iff_eq.mpr c11
                      clear c11
                      simp only [Option.some.injEq, Prod.mk.injEq] at H
                      obtain ⟨rfl, rfl⟩ := H
                      go_wp2
                      go_ret2
                      exact ⟨by first | rfl | (simp; done) | (simp [*]; done), by repeat (first | exact Drawn0.refl _ | apply Drawn0.step)⟩
                    · rw [if_neg c11] at H
                      have c11b0 : (a0 == 5) = false := beq_eq_false_iff_ne.mpr c11
                      have c11b1 : (a0 != 5) = true := bne_iff_ne.mpr c11
                      by_cases c12 : a0 = 6
                      · rw [if_pos c12] at H
                        have c12b0 : (a0 == 6) = true := beq_iff_eq.mpr c12
                        have c12b1 : (a0 != 6) = false := bne_eq_false_iff_eq.mpr c12
                        clear c12
                        simp only [Option.some.injEq, Prod.mk.injEq] at H
                        obtain ⟨rfl, rfl⟩ := H
                        go_wp2
                        go_ret2
                        exact ⟨by first | rfl | (simp; done) | (simp [*]; done), by repeat (first | exact Drawn0.refl _ | apply Drawn0.step)⟩
                      · rw [if_neg c12] at H
                        have c12b0 : (a0 == 6) = false := beq_eq_false_iff_ne.mpr c12
                        have c12b1 : (a0 != 6) = true := bne_iff_ne.mpr c12
                        by_cases c13 : a0 = 8
                        · rw [if_pos c13] at H
                          have c13b0 : (a0 == 8) = true := beq_iff_eq.mpr c13
                          have c13b1 : (a0 != 8) = false := bne_eq_false_iff_eq.mpr c13
                          clear c13
                          simp only [Option.some.injEq, Prod.mk.injEq] at H
                          obtain ⟨rfl, rfl⟩ := H
                          go_wp2
                          go_ret2
                          exact ⟨by first | rfl | (simp; done) | (simp [*]; done), by repeat (first | exact Drawn0.refl _ | apply Drawn0.step)⟩
                        · rw [if_neg c13] at H
                          have c13b0 : (a0 == 8) = false := beq_eq_false_iff_ne.mpr c13
                          have c13b1 : (a0 != 8) = true := bne_iff_ne.mpr c13
                          by_cases c14 : a0 = 10
                          · rw [if_pos c14] at H
                            have c14b0 : (a0 == 10) = true := beq_iff_eq.mpr c14
                            have c14b1 : (a0 != 10) = false := bne_eq_false_iff_eq.mpr c14
                            clear c14
                            simp only [Option.some.injEq, Prod.mk.injEq] at H
                            obtain ⟨rfl, rfl⟩ := H
                            go_wp2
                            go_ret2
                            exact ⟨by first | rfl | (simp; done) | (simp [*]; done), by repeat (first | exact Drawn0.refl _ | apply Drawn0.step)⟩
                          · rw [if_neg c14] at H
                            have c14b0 : (a0 == 10) = false := beq_eq_false_iff_ne.mpr c14
                            have c14b1 : (a0 != 10) = true := bne_iff_ne.mpr c14
                            by_cases c15 : a0 = 11
                            · rw [if_pos c15] at H
                              have c15b0 : (a0 == 11) = true := beq_iff_eq.mpr c15
                              have c15b1 : (a0 != 11) = false := bne_eq_false_iff_eq.mpr c15
                              clear c15
                              simp only [Option.some.injEq, Prod.mk.injEq] at H
                              obtain ⟨rfl, rfl⟩ := H
                              go_wp2
                              go_ret2
                              exact ⟨by first | rfl | (simp; done) | (simp [*]; done), by repeat (first | exact Drawn0.refl _ | apply Drawn0.step)⟩
                            · rw [if_neg c15] at H
                              have c15b0 : (a0 == 11) = false := beq_eq_false_iff_ne.mpr c15
                              have c15b1 : (a0 != 11) = true := bne_iff_ne.mpr c15
                              by_cases c16 : a0 = 12
                              · rw [if_pos c16] at H
                                have c16b0 : (a0 == 12) = true := beq_iff_eq.mpr c16
                                have c16b1 : (a0 != 12) = false := bne_eq_false_iff_eq.mpr c16
                                clear c16
                                simp only [Option.some.injEq, Prod.mk.injEq] at H
                                obtain ⟨rfl, rfl⟩ := H
                                go_wp2
                                go_ret2
                                exact ⟨by first | rfl | (simp; done) | (simp [*]; done), by repeat (first | exact Drawn0.refl _ | apply Drawn0.step)⟩
                              · rw [if_neg c16] at H
                                have c16b0 : (a0 == 12) = false := beq_eq_false_iff_ne.mpr c16
                                have c16b1 : (a0 != 12) = true := bne_iff_ne.mpr c16
                                simp only [Option.some.injEq, Prod.mk.injEq] at H
                                obtain ⟨rfl, rfl⟩ := H
                                go_wp2
                                go_ret2
                                exact ⟨by first | rfl | (simp; done) | (simp [*]; done), by repeat (first | exact Drawn0.refl _ | apply Drawn0.step)⟩
end Go.Proofs.YtjeofffddbibeaaDoor.PParseTells
end

section
namespace Go.Proofs.YtjeofffddbibeaaDoor.Ex
open Go Go.RowKit Go.Proofs.YtjeofffddbibeaaDoor.PParseTells Go.Proofs.YtjeofffddbibeaaDoorW.PrintWords Go.Proofs.YtjeofffddbibeaaDoorW.PrintLast Go.Proofs.YtjeofffddbibeaaDoorW.PrintMore
set_option linter.unusedVariables false
set_option linter.unusedSimpArgs false
theorem rd_at (ys : List X) (i : Nat) (hi : i < ys.length) : rd_T25 ys (i : Int) = ys[i] := by
  unfold rd_T25
  rw [Int.toNat_natCast, List.getD_eq_getElem?_getD, List.getElem?_eq_getElem hi]
  rfl
theorem cntL_drop (ys : List X) (i : Nat) (hi : i < ys.length) : cntL (ys.drop i) = cnt ys[i] + cntL (ys.drop (i + 1)) := by
  rw [List.drop_eq_getElem_cons hi, cntL_cons]
theorem depL_drop (ys : List X) (i : Nat) (hi : i < ys.length) : depL (ys.drop i) = max (dep ys[i]) (depL (ys.drop (i + 1))) := by
  rw [List.drop_eq_getElem_cons hi, depL_cons]
theorem refCount_l0 (o : Int) (s : ByteArray) (ns : List Int) (ys : List X) (hl : cntL ys ≤ 1099511627776)
    (hf : ∀ (i : Nat) (hi : i < ys.length) (k : Nat), 2 * cnt ys[i] ≤ k → epactref09_Count.f k ys[i].f0 ys[i].f1 ys[i].f2 ys[i].f3 = some (cnt ys[i] : Int)) :
    ∀ (n i : Nat), i + n = ys.length → ∀ (k : Nat) (acc : Int), 2 * cntL (ys.drop i) + 1 ≤ k → 0 ≤ acc → acc + cntL (ys.drop i) ≤ 4398046511104 →
      epactref09_Count.l0 k acc i o s ns ys = some (acc + cntL (ys.drop i)) := by
  intro n
  induction n with
  | zero =>
    intro i hi k acc hk h0 h1
    obtain ⟨k, rfl⟩ : ∃ m, k = m + 1 := ⟨k - 1, by omega⟩
    simp only [epactref09_Count.l0]
    rw [if_neg (by omega), List.drop_eq_nil_of_le (by omega), cntL_nil]
    simp
  | succ n ih =>
    intro i hi k acc hk h0 h1
    obtain ⟨k, rfl⟩ : ∃ m, k = m + 1 := ⟨k - 1, by omega⟩
    have hil : i < ys.length := by omega
    have hd := cntL_drop ys i hil
    have hp := cnt_pos ys[i]
    have hlen := len_cntL ys
    simp only [epactref09_Count.l0]
    rw [if_pos (by omega), if_pos (by omega), rd_at ys i hil, hf i hil k (by omega)]
    show epactref09_Count.l0 k (wrap64 (acc + (cnt ys[i] : Int))) (wrap64 ((i : Int) + 1)) o s ns ys = _
    rw [w64 (by omega) (by omega), w64 (by omega) (by omega)]
    have := ih (i + 1) (by omega) k (acc + (cnt ys[i] : Int)) (by omega) (by omega) (by omega)
    rw [show ((i + 1 : Nat) : Int) = (i : Int) + 1 by omega] at this
    rw [this, hd]
    congr 1
    omega
theorem refCount_f (N : Nat) : ∀ x : X, cnt x ≤ N → cnt x ≤ 1099511627776 → ∀ k : Nat, 2 * cnt x ≤ k → epactref09_Count.f k x.f0 x.f1 x.f2 x.f3 = some (cnt x : Int) := by
  induction N with
  | zero => intro x hx; have := cnt_pos x; omega
  | succ N ih =>
    intro x hx hb k hk
    have hc := cnt_eq x
    have hp := cnt_pos x
    obtain ⟨k, rfl⟩ : ∃ m, k = m + 1 := ⟨k - 1, by omega⟩
    simp only [epactref09_Count.f]
    have h := refCount_l0 x.f0 x.f1 x.f2 x.f3 (by omega) (fun i hi m hm => ih x.f3[i] (by have := cnt_child (List.getElem_mem hi); omega) (by have := cnt_child (List.getElem_mem hi); omega) m hm) x.f3.length 0 (by omega) k 1 (by rw [List.drop_zero]; omega) (by omega) (by rw [List.drop_zero]; omega)
    rw [List.drop_zero] at h
    rw [show ((0 : Nat) : Int) = 0 from rfl] at h
    rw [h, hc]
    congr 1
theorem refDepth_l0 (o : Int) (s : ByteArray) (ns : List Int) (ys : List X) (hl : cntL ys ≤ 1099511627776)
    (hf : ∀ (i : Nat) (hi : i < ys.length) (k : Nat), 2 * cnt ys[i] ≤ k → epactref09_Depth.f k ys[i].f0 ys[i].f1 ys[i].f2 ys[i].f3 = some (dep ys[i] : Int)) :
    ∀ (n i : Nat), i + n = ys.length → ∀ (k acc : Nat), 2 * cntL (ys.drop i) + 1 ≤ k → acc ≤ 1099511627776 →
      epactref09_Depth.l0 k acc i o s ns ys = some (((max acc (depL (ys.drop i)) : Nat) : Int) + 1) := by
  intro n
  induction n with
  | zero =>
    intro i hi k acc hk h1
    obtain ⟨k, rfl⟩ : ∃ m, k = m + 1 := ⟨k - 1, by omega⟩
    simp only [epactref09_Depth.l0]
    rw [if_neg (by omega), List.drop_eq_nil_of_le (by omega), depL_nil, w64 (by omega) (by omega), Nat.max_eq_left (Nat.zero_le _)]
  | succ n ih =>
    intro i hi k acc hk h1
    obtain ⟨k, rfl⟩ : ∃ m, k = m + 1 := ⟨k - 1, by omega⟩
    have hil : i < ys.length := by omega
    have hd := cntL_drop ys i hil
    have he := depL_drop ys i hil
    have hp := cnt_pos ys[i]
    have hlen := len_cntL ys
    have hde := depL_le (ys.drop i)
    have hcd : cntL (ys.drop i) ≤ cntL ys := by
      have h := cntL_append (ys.take i) (ys.drop i)
      rw [List.take_append_drop] at h
      omega
    simp only [epactref09_Depth.l0]
    rw [if_pos (by omega), if_pos (by omega), rd_at ys i hil, hf i hil k (by omega)]
    show (if (dep ys[i] : Int) > (acc : Int) then epactref09_Depth.l0 k (dep ys[i] : Int) (wrap64 ((i : Int) + 1)) o s ns ys else epactref09_Depth.l0 k (acc : Int) (wrap64 ((i : Int) + 1)) o s ns ys) = _
    rw [w64 (by omega) (by omega), show (i : Int) + 1 = ((i + 1 : Nat) : Int) by omega]
    have hdi : dep ys[i] ≤ depL (ys.drop i) := by rw [he]; exact Nat.le_max_left _ _
    by_cases hg : (dep ys[i] : Int) > (acc : Int)
    · rw [if_pos hg, ih (i + 1) (by omega) k (dep ys[i]) (by omega) (by omega), he]
      congr 3
      omega
    · rw [if_neg hg, ih (i + 1) (by omega) k acc (by omega) (by omega), he]
      congr 3
      omega
theorem refDepth_f (N : Nat) : ∀ x : X, cnt x ≤ N → cnt x ≤ 1099511627776 → ∀ k : Nat, 2 * cnt x ≤ k → epactref09_Depth.f k x.f0 x.f1 x.f2 x.f3 = some (dep x : Int) := by
  induction N with
  | zero => intro x hx; have := cnt_pos x; omega
  | succ N ih =>
    intro x hx hb k hk
    have hc := cnt_eq x
    have hp := cnt_pos x
    have hde := depL_le x.f3
    obtain ⟨k, rfl⟩ : ∃ m, k = m + 1 := ⟨k - 1, by omega⟩
    simp only [epactref09_Depth.f]
    have h := refDepth_l0 x.f0 x.f1 x.f2 x.f3 (by omega) (fun i hi m hm => ih x.f3[i] (by have := cnt_child (List.getElem_mem hi); omega) (by have := cnt_child (List.getElem_mem hi); omega) m hm) x.f3.length 0 (by omega) k 0 (by rw [List.drop_zero]; omega) (by omega)
    rw [List.drop_zero] at h
    rw [show ((0 : Nat) : Int) = 0 from rfl] at h
    rw [h, dep_eq x]
    congr 1
    rw [Nat.max_eq_right (Nat.zero_le _)]
    omega
theorem refKind_f (o : Int) (h0 : 0 ≤ o) : epactref09_kind.f 3 o = some (if o ≤ 12 then numsOf o else -1, argsOf o) := by
  by_cases h : o ≤ 12
  · rcases (show o = 0 ∨ o = 1 ∨ o = 2 ∨ o = 3 ∨ o = 4 ∨ o = 5 ∨ o = 6 ∨ o = 7 ∨ o = 8 ∨ o = 9 ∨ o = 10 ∨ o = 11 ∨ o = 12 by omega) with rfl | rfl | rfl | rfl | rfl | rfl | rfl | rfl | rfl | rfl | rfl | rfl | rfl <;> decide
  · have e2 : argsOf o = 0 := by unfold argsOf; rw [if_pos (by omega)]
    rw [if_neg h, e2]
    have hb : ∀ n : Int, n ≤ 12 → (o == n) = false := fun n hn => beq_eq_false_iff_ne.2 (by omega)
    simp only [epactref09_kind.f, epactref09_kind.j0, epactref09_kind.j1]
    rw [if_neg (by omega), if_neg (by omega), hb 2 (by omega), if_neg (by simp), if_neg (by omega), if_neg (by omega), if_neg (by omega), hb 9 (by omega), if_neg (by simp), if_neg (by omega), if_neg (by omega), if_neg (by omega), if_neg (by omega), if_neg (by omega), if_neg (by omega)]
theorem bt_data (s : ByteArray) (i : Nat) (hi : i < s.data.toList.length) : bt s i = (s.data.toList[i].toNat : Int) := by
  have hs : i < s.size := by simpa using hi
  unfold bt
  rw [Int.toNat_natCast, dif_pos hs]
  rfl
theorem letter_iff (b : UInt8) : letterB b = true ↔ ((b.toNat : Int) = 95 ∨ (48 ≤ (b.toNat : Int) ∧ (b.toNat : Int) ≤ 57) ∨ (97 ≤ (b.toNat : Int) ∧ (b.toNat : Int) ≤ 122) ∨ (65 ≤ (b.toNat : Int) ∧ (b.toNat : Int) ≤ 90)) := by
  unfold letterB alphaB digitB
  simp only [Bool.or_eq_true, Bool.and_eq_true, decide_eq_true_eq]
  omega
theorem refName_l0 (s : ByteArray) (hs : s.size ≤ 1000) : ∀ (n i : Nat), i + n = s.data.toList.length → ∀ k : Nat, n + 1 ≤ k → epactref09_Name.l0 k s i = some ((s.data.toList.drop i).all letterB) := by
  have hsz : s.size = s.data.toList.length := by simp
  intro n
  induction n with
  | zero =>
    intro i hi k hk
    obtain ⟨k, rfl⟩ : ∃ m, k = m + 1 := ⟨k - 1, by omega⟩
    simp only [epactref09_Name.l0]
    rw [if_neg (by omega), List.drop_eq_nil_of_le (by omega)]
    rfl
  | succ n ih =>
    intro i hi k hk
    obtain ⟨k, rfl⟩ : ∃ m, k = m + 1 := ⟨k - 1, by omega⟩
    have hil : i < s.data.toList.length := by omega
    rw [List.drop_eq_getElem_cons hil, List.all_cons]
    have hn := ih (i + 1) (by omega) k (by omega)
    rw [show ((i + 1 : Nat) : Int) = (i : Int) + 1 by omega] at hn
    have hL := letter_iff s.data.toList[i]
    simp only [epactref09_Name.l0]
    rw [w64 (by omega) (by omega), bt_data s i hil, hn, if_pos (by omega), if_pos (by omega)]
    generalize (s.data.toList[i].toNat : Int) = c at *
    by_cases hl : letterB s.data.toList[i] = true
    · have hc := hL.1 hl
      rw [hl, Bool.true_and]
      repeat' split
      all_goals first | rfl | (exfalso; omega)
    · have hc : ¬ _ := fun h => hl (hL.2 h)
      rw [Bool.eq_false_iff.2 hl, Bool.false_and]
      repeat' split
      all_goals first | rfl | (exfalso; omega)
theorem refName_f (s : ByteArray) (k : Nat) (hk : 40 ≤ k) : epactref09_Name.f k s = some (nameB s) := by
  have hsz : s.size = s.data.toList.length := by simp
  obtain ⟨k, rfl⟩ : ∃ m, k = m + 1 := ⟨k - 1, by omega⟩
  unfold epactref09_Name.f nameB
  cases hd : s.data.toList with
  | nil =>
    rw [hd] at hsz
    rw [if_pos (by rw [hsz]; decide)]
    simp only [epactref09_Name.j0]
    rfl
  | cons b l =>
    have hl : s.size = l.length + 1 := by rw [hsz, hd]; rfl
    rw [if_neg (by omega)]
    have h0 : bt s 0 = (b.toNat : Int) := by
      have := bt_data s 0 (by rw [hd]; simp)
      rw [show ((0 : Nat) : Int) = 0 from rfl] at this
      rw [this]
      simp [hd]
    have ha : alphaB b = true ↔ (letterB b = true ∧ ¬ (48 ≤ (b.toNat : Int) ∧ (b.toNat : Int) ≤ 57)) := by
      rw [letter_iff]
      unfold alphaB
      simp only [Bool.or_eq_true, Bool.and_eq_true, decide_eq_true_eq]
      omega
    rw [show nameL (b :: l) = (decide (l.length < 30) && alphaB b && l.all letterB) from rfl]
    by_cases hg : (s.size : Int) > 30
    · rw [if_pos hg]
      simp only [epactref09_Name.j0]
      rw [decide_eq_false (by omega)]
      rfl
    · rw [if_neg hg, if_pos (by omega), h0]
      rw [decide_eq_true (show l.length < 30 by omega), Bool.true_and]
      have hrun := refName_l0 s (by omega) s.data.toList.length 0 (by omega) k (by omega)
      rw [List.drop_zero, hd, List.all_cons, show ((0 : Nat) : Int) = 0 from rfl] at hrun
      by_cases hdg : 48 ≤ (b.toNat : Int) ∧ (b.toNat : Int) ≤ 57
      · rw [if_pos (by omega)]
        simp only [epactref09_Name.j0]
        rw [if_pos (decide_eq_true hdg.2)]
        have : alphaB b = false := Bool.eq_false_iff.2 (fun h => (ha.1 h).2 hdg)
        rw [this]
        rfl
      · have hal : alphaB b = letterB b := by
          by_cases hb : letterB b = true
          · rw [hb, ha]; exact ⟨hb, hdg⟩
          · rw [Bool.eq_false_iff.2 hb, Bool.eq_false_iff]; exact fun h => hb (ha.1 h).1
        rw [hal]
        split
        · simp only [epactref09_Name.j0]
          rw [if_neg (by rw [decide_eq_true_eq]; omega)]
          exact hrun
        · simp only [epactref09_Name.j0]
          rw [if_neg (by simp)]
          exact hrun
end Go.Proofs.YtjeofffddbibeaaDoor.Ex
end

section
namespace Go.Proofs.YtjeofffddbibeaaDoor.Pa
open Go Go.RowKit Go.Proofs.YtjeofffddbibeaaDoor.PParseTells Go.Proofs.YtjeofffddbibeaaDoor.Ex Go.Proofs.YtjeofffddbibeaaDoorW.PrintWords Go.Proofs.YtjeofffddbibeaaDoorW.PrintLast Go.Proofs.YtjeofffddbibeaaDoorW.PrintMore
set_option linter.unusedVariables false
set_option linter.unusedSimpArgs false
def tailW : Bool → List (List Tok) → List Tok
  | _, [] => [mR]
  | f, a :: r => (if f = true then [] else [mC]) ++ (a ++ tailW false r)
theorem tail_seq : ∀ l : List (List Tok), tailW true l = seqW l
  | [] => rfl
  | [a] => rfl
  | a :: b :: r => by
    have ih := tail_seq (b :: r)
    rw [seq_cons, if_neg (by simp), ← ih]
    rfl
theorem tail_le : ∀ (f : Bool) (l : List (List Tok)), (tailW f l).length ≤ (tailW false l).length
  | f, [] => Nat.le_refl _
  | f, a :: r => by cases f <;> simp [tailW]
theorem wordsL_len : ∀ l : List X, (wordsL l).length = l.length
  | [] => by rw [wordsL_nil]; rfl
  | y :: l => by rw [wordsL_cons, List.length_cons, List.length_cons, wordsL_len l]
theorem wordsL_at : ∀ (l : List X) (i : Nat) (h : i < l.length), (wordsL l)[i]? = some (wordsX l[i])
  | y :: l, 0, h => by rw [wordsL_cons]; rfl
  | y :: l, i + 1, h => by
    rw [wordsL_cons, List.getElem?_cons_succ, wordsL_at l i (by simpa using h)]
    rfl
theorem refWords_l0 (o : Int) (s : ByteArray) (ns : List Int) (xs : List X) (hm : ns.length + xs.length ≤ 1000)
    (hf : ∀ (i : Nat) (hi : i < xs.length) (k : Nat), 10 * cnt xs[i] ≤ k → epactref11_Words.f k xs[i].f0 xs[i].f1 xs[i].f2 xs[i].f3 = some (wordsX xs[i])) :
    ∀ (n i : Nat), i + n = ns.length + xs.length → ∀ (k : Nat) (out : List Tok), 10 * cntL xs + n + 1 ≤ k → (out ++ tailW false ((ns.map (fun v => [nTok v]) ++ wordsL xs).drop i)).length < 4398046511104 →
      epactref11_Words.l0 k out i o s ns xs = some (out ++ tailW (decide (i = 0)) ((ns.map (fun v => [nTok v]) ++ wordsL xs).drop i)) := by
  have hil : (ns.map (fun v => [nTok v]) ++ wordsL xs).length = ns.length + xs.length := by rw [List.length_append, List.length_map, wordsL_len]
  intro n
  induction n with
  | zero =>
    intro i hi k out hk hl
    obtain ⟨k, rfl⟩ : ∃ m, k = m + 1 := ⟨k - 1, by omega⟩
    rw [List.drop_eq_nil_of_le (by omega)] at hl ⊢
    rw [epactref11_Words.l0, w64 (by omega) (by omega), if_neg (by omega)]
    have hl' : out.length < 4398046511104 := by
      rw [List.length_append] at hl
      omega
    show (if out.length < 4398046511104 then some (out ++ [(⟨4, ⟨#[41]⟩, 0⟩ : Tok)]) else none) = some (out ++ [mR])
    rw [if_pos hl']
  | succ n ih =>
    intro i hi k out hk hl
    obtain ⟨k, rfl⟩ : ∃ m, k = m + 1 := ⟨k - 1, by omega⟩
    obtain ⟨it, hit⟩ : ∃ it, (ns.map (fun v => [nTok v]) ++ wordsL xs)[i]? = some it := ⟨_, List.getElem?_eq_getElem (by omega)⟩
    have hdr : (ns.map (fun v => [nTok v]) ++ wordsL xs).drop i = it :: (ns.map (fun v => [nTok v]) ++ wordsL xs).drop (i + 1) := by
      obtain ⟨h, he⟩ := List.getElem?_eq_some_iff.1 hit
      rw [List.drop_eq_getElem_cons h, he]
    rw [hdr] at hl ⊢
    have key : ∀ y : List Tok, (y ++ (it ++ tailW false ((ns.map (fun v => [nTok v]) ++ wordsL xs).drop (i + 1)))).length < 4398046511104 →
        epactref11_Words.l0 k (y ++ it) (wrap64 ((i : Int) + 1)) o s ns xs = some (y ++ (it ++ tailW false ((ns.map (fun v => [nTok v]) ++ wordsL xs).drop (i + 1)))) := fun y hy => by
      rw [w64 (by omega) (by omega)]
      have h := ih (i + 1) (by omega) k (y ++ it) (by omega) (by rw [List.append_assoc]; exact hy)
      rw [show ((i + 1 : Nat) : Int) = (i : Int) + 1 by omega] at h
      rw [h, List.append_assoc]
      rw [show decide (i + 1 = 0) = false from decide_eq_false (by omega)]
    have inner : ∀ y : List Tok, (y ++ (it ++ tailW false ((ns.map (fun v => [nTok v]) ++ wordsL xs).drop (i + 1)))).length < 4398046511104 →
        (if (i : Int) < (ns.length : Int) then (if 0 ≤ (i : Int) then (if y.length < 4398046511104 then (epactref11_Words.l0 k (y ++ [⟨2, (⟨#[]⟩ : ByteArray), rd ns (i : Int)⟩]) (wrap64 ((i : Int) + 1)) o s ns xs) else none) else none)
          else (if 0 ≤ (wrap64 ((i : Int) - (ns.length : Int))) then (if (wrap64 ((i : Int) - (ns.length : Int))) < (xs.length : Int) then ((epactref11_Words.f k ((rd_T25 xs (wrap64 ((i : Int) - (ns.length : Int)))).f0) ((rd_T25 xs (wrap64 ((i : Int) - (ns.length : Int)))).f1) ((rd_T25 xs (wrap64 ((i : Int) - (ns.length : Int)))).f2) ((rd_T25 xs (wrap64 ((i : Int) - (ns.length : Int)))).f3)).bind fun t => (if y.length + t.length < 4398046511104 then (epactref11_Words.l0 k (y ++ t) (wrap64 ((i : Int) + 1)) o s ns xs) else none)) else none) else none))
        = some (y ++ (it ++ tailW false ((ns.map (fun v => [nTok v]) ++ wordsL xs).drop (i + 1)))) := fun y hy => by
      have hy' := hy
      rw [List.length_append, List.length_append] at hy'
      by_cases hin : i < ns.length
      · have he : it = [nTok ns[i]] := by
          rw [List.getElem?_append_left (by rw [List.length_map]; exact hin), List.getElem?_map, List.getElem?_eq_getElem hin] at hit
          exact (Option.some.inj hit).symm
        have hr : rd ns (i : Int) = ns[i] := by
          unfold rd
          rw [Int.toNat_natCast, List.getD_eq_getElem?_getD, List.getElem?_eq_getElem hin]
          rfl
        rw [if_pos (by omega), if_pos (by omega), if_pos (by omega), hr]
        have hk := key y hy
        rw [he] at hk ⊢
        exact hk
      · have hj : i - ns.length < xs.length := by omega
        have he : it = wordsX xs[i - ns.length] := by
          rw [List.getElem?_append_right (by rw [List.length_map]; omega), List.length_map, wordsL_at xs _ hj] at hit
          exact (Option.some.inj hit).symm
        have hw : wrap64 ((i : Int) - (ns.length : Int)) = ((i - ns.length : Nat) : Int) := by rw [w64 (by omega) (by omega)]; omega
        have hc := cnt_child (x := ⟨0, s, [], xs⟩) (List.getElem_mem hj)
        have hcc := cnt_eq ⟨0, s, [], xs⟩
        have hcc' : cnt ⟨0, s, [], xs⟩ = 1 + cntL xs := hcc
        rw [if_neg (by omega), hw, if_pos (by omega), if_pos (by omega), Ex.rd_at xs _ hj, hf _ hj k (by omega)]
        show (if y.length + (wordsX xs[i - ns.length]).length < 4398046511104 then _ else none) = _
        rw [← he, if_pos (by omega)]
        exact key y hy
    rw [epactref11_Words.l0, w64 (x := (ns.length : Int) + (xs.length : Int)) (by omega) (by omega), if_pos (by omega)]
    have hlen : (out ++ [mC] ++ (it ++ tailW false ((ns.map (fun v => [nTok v]) ++ wordsL xs).drop (i + 1)))).length < 4398046511104 := by
      have : (tailW false (it :: (ns.map (fun v => [nTok v]) ++ wordsL xs).drop (i + 1))) = [mC] ++ (it ++ tailW false ((ns.map (fun v => [nTok v]) ++ wordsL xs).drop (i + 1))) := rfl
      rw [this] at hl
      rw [List.append_assoc]
      exact hl
    by_cases h0 : i = 0
    · rw [if_neg (by omega), decide_eq_true h0]
      exact inner out (by rw [List.append_assoc, List.length_append] at hlen; rw [List.length_append] at hlen ⊢; omega)
    · rw [if_pos (by omega), decide_eq_false h0]
      have ho : out.length < 4398046511104 := by rw [List.append_assoc, List.length_append] at hlen; omega
      have h9 := inner (out ++ [mC]) hlen
      show (if out.length < 4398046511104 then (some (out ++ [(⟨4, ⟨#[44]⟩, 0⟩ : Tok)])).bind _ else none) = _
      rw [if_pos ho]
      refine h9.trans ?_
      rw [List.append_assoc]
      rfl
theorem refOps : epactref11_Ops.f = some (nil8 :: opsL) := rfl
theorem op_at : ∀ o : Int, 1 ≤ o → o ≤ 12 → rdOf ByteArray.empty (nil8 :: opsL) o = opW o := by
  intro o h0 h1
  rcases (show o = 1 ∨ o = 2 ∨ o = 3 ∨ o = 4 ∨ o = 5 ∨ o = 6 ∨ o = 7 ∨ o = 8 ∨ o = 9 ∨ o = 10 ∨ o = 11 ∨ o = 12 by omega) with rfl | rfl | rfl | rfl | rfl | rfl | rfl | rfl | rfl | rfl | rfl | rfl <;> rfl
theorem many_le : ∀ o : Int, 1 ≤ o → o ≤ 12 → numsOf o + argsOf o ≤ 5 ∧ 2 * numsOf o + argsOf o ≤ 8 := by
  intro o h0 h1
  rcases (show o = 1 ∨ o = 2 ∨ o = 3 ∨ o = 4 ∨ o = 5 ∨ o = 6 ∨ o = 7 ∨ o = 8 ∨ o = 9 ∨ o = 10 ∨ o = 11 ∨ o = 12 by omega) with rfl | rfl | rfl | rfl | rfl | rfl | rfl | rfl | rfl | rfl | rfl | rfl <;> decide
/-- How many words. -/
theorem tail_items (xs : List X) (hx : ∀ y ∈ xs, (wordsX y).length ≤ 12 * cnt y) : (tailW false (wordsL xs)).length ≤ 12 * cntL xs + xs.length + 1 := by
  induction xs with
  | nil => rw [wordsL_nil]; simp [tailW]
  | cons y xs ih =>
    have h1 := ih (fun z hz => hx z (by simp [hz]))
    have h2 := hx y (by simp)
    rw [wordsL_cons, cntL_cons]
    show ([mC] ++ (wordsX y ++ tailW false (wordsL xs))).length ≤ _
    rw [List.length_append, List.length_append, List.length_cons, List.length_nil, List.length_cons]
    omega
theorem tail_nums (ns : List Int) (r : List (List Tok)) : (tailW false (ns.map (fun v => [nTok v]) ++ r)).length = 2 * ns.length + (tailW false r).length := by
  induction ns with
  | nil => simp
  | cons v ns ih =>
    rw [List.map_cons, List.cons_append]
    show ([mC] ++ ([nTok v] ++ tailW false (ns.map (fun v => [nTok v]) ++ r))).length = _
    rw [List.length_append, List.length_append, ih, List.length_cons]
    simp
    omega
theorem words_le (N : Nat) : ∀ x : X, cnt x ≤ N → Wf x → allR x = true → (wordsX x).length ≤ 12 * cnt x := by
  induction N with
  | zero => intro x hx; have := cnt_pos x; omega
  | succ N ih =>
    intro x hN hwf hR
    have hcx := cnt_eq x
    rcases right_cases hwf hR with ⟨n, rfl⟩ | ⟨o, ns, xs, rfl, h1, h2, h4, h5, hRL⟩
    · have hw : wordsX ⟨0, n, [], []⟩ = [wTok n] := by rw [words_eq]; exact if_pos (.inl rfl)
      rw [hw]
      have := cnt_pos ⟨0, n, [], []⟩
      simp
      omega
    · have hw : wordsX ⟨o, nil8, ns, xs⟩ = wTok (opW o) :: mL :: seqW (ns.map (fun v => [nTok v]) ++ wordsL xs) := by rw [words_eq]; exact if_neg (by show ¬ (o = 0 ∨ 13 ≤ o); omega)
      have hc : cnt ⟨o, nil8, ns, xs⟩ = 1 + cntL xs := cnt_eq _
      have hmn := many_le o h1 h2
      have hT := tail_items xs (fun y hy => ih y (by have := cnt_mem hy; omega) (hwf.child (x := ⟨o, nil8, ns, xs⟩) hy) (allRL_in hRL hy))
      have hS := tail_le true (ns.map (fun v => [nTok v]) ++ wordsL xs)
      rw [tail_seq, tail_nums] at hS
      rw [hw, hc, List.length_cons, List.length_cons]
      have := (many_ge o h1 h2).2.2
      omega
theorem refWords_f (N : Nat) : ∀ x : X, cnt x ≤ N → Wf x → allR x = true → cnt x ≤ 2000 → ∀ k : Nat, 10 * cnt x ≤ k → epactref11_Words.f k x.f0 x.f1 x.f2 x.f3 = some (wordsX x) := by
  induction N with
  | zero => intro x hx; have := cnt_pos x; omega
  | succ N ih =>
    intro x hN hwf hR hcn k hk
    have hcx := cnt_eq x
    have hle := words_le (cnt x) x (Nat.le_refl _) hwf hR
    obtain ⟨k, rfl⟩ : ∃ m, k = m + 1 + 1 := ⟨k - 2, by omega⟩
    rcases right_cases hwf hR with ⟨n, rfl⟩ | ⟨o, ns, xs, rfl, h1, h2, h4, h5, hRL⟩
    · have hw : wordsX ⟨0, n, [], []⟩ = [wTok n] := by rw [words_eq]; exact if_pos (.inl rfl)
      rw [hw]
      show epactref11_Words.f (k + 1 + 1) 0 n [] [] = _
      rw [epactref11_Words.f, if_pos rfl, epactref11_Words.j0, if_pos rfl]
    · have hw : wordsX ⟨o, nil8, ns, xs⟩ = wTok (opW o) :: mL :: seqW (ns.map (fun v => [nTok v]) ++ wordsL xs) := by rw [words_eq]; exact if_neg (by show ¬ (o = 0 ∨ 13 ≤ o); omega)
      have hc : cnt ⟨o, nil8, ns, xs⟩ = 1 + cntL xs := cnt_eq _
      have hmn := many_le o h1 h2
      have hmg := (many_ge o h1 h2).2.2
      rw [hw] at hle ⊢
      rw [hc] at hk hcn hle hN
      show epactref11_Words.f (k + 1 + 1) o nil8 ns xs = _
      have hge : decide ((wrap64 o) ≥ (((nil8 :: opsL : List ByteArray).length : Nat) : Int)) = false := decide_eq_false (by rw [w64 (by omega) (by omega)]; show ¬ o ≥ 13; omega)
      have hl0 := refWords_l0 o nil8 ns xs (by omega) (fun i hi m hm' => ih xs[i] (by have := cnt_mem (List.getElem_mem hi); omega) (hwf.child (x := ⟨o, nil8, ns, xs⟩) (List.getElem_mem hi)) (allRL_in hRL (List.getElem_mem hi)) (by have := cnt_mem (List.getElem_mem hi); omega) m hm') (ns.length + xs.length) 0 (by omega) k [wTok (opW o), mL] (by omega) (by
        have hT := tail_items xs (fun y hy => words_le (cnt y) y (Nat.le_refl _) (hwf.child (x := ⟨o, nil8, ns, xs⟩) hy) (allRL_in hRL hy))
        rw [List.drop_zero, List.length_append, tail_nums, List.length_cons, List.length_cons, List.length_nil]
        omega)
      rw [List.drop_zero, decide_eq_true rfl, tail_seq] at hl0
      rw [epactref11_Words.f, if_neg (by omega), refOps]
      show epactref11_Words.j0 (k + 1) (decide ((wrap64 o) ≥ (((nil8 :: opsL : List ByteArray).length : Nat) : Int))) o nil8 ns xs = _
      rw [hge, epactref11_Words.j0, if_neg (by simp), refOps]
      show (if 0 ≤ o then (if o < 13 then epactref11_Words.l0 k [(⟨1, rdOf ByteArray.empty (nil8 :: opsL) o, 0⟩ : Tok), mL] 0 o nil8 ns xs else none) else none) = _
      rw [if_pos (by omega), if_pos (by omega), op_at o h1 h2]
      exact hl0
theorem Words_calls (x : X) (A2 : Option Addr) (c2 : Nat) (A3 : Option Addr) (c3 : Nat) (w : World) (h : Has w x A2 c2 A3 c3) (hR : allR x = true) (hc : cnt x ≤ 2000) :
    Calls Tryd.prog 41 #[agg x A2 c2 A3 c3] w fun e w' => ∃ v, e = .returned v ∧ Kd.R k61 61 w' w.heap.size (fun _ => True) v (wordsX x) ∧ Below w.heap.size w w' :=
  epactref11_Words.calls (10 * cnt x) x.f0 x.f1 A2 c2 x.f2 A3 c3 x.f3 _ w h.C2 h.l2 h.C3 h.l3 (refWords_f (cnt x) x (Nat.le_refl _) h.wf hR hc _ (Nat.le_refl _))
end Go.Proofs.YtjeofffddbibeaaDoor.Pa
end

section
namespace Go.Proofs.YtjeofffddbibeaaDoor.Ex
open Go Go.RowKit Go.Proofs.YtjeofffddbibeaaDoor.PParseTells Go.Proofs.YtjeofffddbibeaaDoorW.PrintWords Go.Proofs.YtjeofffddbibeaaDoorW.PrintLast Go.Proofs.YtjeofffddbibeaaDoorW.PrintMore
set_option linter.unusedVariables false
set_option linter.unusedSimpArgs false
abbrev nil8 : ByteArray := { data := #[] }
/-- An expression in a variable of its own. -/
structure InBox (b : Nat) (x : X) (A2 : Option Addr) (c2 : Nat) (A3 : Option Addr) (c3 : Nat) (w : World) : Prop where
  q0 : w.cell? ⟨b, 0, none⟩ = some (.int .u8 x.f0)
  q1 : w.cell? ⟨b, 1, none⟩ = some (.string x.f1)
  q2 : w.cell? ⟨b, 2, none⟩ = some (.slice A2 x.f2.length c2)
  q3 : w.cell? ⟨b, 3, none⟩ = some (.slice A3 x.f3.length c3)
  has : Has w x A2 c2 A3 c3
theorem InBox.later {b : Nat} {x : X} {A2 : Option Addr} {c2 : Nat} {A3 : Option Addr} {c3 : Nat} {w w' : World} (h : InBox b x A2 c2 A3 c3 w) (hb : Below w.heap.size w w') : InBox b x A2 c2 A3 c3 w' :=
  ⟨cell_later hb h.q0, cell_later hb h.q1, cell_later hb h.q2, cell_later hb h.q3, h.has.below hb⟩
theorem InBox.a {b : Nat} {x : X} {A2 : Option Addr} {c2 : Nat} {A3 : Option Addr} {c3 : Nat} {w : World} (h : InBox b x A2 c2 A3 c3 w) (o : Obj) : InBox b x A2 c2 A3 c3 (w.alloc o) := h.later (below_alloc (Below.refl _ _) _)
theorem InBox.lt {b : Nat} {x : X} {A2 : Option Addr} {c2 : Nat} {A3 : Option Addr} {c3 : Nat} {w : World} (h : InBox b x A2 c2 A3 c3 w) : b < w.heap.size := World.block_lt_of_cell? _ _ h.q0
theorem InBox.new {x : X} {A2 : Option Addr} {c2 : Nat} {A3 : Option Addr} {c3 : Nat} {w : World} (h : Has w x A2 c2 A3 c3) (t : TypeId) (k : Nat) (hk : k = w.heap.size) :
    InBox k x A2 c2 A3 c3 (w.alloc (.cells #[.int .u8 x.f0, .string x.f1, .slice A2 x.f2.length c2, .slice A3 x.f3.length c3] t)) := by
  subst hk
  refine ⟨?_, ?_, ?_, ?_, h.below (below_alloc (Below.refl _ _) _)⟩ <;> (rw [World.cell?_alloc_at _ _ _ _ rfl]; rfl)
theorem Has.a {x : X} {A2 : Option Addr} {c2 : Nat} {A3 : Option Addr} {c3 : Nat} {w : World} (h : Has w x A2 c2 A3 c3) (o : Obj) : Has (w.alloc o) x A2 c2 A3 c3 := h.below (below_alloc (Below.refl _ _) _)
end Go.Proofs.YtjeofffddbibeaaDoor.Ex
end

section
namespace Go.Proofs.YtjeofffddbibeaaDoor.Ex
open Go Go.RowKit Go.Proofs.YtjeofffddbibeaaDoor.PParseTells Go.Proofs.YtjeofffddbibeaaDoorW.PrintWords Go.Proofs.YtjeofffddbibeaaDoorW.PrintLast Go.Proofs.YtjeofffddbibeaaDoorW.PrintMore
set_option linter.unusedVariables false
set_option linter.unusedSimpArgs false
/-- An argument in memory, as an index into the arguments reads it. -/
theorem child_at {w : World} {x : X} {A2 : Option Addr} {c2 : Nat} {A3 : Option Addr} {c3 : Nat} (h : Has w x A2 c2 A3 c3) (k : Nat) (hk : k < x.f3.length) :
    ∃ ad B2 d2 B3 d3, A3 = some ad ∧ w.cell? (ad.add (k * 4)) = some (.int .u8 x.f3[k].f0) ∧ w.cell? ⟨(ad.add (k * 4)).block, (ad.add (k * 4)).off + 1, none⟩ = some (.string x.f3[k].f1) ∧
      w.cell? ⟨(ad.add (k * 4)).block, (ad.add (k * 4)).off + 2, none⟩ = some (.slice B2 x.f3[k].f2.length d2) ∧ w.cell? ⟨(ad.add (k * 4)).block, (ad.add (k * 4)).off + 3, none⟩ = some (.slice B3 x.f3[k].f3.length d3) ∧ Has w x.f3[k] B2 d2 B3 d3 := by
  obtain ⟨ad, B2, d2, B3, d3, hA, e0, e1, e2, e3, l2, g2, l3, g3⟩ := at_T25 h.C3 (k : Int) (by omega) (by omega)
  rw [rd_at x.f3 k hk] at e0 e1 e2 e3 l2 g2 l3 g3
  rw [Int.toNat_natCast] at e0 e1 e2 e3
  exact ⟨ad, B2, d2, B3, d3, hA, e0, e1, e2, e3, ⟨h.wf.child (List.getElem_mem hk), l2, g2, l3, g3⟩⟩
theorem nil8_list : nil8.toList = [] := by rw [Lib.toList_data]
theorem allRL_snoc (xs : List X) (k : Nat) (hk : k < xs.length) : allRL (xs.take (k + 1)) = (allRL (xs.take k) && allR xs[k]) := by
  rw [List.take_add_one, List.getElem?_eq_getElem hk]
  show allRL (xs.take k ++ [xs[k]]) = _
  generalize xs.take k = l
  induction l with
  | nil => rw [List.nil_append, allRL_cons, allRL_nil, Bool.and_true, Bool.true_and]
  | cons y l ih => rw [List.cons_append, allRL_cons, allRL_cons, ih, Bool.and_assoc]
theorem allRL_not {xs : List X} {k : Nat} (hk : k < xs.length) (h : allR xs[k] = false) : allRL xs = false := by
  induction xs generalizing k with
  | nil => simp at hk
  | cons y ys ih =>
    rw [allRL_cons]
    cases k with
    | zero => rw [show allR y = false from h, Bool.false_and]
    | succ k => rw [ih (k := k) (by simpa using hk) h, Bool.and_false]
theorem rightB_eq (x : X) (hop : 0 ≤ x.f0) : rightB x = (decide ((if x.f0 ≤ 12 then numsOf x.f0 else -1) = (x.f2.length : Int)) && decide (argsOf x.f0 = (x.f3.length : Int)) && (if x.f0 = 0 then nameB x.f1 else x.f1.toList.isEmpty)) := by
  unfold rightB
  by_cases h : x.f0 ≤ 12
  · rw [decide_eq_true h, if_pos h, Bool.true_and]
    congr 2
    · exact decide_eq_decide.2 eq_comm
    · exact decide_eq_decide.2 eq_comm
  · rw [decide_eq_false h, if_neg h, decide_eq_false (show ¬ ((-1 : Int) = (x.f2.length : Int)) by omega)]
    rfl
set_option maxHeartbeats 8000000 in
set_option maxRecDepth 100000 in
theorem refParts_calls (N : Nat) : ∀ (x : X) (A2 : Option Addr) (c2 : Nat) (A3 : Option Addr) (c3 : Nat) (w : World), cnt x ≤ N → cnt x ≤ 1099511627776 → Has w x A2 c2 A3 c3 →
    Calls Tryd.prog 52 #[agg x A2 c2 A3 c3] w fun e w' => e = .returned (.bool (allR x)) ∧ Below w.heap.size w w' := by
  induction N with
  | zero => intro x _ _ _ _ _ hx; have := cnt_pos x; omega
  | succ N ih =>
    intro x A2 c2 A3 c3 w hN hc hx
    have HR := Aside0.mk ((allR_eq x).trans (congrArg (· && allRL x.f3) (rightB_eq x hx.wf.op.1)))
    have CK := Aside0.mk (fun w => epactref09_kind.calls 3 x.f0 _ _ w (refKind_f x.f0 hx.wf.op.1))
    have CN := Aside0.mk (fun w => epactref09_Name.calls 40 x.f1 _ w (refName_f x.f1 40 (Nat.le_refl _)))
    have ix := InBox.new hx 25 w.heap.size rfl
    have BX0 := Aside0.mk (below_alloc (Below.refl w.heap.size w) (.cells #[.int .u8 x.f0, .string x.f1, .slice A2 x.f2.length c2, .slice A3 x.f3.length c3] 25))
    have IH := Aside0.mk ih
    have IX0 := Aside0.mk ix
    have HN := Aside0.mk hN
    have HC := Aside0.mk hc
    have hlen : x.f3.length ≤ 1099511627776 := by have := len_cntL x.f3; have := cnt_eq x; omega
    clear ix ih hN hc
    generalize (if x.f0 ≤ 12 then numsOf x.f0 else -1) = n at *
    generalize argsOf x.f0 = m at *
    by_cases h1 : n = (x.f2.length : Int)
    · rw [decide_eq_true h1, Bool.true_and] at HR
      have h1a : (n == (x.f2.length : Int)) = true := beq_iff_eq.2 h1
      have h1b : (n != (x.f2.length : Int)) = false := bne_eq_false_iff_eq.2 h1
      clear h1
      by_cases h2 : m = (x.f3.length : Int)
      · rw [decide_eq_true h2, Bool.true_and] at HR
        have h2a : (m == (x.f3.length : Int)) = true := beq_iff_eq.2 h2
        have h2b : (m != (x.f3.length : Int)) = false := bne_eq_false_iff_eq.2 h2
        clear h2
        by_cases h0 : x.f0 = 0
        · rw [if_pos h0] at HR
          have h0a : (x.f0 == 0) = true := beq_iff_eq.2 h0
          have h0b : (x.f0 != 0) = false := bne_eq_false_iff_eq.2 h0
          clear h0
          generalize nameB x.f1 = nb at *
          cases nb
          · rw [Bool.false_and] at HR
            go_enter Tryd.func52, Tryd.ntmps52
            go_wp2_with fail
            (with_reducible refine (CK.out _).mono ?_)
            rintro e w1 ⟨rfl, b1⟩
            have ix := IX0.out.later b1.below
            have IX1 := Aside0.mk ix
            have BX1 := Aside0.mk (below_then BX0.out BX0.out.size b1.below)
            have q0 := ix.q0
            have q1 := ix.q1
            have q2 := ix.q2
            have q3 := ix.q3
            clear ix b1
            go_wp2_with fail
            (with_reducible refine (CN.out _).mono ?_)
            rintro e w2 ⟨rfl, b2⟩
            have ix := IX1.out.later b2.below
            have IX2 := Aside0.mk ix
            have BX2 := Aside0.mk (below_then BX1.out BX1.out.size b2.below)
            clear q0 q1 q2 q3
            have q0 := ix.q0
            have q1 := ix.q1
            have q2 := ix.q2
            have q3 := ix.q3
            clear ix b2
            go_wp2
            go_ret
            exact ⟨by rw [HR.out]; rfl, BX2.out⟩
          · rw [Bool.true_and] at HR
            go_enter Tryd.func52, Tryd.ntmps52
            go_wp2_with fail
            (with_reducible refine (CK.out _).mono ?_)
            rintro e w1 ⟨rfl, b1⟩
            have ix := IX0.out.later b1.below
            have IX1 := Aside0.mk ix
            have BX1 := Aside0.mk (below_then BX0.out BX0.out.size b1.below)
            have q0 := ix.q0
            have q1 := ix.q1
            have q2 := ix.q2
            have q3 := ix.q3
            clear ix b1
            go_wp2_with fail
            (with_reducible refine (CN.out _).mono ?_)
            rintro e w2 ⟨rfl, b2⟩
            have ix := IX1.out.later b2.below
            have IX2 := Aside0.mk ix
            have BX2 := Aside0.mk (below_then BX1.out BX1.out.size b2.below)
            clear q0 q1 q2 q3
            have q0 := ix.q0
            have q1 := ix.q1
            have q2 := ix.q2
            have q3 := ix.q3
            clear ix b2
            go_wp2
            go_loopw [5] (fun j wr => ∃ k : Nat, k ≤ x.f3.length ∧ j = .int .i64 k ∧ allRL (x.f3.take k) = true ∧ Below w2.heap.size w2 wr) (fun j _ => (x.f3.length : Int).toNat - (intOf j).toNat)
            case atStart => exact ⟨0, Nat.zero_le _, rfl, by rw [List.take_zero, allRL_nil], Below.refl _ _⟩
            case round =>
              obtain ⟨k, hk, rfl, hall, hbr⟩ := hrel
              have ix := IX2.out.later hbr
              clear q0 q1 q2 q3
              have q0 := ix.q0
              have q1 := ix.q1
              have q2 := ix.q2
              have q3 := ix.q3
              have HALL := Aside0.mk hall
              have HBR := Aside0.mk hbr
              clear hall hbr
              by_cases hkn : k < x.f3.length
              · have hki : (k : Int) < (x.f3.length : Int) := by omega
                have hki' : decide ((k : Int) < (x.f3.length : Int)) = true := decide_eq_true hki
                obtain ⟨ad, B2, d2, B3, d3, hA, e0, e1, e2, e3, hy⟩ := child_at ix.has k hkn
                subst hA
                have CI := Aside0.mk (IH.out x.f3[k] B2 d2 B3 d3 wr (by have := cnt_child (List.getElem_mem hkn); have := HN.out; omega) (by have := cnt_child (List.getElem_mem hkn); have := HC.out; omega) hy)
                have HS := Aside0.mk (allRL_snoc x.f3 k hkn)
                have HF := Aside0.mk (fun h => allRL_not hkn h)
                clear ix hy
                go_wp2_with fail
                (with_reducible refine CI.out.mono ?_)
                rintro e w3 ⟨rfl, b3⟩
                generalize allR x.f3[k] = r at *
                have HBR := Aside0.mk (below_then HBR.out HBR.out.size b3)
                clear CI b3 e0 e1 e2 e3
                cases r
                · go_wp2
                  go_ret
                  exact ⟨by rw [HR.out, HF.out (by trivial)]; rfl, below_then BX2.out BX2.out.size HBR.out⟩
                · go_wp2_with fail
                  go_roundw
                  case rel => exact ⟨k + 1, by omega, by go_num, by rw [HS.out, HALL.out]; rfl, HBR.out⟩
                  case measure => simp [intOf]; omega
              · obtain rfl : k = x.f3.length := by omega
                have hki' : decide ((x.f3.length : Int) < (x.f3.length : Int)) = false := by simp
                clear ix
                go_wp2
                go_ret
                exact ⟨by rw [HR.out, ← HALL.out, List.take_length]; rfl, below_then BX2.out BX2.out.size HBR.out⟩
        · rw [if_neg h0] at HR
          have h0a : (x.f0 == 0) = false := beq_eq_false_iff_ne.2 h0
          have h0b : (x.f0 != 0) = true := bne_iff_ne.2 h0
          clear h0
          by_cases he : x.f1.toList = []
          · rw [List.isEmpty_iff.2 he, Bool.true_and] at HR
            have hi : x.f1.toList.isEmpty = true := List.isEmpty_iff.2 he
            have hin : (!x.f1.toList.isEmpty) = false := by rw [hi]; rfl
            have hea : (x.f1.toList == nil8.toList) = true := by rw [he, nil8_list]; rfl
            have heb : (x.f1.toList != nil8.toList) = false := by rw [he, nil8_list]; rfl
            go_enter Tryd.func52, Tryd.ntmps52
            go_wp2_with fail
            (with_reducible refine (CK.out _).mono ?_)
            rintro e w1 ⟨rfl, b1⟩
            have ix := IX0.out.later b1.below
            have IX1 := Aside0.mk ix
            have BX1 := Aside0.mk (below_then BX0.out BX0.out.size b1.below)
            have q0 := ix.q0
            have q1 := ix.q1
            have q2 := ix.q2
            have q3 := ix.q3
            clear ix b1
            go_wp2
            go_loopw [5] (fun j wr => ∃ k : Nat, k ≤ x.f3.length ∧ j = .int .i64 k ∧ allRL (x.f3.take k) = true ∧ Below w1.heap.size w1 wr) (fun j _ => (x.f3.length : Int).toNat - (intOf j).toNat)
            case atStart => exact ⟨0, Nat.zero_le _, rfl, by rw [List.take_zero, allRL_nil], Below.refl _ _⟩
            case round =>
              obtain ⟨k, hk, rfl, hall, hbr⟩ := hrel
              have ix := IX1.out.later hbr
              clear q0 q1 q2 q3
              have q0 := ix.q0
              have q1 := ix.q1
              have q2 := ix.q2
              have q3 := ix.q3
              have HALL := Aside0.mk hall
              have HBR := Aside0.mk hbr
              clear hall hbr
              by_cases hkn : k < x.f3.length
              · have hki : (k : Int) < (x.f3.length : Int) := by omega
                have hki' : decide ((k : Int) < (x.f3.length : Int)) = true := decide_eq_true hki
                obtain ⟨ad, B2, d2, B3, d3, hA, e0, e1, e2, e3, hy⟩ := child_at ix.has k hkn
                subst hA
                have CI := Aside0.mk (IH.out x.f3[k] B2 d2 B3 d3 wr (by have := cnt_child (List.getElem_mem hkn); have := HN.out; omega) (by have := cnt_child (List.getElem_mem hkn); have := HC.out; omega) hy)
                have HS := Aside0.mk (allRL_snoc x.f3 k hkn)
                have HF := Aside0.mk (fun h => allRL_not hkn h)
                clear ix hy
                go_wp2_with fail
                (with_reducible refine CI.out.mono ?_)
                rintro e w3 ⟨rfl, b3⟩
                generalize allR x.f3[k] = r at *
                have HBR := Aside0.mk (below_then HBR.out HBR.out.size b3)
                clear CI b3 e0 e1 e2 e3
                cases r
                · go_wp2
                  go_ret
                  exact ⟨by rw [HR.out, HF.out (by trivial)]; rfl, below_then BX1.out BX1.out.size HBR.out⟩
                · go_wp2_with fail
                  go_roundw
                  case rel => exact ⟨k + 1, by omega, by go_num, by rw [HS.out, HALL.out]; rfl, HBR.out⟩
                  case measure => simp [intOf]; omega
              · obtain rfl : k = x.f3.length := by omega
                have hki' : decide ((x.f3.length : Int) < (x.f3.length : Int)) = false := by simp
                clear ix
                go_wp2
                go_ret
                exact ⟨by rw [HR.out, ← HALL.out, List.take_length]; rfl, below_then BX1.out BX1.out.size HBR.out⟩
          · have hi : x.f1.toList.isEmpty = false := by rw [Bool.eq_false_iff]; exact fun h => he (List.isEmpty_iff.1 h)
            rw [hi, Bool.false_and] at HR
            have hea : (x.f1.toList == nil8.toList) = false := by rw [nil8_list]; exact beq_eq_false_iff_ne.2 he
            have heb : (x.f1.toList != nil8.toList) = true := by rw [nil8_list]; exact bne_iff_ne.2 he
            have hin : (!x.f1.toList.isEmpty) = true := by rw [hi]; rfl
            go_enter Tryd.func52, Tryd.ntmps52
            go_wp2_with fail
            (with_reducible refine (CK.out _).mono ?_)
            rintro e w1 ⟨rfl, b1⟩
            have ix := IX0.out.later b1.below
            have IX1 := Aside0.mk ix
            have BX1 := Aside0.mk (below_then BX0.out BX0.out.size b1.below)
            have q0 := ix.q0
            have q1 := ix.q1
            have q2 := ix.q2
            have q3 := ix.q3
            clear ix b1
            go_wp2
            go_ret
            exact ⟨by rw [HR.out]; rfl, BX1.out⟩
      · rw [decide_eq_false h2, Bool.false_and, Bool.false_and] at HR
        have h2a : (m == (x.f3.length : Int)) = false := beq_eq_false_iff_ne.2 h2
        have h2b : (m != (x.f3.length : Int)) = true := bne_iff_ne.2 h2
        clear h2
        go_enter Tryd.func52, Tryd.ntmps52
        go_wp2_with fail
        (with_reducible refine (CK.out _).mono ?_)
        rintro e w1 ⟨rfl, b1⟩
        have ix := IX0.out.later b1.below
        have IX1 := Aside0.mk ix
        have BX1 := Aside0.mk (below_then BX0.out BX0.out.size b1.below)
        have q0 := ix.q0
        have q1 := ix.q1
        have q2 := ix.q2
        have q3 := ix.q3
        clear ix b1
        go_wp2
        go_ret
        exact ⟨by rw [HR.out]; rfl, BX1.out⟩
    · rw [decide_eq_false h1, Bool.false_and, Bool.false_and, Bool.false_and] at HR
      have h1a : (n == (x.f2.length : Int)) = false := beq_eq_false_iff_ne.2 h1
      have h1b : (n != (x.f2.length : Int)) = true := bne_iff_ne.2 h1
      clear h1
      go_enter Tryd.func52, Tryd.ntmps52
      go_wp2_with fail
      (with_reducible refine (CK.out _).mono ?_)
      rintro e w1 ⟨rfl, b1⟩
      have ix := IX0.out.later b1.below
      have IX1 := Aside0.mk ix
      have BX1 := Aside0.mk (below_then BX0.out BX0.out.size b1.below)
      have q0 := ix.q0
      have q1 := ix.q1
      have q2 := ix.q2
      have q3 := ix.q3
      clear ix b1
      go_wp2
      go_ret
      exact ⟨by rw [HR.out]; rfl, BX1.out⟩
set_option maxHeartbeats 4000000 in
theorem refRight_calls (x : X) (A2 : Option Addr) (c2 : Nat) (A3 : Option Addr) (c3 : Nat) (w : World) (hc : cnt x ≤ 1099511627776) (hx : Has w x A2 c2 A3 c3) :
    Calls Tryd.prog 26 #[agg x A2 c2 A3 c3] w fun e w' => e = .returned (.bool (RightB x)) ∧ Below w.heap.size w w' := by
  have HR := Aside0.mk (show RightB x = (allR x && decide (dep x ≤ 40) && decide (cnt x ≤ 2000)) from rfl)
  have ix := InBox.new hx 25 w.heap.size rfl
  have BX0 := Aside0.mk (below_alloc (Below.refl w.heap.size w) (.cells #[.int .u8 x.f0, .string x.f1, .slice A2 x.f2.length c2, .slice A3 x.f3.length c3] 25))
  have IX0 := Aside0.mk ix
  have CP := Aside0.mk (refParts_calls (cnt x) x A2 c2 A3 c3 _ (Nat.le_refl _) hc ix.has)
  have CD := Aside0.mk (fun (w : World) (h : Has w x A2 c2 A3 c3) => epactref09_Depth.calls (2 * cnt x) x.f0 x.f1 A2 c2 x.f2 A3 c3 x.f3 _ w h.C2 h.l2 h.C3 h.l3 (refDepth_f (cnt x) x (Nat.le_refl _) hc _ (Nat.le_refl _)))
  have CC := Aside0.mk (fun (w : World) (h : Has w x A2 c2 A3 c3) => epactref09_Count.calls (2 * cnt x) x.f0 x.f1 A2 c2 x.f2 A3 c3 x.f3 _ w h.C2 h.l2 h.C3 h.l3 (refCount_f (cnt x) x (Nat.le_refl _) hc _ (Nat.le_refl _)))
  have hd1 : decide ((dep x : Int) ≤ 40) = decide (dep x ≤ 40) := decide_eq_decide.2 (by omega)
  have hd2 : decide ((cnt x : Int) ≤ 2000) = decide (cnt x ≤ 2000) := decide_eq_decide.2 (by omega)
  have D1 := Aside0.mk hd1
  have D2 := Aside0.mk hd2
  clear ix hd1 hd2
  generalize allR x = r1 at *
  cases r1
  · go_enter Tryd.func26, Tryd.ntmps26
    go_wp2_with fail
    (with_reducible refine (CP.out).mono ?_)
    rintro e w1 ⟨rfl, b1⟩
    have BX1 := Aside0.mk (below_then BX0.out BX0.out.size b1)
    clear b1
    go_wp2
    go_ret
    exact ⟨by rw [HR.out]; rfl, BX1.out⟩
  · by_cases hd : dep x ≤ 40
    · have e1 : decide ((dep x : Int) ≤ 40) = true := decide_eq_true (by omega)
      go_enter Tryd.func26, Tryd.ntmps26
      go_wp2_with fail
      (with_reducible refine (CP.out).mono ?_)
      rintro e w1 ⟨rfl, b1⟩
      have BX1 := Aside0.mk (below_then BX0.out BX0.out.size b1)
      have ix := IX0.out.later b1
      have IX1 := Aside0.mk ix
      have q0 := ix.q0
      have q1 := ix.q1
      have q2 := ix.q2
      have q3 := ix.q3
      have CX := Aside0.mk (CD.out _ ix.has)
      clear ix b1
      go_wp2_with fail
      (with_reducible refine (CX.out).mono ?_)
      rintro e w2 ⟨rfl, b2⟩
      have BX2 := Aside0.mk (below_then BX1.out BX1.out.size b2)
      have ix := IX1.out.later b2
      clear q0 q1 q2 q3
      have q0 := ix.q0
      have q1 := ix.q1
      have q2 := ix.q2
      have q3 := ix.q3
      have CY := Aside0.mk (CC.out _ ix.has)
      clear ix b2
      go_wp2_with fail
      (with_reducible refine (CY.out).mono ?_)
      rintro e w3 ⟨rfl, b3⟩
      have BX3 := Aside0.mk (below_then BX2.out BX2.out.size b3)
      clear b3
      go_wp2
      go_ret
      exact ⟨by rw [HR.out, decide_eq_true hd, ← D2.out]; rfl, BX3.out⟩
    · have e1 : decide ((dep x : Int) ≤ 40) = false := decide_eq_false (by omega)
      go_enter Tryd.func26, Tryd.ntmps26
      go_wp2_with fail
      (with_reducible refine (CP.out).mono ?_)
      rintro e w1 ⟨rfl, b1⟩
      have BX1 := Aside0.mk (below_then BX0.out BX0.out.size b1)
      have ix := IX0.out.later b1
      have IX1 := Aside0.mk ix
      have q0 := ix.q0
      have q1 := ix.q1
      have q2 := ix.q2
      have q3 := ix.q3
      have CX := Aside0.mk (CD.out _ ix.has)
      clear ix b1
      go_wp2_with fail
      (with_reducible refine (CX.out).mono ?_)
      rintro e w2 ⟨rfl, b2⟩
      have BX2 := Aside0.mk (below_then BX1.out BX1.out.size b2)
      clear b2
      go_wp2
      go_ret
      exact ⟨by rw [HR.out, decide_eq_false hd]; rfl, BX2.out⟩
end Go.Proofs.YtjeofffddbibeaaDoor.Ex
end

section
namespace Go.Proofs.YtjeofffddbibeaaDoor.Pa
open Go Go.RowKit Go.Proofs.YtjeofffddbibeaaDoor.PParseTells Go.Proofs.YtjeofffddbibeaaDoor.Ex Go.Proofs.YtjeofffddbibeaaDoorW.PrintWords Go.Proofs.YtjeofffddbibeaaDoorW.PrintLast Go.Proofs.YtjeofffddbibeaaDoorW.PrintMore
set_option linter.unusedVariables false
set_option linter.unusedSimpArgs false
abbrev CLN : ByteArray := ⟨#[58]⟩
abbrev LBR : ByteArray := ⟨#[91]⟩
abbrev RBR : ByteArray := ⟨#[93]⟩
def endF (s : ByteArray) (L : List Tok) : Int × Bool × List Tok × Int :=
  if isF s L = true then (0, false, (markF s L).1, (markF s L).2)
  else if (numF L).2.2 = 0 then ((numF L).1.f2, decide ((markF s (numF L).2.1).2 = 0), (markF s (numF L).2.1).1, (markF s (numF L).2.1).2)
  else ((numF L).1.f2, false, (numF L).2.1, (numF L).2.2)
theorem end_e (s : ByteArray) (L : List Tok) : (endF s L).2.2.2 = 0 ∨ (endF s L).2.2.2 = 110 := by
  have hmk : ∀ L, (markF s L).2 = 0 ∨ (markF s L).2 = 110 := fun L => by
    rcases mark_cases s L with ⟨t, r, _, h, _⟩ | ⟨h, _⟩
    · exact .inl (by rw [h])
    · exact .inr (by rw [h])
  unfold endF
  split
  · exact hmk L
  · split
    · exact hmk _
    · rcases take_cases [2, 3] L with ⟨t, r, _, h, _⟩ | h
      · exact .inl (by show (takeF [2, 3] L).2.2 = 0; rw [h])
      · exact .inr (by show (takeF [2, 3] L).2.2 = 110; rw [h])
set_option maxHeartbeats 8000000 in
theorem end_calls (g : Nat) (s : ByteArray) (L : List Tok) (a p : Int) (w0 w : World) (hI : IsP w0 w g L a p) :
    Calls Tryd.prog 97 #[.pointer (some ⟨g, 0, none⟩), .string s] w fun e w' => e = .returned (.tuple #[.int .i64 (endF s L).1, .bool (endF s L).2.1, .int .i64 (endF s L).2.2.2]) ∧ IsP w0 w' g (endF s L).2.2.1 a p ∧ Kept w w' (At g) := by
  have CI := Aside0.mk (is_calls g s L a p w0 w hI)
  have CM := fun L W h => Aside0.mk (mark_calls g s L a p w0 W h)
  have CN := fun W h => Aside0.mk (number_calls g L a p w0 W h)
  have HI := Aside0.mk hI
  clear hI
  cases hi : isF s L with
  | true =>
    have he : endF s L = (0, false, (markF s L).1, (markF s L).2) := if_pos hi
    rw [he]
    rw [hi] at CI
    rcases mark_cases s L with ⟨t, r, hL, hm, _⟩ | ⟨hm, hx⟩
    · have CM := CM L
      rw [hm] at CM ⊢
      dsimp only at CM ⊢
      clear he hi hm hL CN
      go_enter Tryd.func97, Tryd.ntmps97
      go_wp2_with fail
      (with_reducible refine CI.out.mono ?_)
      rintro e w1 ⟨rfl, hd1⟩
      have HI1 := Aside0.mk (HI.out.drawn hd1)
      have HK := Aside0.mk ((Kept.refl w (At g)).below hd1.below)
      clear hd1 CI
      go_wp2_with fail
      (with_reducible refine (CM _ ?i).out.mono ?_)
      case i => exact HI1.out
      rintro e w2 ⟨rfl, hI2, hk2⟩
      have HI2 := Aside0.mk hI2
      have HK2 := Aside0.mk (HK.out.then_ hk2 (fun _ h => .inl h))
      clear hI2 hk2 CM
      go_wp2
      refine bodyPost_ret (results_list (rs := [.tmp 4, .tmp 5, .tmp 6]) rfl (by simp) (.tmp (.tmp (.tmp .nil)))) rfl ?_
      exact ⟨rfl, HI2.out, HK2.out⟩
    · rw [hi] at hx; cases hx
  | false =>
    rw [hi] at CI
    rcases take_cases [2, 3] L with ⟨t, r, hL, ht, _⟩ | ht
    · have he : endF s L = (t.f2, decide ((markF s r).2 = 0), (markF s r).1, (markF s r).2) := by
        unfold endF
        rw [if_neg (by rw [hi]; simp), show numF L = (t, r, 0) from ht, if_pos rfl]
      rw [he]
      rw [show numF L = (t, r, 0) from ht] at CN
      dsimp only at CN
      have CM := CM r
      rcases mark_cases s r with ⟨t9, r9, hL9, hm, _⟩ | ⟨hm, _⟩
      all_goals rw [hm] at CM ⊢
      all_goals dsimp only at CM ⊢
      all_goals clear he hi hm hL ht
      all_goals go_enter Tryd.func97, Tryd.ntmps97
      all_goals go_wp2_with fail
      all_goals (with_reducible refine CI.out.mono ?_)
      all_goals rintro e w1 ⟨rfl, hd1⟩
      all_goals have HI1 := Aside0.mk (HI.out.drawn hd1)
      all_goals have HK := Aside0.mk ((Kept.refl w (At g)).below hd1.below)
      all_goals clear hd1 CI
      all_goals go_wp2_with fail
      all_goals (with_reducible refine (CN _ HI1.out).out.mono ?_)
      all_goals rintro e w2 ⟨rfl, hI2, hk2⟩
      all_goals have HI2 := Aside0.mk hI2
      all_goals have HK2 := Aside0.mk (HK.out.then_ hk2 (fun _ h => .inl h))
      all_goals clear hI2 hk2 CN
      all_goals go_wp2_with fail
      all_goals (with_reducible refine (CM _ HI2.out).out.mono ?_)
      all_goals rintro e w3 ⟨rfl, hI3, hk3⟩
      all_goals have HI3 := Aside0.mk hI3
      all_goals have HK3 := Aside0.mk (HK2.out.then_ hk3 (fun _ h => .inl h))
      all_goals clear hI3 hk3 CM
      all_goals go_wp2
      all_goals refine bodyPost_ret (results_list (rs := [.tmp 4, .tmp 5, .tmp 6]) rfl (by simp) (.tmp (.tmp (.tmp .nil)))) rfl ?_
      all_goals exact ⟨rfl, HI3.out, HK3.out⟩
    · have he : endF s L = (z61.f2, false, L, 110) := by
        unfold endF
        rw [if_neg (by rw [hi]; simp), show numF L = (z61, L, 110) from ht, if_neg (by simp)]
      rw [he]
      rw [show numF L = (z61, L, 110) from ht] at CN
      dsimp only at CN ⊢
      clear he hi ht CM
      go_enter Tryd.func97, Tryd.ntmps97
      go_wp2_with fail
      (with_reducible refine CI.out.mono ?_)
      rintro e w1 ⟨rfl, hd1⟩
      have HI1 := Aside0.mk (HI.out.drawn hd1)
      have HK := Aside0.mk ((Kept.refl w (At g)).below hd1.below)
      clear hd1 CI
      go_wp2_with fail
      (with_reducible refine (CN _ HI1.out).out.mono ?_)
      rintro e w2 ⟨rfl, hI2, hk2⟩
      have HI2 := Aside0.mk hI2
      have HK2 := Aside0.mk (HK.out.then_ hk2 (fun _ h => .inl h))
      clear hI2 hk2 CN
      go_wp2
      refine bodyPost_ret (results_list (rs := [.tmp 4, .tmp 5, .tmp 6]) rfl (by simp) (.tmp (.tmp (.tmp .nil)))) rfl ?_
      exact ⟨rfl, HI2.out, HK2.out⟩
abbrev TR : TypeId := 52
abbrev rCells (lo hi : Int) (hl hh : Bool) : Array Value := #[.int .i64 lo, .int .i64 hi, .bool hl, .bool hh]
/-- Within the call: the parser, the box that is answered, still empty, and the range so far. -/
structure ScSt (w0 w W : World) (g : Nat) (a : Int) (L : List Tok) (p : Int) (lo hi : Int) (hl hh : Bool) : Prop where
  isp : IsP w0 W g L a p
  kept : Kept w W (At g)
  zero : W.heap[w.heap.size]? = some (.cells (rCells 0 0 false false) TR (0, 0))
  box : W.heap[w.heap.size + 1]? = some (.cells (rCells lo hi hl hh) TR (0, 0))
  lg : g < w.heap.size
section
variable {w0 w W W2 : World} {g : Nat} {a : Int} {L L2 : List Tok} {p p2 lo hi : Int} {hl hh : Bool}
theorem ScSt.at (h : ScSt w0 w W g a L p lo hi hl hh) (hI : IsP w0 W2 g L2 a p2) (hk : Kept W W2 (At g)) : ScSt w0 w W2 g a L2 p2 lo hi hl hh := by
  have h1 := h.lg
  exact ⟨hI, h.kept.then_ hk (fun k hs => .inl hs), blk_kept h.zero hk (fun hs => by have : w.heap.size = g := hs; omega), blk_kept h.box hk (fun hs => by have : w.heap.size + 1 = g := hs; omega), h1⟩
theorem ScSt.low (h : ScSt w0 w W g a L p lo hi hl hh) (n : Int) (b : Bool) : ScSt w0 w ((W.setCell ⟨w.heap.size + 1, 0, none⟩ (.int .i64 n)).setCell ⟨w.heap.size + 1, 2, none⟩ (.bool b)) g a L p n hi b hh := by
  have h1 := h.lg
  have h2 := h.isp.ge
  refine ⟨h.isp.mv (S := At (w.heap.size + 1)) (by (repeat (first | (with_reducible exact Kept.refl _ _) | (with_reducible apply Kept.alloc) | (with_reducible apply Kept.drewN) | (with_reducible apply Kept.drew) | (with_reducible refine kept_at ?_ _ _) | (with_reducible refine kept_new ?_ _ _ (Nat.le_refl _)) | (with_reducible refine kept_new ?_ _ _ (by first | assumption | omega))))) (by (repeat (first | (with_reducible exact h.isp.low) | (with_reducible apply below_alloc) | (with_reducible apply pw_below_drewN) | (with_reducible apply below_drew1) | (with_reducible refine below_set ?_ (by first | assumption | omega))))) (by show ¬ (g = w.heap.size + 1); omega), by (repeat (first | (with_reducible exact h.kept) | (with_reducible apply Kept.alloc) | (with_reducible apply Kept.drewN) | (with_reducible apply Kept.drew) | (with_reducible refine kept_at ?_ _ _) | (with_reducible refine kept_new ?_ _ _ (by first | assumption | omega)))), blk_far (blk_far h.zero (by show w.heap.size + 1 ≠ w.heap.size; omega) _) (by show w.heap.size + 1 ≠ w.heap.size; omega) _, blk_put (blk_put h.box 0 _ rfl) 2 _ rfl, h1⟩
theorem ScSt.high (h : ScSt w0 w W g a L p lo hi hl hh) (n : Int) (b : Bool) : ScSt w0 w ((W.setCell ⟨w.heap.size + 1, 1, none⟩ (.int .i64 n)).setCell ⟨w.heap.size + 1, 3, none⟩ (.bool b)) g a L p lo n hl b := by
  have h1 := h.lg
  have h2 := h.isp.ge
  refine ⟨h.isp.mv (S := At (w.heap.size + 1)) (by (repeat (first | (with_reducible exact Kept.refl _ _) | (with_reducible apply Kept.alloc) | (with_reducible apply Kept.drewN) | (with_reducible apply Kept.drew) | (with_reducible refine kept_at ?_ _ _) | (with_reducible refine kept_new ?_ _ _ (Nat.le_refl _)) | (with_reducible refine kept_new ?_ _ _ (by first | assumption | omega))))) (by (repeat (first | (with_reducible exact h.isp.low) | (with_reducible apply below_alloc) | (with_reducible apply pw_below_drewN) | (with_reducible apply below_drew1) | (with_reducible refine below_set ?_ (by first | assumption | omega))))) (by show ¬ (g = w.heap.size + 1); omega), by (repeat (first | (with_reducible exact h.kept) | (with_reducible apply Kept.alloc) | (with_reducible apply Kept.drewN) | (with_reducible apply Kept.drew) | (with_reducible refine kept_at ?_ _ _) | (with_reducible refine kept_new ?_ _ _ (by first | assumption | omega)))), blk_far (blk_far h.zero (by show w.heap.size + 1 ≠ w.heap.size; omega) _) (by show w.heap.size + 1 ≠ w.heap.size; omega) _, blk_put (blk_put h.box 1 _ rfl) 3 _ rfl, h1⟩
theorem ScSt.close (h : ScSt w0 w W g a L p lo hi hl hh) (hk : Kept W W2 (At w.heap.size)) (hB : Below w0.heap.size w0 W2) : IsP w0 W2 g L a p ∧ Kept w W2 (At g) := by
  have h1 := h.lg
  exact ⟨h.isp.mv hk hB (by show ¬ (g = w.heap.size); omega), h.kept.then_ hk (fun k hs => .inr (by have : k = w.heap.size := hs; omega))⟩
theorem ScSt.facts (h : ScSt w0 w W g a L p lo hi hl hh) :
    (W.cell? ⟨w.heap.size + 1, 0, none⟩ = some (.int .i64 lo) ∧ W.cell? ⟨w.heap.size + 1, 1, none⟩ = some (.int .i64 hi) ∧ W.cell? ⟨w.heap.size + 1, 2, none⟩ = some (.bool hl) ∧ W.cell? ⟨w.heap.size + 1, 3, none⟩ = some (.bool hh)) ∧
    (W.frozen? ⟨w.heap.size + 1, 0, none⟩ = false ∧ W.frozen? ⟨w.heap.size + 1, 1, none⟩ = false ∧ W.frozen? ⟨w.heap.size + 1, 2, none⟩ = false ∧ W.frozen? ⟨w.heap.size + 1, 3, none⟩ = false) ∧
    (W.cell? ⟨w.heap.size, 0, none⟩ = some (.int .i64 0) ∧ W.cell? ⟨w.heap.size, 1, none⟩ = some (.int .i64 0) ∧ W.cell? ⟨w.heap.size, 2, none⟩ = some (.bool false) ∧ W.cell? ⟨w.heap.size, 3, none⟩ = some (.bool false)) ∧
    (W.frozen? ⟨w.heap.size, 0, none⟩ = false ∧ W.frozen? ⟨w.heap.size, 1, none⟩ = false ∧ W.frozen? ⟨w.heap.size, 2, none⟩ = false ∧ W.frozen? ⟨w.heap.size, 3, none⟩ = false) :=
  ⟨⟨(blk_cell h.box 0).trans rfl, (blk_cell h.box 1).trans rfl, (blk_cell h.box 2).trans rfl, (blk_cell h.box 3).trans rfl⟩, ⟨blk_frozen h.box 0, blk_frozen h.box 1, blk_frozen h.box 2, blk_frozen h.box 3⟩,
   ⟨(blk_cell h.zero 0).trans rfl, (blk_cell h.zero 1).trans rfl, (blk_cell h.zero 2).trans rfl, (blk_cell h.zero 3).trans rfl⟩, ⟨blk_frozen h.zero 0, blk_frozen h.zero 1, blk_frozen h.zero 2, blk_frozen h.zero 3⟩⟩
end
structure Rng where
  lo : Int
  hi : Int
  hl : Bool
  hh : Bool
  l : List Tok
  e : Int
def scopeF (L : List Tok) : Rng :=
  if (markF LBR L).2 ≠ 0 then ⟨0, 0, false, false, (markF LBR L).1, (markF LBR L).2⟩
  else if (endF CLN (markF LBR L).1).2.2.2 ≠ 0 then ⟨(endF CLN (markF LBR L).1).1, 0, (endF CLN (markF LBR L).1).2.1, false, (endF CLN (markF LBR L).1).2.2.1, (endF CLN (markF LBR L).1).2.2.2⟩
  else ⟨(endF CLN (markF LBR L).1).1, (endF RBR (endF CLN (markF LBR L).1).2.2.1).1, (endF CLN (markF LBR L).1).2.1, (endF RBR (endF CLN (markF LBR L).1).2.2.1).2.1, (endF RBR (endF CLN (markF LBR L).1).2.2.1).2.2.1, (endF RBR (endF CLN (markF LBR L).1).2.2.1).2.2.2⟩
theorem info_r : (Tryd.prog.info? TR).map (·.size) = some 4 := by kernel_rfl
abbrev rV (r : Rng) : Value := .agg (rCells r.lo r.hi r.hl r.hh)
set_option maxHeartbeats 16000000 in
theorem scope_calls (g : Nat) (L : List Tok) (a p : Int) (w0 w : World) (hI : IsP w0 w g L a p) :
    Calls Tryd.prog 89 #[.pointer (some ⟨g, 0, none⟩)] w fun e w' => e = .returned (.tuple #[rV (scopeF L), .int .i64 (scopeF L).e]) ∧ IsP w0 w' g (scopeF L).l a p ∧ Kept w w' (At g) := by
  have hgw := hI.lt
  have hw0 : w0.heap.size ≤ w.heap.size := by have := hI.ge; omega
  have hs : ∀ (W : World) o, (W.alloc o).heap.size = W.heap.size + 1 := fun W o => Array.size_push ..
  have CM := fun W h => Aside0.mk (mark_calls g LBR L a p w0 W h)
  have CE := fun s L W h => Aside0.mk (end_calls g s L a p w0 W h)
  obtain ⟨R, hR⟩ : ∃ R, scopeF L = R := ⟨_, rfl⟩
  rw [hR]
  have bz := blk_new (w.alloc (.cells (rCells 0 0 false false) TR (0, 0))) (.cells (rCells 0 0 false false) TR (0, 0))
  rw [hs] at bz
  have ST := Aside0.mk (show ScSt w0 w ((w.alloc (.cells (rCells 0 0 false false) TR (0, 0))).alloc (.cells (rCells 0 0 false false) TR (0, 0))) g a L p 0 0 false false from
    ⟨hI.keep (below_alloc (below_alloc (Below.refl _ _) _) _), ((Kept.refl _ _).alloc _).alloc _, blk_alloc (blk_new w _) _, bz, hgw⟩)
  unfold scopeF at hR
  clear bz hI hs
  rcases mark_cases LBR L with ⟨t, r, hL, hm, _⟩ | ⟨hm, _⟩
  · rw [hm] at CM hR
    rw [if_neg (show ¬ ((r, (0 : Int)).2 ≠ 0) by simp)] at hR
    dsimp only at CM hR
    have CE1 := CE CLN r
    have h1 := end_e CLN r
    obtain ⟨n1, b1, r1, e1, hx1⟩ : ∃ n1 b1 r1 e1, endF CLN r = (n1, b1, r1, e1) := ⟨_, _, _, _, rfl⟩
    rw [hx1] at CE1 hR h1
    dsimp only at CE1 hR h1
    clear hm hL hx1
    rcases h1 with rfl | rfl
    · rw [if_neg (by simp)] at hR
      have CE2 := CE RBR r1
      have h2 := end_e RBR r1
      obtain ⟨n2, b2, r2, e2, hx2⟩ : ∃ n2 b2 r2 e2, endF RBR r1 = (n2, b2, r2, e2) := ⟨_, _, _, _, rfl⟩
      rw [hx2] at CE2 hR h2
      dsimp only at CE2 hR h2
      clear hx2 CE h2
      subst hR
      go_enter Tryd.func89, Tryd.ntmps89
      go_wp2_with fail
      (with_reducible refine (CM _ ?i1).out.mono ?_)
      case i1 => exact ST.out.isp
      rintro e w1 ⟨rfl, hI1, hk1⟩
      have ST1 := Aside0.mk (ST.out.at hI1 hk1)
      clear hI1 hk1 CM ST
      go_wp2_with fail
      (with_reducible refine (CE1 _ ST1.out.isp).out.mono ?_)
      rintro e w2 ⟨rfl, hI2, hk2⟩
      have ST2 := Aside0.mk (ST1.out.at hI2 hk2)
      obtain ⟨⟨x0, x1, x2, x3⟩, ⟨y0, y1, y2, y3⟩, _, _⟩ := ST2.out.facts
      clear hI2 hk2 CE1 ST1
      go_wp2_with fail
      have ST3 := Aside0.mk (ST2.out.low n1 b1)
      (with_reducible refine (CE2 _ ST3.out.isp).out.mono ?_)
      rintro e w3 ⟨rfl, hI3, hk3⟩
      have ST4 := Aside0.mk (ST3.out.at hI3 hk3)
      clear hI3 hk3 CE2 ST2 ST3 x0 x1 x2 x3 y0 y1 y2 y3
      obtain ⟨⟨x0, x1, x2, x3⟩, ⟨y0, y1, y2, y3⟩, ⟨z0, z1, z2, z3⟩, ⟨v0, v1, v2, v3⟩⟩ := ST4.out.facts
      have HX := Aside0.mk (ST4.out.high n2 b2)
      go_wp2
      refine bodyPost_ret (results_ct rfl _ _ _ TR _ (0, 0) _ rfl (blk_put (blk_put (blk_put (blk_put HX.out.zero 0 _ rfl) 1 _ rfl) 2 _ rfl) 3 _ rfl) Tryd.underlying52 rfl info_r) rfl ?_
      have hc := fun W2 h1 h2 => HX.out.close (W2 := W2) h1 h2
      exact ⟨rfl, (hc _ (by (repeat (first | (with_reducible exact Kept.refl _ _) | (with_reducible apply Kept.alloc) | (with_reducible apply Kept.drewN) | (with_reducible apply Kept.drew) | (with_reducible refine kept_at ?_ _ _) | (with_reducible refine kept_new ?_ _ _ (Nat.le_refl _)) | (with_reducible refine kept_new ?_ _ _ (by first | assumption | omega))))) (by (repeat (first | (with_reducible exact HX.out.isp.low) | (with_reducible apply below_alloc) | (with_reducible apply pw_below_drewN) | (with_reducible apply below_drew1) | (with_reducible refine below_set ?_ (by first | assumption | omega)))))).1, (hc _ (by (repeat (first | (with_reducible exact Kept.refl _ _) | (with_reducible apply Kept.alloc) | (with_reducible apply Kept.drewN) | (with_reducible apply Kept.drew) | (with_reducible refine kept_at ?_ _ _) | (with_reducible refine kept_new ?_ _ _ (Nat.le_refl _)) | (with_reducible refine kept_new ?_ _ _ (by first | assumption | omega))))) (by (repeat (first | (with_reducible exact HX.out.isp.low) | (with_reducible apply below_alloc) | (with_reducible apply pw_below_drewN) | (with_reducible apply below_drew1) | (with_reducible refine below_set ?_ (by first | assumption | omega)))))).2⟩
    · rw [if_pos (by simp)] at hR
      clear CE
      subst hR
      go_enter Tryd.func89, Tryd.ntmps89
      go_wp2_with fail
      (with_reducible refine (CM _ ?i1).out.mono ?_)
      case i1 => exact ST.out.isp
      rintro e w1 ⟨rfl, hI1, hk1⟩
      have ST1 := Aside0.mk (ST.out.at hI1 hk1)
      clear hI1 hk1 CM ST
      go_wp2_with fail
      (with_reducible refine (CE1 _ ST1.out.isp).out.mono ?_)
      rintro e w2 ⟨rfl, hI2, hk2⟩
      have ST2 := Aside0.mk (ST1.out.at hI2 hk2)
      obtain ⟨⟨x0, x1, x2, x3⟩, ⟨y0, y1, y2, y3⟩, ⟨z0, z1, z2, z3⟩, ⟨v0, v1, v2, v3⟩⟩ := ST2.out.facts
      clear hI2 hk2 CE1 ST1
      have HX := Aside0.mk (ST2.out.low n1 b1)
      go_wp2
      refine bodyPost_ret (results_ct rfl _ _ _ TR _ (0, 0) _ rfl (blk_put (blk_put (blk_put (blk_put HX.out.zero 0 _ rfl) 1 _ rfl) 2 _ rfl) 3 _ rfl) Tryd.underlying52 rfl info_r) rfl ?_
      have hc := fun W2 h1 h2 => HX.out.close (W2 := W2) h1 h2
      exact ⟨rfl, (hc _ (by (repeat (first | (with_reducible exact Kept.refl _ _) | (with_reducible apply Kept.alloc) | (with_reducible apply Kept.drewN) | (with_reducible apply Kept.drew) | (with_reducible refine kept_at ?_ _ _) | (with_reducible refine kept_new ?_ _ _ (Nat.le_refl _)) | (with_reducible refine kept_new ?_ _ _ (by first | assumption | omega))))) (by (repeat (first | (with_reducible exact HX.out.isp.low) | (with_reducible apply below_alloc) | (with_reducible apply pw_below_drewN) | (with_reducible apply below_drew1) | (with_reducible refine below_set ?_ (by first | assumption | omega)))))).1, (hc _ (by (repeat (first | (with_reducible exact Kept.refl _ _) | (with_reducible apply Kept.alloc) | (with_reducible apply Kept.drewN) | (with_reducible apply Kept.drew) | (with_reducible refine kept_at ?_ _ _) | (with_reducible refine kept_new ?_ _ _ (Nat.le_refl _)) | (with_reducible refine kept_new ?_ _ _ (by first | assumption | omega))))) (by (repeat (first | (with_reducible exact HX.out.isp.low) | (with_reducible apply below_alloc) | (with_reducible apply pw_below_drewN) | (with_reducible apply below_drew1) | (with_reducible refine below_set ?_ (by first | assumption | omega)))))).2⟩
  · rw [hm] at CM hR
    rw [if_pos (show (L, (110 : Int)).2 ≠ 0 by simp)] at hR
    dsimp only at CM hR
    clear hm CE
    subst hR
    go_enter Tryd.func89, Tryd.ntmps89
    go_wp2_with fail
    (with_reducible refine (CM _ ?i1).out.mono ?_)
    case i1 => exact ST.out.isp
    rintro e w1 ⟨rfl, hI1, hk1⟩
    have HX := Aside0.mk (ST.out.at hI1 hk1)
    clear hI1 hk1 CM ST
    obtain ⟨⟨x0, x1, x2, x3⟩, ⟨y0, y1, y2, y3⟩, ⟨z0, z1, z2, z3⟩, ⟨v0, v1, v2, v3⟩⟩ := HX.out.facts
    go_wp2
    refine bodyPost_ret (results_ct rfl _ _ _ TR _ (0, 0) _ rfl (blk_put (blk_put (blk_put (blk_put HX.out.zero 0 _ rfl) 1 _ rfl) 2 _ rfl) 3 _ rfl) Tryd.underlying52 rfl info_r) rfl ?_
    have hc := fun W2 h1 h2 => HX.out.close (W2 := W2) h1 h2
    exact ⟨rfl, (hc _ (by (repeat (first | (with_reducible exact Kept.refl _ _) | (with_reducible apply Kept.alloc) | (with_reducible apply Kept.drewN) | (with_reducible apply Kept.drew) | (with_reducible refine kept_at ?_ _ _) | (with_reducible refine kept_new ?_ _ _ (Nat.le_refl _)) | (with_reducible refine kept_new ?_ _ _ (by first | assumption | omega))))) (by (repeat (first | (with_reducible exact HX.out.isp.low) | (with_reducible apply below_alloc) | (with_reducible apply pw_below_drewN) | (with_reducible apply below_drew1) | (with_reducible refine below_set ?_ (by first | assumption | omega)))))).1, (hc _ (by (repeat (first | (with_reducible exact Kept.refl _ _) | (with_reducible apply Kept.alloc) | (with_reducible apply Kept.drewN) | (with_reducible apply Kept.drew) | (with_reducible refine kept_at ?_ _ _) | (with_reducible refine kept_new ?_ _ _ (Nat.le_refl _)) | (with_reducible refine kept_new ?_ _ _ (by first | assumption | omega))))) (by (repeat (first | (with_reducible exact HX.out.isp.low) | (with_reducible apply below_alloc) | (with_reducible apply pw_below_drewN) | (with_reducible apply below_drew1) | (with_reducible refine below_set ?_ (by first | assumption | omega)))))).2⟩
end Go.Proofs.YtjeofffddbibeaaDoor.Pa
end

section
namespace Go.Proofs.YtjeofffddbibeaaDoor.Pa
open Go Go.RowKit Go.Proofs.YtjeofffddbibeaaDoor.PParseTells Go.Proofs.YtjeofffddbibeaaDoor.Ex Go.Proofs.YtjeofffddbibeaaDoorW.PrintWords Go.Proofs.YtjeofffddbibeaaDoorW.PrintLast Go.Proofs.YtjeofffddbibeaaDoorW.PrintMore
set_option linter.unusedVariables false
set_option linter.unusedSimpArgs false
structure Cmd where
  word : ByteArray
  names : List ByteArray
  nums : List Int
  lo : Int
  hi : Int
  hl : Bool
  hh : Bool
  x : X
abbrev TC : TypeId := 54
abbrev TS : TypeId := 9
abbrev kT : Kd ByteArray := Kd.string
abbrev sN : Value := .slice none 0 0
abbrev cCells (c : Cmd) (vN vM v2 v3 : Value) : Array Value := #[.string c.word, vN, vM, .int .i64 c.lo, .int .i64 c.hi, .bool c.hl, .bool c.hh, .int .u8 c.x.f0, .string c.x.f1, v2, v3]
/-- Within a command: the parser, and the command's box; its rows lie from B on. -/
structure PaSt (w0 W : World) (g b B : Nat) (a : Int) (L : List Tok) (p : Int) (c : Cmd) (vN vM v2 v3 : Value) : Prop where
  isp : IsP w0 W g L a p
  box : W.heap[b]? = some (.cells (cCells c vN vM v2 v3) TC (0, 0))
  names : kT.R TS W B (fun _ => True) vN c.names
  nums : kI.R 2 W B (fun _ => True) vM c.nums
  expr : kX.M W B (fun _ => True) c.x [.int .u8 c.x.f0, .string c.x.f1, v2, v3]
  gb : g < b
  bB : b < B
abbrev Pt (g b B : Nat) : Nat → Prop := fun k => k = g ∨ k = b ∨ B ≤ k
section
variable {w0 w W W2 : World} {g b B : Nat} {a : Int} {L L2 : List Tok} {p p2 : Int} {c : Cmd} {vN vM v2 v3 : Value}
theorem M_at {x : X} {cs : List Value} (h : kX.M W B (fun _ => True) x cs) (hk : Kept W W2 (At g)) (hg : g < B) : kX.M W2 B (fun _ => True) x cs :=
  kX.M_mono (fun _ _ => trivial) (Kd.M_kept (kX.M_bound h) hk (fun k ho hs => by have := ho.2.1; have : k = g := hs; omega))
theorem PaSt.at (h : PaSt w0 W g b B a L p c vN vM v2 v3) (hI : IsP w0 W2 g L2 a p2) (hk : Kept W W2 (At g)) : PaSt w0 W2 g b B a L2 p2 c vN vM v2 v3 := by
  have h1 := h.gb
  have h2 := h.bB
  exact ⟨hI, blk_kept h.box hk (fun hs => by have : b = g := hs; omega), R_at h.names hk (by omega), R_at h.nums hk (by omega), M_at h.expr hk (by omega), h1, h2⟩
theorem PaSt.later (h : PaSt w0 W g b B a L p c vN vM v2 v3) (hb : Below W.heap.size W W2) : PaSt w0 W2 g b B a L p c vN vM v2 v3 := h.at (h.isp.keep hb) (Kept.of_below hb _)
theorem PaSt.lt (h : PaSt w0 W g b B a L p c vN vM v2 v3) : b < W.heap.size := blk_lt h.box
theorem PaSt.grown_isp (h : PaSt w0 W g b B a L p c vN vM v2 v3) (hB : B ≤ W.heap.size) {row : Option Nat} (hg : W.grownBy W2 row) (hr : ∀ k, row = some k → B ≤ k) : IsP w0 W2 g L a p := by
  have h1 := h.gb
  have h2 := h.bB
  have h4 := h.isp.ge
  exact h.isp.mv (S := fun k => B ≤ k) (Kept.of_grown hg (Kept.refl W _) (fun k hk => .inl (hr k hk))) (h.isp.low.grown hg (by omega) (fun k hk => by have := hr k hk; omega)) (by show ¬ (B ≤ g); omega)
theorem PaSt.grown_box (h : PaSt w0 W g b B a L p c vN vM v2 v3) {row : Option Nat} (hg : W.grownBy W2 row) (hr : ∀ k, row = some k → B ≤ k) : W2.heap[b]? = some (.cells (cCells c vN vM v2 v3) TC (0, 0)) :=
  (hg.block b h.lt (fun he => by have := hr b he.symm; have := h.bB; omega)).trans h.box
theorem PaSt.setNames (h : PaSt w0 W g b B a L p c vN vM sN sN) (hx : c.x = zX) (hB : B ≤ W.heap.size) {t : ByteArray} {u : Value} (hR : kT.R TS W2 B (fun _ => True) u (c.names ++ [t])) (hg : W.grownBy W2 vN.ownBlock) :
    PaSt w0 (W2.setCell ⟨b, 1, none⟩ u) g b B a L p { c with names := c.names ++ [t] } u vM sN sN := by
  have h1 := h.gb
  have h2 := h.bB
  have h4 := h.isp.ge
  have hr := Kd.R_base h.names
  have hI := h.grown_isp hB hg hr
  exact ⟨hI.mv (S := At b) (by (repeat (first | (with_reducible exact Kept.refl _ _) | (with_reducible apply Kept.alloc) | (with_reducible apply Kept.drewN) | (with_reducible apply Kept.drew) | (with_reducible refine kept_at ?_ _ _) | (with_reducible refine kept_new ?_ _ _ (Nat.le_refl _)) | (with_reducible refine kept_new ?_ _ _ (by first | assumption | omega))))) (below_set hI.low (by show _ ≤ b; omega)) (by show ¬ (g = b); omega), blk_put (h.grown_box hg hr) 1 u rfl,
    R_put hR h2 1 u, R_put (Kd.R_over h.nums h.names (fun q hq => by simp [Kd.E, kI, Kd.int, Kd.scalar] at hq; subst hq; decide) hg) h2 1 u, by
      show kX.M _ B _ c.x [.int .u8 c.x.f0, .string c.x.f1, sN, sN]
      rw [hx]
      exact k25_mkM _ _ _ zX (Kd.R_nil _ _ _ _ _) (Kd.R_nil _ _ _ _ _), h1, h2⟩
theorem PaSt.setNums (h : PaSt w0 W g b B a L p c vN vM sN sN) (hx : c.x = zX) (hB : B ≤ W.heap.size) {n : Int} {u : Value} (hR : kI.R 2 W2 B (fun _ => True) u (c.nums ++ [n])) (hg : W.grownBy W2 vM.ownBlock) :
    PaSt w0 (W2.setCell ⟨b, 2, none⟩ u) g b B a L p { c with nums := c.nums ++ [n] } vN u sN sN := by
  have h1 := h.gb
  have h2 := h.bB
  have h4 := h.isp.ge
  have hr := Kd.R_base h.nums
  have hI := h.grown_isp hB hg hr
  exact ⟨hI.mv (S := At b) (by (repeat (first | (with_reducible exact Kept.refl _ _) | (with_reducible apply Kept.alloc) | (with_reducible apply Kept.drewN) | (with_reducible apply Kept.drew) | (with_reducible refine kept_at ?_ _ _) | (with_reducible refine kept_new ?_ _ _ (Nat.le_refl _)) | (with_reducible refine kept_new ?_ _ _ (by first | assumption | omega))))) (below_set hI.low (by show _ ≤ b; omega)) (by show ¬ (g = b); omega), blk_put (h.grown_box hg hr) 2 u rfl,
    R_put (Kd.R_over h.names h.nums (fun q hq => by simp [Kd.E, kT, Kd.string, Kd.scalar] at hq; subst hq; decide) hg) h2 2 u, R_put hR h2 2 u, by
      show kX.M _ B _ c.x [.int .u8 c.x.f0, .string c.x.f1, sN, sN]
      rw [hx]
      exact k25_mkM _ _ _ zX (Kd.R_nil _ _ _ _ _) (Kd.R_nil _ _ _ _ _), h1, h2⟩
theorem PaSt.setRange (h : PaSt w0 W g b B a L p c vN vM sN sN) (hx : c.x = zX) (r : Rng) :
    PaSt w0 ((((W.setCell ⟨b, 3, none⟩ (.int .i64 r.lo)).setCell ⟨b, 4, none⟩ (.int .i64 r.hi)).setCell ⟨b, 5, none⟩ (.bool r.hl)).setCell ⟨b, 6, none⟩ (.bool r.hh)) g b B a L p { c with lo := r.lo, hi := r.hi, hl := r.hl, hh := r.hh } vN vM sN sN := by
  have h1 := h.gb
  have h2 := h.bB
  have h4 := h.isp.ge
  have hw0 : w0.heap.size ≤ b := by omega
  exact ⟨h.isp.mv (S := At b) (by (repeat (first | (with_reducible exact Kept.refl _ _) | (with_reducible apply Kept.alloc) | (with_reducible apply Kept.drewN) | (with_reducible apply Kept.drew) | (with_reducible refine kept_at ?_ _ _) | (with_reducible refine kept_new ?_ _ _ (Nat.le_refl _)) | (with_reducible refine kept_new ?_ _ _ (by first | assumption | omega))))) (by (repeat (first | (with_reducible exact h.isp.low) | (with_reducible apply below_alloc) | (with_reducible apply pw_below_drewN) | (with_reducible apply below_drew1) | (with_reducible refine below_set ?_ (by first | assumption | omega))))) (by show ¬ (g = b); omega), blk_put (blk_put (blk_put (blk_put h.box 3 _ rfl) 4 _ rfl) 5 _ rfl) 6 _ rfl,
    R_put (R_put (R_put (R_put h.names h2 3 _) h2 4 _) h2 5 _) h2 6 _, R_put (R_put (R_put (R_put h.nums h2 3 _) h2 4 _) h2 5 _) h2 6 _, by
      show kX.M _ B _ c.x [.int .u8 c.x.f0, .string c.x.f1, sN, sN]
      rw [hx]
      exact k25_mkM _ _ _ zX (Kd.R_nil _ _ _ _ _) (Kd.R_nil _ _ _ _ _), h1, h2⟩
theorem PaSt.setExpr (h : PaSt w0 W g b B a L p c vN vM v2 v3) {x : X} {u2 u3 : Value} (hx : kX.M W B (fun _ => True) x [.int .u8 x.f0, .string x.f1, u2, u3]) :
    PaSt w0 ((((W.setCell ⟨b, 7, none⟩ (.int .u8 x.f0)).setCell ⟨b, 8, none⟩ (.string x.f1)).setCell ⟨b, 9, none⟩ u2).setCell ⟨b, 10, none⟩ u3) g b B a L p { c with x := x } vN vM u2 u3 := by
  have h1 := h.gb
  have h2 := h.bB
  have h4 := h.isp.ge
  have hw0 : w0.heap.size ≤ b := by omega
  exact ⟨h.isp.mv (S := At b) (by (repeat (first | (with_reducible exact Kept.refl _ _) | (with_reducible apply Kept.alloc) | (with_reducible apply Kept.drewN) | (with_reducible apply Kept.drew) | (with_reducible refine kept_at ?_ _ _) | (with_reducible refine kept_new ?_ _ _ (Nat.le_refl _)) | (with_reducible refine kept_new ?_ _ _ (by first | assumption | omega))))) (by (repeat (first | (with_reducible exact h.isp.low) | (with_reducible apply below_alloc) | (with_reducible apply pw_below_drewN) | (with_reducible apply below_drew1) | (with_reducible refine below_set ?_ (by first | assumption | omega))))) (by show ¬ (g = b); omega), blk_put (blk_put (blk_put (blk_put h.box 7 _ rfl) 8 _ rfl) 9 _ rfl) 10 _ rfl,
    R_put (R_put (R_put (R_put h.names h2 7 _) h2 8 _) h2 9 _) h2 10 _, R_put (R_put (R_put (R_put h.nums h2 7 _) h2 8 _) h2 9 _) h2 10 _, M_at hx (by (repeat (first | (with_reducible exact Kept.refl _ _) | (with_reducible apply Kept.alloc) | (with_reducible apply Kept.drewN) | (with_reducible apply Kept.drew) | (with_reducible refine kept_at ?_ _ _) | (with_reducible refine kept_new ?_ _ _ (Nat.le_refl _)) | (with_reducible refine kept_new ?_ _ _ (by first | assumption | omega))))) h2, h1, h2⟩
end
/-- A part of a command, by its letter. -/
def partF (l : Int) (c : Cmd) (L : List Tok) (p : Int) : Cmd × List Tok × Int × Int :=
  if l = 110 then ({ c with names := c.names ++ [(takeF [1] L).1.f1] }, (takeF [1] L).2.1, p, (takeF [1] L).2.2)
  else if l = 105 then ({ c with nums := c.nums ++ [(numF L).1.f2] }, (numF L).2.1, p, (numF L).2.2)
  else if l = 114 then ({ c with lo := (scopeF L).lo, hi := (scopeF L).hi, hl := (scopeF L).hl, hh := (scopeF L).hh }, (scopeF L).l, p, (scopeF L).e)
  else if l = 101 then ({ c with x := (exprF 40 p L).x }, (exprF 40 p L).l, (exprF 40 p L).p, (exprF 40 p L).e)
  else (c, (markF ⟨#[61]⟩ L).1, p, (markF ⟨#[61]⟩ L).2)
/-- What a part leaves. -/
def PartQ (w0 w : World) (g b B : Nat) (a : Int) (R : Cmd × List Tok × Int × Int) (e : Ending) (w' : World) : Prop :=
  ∃ vN vM v2 v3, e = .returned (.int .i64 R.2.2.2) ∧ PaSt w0 w' g b B a R.2.1 R.2.2.1 R.1 vN vM v2 v3 ∧ (R.1.x = zX → v2 = sN ∧ v3 = sN) ∧ Kept w w' (Pt g b B)
theorem info_s3 : (Tryd.prog.info? TS).map (fun i => (i.zero, i.size, i.bytes)) = some (some (.string nil8), 1, 16) := by kernel_rfl
theorem enc_eq : Utf8.encode 61 = (⟨#[61]⟩ : ByteArray) := by decide +kernel
set_option maxHeartbeats 8000000 in
theorem part_mark (w0 w : World) (g b B : Nat) (a : Int) (L : List Tok) (p : Int) (c : Cmd) (vN vM : Value) (h : PaSt w0 w g b B a L p c vN vM sN sN) (hx : c.x = zX) :
    Calls Tryd.prog 68 #[.pointer (some ⟨g, 0, none⟩), .pointer (some ⟨b, 0, none⟩), .int .i32 61] w (PartQ w0 w g b B a (partF 61 c L p)) := by
  have hP : partF 61 c L p = (c, (markF ⟨#[61]⟩ L).1, p, (markF ⟨#[61]⟩ L).2) := rfl
  rw [hP]
  have CM := Aside0.mk (mark_calls g ⟨#[61]⟩ L a p w0 w h.isp)
  obtain ⟨L1, e1, hm⟩ : ∃ L1 e1, markF ⟨#[61]⟩ L = (L1, e1) := ⟨_, _, rfl⟩
  rw [hm] at CM ⊢
  dsimp only at CM ⊢
  have H := Aside0.mk h
  clear h hP hm
  unfold PartQ
  dsimp only
  go_enter Tryd.func68, Tryd.ntmps68
  go_wp2_with fail
  rw [enc_eq]
  (with_reducible refine CM.out.mono ?_)
  rintro e w1 ⟨rfl, hI1, hk1⟩
  have ST1 := Aside0.mk (H.out.at hI1 hk1)
  have K1 := Aside0.mk (hk1.mono (S' := Pt g b B) (fun k hk => .inl hk))
  clear hI1 hk1 CM
  go_wp2
  go_ret
  exact ⟨_, _, _, _, rfl, ST1.out, fun _ => ⟨rfl, rfl⟩, K1.out⟩
set_option maxHeartbeats 8000000 in
set_option maxRecDepth 100000 in
theorem part_num (w0 w : World) (g b B : Nat) (a : Int) (L : List Tok) (p : Int) (c : Cmd) (vN vM : Value) (h : PaSt w0 w g b B a L p c vN vM sN sN) (hx : c.x = zX) (hB : B ≤ w.heap.size) (hl : c.nums.length ≤ 100) :
    Calls Tryd.prog 68 #[.pointer (some ⟨g, 0, none⟩), .pointer (some ⟨b, 0, none⟩), .int .i32 105] w (PartQ w0 w g b B a (partF 105 c L p)) := by
  have hP : partF 105 c L p = ({ c with nums := c.nums ++ [(numF L).1.f2] }, (numF L).2.1, p, (numF L).2.2) := rfl
  rw [hP]
  have CN := Aside0.mk (number_calls g L a p w0 w h.isp)
  obtain ⟨t, L1, e1, hm⟩ : ∃ t L1 e1, numF L = (t, L1, e1) := ⟨_, _, _, rfl⟩
  rw [hm] at CN ⊢
  dsimp only at CN ⊢
  have H := Aside0.mk h
  have HX := Aside0.mk hx
  have HB := Aside0.mk hB
  have HN := Aside0.mk h.bB
  clear h hP hm hx hB
  unfold PartQ
  dsimp only
  go_enter Tryd.func68, Tryd.ntmps68
  go_wp2_with fail
  (with_reducible refine CN.out.mono ?_)
  rintro e w1 ⟨rfl, hI1, hk1⟩
  have ST1 := Aside0.mk (H.out.at hI1 hk1)
  have K1 := Aside0.mk (hk1.mono (S' := Pt g b B) (fun k hk => .inl hk))
  have hbz : B ≤ w1.heap.size := Nat.le_trans HB.out hk1.1
  have q2 : w1.cell? ⟨b, 2, none⟩ = some vM := (blk_cell ST1.out.box 2).trans rfl
  clear hI1 hk1 CN H
  go_wp2_with (first | ((with_reducible refine gate_builtin (b := .append) (xs := #[.tmp 48, .tmp 50]) rfl ?_); at_builtin; refine Kd.R_append kI (w0 := w1) B rfl (.tmp 48) (.tmp 50) 22 2 (.int .i64 0) 8 rfl Tryd.underlying22 info_i3 rfl (by decide) (by decide) vM c.nums t.f2 [.int .i64 t.f2] (fun _ => True) (fun _ => False) rfl rfl rfl (fun _ hk => hk.elim) (fun _ _ => trivial) ST1.out.nums (Below.refl _ _) hbz (by omega) ?_; intro v8 w8 ho hb hg hat; obtain ⟨A8, c8, h8⟩ := Kd.R_slice ho; rw [List.length_append, List.length_singleton] at h8; subst h8; have HO := Aside0.mk ho; have HG := Aside0.mk hg; have f8 := blk_frozen (ST1.out.grown_box hg (Kd.R_base ST1.out.nums)) 2; have q8 : w8.cell? ⟨b, 2, none⟩ = some vM := (blk_cell (ST1.out.grown_box hg (Kd.R_base ST1.out.nums)) 2).trans rfl; clear ho hb hg hat))
  have ST8 := Aside0.mk (ST1.out.setNums HX.out hbz HO.out HG.out)
  have K8 := Aside0.mk (Kept.of_grown HG.out K1.out (fun k hk => .inl (.inr (.inr (Kd.R_base ST1.out.nums k hk)))))
  go_ret
  exact ⟨_, _, _, _, rfl, ST8.out, fun _ => ⟨rfl, rfl⟩, K8.out.setCell (p := ⟨b, 2, none⟩) (.inl (.inr (.inl rfl))) _⟩
set_option maxHeartbeats 8000000 in
set_option maxRecDepth 100000 in
theorem part_range (w0 w : World) (g b B : Nat) (a : Int) (L : List Tok) (p : Int) (c : Cmd) (vN vM : Value) (h : PaSt w0 w g b B a L p c vN vM sN sN) (hx : c.x = zX) :
    Calls Tryd.prog 68 #[.pointer (some ⟨g, 0, none⟩), .pointer (some ⟨b, 0, none⟩), .int .i32 114] w (PartQ w0 w g b B a (partF 114 c L p)) := by
  have hP : partF 114 c L p = ({ c with lo := (scopeF L).lo, hi := (scopeF L).hi, hl := (scopeF L).hl, hh := (scopeF L).hh }, (scopeF L).l, p, (scopeF L).e) := rfl
  rw [hP]
  have CN := Aside0.mk (scope_calls g L a p w0 w h.isp)
  generalize scopeF L = r at *
  have H := Aside0.mk h
  have HX := Aside0.mk hx
  clear h hP hx
  unfold PartQ
  dsimp only
  go_enter Tryd.func68, Tryd.ntmps68
  go_wp2_with fail
  (with_reducible refine CN.out.mono ?_)
  rintro e w1 ⟨rfl, hI1, hk1⟩
  have ST1 := Aside0.mk (H.out.at hI1 hk1)
  have K1 := Aside0.mk (hk1.mono (S' := Pt g b B) (fun k hk => .inl hk))
  have q3 : w1.cell? ⟨b, 3, none⟩ = some (.int .i64 c.lo) := (blk_cell ST1.out.box 3).trans rfl
  have q4 : w1.cell? ⟨b, 4, none⟩ = some (.int .i64 c.hi) := (blk_cell ST1.out.box 4).trans rfl
  have q5 : w1.cell? ⟨b, 5, none⟩ = some (.bool c.hl) := (blk_cell ST1.out.box 5).trans rfl
  have q6 : w1.cell? ⟨b, 6, none⟩ = some (.bool c.hh) := (blk_cell ST1.out.box 6).trans rfl
  have f3 := blk_frozen ST1.out.box 3
  have f4 := blk_frozen ST1.out.box 4
  have f5 := blk_frozen ST1.out.box 5
  have f6 := blk_frozen ST1.out.box 6
  clear hI1 hk1 CN H
  go_wp2
  have ST8 := Aside0.mk (ST1.out.setRange HX.out r)
  go_ret
  exact ⟨_, _, _, _, rfl, ST8.out, fun _ => ⟨rfl, rfl⟩, (((K1.out.setCell (p := ⟨b, 3, none⟩) (.inl (.inr (.inl rfl))) _).setCell (p := ⟨b, 4, none⟩) (.inl (.inr (.inl rfl))) _).setCell (p := ⟨b, 5, none⟩) (.inl (.inr (.inl rfl))) _).setCell (p := ⟨b, 6, none⟩) (.inl (.inr (.inl rfl))) _⟩
set_option maxHeartbeats 8000000 in
set_option maxRecDepth 100000 in
theorem part_expr (w0 w : World) (hC : Cal w0) (g b B : Nat) (a : Int) (L : List Tok) (p : Int) (p0 : 0 ≤ p) (p1 : p ≤ 2000) (c : Cmd) (vN vM v2 v3 : Value) (h : PaSt w0 w g b B a L p c vN vM v2 v3) (hB : B ≤ w.heap.size) :
    Calls Tryd.prog 68 #[.pointer (some ⟨g, 0, none⟩), .pointer (some ⟨b, 0, none⟩), .int .i32 101] w fun e w' => ∃ vN' vM' v2' v3', e = .returned (.int .i64 (partF 101 c L p).2.2.2) ∧ PaSt w0 w' g b B a (partF 101 c L p).2.1 (partF 101 c L p).2.2.1 (partF 101 c L p).1 vN' vM' v2' v3' ∧ Kept w w' (Pt g b B) := by
  have hP : partF 101 c L p = ({ c with x := (exprF 40 p L).x }, (exprF 40 p L).l, (exprF 40 p L).p, (exprF 40 p L).e) := rfl
  rw [hP]
  have CN := Aside0.mk (expr_calls w0 g a hC 40 (by omega) p L w h.isp p0 p1)
  rw [show (41 : Int) - ((40 : Nat) : Int) = 1 by decide] at CN
  generalize exprF 40 p L = r at *
  have H := Aside0.mk h
  have HB := Aside0.mk hB
  obtain ⟨A2, c2, A3, c3, z2, z3⟩ : ∃ A2 c2 A3 c3, v2 = .slice A2 c.x.f2.length c2 ∧ v3 = .slice A3 c.x.f3.length c3 := by
    obtain ⟨u2, u3, he, h2, h3⟩ := k25_openM h.expr
    simp only [List.cons.injEq, true_and, and_true] at he
    obtain ⟨rfl, rfl⟩ := he
    obtain ⟨A2, c2, e2⟩ := Kd.R_slice h2
    obtain ⟨A3, c3, e3⟩ := Kd.R_slice h3
    exact ⟨A2, c2, A3, c3, e2, e3⟩
  subst z2
  subst z3
  clear h hP hB
  go_enter Tryd.func68, Tryd.ntmps68
  go_wp2_with fail
  (with_reducible refine CN.out.mono ?_)
  rintro e w1 ⟨v5, v6, rfl, hI1, hk1, hg1⟩
  obtain ⟨A5, c5, A6, c6, rfl, rfl⟩ := hg1.slices
  have ST1 := Aside0.mk (H.out.at hI1 hk1)
  have HG := Aside0.mk (show kX.M w1 B (fun _ => True) r.x [.int .u8 r.x.f0, .string r.x.f1, .slice A5 r.x.f2.length c5, .slice A6 r.x.f3.length c6] from kX.M_lower HB.out hg1)
  have K1 := Aside0.mk (hk1.mono (S' := Pt g b B) (fun k hk => .inl hk))
  have q3 : w1.cell? ⟨b, 7, none⟩ = some (.int .u8 c.x.f0) := (blk_cell ST1.out.box 7).trans rfl
  have q4 : w1.cell? ⟨b, 8, none⟩ = some (.string c.x.f1) := (blk_cell ST1.out.box 8).trans rfl
  have q5 : w1.cell? ⟨b, 9, none⟩ = some (.slice A2 c.x.f2.length c2) := (blk_cell ST1.out.box 9).trans rfl
  have q6 : w1.cell? ⟨b, 10, none⟩ = some (.slice A3 c.x.f3.length c3) := (blk_cell ST1.out.box 10).trans rfl
  have f3 := blk_frozen ST1.out.box 7
  have f4 := blk_frozen ST1.out.box 8
  have f5 := blk_frozen ST1.out.box 9
  have f6 := blk_frozen ST1.out.box 10
  clear hI1 hk1 CN H hg1
  go_wp2
  have ST8 := Aside0.mk (ST1.out.setExpr HG.out)
  go_ret
  exact ⟨_, _, _, _, rfl, ST8.out, (((K1.out.setCell (p := ⟨b, 7, none⟩) (.inl (.inr (.inl rfl))) _).setCell (p := ⟨b, 8, none⟩) (.inl (.inr (.inl rfl))) _).setCell (p := ⟨b, 9, none⟩) (.inl (.inr (.inl rfl))) _).setCell (p := ⟨b, 10, none⟩) (.inl (.inr (.inl rfl))) _⟩
theorem cell_alloc {w : World} (o : Obj) {a : Addr} {v : Value} (h : w.cell? a = some v) : (w.alloc o).cell? a = some v := ((below_alloc (Below.refl w.heap.size w) o).cell (World.block_lt_of_cell? w a h)).trans h
set_option maxHeartbeats 8000000 in
set_option maxRecDepth 100000 in
theorem part_name (w0 w : World) (g b B : Nat) (a : Int) (L : List Tok) (p : Int) (c : Cmd) (vN vM : Value) (h : PaSt w0 w g b B a L p c vN vM sN sN) (hx : c.x = zX) (hB : B ≤ w.heap.size) (hl : c.names.length ≤ 100) :
    Calls Tryd.prog 68 #[.pointer (some ⟨g, 0, none⟩), .pointer (some ⟨b, 0, none⟩), .int .i32 110] w (PartQ w0 w g b B a (partF 110 c L p)) := by
  have hP : partF 110 c L p = ({ c with names := c.names ++ [(takeF [1] L).1.f1] }, (takeF [1] L).2.1, p, (takeF [1] L).2.2) := rfl
  rw [hP]
  have CT := fun A W h hC => Aside0.mk (take_calls g [1] asks1 A 1 1 L a p w0 W h rfl hC (Nat.le_refl _))
  obtain ⟨t, L1, e1, hm⟩ : ∃ t L1 e1, takeF [1] L = (t, L1, e1) := ⟨_, _, _, rfl⟩
  rw [hm] at CT ⊢
  dsimp only at CT ⊢
  have H := Aside0.mk h
  have HX := Aside0.mk hx
  have HB := Aside0.mk hB
  have hs : ∀ (W : World) o, (W.alloc o).heap.size = W.heap.size + 1 := fun W o => Array.size_push ..
  have HS := Aside0.mk hs
  clear h hP hm hx hB hs
  unfold PartQ
  dsimp only
  go_enter Tryd.func68, Tryd.ntmps68
  go_wp2_with fail
  (with_reducible refine (CT (some ⟨w.heap.size, 0, none⟩) _ ?i ?j).out.mono ?_)
  case i => exact H.out.isp.keep (below_alloc (Below.refl _ _) _)
  case j => exact kinds_C w [1] (by decide)
  rintro e w1 ⟨rfl, hI1, hk1⟩
  have ST1 := Aside0.mk ((H.out.later (below_alloc (Below.refl _ _) _)).at hI1 hk1)
  have K1 := Aside0.mk (((Kept.refl w (Pt g b B)).alloc (.cells #[.int .u8 1] 5)).then_ hk1 (fun k hk => .inl (.inl hk)))
  have hz1 : w.heap.size + 1 ≤ w1.heap.size := by have h1 := hk1.1; rw [HS.out] at h1; exact h1
  clear hI1 hk1 CT H
  go_wp2_with fail
  obtain ⟨w2, hw2⟩ : ∃ w2, w2 = w1.alloc (.cells #[.int .u8 t.f0, .string t.f1, .int .i64 t.f2] 61) := ⟨_, rfl⟩
  have ST2 := Aside0.mk (show PaSt w0 w2 g b B a L1 p c vN vM sN sN by rw [hw2]; exact ST1.out.later (below_alloc (Below.refl _ _) _))
  have K2 := Aside0.mk (show Kept w w2 (Pt g b B) by rw [hw2]; exact K1.out.alloc _)
  have hb6 : w2.heap[w1.heap.size]? = some (.cells #[.int .u8 t.f0, .string t.f1, .int .i64 t.f2] 61 (0, 0)) := by rw [hw2]; exact blk_new _ _
  have q6 : w2.cell? ⟨w1.heap.size, 1, none⟩ = some (.string t.f1) := (blk_cell hb6 1).trans rfl
  have q1 : w2.cell? ⟨b, 1, none⟩ = some vN := (blk_cell ST2.out.box 1).trans rfl
  have hbz : B ≤ w2.heap.size := Nat.le_trans HB.out K2.out.1
  have HLT := Aside0.mk (blk_lt hb6)
  have NE := Aside0.mk (Kd.R_ne ST2.out.names hb6 (by decide))
  rw [← hw2]
  clear hw2 hb6
  refine start_ (n := 14) (S := fun w' => w'.cell? ⟨b, 1, none⟩ = some vN ∧ w'.cell? ⟨w1.heap.size, 1, none⟩ = some (.string t.f1)) (ds := [12]) #[false, false, false, false, false, false, false, false, false, false, false, false, false, false] (by kernel_rfl) rfl rfl ⟨q1, q6⟩ (fun hHeld => ?_)
  refine pure_ (i := 0) (N := some 25) (v := ?_) (a' := ?_) #[true, false, false, false, false, false, false, false, false, false, false, false, false, false] rfl rfl (by kernel_rfl) (fun _ _ _ h => h) (Or.inl ⟨by rfl, ?_⟩) ?_ ?_
  rotate_left
  · intro w'
    go_simp
    with_reducible rfl
  rotate_left
  · simp only [Act.put, List.setIfInBounds_toArray, List.set_cons_zero, List.set_cons_succ, i64_w, i32_w]
    rfl
  refine pure_ (i := 1) (N := some 26) (v := ?_) (a' := ?_) #[true, true, false, false, false, false, false, false, false, false, false, false, false, false] rfl rfl (by kernel_rfl) (fun _ _ _ h => h) (Or.inl ⟨by rfl, ?_⟩) ?_ ?_
  rotate_left
  · intro w'
    go_simp
    with_reducible rfl
  rotate_left
  · simp only [Act.put, List.setIfInBounds_toArray, List.set_cons_zero, List.set_cons_succ, i64_w, i32_w]
    rfl
  refine pure_ (i := 2) (N := some 27) (v := ?_) (a' := ?_) #[true, true, true, false, false, false, false, false, false, false, false, false, false, false] rfl rfl (by kernel_rfl) (fun _ _ _ h => h) (Or.inl ⟨by rfl, ?_⟩) ?_ ?_
  rotate_left
  · intro w'
    go_simp
    with_reducible rfl
  rotate_left
  · simp only [Act.put, List.setIfInBounds_toArray, List.set_cons_zero, List.set_cons_succ, i64_w, i32_w]
    rfl
  refine pure_ (i := 3) (N := some 28) (v := ?_) (a' := ?_) #[true, true, true, true, false, false, false, false, false, false, false, false, false, false] rfl rfl (by kernel_rfl) (fun _ _ _ h => h) (Or.inl ⟨by rfl, ?_⟩) ?_ ?_
  rotate_left
  · intro w'
    go_simp
    with_reducible rfl
  rotate_left
  · simp only [Act.put, List.setIfInBounds_toArray, List.set_cons_zero, List.set_cons_succ, i64_w, i32_w]
    rfl
  refine pure_ (i := 5) (N := some 30) (v := ?_) (a' := ?_) #[true, true, true, true, false, true, false, false, false, false, false, false, false, false] rfl rfl (by kernel_rfl) (fun _ _ _ h => h) (Or.inl ⟨by rfl, ?_⟩) ?_ ?_
  rotate_left
  · intro w'
    go_simp
    with_reducible rfl
  rotate_left
  · simp only [Act.put, List.setIfInBounds_toArray, List.set_cons_zero, List.set_cons_succ, i64_w, i32_w]
    rfl
  refine pure_ (i := 9) (N := some 34) (v := ?_) (a' := ?_) #[true, true, true, true, false, true, false, false, false, true, false, false, false, false] rfl rfl (by kernel_rfl) (fun _ _ _ h => h) (Or.inl ⟨by rfl, ?_⟩) ?_ ?_
  rotate_left
  · intro w'
    go_simp
    with_reducible rfl
  rotate_left
  · simp only [Act.put, List.setIfInBounds_toArray, List.set_cons_zero, List.set_cons_succ, i64_w, i32_w]
    rfl
  refine take_ (i := 4) (N := some 29) (v := ?_) (a' := ?_) #[true, true, true, true, true, true, false, false, false, true, false, false, false, false] rfl rfl (by kernel_rfl) (fun _ _ _ h => h) (Or.inl ⟨by rfl, ?_⟩) hHeld ?_ ?_
  rotate_left
  · rintro w' ⟨s0, s1⟩
    go_simp
    with_reducible rfl
  rotate_left
  · simp only [Act.put, List.setIfInBounds_toArray, List.set_cons_zero, List.set_cons_succ, i64_w, i32_w]
    rfl
  refine take_ (i := 6) (N := some 31) (v := ?_) (a' := ?_) #[true, true, true, true, true, true, true, false, false, true, false, false, false, false] rfl rfl (by kernel_rfl) (fun _ _ _ h => h) (Or.inl ⟨by rfl, ?_⟩) hHeld ?_ ?_
  rotate_left
  · rintro w' ⟨s0, s1⟩
    go_simp
    with_reducible rfl
  rotate_left
  · simp only [Act.put, List.setIfInBounds_toArray, List.set_cons_zero, List.set_cons_succ, i64_w, i32_w]
    rfl
  refine one_ (i := 7) (N := some 32) #[true, true, true, true, true, true, true, true, false, true, false, false, false, false] rfl rfl (by kernel_rfl) (by decide) (fun K hK => ?_)
  refine value_ (w1 := ?_) (v := ?_) (by rfl) rfl ?_ ?_
  rotate_left 2
  · go_simp
    constructor
    · rfl
    · rfl
  refine hK.out _ _ ⟨(cell_alloc _ q1), (cell_alloc _ q6)⟩ (fun hHeld => ?_)
  clear hK K
  refine norm_ (a' := ?_) ?_ ?_
  rotate_left
  · show Act.put _ (some 32) _ = _
    simp only [Act.put, List.setIfInBounds_toArray, List.set_cons_zero, List.set_cons_succ, i64_w, i32_w]
    rfl
  refine one_ (i := 8) (N := some 33) #[true, true, true, true, true, true, true, true, true, true, false, false, false, false] rfl rfl (by kernel_rfl) (by decide) (fun K hK => ?_)
  refine Kd.R_append_step kT (w0 := w2.drew) B (by rfl) (.tmp 29) (.tmp 32) 28 TS (.string nil8) 16 rfl Tryd.underlying28 info_s3 rfl (by decide) (by decide) vN c.names t.f1 [.string t.f1] (fun _ => True) (fun _ => False) rfl rfl rfl (fun _ hk => hk.elim) (fun _ _ => trivial) (Kd.R_drew ST2.out.names) (Below.refl _ _) hbz (by omega) ?_
  intro v8 w8 ho hb hg hat
  obtain ⟨A8, c8, h8⟩ := Kd.R_slice ho
  rw [List.length_append, List.length_singleton] at h8
  subst h8
  have HO := Aside0.mk ho
  have HG := Aside0.mk (show w2.grownBy w8 vN.ownBlock from ⟨hg.1, hg.2, hg.3, hg.4, hg.5⟩)
  have hbx := ST2.out.grown_box HG.out (Kd.R_base ST2.out.names)
  have f8 := blk_frozen hbx 1
  have q8 : w8.cell? ⟨b, 1, none⟩ = some vN := (blk_cell hbx 1).trans rfl
  have hne : some w1.heap.size ≠ vN.ownBlock := NE.out
  have q9 := cell_of_heap (w := w2) (w1 := w8) (a := ⟨w1.heap.size, 1, none⟩) (HG.out.block w1.heap.size HLT.out hne) q6
  refine hK.out _ _ ⟨q8, q9⟩ (fun hHeld => ?_)
  clear hK K
  refine norm_ (a' := ?_) ?_ ?_
  rotate_left
  · show Act.put _ (some 33) _ = _
    simp only [Act.put, List.setIfInBounds_toArray, List.set_cons_zero, List.set_cons_succ, i64_w, i32_w]
    rfl
  refine pure_ (i := 10) (N := some 35) (v := ?_) (a' := ?_) #[true, true, true, true, true, true, true, true, true, true, true, false, false, false] rfl rfl (by kernel_rfl) (fun _ _ _ h => h) (Or.inl ⟨by rfl, ?_⟩) ?_ ?_
  rotate_left
  · intro w'
    go_simp
    with_reducible rfl
  rotate_left
  · simp only [Act.put, List.setIfInBounds_toArray, List.set_cons_zero, List.set_cons_succ, i64_w, i32_w]
    rfl
  refine pure_ (i := 11) (N := some 36) (v := ?_) (a' := ?_) #[true, true, true, true, true, true, true, true, true, true, true, true, false, false] rfl rfl (by kernel_rfl) (fun _ _ _ h => h) (Or.inl ⟨by rfl, ?_⟩) ?_ ?_
  rotate_left
  · intro w'
    go_simp
    with_reducible rfl
  rotate_left
  · simp only [Act.put, List.setIfInBounds_toArray, List.set_cons_zero, List.set_cons_succ, i64_w, i32_w]
    rfl
  refine last_ (i := 12) (N := none) #[true, true, true, true, true, true, true, true, true, true, true, true, true, false] rfl rfl (by kernel_rfl) (by decide) (fun K hK => ?_)
  refine skip_ (w1 := ?_) (by rfl) rfl ?_ ?_
  rotate_left
  · go_simp
    rfl
  refine hK.out _ _ ?_
  clear hK K
  refine pure_ (i := 13) (N := some 7) (v := ?_) (a' := ?_) #[true, true, true, true, true, true, true, true, true, true, true, true, true, true] rfl rfl (by kernel_rfl) (fun _ _ _ h => h) (Or.inl ⟨by rfl, ?_⟩) ?_ ?_
  rotate_left
  · intro w'
    go_simp
    with_reducible rfl
  rotate_left
  · simp only [Act.put, List.setIfInBounds_toArray, List.set_cons_zero, List.set_cons_succ, i64_w, i32_w]
    rfl
  refine done_ (by kernel_rfl) ?_

  have ST8 := Aside0.mk (ST2.out.setNames HX.out hbz HO.out HG.out)
  have K8 := Aside0.mk (Kept.of_grown HG.out K2.out (fun k hk => .inl (.inr (.inr (Kd.R_base ST2.out.names k hk)))))
  go_wp2
  go_ret
  exact ⟨_, _, _, _, rfl, ST8.out, fun _ => ⟨rfl, rfl⟩, K8.out.setCell (p := ⟨b, 1, none⟩) (.inl (.inr (.inl rfl))) _⟩
end Go.Proofs.YtjeofffddbibeaaDoor.Pa
end

section
namespace Go.Proofs.YtjeofffddbibeaaDoor.Pa
open Go Go.RowKit Go.Proofs.YtjeofffddbibeaaDoor.PParseTells Go.Proofs.YtjeofffddbibeaaDoor.Ex Go.Proofs.YtjeofffddbibeaaDoorW.PrintWords Go.Proofs.YtjeofffddbibeaaDoorW.PrintLast Go.Proofs.YtjeofffddbibeaaDoorW.PrintMore
set_option linter.unusedVariables false
set_option linter.unusedSimpArgs false
def rawL : List ByteArray := (Lib.fields SHAPES.data.toList).map fun l => ⟨l.toArray⟩
theorem rawL_len : rawL.length = 18 := by decide +kernel
theorem shapeL_len : shapeL.length = 18 := by decide +kernel
theorem shapeL_map : shapeL = rawL.map fun q => ((⟨(Lib.cut q.data.toList [58]).1.toArray⟩ : ByteArray), (⟨(Lib.cut q.data.toList [58]).2.1.toArray⟩ : ByteArray)) := by
  unfold shapeL rawL
  rw [List.map_map]
  rfl
theorem shapeL_at (k : Nat) (h : k < rawL.length) (h' : k < shapeL.length) : shapeL[k] = (⟨(Lib.cut (rawL[k]).data.toList [58]).1.toArray⟩, ⟨(Lib.cut (rawL[k]).data.toList [58]).2.1.toArray⟩) := by
  rw [List.getElem_of_eq shapeL_map h', List.getElem_map]
  try rfl
theorem raw_small : ∀ q ∈ rawL, q.size < 4294967281 := by decide +kernel
def shF : List (ByteArray × ByteArray) → ByteArray → ByteArray × Bool
  | [], _ => (nil8, false)
  | q :: r, s => if (q.2.toList == s.toList) = true then (q.1, true) else shF r s
def shapeF (s : ByteArray) : ByteArray × Bool := shF shapeL s
theorem shF_at (s : ByteArray) (k : Nat) (h : k < shapeL.length) : shF (shapeL.drop k) s = if ((shapeL[k]).2.toList == s.toList) = true then ((shapeL[k]).1, true) else shF (shapeL.drop (k + 1)) s := by
  rw [List.drop_eq_getElem_cons h, shF]
theorem shF_end (s : ByteArray) : shF (shapeL.drop 18) s = (nil8, false) := by
  rw [List.drop_of_length_le (by rw [shapeL_len]; exact Nat.le_refl 18), shF]
set_option maxHeartbeats 8000000 in
set_option maxRecDepth 100000 in
theorem Shape_calls (s : ByteArray) (w : World) (hC : Cal w) :
    Calls Tryd.prog 34 #[.string s] w fun e w' => e = .returned (.tuple #[.string (shapeF s).1, .bool (shapeF s).2]) ∧ Below w.heap.size w w' := by
  have CF : Aside0 (Calls Tryd.prog 61 #[.string SHAPES] w fun e w' => e = .returned (.slice (some ⟨w.heap.size, 0, none⟩) 18 18) ∧ w' = w.alloc (.cells (rawL.map Value.string).toArray 9)) := by
    refine ⟨(Tryd.strings_Fields_laid SHAPES w (by decide +kernel) shapes_ascii hC.space).mono ?_⟩
    rintro e w' ⟨rfl, rfl⟩
    have hl : (Lib.fields SHAPES.data.toList).length = 18 := by
      have := rawL_len
      unfold rawL at this
      rw [List.length_map] at this
      exact this
    refine ⟨by rw [hl], ?_⟩
    unfold rawL
    rw [List.map_map]
    rfl
  obtain ⟨m, hm⟩ := hC.maxl
  have hb0 := below_alloc (Below.refl w.heap.size w) (.cells (rawL.map Value.string).toArray 9)
  have CC : ∀ (k : Nat) (hk : k < rawL.length) (W : World), Below w.heap.size w W → Aside0 (Calls Tryd.prog 63 #[.string rawL[k], .string ⟨#[58]⟩] W fun e w' => e = .returned (.tuple #[.string (shapeL[k]'(by rw [shapeL_len]; rw [rawL_len] at hk; exact hk)).1, .string (shapeL[k]'(by rw [shapeL_len]; rw [rawL_len] at hk; exact hk)).2, .bool (Lib.cut (rawL[k]).data.toList [58]).2.2]) ∧ Drawn0 W w') := by
    intro k hk W hb
    refine ⟨(Tryd.strings_Cut rawL[k] ⟨#[58]⟩ m W (raw_small _ (List.getElem_mem hk)) ((hb.cell (World.block_lt_of_cell? w _ hm)).trans hm)).mono ?_⟩
    rintro e w' ⟨rfl, hd⟩
    rw [shapeL_at k hk]
    obtain ⟨n, rfl⟩ := hd
    exact ⟨rfl, n, rfl⟩
  have HB0 := Aside0.mk hb0
  have HCC := Aside0.mk CC
  have b1 := Aside0.mk (blk_new w (.cells (rawL.map Value.string).toArray 9))
  have h0 : shF (shapeL.drop 0) s = shapeF s := rfl
  have H0 := Aside0.mk h0
  clear hm hC hb0 CC h0
  obtain ⟨R, hR⟩ : ∃ R, shapeF s = R := ⟨_, rfl⟩
  rw [hR] at H0 ⊢
  clear hR
  go_enter Tryd.func34, Tryd.ntmps34
  go_wp2_with fail
  (with_reducible refine CF.out.mono ?_)
  rintro e w1 ⟨rfl, rfl⟩
  clear CF
  go_wp2_with fail
  go_loopw [11] (fun j wr => ∃ k n : Nat, k ≤ 18 ∧ j = .int .i64 k ∧ shF (shapeL.drop k) s = R ∧ wr = (w.alloc (.cells (rawL.map Value.string).toArray 9)).drewN n) (fun j _ => 18 - (intOf j).toNat)
  case atStart => exact ⟨0, 0, by omega, rfl, H0.out, rfl⟩
  case round =>
    obtain ⟨k, n, hk, rfl, hR, rfl⟩ := hrel
    by_cases hkn : k < 18
    · have hki : (k : Int) < 18 := by omega
      have hki' : decide ((k : Int) < 18) = true := decide_eq_true hki
      have hk1 : k < rawL.length := by rw [rawL_len]; exact hkn
      have hk2 : k < shapeL.length := by rw [shapeL_len]; exact hkn
      have q : ((w.alloc (.cells (rawL.map Value.string).toArray 9)).drewN n).cell? ⟨w.heap.size, k, none⟩ = some (.string rawL[k]) := by
        refine (blk_cell (blk_drewN b1.out n) k).trans ?_
        simp [hk1]
        try rfl
      have hBW := pw_below_drewN HB0.out n
      have CK := HCC.out k hk1 _ hBW
      have HR := Aside0.mk ((shF_at s k hk2).symm.trans hR)
      clear hR hBW
      generalize hsq : shapeL[k] = sq at *
      generalize rawL[k] = rq at *
      generalize (Lib.cut rq.data.toList [58]).2.2 = bq at *
      obtain ⟨s1, s2⟩ := sq
      dsimp only at CK HR
      clear hsq
      go_wp2_with fail
      (with_reducible refine CK.out.mono ?_)
      rintro e w2 ⟨rfl, ⟨m2, rfl⟩⟩
      clear CK q
      cases hq : (s2.toList == s.toList)
      · go_wp2_with fail
        go_roundw
        case rel => exact ⟨k + 1, n + m2, by omega, by go_num, by have := HR.out; rw [hq, if_neg (by simp)] at this; exact this, rfl⟩
        case measure => simp [intOf]; omega
      · have hF := HR.out
        rw [hq, if_pos rfl] at hF
        subst hF
        go_wp2
        go_ret2
        exact ⟨rfl, pw_below_drewN HB0.out (n + m2)⟩
    · obtain rfl : k = 18 := by omega
      have hF := hR
      rw [shF_end] at hF
      subst hF
      clear hR
      go_wp2
      go_ret2
      exact ⟨rfl, pw_below_drewN HB0.out n⟩
end Go.Proofs.YtjeofffddbibeaaDoor.Pa
end
