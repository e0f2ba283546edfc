/-
  The examples of package expr's chapter: awake answers true.
-/
import Derived.Test.YtjeofffddbibeaaDoorExprA
namespace Go.Proofs.YtjeofffddbibeaaDoor.Ex
open Go Go.Maps Go.RowKit Go.Proofs.YtjeofffddbibeaaDoor.PExprTells Go.Proofs.YtjeofffddbibeaaDoorW.PrintWords Go.Proofs.YtjeofffddbibeaaDoorW.PrintLast Go.Proofs.YtjeofffddbibeaaDoorW.PrintMore
set_option linter.unusedVariables false
set_option linter.unusedSimpArgs false

abbrev dayS : ByteArray := { data := #[100, 97, 121] }
abbrev nineS : ByteArray := { data := #[57, 97] }
def tDay : X := ⟨0, dayS, [], []⟩
def tThree : X := ⟨1, nil8, [3], [tDay]⟩
def tBoth : X := ⟨10, nil8, [], [tThree, tDay]⟩
def tBad : X := ⟨1, nil8, [], [tDay]⟩
def tNine : X := ⟨0, nineS, [], []⟩
def tNil : X := ⟨0, nil8, [], []⟩
theorem wf_leaf (s : ByteArray) (hs : s.size ≤ 140737488351232) : Wf ⟨0, s, [], []⟩ := (Wf_eq _).2 ⟨⟨Int.le_refl 0, (by decide : (0 : Int) ≤ 255)⟩, hs, (fun _ h => by cases h), WfL_of (fun _ h => by cases h)⟩
theorem wf_day : Wf tDay := wf_leaf _ (by decide)
theorem wf_three : Wf tThree := (Wf_eq _).2 ⟨⟨by decide, by decide⟩, by decide, (fun k h => by rcases List.mem_singleton.1 h with rfl; decide), WfL_of (fun y h => by rcases List.mem_singleton.1 h with rfl; exact wf_day)⟩
theorem wf_both : Wf tBoth := (Wf_eq _).2 ⟨⟨by decide, by decide⟩, by decide, (fun _ h => by cases h), WfL_of (fun y h => by
  rcases List.mem_cons.1 h with rfl | h
  · exact wf_three
  · rcases List.mem_singleton.1 h with rfl
    exact wf_day)⟩
theorem wf_bad : Wf tBad := (Wf_eq _).2 ⟨⟨by decide, by decide⟩, by decide, (fun _ h => by cases h), WfL_of (fun y h => by rcases List.mem_singleton.1 h with rfl; exact wf_day)⟩
theorem has_leaf (w : World) (s : ByteArray) (hs : s.size ≤ 140737488351232) : Has w ⟨0, s, [], []⟩ none 0 none 0 := ⟨wf_leaf s hs, Nat.le_refl 0, Kd.C_nil _ _, Nat.le_refl 0, Kd.C_nil _ _⟩
theorem cnt_day : cnt tDay = 1 := by decide +kernel
theorem cnt_three : cnt tThree = 2 := by decide +kernel
theorem cnt_both : cnt tBoth = 4 := by decide +kernel
theorem dep_three : dep tThree = 2 := by decide +kernel
theorem dep_both : dep tBoth = 3 := by decide +kernel
theorem rgt_three : RightB tThree = true := by decide +kernel
theorem rgt_bad : RightB tBad = false := by decide +kernel
theorem rgt_nine : RightB tNine = false := by decide +kernel
theorem rgt_nil : RightB tNil = false := by decide +kernel
theorem nam_three : addAll [] (namesX tThree) = [dayS] := by rfl
theorem nam_both : addAll [] (namesX tBoth) = [dayS] := by rfl
set_option maxHeartbeats 8000000 in
set_option maxRecDepth 100000 in
theorem awake_calls (w : World) : Calls Tryd.prog 12 #[] w fun e w' => e = .returned (.bool true) ∧ Below w.heap.size w w' := by
  go_enter Tryd.func12, Tryd.ntmps12

  go_wp2_with fail
  (with_reducible refine (Named_calls _ _).mono ?_)
  rintro e w1 ⟨rfl, b1⟩
  have j1 := ((InBox.new (has_leaf w1 dayS (by decide)) 25 w1.heap.size rfl).a (.cells #[.int .i64 3] 2)).a (.cells #[.int .u8 0, .string dayS, .slice none 0 0, .slice none 0 0] 25)
  have j2 := C_one (b := w1.heap.size + 1 + 1) (x := tDay) j1.has (by rw [World.cell?_alloc_at _ _ _ _ (by simp)]; rfl) (by rw [World.cell?_alloc_at _ _ _ _ (by simp)]; rfl) (by rw [World.cell?_alloc_at _ _ _ _ (by simp)]; rfl) (by rw [World.cell?_alloc_at _ _ _ _ (by simp)]; rfl)
  have j3 : kI.C (((w1.alloc (.cells #[.int .u8 0, .string dayS, .slice none 0 0, .slice none 0 0] 25)).alloc (.cells #[.int .i64 3] 2)).alloc (.cells #[.int .u8 0, .string dayS, .slice none 0 0, .slice none 0 0] 25)) (some ⟨w1.heap.size + 1, 0, none⟩) 1 [3] := CI_one (by rw [World.cell?_alloc_past _ _ _ (by simp), World.cell?_alloc_at _ _ _ _ (by simp)]; rfl)
  have J1 := Aside0.mk j1
  have J2 := Aside0.mk j2
  have J3 := Aside0.mk j3
  clear j1 j2 j3
  go_wp2_with fail
  (with_reducible refine (Made_calls _ _ _ _ _ _ _ _).mono ?_)
  rintro e w2 ⟨rfl, b2⟩
  have i1 := J1.out.later b2
  have h3 : Has w2 tThree (some ⟨w1.heap.size + 1, 0, none⟩) 1 (some ⟨w1.heap.size + 1 + 1, 0, none⟩) 1 := ⟨wf_three, Nat.le_refl 1, Kd.C_below J3.out b2, Nat.le_refl 1, Kd.C_below J2.out b2⟩
  have i2 := InBox.new h3 25 w2.heap.size rfl
  have i1 := i1.a (.cells #[.int .u8 1, .string nil8, .slice (some ⟨w1.heap.size + 1, 0, none⟩) 1 1, .slice (some ⟨w1.heap.size + 1 + 1, 0, none⟩) 1 1] 25)
  have BB1 := below_then (below_alloc (below_alloc (below_alloc b1 (.cells #[.int .u8 0, .string dayS, .slice none 0 0, .slice none 0 0] 25)) (.cells #[.int .i64 3] 2)) (.cells #[.int .u8 0, .string dayS, .slice none 0 0, .slice none 0 0] 25)) (below_alloc (below_alloc (below_alloc b1 _) _) _).size b2
  clear J1 J2 J3 b1 h3
  have q10 : (w2.alloc (.cells #[.int .u8 1, .string nil8, .slice (some ⟨w1.heap.size + 1, 0, none⟩) 1 1, .slice (some ⟨w1.heap.size + 1 + 1, 0, none⟩) 1 1] 25)).cell? ⟨w1.heap.size, 0, none⟩ = some (.int .u8 0) := i1.q0
  have q11 : (w2.alloc (.cells #[.int .u8 1, .string nil8, .slice (some ⟨w1.heap.size + 1, 0, none⟩) 1 1, .slice (some ⟨w1.heap.size + 1 + 1, 0, none⟩) 1 1] 25)).cell? ⟨w1.heap.size, 1, none⟩ = some (.string dayS) := i1.q1
  have q12 : (w2.alloc (.cells #[.int .u8 1, .string nil8, .slice (some ⟨w1.heap.size + 1, 0, none⟩) 1 1, .slice (some ⟨w1.heap.size + 1 + 1, 0, none⟩) 1 1] 25)).cell? ⟨w1.heap.size, 2, none⟩ = some (.slice none 0 0) := i1.q2
  have q13 : (w2.alloc (.cells #[.int .u8 1, .string nil8, .slice (some ⟨w1.heap.size + 1, 0, none⟩) 1 1, .slice (some ⟨w1.heap.size + 1 + 1, 0, none⟩) 1 1] 25)).cell? ⟨w1.heap.size, 3, none⟩ = some (.slice none 0 0) := i1.q3
  have q20 : (w2.alloc (.cells #[.int .u8 1, .string nil8, .slice (some ⟨w1.heap.size + 1, 0, none⟩) 1 1, .slice (some ⟨w1.heap.size + 1 + 1, 0, none⟩) 1 1] 25)).cell? ⟨w2.heap.size, 0, none⟩ = some (.int .u8 1) := i2.q0
  have q21 : (w2.alloc (.cells #[.int .u8 1, .string nil8, .slice (some ⟨w1.heap.size + 1, 0, none⟩) 1 1, .slice (some ⟨w1.heap.size + 1 + 1, 0, none⟩) 1 1] 25)).cell? ⟨w2.heap.size, 1, none⟩ = some (.string nil8) := i2.q1
  have q22 : (w2.alloc (.cells #[.int .u8 1, .string nil8, .slice (some ⟨w1.heap.size + 1, 0, none⟩) 1 1, .slice (some ⟨w1.heap.size + 1 + 1, 0, none⟩) 1 1] 25)).cell? ⟨w2.heap.size, 2, none⟩ = some (.slice (some ⟨w1.heap.size + 1, 0, none⟩) 1 1) := i2.q2
  have q23 : (w2.alloc (.cells #[.int .u8 1, .string nil8, .slice (some ⟨w1.heap.size + 1, 0, none⟩) 1 1, .slice (some ⟨w1.heap.size + 1 + 1, 0, none⟩) 1 1] 25)).cell? ⟨w2.heap.size, 3, none⟩ = some (.slice (some ⟨w1.heap.size + 1 + 1, 0, none⟩) 1 1) := i2.q3
  have hlt1 : w1.heap.size < w2.heap.size := by have := b2.size; simp at this; omega
  have I1 := Aside0.mk i1
  have I2 := Aside0.mk i2
  clear i1 i2
  go_wp2_with fail
  (with_reducible refine (Made_calls _ _ _ _ _ _ _ _).mono ?_)
  rintro e w3 ⟨rfl, b3⟩
  clear q10 q11 q12 q13 q20 q21 q22 q23
  have j2 := C_two (w := (w2.alloc (.cells #[.int .u8 1, .string nil8, .slice (some ⟨w1.heap.size + 1, 0, none⟩) 1 1, .slice (some ⟨w1.heap.size + 1 + 1, 0, none⟩) 1 1] 25)).alloc (.cells #[.int .u8 1, .string nil8, .slice (some ⟨w1.heap.size + 1, 0, none⟩) 1 1, .slice (some ⟨w1.heap.size + 1 + 1, 0, none⟩) 1 1, .int .u8 0, .string dayS, .slice none 0 0, .slice none 0 0] 25)) (b := w2.heap.size + 1) (x := tThree) (y := tDay) (I2.out.a _).has (I1.out.a _).has (by rw [World.cell?_alloc_at _ _ _ _ (by simp)]; rfl) (by rw [World.cell?_alloc_at _ _ _ _ (by simp)]; rfl) (by rw [World.cell?_alloc_at _ _ _ _ (by simp)]; rfl) (by rw [World.cell?_alloc_at _ _ _ _ (by simp)]; rfl) (by rw [World.cell?_alloc_at _ _ _ _ (by simp)]; rfl) (by rw [World.cell?_alloc_at _ _ _ _ (by simp)]; rfl) (by rw [World.cell?_alloc_at _ _ _ _ (by simp)]; rfl) (by rw [World.cell?_alloc_at _ _ _ _ (by simp)]; rfl)
  have h3 : Has w3 tBoth none 0 (some ⟨w2.heap.size + 1, 0, none⟩) 2 := ⟨wf_both, Nat.le_refl 0, Kd.C_nil _ _, Nat.le_refl 2, Kd.C_below j2 b3⟩
  have i3 := InBox.new h3 25 w3.heap.size rfl
  have i1 := ((I1.out.a (.cells #[.int .u8 1, .string nil8, .slice (some ⟨w1.heap.size + 1, 0, none⟩) 1 1, .slice (some ⟨w1.heap.size + 1 + 1, 0, none⟩) 1 1, .int .u8 0, .string dayS, .slice none 0 0, .slice none 0 0] 25)).later b3).a (.cells #[.int .u8 10, .string nil8, .slice none 0 0, .slice (some ⟨w2.heap.size + 1, 0, none⟩) 2 2] 25)
  have i2 := ((I2.out.a (.cells #[.int .u8 1, .string nil8, .slice (some ⟨w1.heap.size + 1, 0, none⟩) 1 1, .slice (some ⟨w1.heap.size + 1 + 1, 0, none⟩) 1 1, .int .u8 0, .string dayS, .slice none 0 0, .slice none 0 0] 25)).later b3).a (.cells #[.int .u8 10, .string nil8, .slice none 0 0, .slice (some ⟨w2.heap.size + 1, 0, none⟩) 2 2] 25)
  have I1 := Aside0.mk i1
  have I2 := Aside0.mk i2
  have I3 := Aside0.mk i3
  clear i1 i2 i3 j2 h3
  have BB : Below w.heap.size w (w3.alloc (.cells #[.int .u8 10, .string nil8, .slice none 0 0, .slice (some ⟨w2.heap.size + 1, 0, none⟩) 2 2] 25)) := below_alloc (below_then (below_alloc (below_alloc BB1 (.cells #[.int .u8 1, .string nil8, .slice (some ⟨w1.heap.size + 1, 0, none⟩) 1 1, .slice (some ⟨w1.heap.size + 1 + 1, 0, none⟩) 1 1] 25)) (.cells #[.int .u8 1, .string nil8, .slice (some ⟨w1.heap.size + 1, 0, none⟩) 1 1, .slice (some ⟨w1.heap.size + 1 + 1, 0, none⟩) 1 1, .int .u8 0, .string dayS, .slice none 0 0, .slice none 0 0] 25)) (below_alloc (below_alloc BB1 _) _).size b3) _
  have CN4 := Aside0.mk (fun w => Nums_calls 4 w (by decide) (by decide))
  rw [show numsOf 4 = 3 by decide, show decide ((4 : Int) ≤ 12) = true by decide] at CN4
  have CN13 := Aside0.mk (fun w => Nums_calls 13 w (by decide) (by decide))
  rw [show numsOf 13 = 0 by decide, show decide ((13 : Int) ≤ 12) = false by decide] at CN13
  have CA := Aside0.mk (fun w => Args_calls 2 w (by decide) (by decide))
  rw [show argsOf 2 = 1 by decide] at CA
  go_wp2_with fail
  (with_reducible refine (CN4.out _).mono ?_)
  rintro e w4 ⟨rfl, b4⟩
  have I1 := Aside0.mk ((I1.out).later b4)
  have I2 := Aside0.mk ((I2.out).later b4)
  have I3 := Aside0.mk ((I3.out).later b4)
  have BB := below_then BB BB.size b4
  clear b4
  go_wp2_with fail
  (with_reducible refine (CN13.out _).mono ?_)
  rintro e w5 ⟨rfl, b5⟩
  have I1 := Aside0.mk ((I1.out).later b5)
  have I2 := Aside0.mk ((I2.out).later b5)
  have I3 := Aside0.mk ((I3.out).later b5)
  have BB := below_then BB BB.size b5
  clear b5
  have CC0 := Aside0.mk (Count_calls tThree _ _ _ _ w5 I2.out.has (by decide +kernel))
  rw [cnt_three] at CC0
  have CC := Aside0.mk (show Calls _ _ #[.agg #[.int .u8 1, .string nil8, .slice (some ⟨w1.heap.size + 1, 0, none⟩) 1 1, .slice (some ⟨w1.heap.size + 1 + 1, 0, none⟩) 1 1]] _ _ from CC0.out)
  clear CC0
  have i2 := I2.out
  have q20 : (w5).cell? ⟨w2.heap.size, 0, none⟩ = some (.int .u8 1) := i2.q0
  have q21 : (w5).cell? ⟨w2.heap.size, 1, none⟩ = some (.string nil8) := i2.q1
  have q22 : (w5).cell? ⟨w2.heap.size, 2, none⟩ = some (.slice (some ⟨w1.heap.size + 1, 0, none⟩) 1 1) := i2.q2
  have q23 : (w5).cell? ⟨w2.heap.size, 3, none⟩ = some (.slice (some ⟨w1.heap.size + 1 + 1, 0, none⟩) 1 1) := i2.q3
  clear i2
  go_wp2_with fail
  (with_reducible refine (CC.out).mono ?_)
  rintro e w6 ⟨rfl, b6⟩
  clear q20 q21 q22 q23
  have I1 := Aside0.mk ((I1.out).later b6)
  have I2 := Aside0.mk ((I2.out).later b6)
  have I3 := Aside0.mk ((I3.out).later b6)
  have BB := below_then BB BB.size b6
  clear b6
  clear CC
  have CC0 := Aside0.mk (Depth_calls tThree _ _ _ _ w6 I2.out.has (by decide +kernel))
  rw [dep_three] at CC0
  have CC := Aside0.mk (show Calls _ _ #[.agg #[.int .u8 1, .string nil8, .slice (some ⟨w1.heap.size + 1, 0, none⟩) 1 1, .slice (some ⟨w1.heap.size + 1 + 1, 0, none⟩) 1 1]] _ _ from CC0.out)
  clear CC0
  have i2 := I2.out
  have q20 : (w6).cell? ⟨w2.heap.size, 0, none⟩ = some (.int .u8 1) := i2.q0
  have q21 : (w6).cell? ⟨w2.heap.size, 1, none⟩ = some (.string nil8) := i2.q1
  have q22 : (w6).cell? ⟨w2.heap.size, 2, none⟩ = some (.slice (some ⟨w1.heap.size + 1, 0, none⟩) 1 1) := i2.q2
  have q23 : (w6).cell? ⟨w2.heap.size, 3, none⟩ = some (.slice (some ⟨w1.heap.size + 1 + 1, 0, none⟩) 1 1) := i2.q3
  clear i2
  go_wp2_with fail
  (with_reducible refine (CC.out).mono ?_)
  rintro e w7 ⟨rfl, b7⟩
  clear q20 q21 q22 q23
  have I1 := Aside0.mk ((I1.out).later b7)
  have I2 := Aside0.mk ((I2.out).later b7)
  have I3 := Aside0.mk ((I3.out).later b7)
  have BB := below_then BB BB.size b7
  clear b7
  clear CC
  have CC0 := Aside0.mk (Right_calls tThree _ _ _ _ w7 I2.out.has (by decide +kernel))
  rw [rgt_three] at CC0
  have CC := Aside0.mk (show Calls _ _ #[.agg #[.int .u8 1, .string nil8, .slice (some ⟨w1.heap.size + 1, 0, none⟩) 1 1, .slice (some ⟨w1.heap.size + 1 + 1, 0, none⟩) 1 1]] _ _ from CC0.out)
  clear CC0
  have i2 := I2.out
  have q20 : (w7).cell? ⟨w2.heap.size, 0, none⟩ = some (.int .u8 1) := i2.q0
  have q21 : (w7).cell? ⟨w2.heap.size, 1, none⟩ = some (.string nil8) := i2.q1
  have q22 : (w7).cell? ⟨w2.heap.size, 2, none⟩ = some (.slice (some ⟨w1.heap.size + 1, 0, none⟩) 1 1) := i2.q2
  have q23 : (w7).cell? ⟨w2.heap.size, 3, none⟩ = some (.slice (some ⟨w1.heap.size + 1 + 1, 0, none⟩) 1 1) := i2.q3
  clear i2
  go_wp2_with fail
  (with_reducible refine (CC.out).mono ?_)
  rintro e w8 ⟨rfl, b8⟩
  clear q20 q21 q22 q23
  have I1 := Aside0.mk ((I1.out).later b8)
  have I2 := Aside0.mk ((I2.out).later b8)
  have I3 := Aside0.mk ((I3.out).later b8)
  have BB := below_then BB BB.size b8
  clear b8
  clear CC
  have CC0 := Aside0.mk (Names_rd tThree _ _ _ _ w8 I2.out.has (by decide +kernel))
  rw [nam_three] at CC0
  have CC := Aside0.mk (show Calls _ _ #[.agg #[.int .u8 1, .string nil8, .slice (some ⟨w1.heap.size + 1, 0, none⟩) 1 1, .slice (some ⟨w1.heap.size + 1 + 1, 0, none⟩) 1 1]] _ _ from CC0.out)
  clear CC0
  have i2 := I2.out
  have q20 : (w8).cell? ⟨w2.heap.size, 0, none⟩ = some (.int .u8 1) := i2.q0
  have q21 : (w8).cell? ⟨w2.heap.size, 1, none⟩ = some (.string nil8) := i2.q1
  have q22 : (w8).cell? ⟨w2.heap.size, 2, none⟩ = some (.slice (some ⟨w1.heap.size + 1, 0, none⟩) 1 1) := i2.q2
  have q23 : (w8).cell? ⟨w2.heap.size, 3, none⟩ = some (.slice (some ⟨w1.heap.size + 1 + 1, 0, none⟩) 1 1) := i2.q3
  clear i2
  go_wp2_with fail
  (with_reducible refine (CC.out).mono ?_)
  rintro e w9 ⟨NA, NC, rfl, hNl, hNC, b9⟩
  clear q20 q21 q22 q23
  have I1 := Aside0.mk ((I1.out).later b9)
  have I2 := Aside0.mk ((I2.out).later b9)
  have I3 := Aside0.mk ((I3.out).later b9)
  have BB := below_then BB BB.size b9
  clear b9
  clear CC
  have CT := Aside0.mk (Texts_calls [dayS] NA NC (some ⟨w9.heap.size, 0, none⟩) 1 (w9.alloc (.cells #[.string dayS] 9)) (Kd.C_alloc hNC _) hNl (CS_one (by rw [World.cell?_alloc_at _ _ _ _ rfl]; rfl)) (Nat.le_refl 1) (by decide))
  clear hNC hNl
  have CT1 := Aside0.mk (show Calls _ _ #[.slice NA 1 NC, .slice (some ⟨w9.heap.size, 0, none⟩) 1 1] _ _ from CT.out)
  clear CT
  go_wp2_with fail
  (with_reducible refine (CT1.out).mono ?_)
  rintro e w10 ⟨rfl, b10⟩
  have I1 := Aside0.mk ((I1.out.a _).later b10)
  have I2 := Aside0.mk ((I2.out.a _).later b10)
  have I3 := Aside0.mk ((I3.out.a _).later b10)
  have BB := below_then (below_alloc BB _) (below_alloc BB _).size b10
  clear b10
  clear CT1
  have CC0 := Aside0.mk (Count_calls tBoth _ _ _ _ w10 I3.out.has (by decide +kernel))
  rw [cnt_both] at CC0
  have CC := Aside0.mk (show Calls _ _ #[.agg #[.int .u8 10, .string nil8, .slice none 0 0, .slice (some ⟨w2.heap.size + 1, 0, none⟩) 2 2]] _ _ from CC0.out)
  clear CC0
  have i3 := I3.out
  have q30 : (w10).cell? ⟨w3.heap.size, 0, none⟩ = some (.int .u8 10) := i3.q0
  have q31 : (w10).cell? ⟨w3.heap.size, 1, none⟩ = some (.string nil8) := i3.q1
  have q32 : (w10).cell? ⟨w3.heap.size, 2, none⟩ = some (.slice none 0 0) := i3.q2
  have q33 : (w10).cell? ⟨w3.heap.size, 3, none⟩ = some (.slice (some ⟨w2.heap.size + 1, 0, none⟩) 2 2) := i3.q3
  clear i3
  go_wp2_with fail
  (with_reducible refine (CC.out).mono ?_)
  rintro e w11 ⟨rfl, b11⟩
  clear q30 q31 q32 q33
  have I1 := Aside0.mk ((I1.out).later b11)
  have I2 := Aside0.mk ((I2.out).later b11)
  have I3 := Aside0.mk ((I3.out).later b11)
  have BB := below_then BB BB.size b11
  clear b11
  clear CC
  have CC0 := Aside0.mk (Depth_calls tBoth _ _ _ _ w11 I3.out.has (by decide +kernel))
  rw [dep_both] at CC0
  have CC := Aside0.mk (show Calls _ _ #[.agg #[.int .u8 10, .string nil8, .slice none 0 0, .slice (some ⟨w2.heap.size + 1, 0, none⟩) 2 2]] _ _ from CC0.out)
  clear CC0
  have i3 := I3.out
  have q30 : (w11).cell? ⟨w3.heap.size, 0, none⟩ = some (.int .u8 10) := i3.q0
  have q31 : (w11).cell? ⟨w3.heap.size, 1, none⟩ = some (.string nil8) := i3.q1
  have q32 : (w11).cell? ⟨w3.heap.size, 2, none⟩ = some (.slice none 0 0) := i3.q2
  have q33 : (w11).cell? ⟨w3.heap.size, 3, none⟩ = some (.slice (some ⟨w2.heap.size + 1, 0, none⟩) 2 2) := i3.q3
  clear i3
  go_wp2_with fail
  (with_reducible refine (CC.out).mono ?_)
  rintro e w12 ⟨rfl, b12⟩
  clear q30 q31 q32 q33
  have I1 := Aside0.mk ((I1.out).later b12)
  have I2 := Aside0.mk ((I2.out).later b12)
  have I3 := Aside0.mk ((I3.out).later b12)
  have BB := below_then BB BB.size b12
  clear b12
  clear CC
  have CC0 := Aside0.mk (Names_rd tBoth _ _ _ _ w12 I3.out.has (by decide +kernel))
  rw [nam_both] at CC0
  have CC := Aside0.mk (show Calls _ _ #[.agg #[.int .u8 10, .string nil8, .slice none 0 0, .slice (some ⟨w2.heap.size + 1, 0, none⟩) 2 2]] _ _ from CC0.out)
  clear CC0
  have i3 := I3.out
  have q30 : (w12).cell? ⟨w3.heap.size, 0, none⟩ = some (.int .u8 10) := i3.q0
  have q31 : (w12).cell? ⟨w3.heap.size, 1, none⟩ = some (.string nil8) := i3.q1
  have q32 : (w12).cell? ⟨w3.heap.size, 2, none⟩ = some (.slice none 0 0) := i3.q2
  have q33 : (w12).cell? ⟨w3.heap.size, 3, none⟩ = some (.slice (some ⟨w2.heap.size + 1, 0, none⟩) 2 2) := i3.q3
  clear i3
  go_wp2_with fail
  (with_reducible refine (CC.out).mono ?_)
  rintro e w13 ⟨NA, NC, rfl, hNl, hNC, b13⟩
  clear q30 q31 q32 q33
  have I1 := Aside0.mk ((I1.out).later b13)
  have I2 := Aside0.mk ((I2.out).later b13)
  have I3 := Aside0.mk ((I3.out).later b13)
  have BB := below_then BB BB.size b13
  clear b13
  clear CC
  have CT := Aside0.mk (Texts_calls [dayS] NA NC (some ⟨w13.heap.size, 0, none⟩) 1 (w13.alloc (.cells #[.string dayS] 9)) (Kd.C_alloc hNC _) hNl (CS_one (by rw [World.cell?_alloc_at _ _ _ _ rfl]; rfl)) (Nat.le_refl 1) (by decide))
  clear hNC hNl
  have CT1 := Aside0.mk (show Calls _ _ #[.slice NA 1 NC, .slice (some ⟨w13.heap.size, 0, none⟩) 1 1] _ _ from CT.out)
  clear CT
  go_wp2_with fail
  (with_reducible refine (CT1.out).mono ?_)
  rintro e w14 ⟨rfl, b14⟩
  have I1 := Aside0.mk ((I1.out.a _).later b14)
  have I2 := Aside0.mk ((I2.out.a _).later b14)
  have I3 := Aside0.mk ((I3.out.a _).later b14)
  have BB := below_then (below_alloc BB _) (below_alloc BB _).size b14
  clear b14
  clear CT1
  have XA := Aside0.mk (C_one (w := w14.alloc (.cells #[.int .u8 0, .string dayS, .slice none 0 0, .slice none 0 0] 25)) (b := w14.heap.size) (x := tDay) (I1.out.a _).has (by rw [World.cell?_alloc_at _ _ _ _ (by simp)]; rfl) (by rw [World.cell?_alloc_at _ _ _ _ (by simp)]; rfl) (by rw [World.cell?_alloc_at _ _ _ _ (by simp)]; rfl) (by rw [World.cell?_alloc_at _ _ _ _ (by simp)]; rfl))
  have i1 := I1.out
  have q10 : (w14).cell? ⟨w1.heap.size, 0, none⟩ = some (.int .u8 0) := i1.q0
  have q11 : (w14).cell? ⟨w1.heap.size, 1, none⟩ = some (.string dayS) := i1.q1
  have q12 : (w14).cell? ⟨w1.heap.size, 2, none⟩ = some (.slice none 0 0) := i1.q2
  have q13 : (w14).cell? ⟨w1.heap.size, 3, none⟩ = some (.slice none 0 0) := i1.q3
  clear i1
  go_wp2_with fail
  (with_reducible refine (Made_calls _ _ _ _ _ _ _ _).mono ?_)
  rintro e w15 ⟨rfl, b15⟩
  clear q10 q11 q12 q13
  have XB := Aside0.mk (Kd.C_below XA.out b15)
  clear XA
  have I1 := Aside0.mk ((I1.out.a _).later b15)
  have I2 := Aside0.mk ((I2.out.a _).later b15)
  have I3 := Aside0.mk ((I3.out.a _).later b15)
  have BB := below_then (below_alloc BB _) (below_alloc BB _).size b15
  clear b15
  have CC0 := Aside0.mk (Right_calls tBad none 0 (some ⟨w14.heap.size, 0, none⟩) 1 w15 ⟨wf_bad, Nat.le_refl 0, Kd.C_nil _ _, Nat.le_refl 1, XB.out⟩ (by decide +kernel))
  rw [rgt_bad] at CC0
  have CC := Aside0.mk (show Calls _ _ #[.agg #[.int .u8 1, .string nil8, .slice none 0 0, .slice (some ⟨w14.heap.size, 0, none⟩) 1 1]] _ _ from CC0.out)
  clear CC0
  go_wp2_with fail
  (with_reducible refine (CC.out).mono ?_)
  rintro e w16 ⟨rfl, b16⟩
  have I1 := Aside0.mk ((I1.out).later b16)
  have I2 := Aside0.mk ((I2.out).later b16)
  have I3 := Aside0.mk ((I3.out).later b16)
  have BB := below_then BB BB.size b16
  clear b16
  clear CC
  go_wp2_with fail
  (with_reducible refine (Named_calls _ _).mono ?_)
  rintro e w17 ⟨rfl, b17⟩
  have I1 := Aside0.mk ((I1.out).later b17)
  have I2 := Aside0.mk ((I2.out).later b17)
  have I3 := Aside0.mk ((I3.out).later b17)
  have BB := below_then BB BB.size b17
  clear b17
  have CC0 := Aside0.mk (Right_calls tNine none 0 none 0 w17 (has_leaf w17 nineS (by decide)) (by decide +kernel))
  rw [rgt_nine] at CC0
  have CC := Aside0.mk (show Calls _ _ #[.agg #[.int .u8 0, .string nineS, .slice none 0 0, .slice none 0 0]] _ _ from CC0.out)
  clear CC0
  go_wp2_with fail
  (with_reducible refine (CC.out).mono ?_)
  rintro e w18 ⟨rfl, b18⟩
  have I1 := Aside0.mk ((I1.out).later b18)
  have I2 := Aside0.mk ((I2.out).later b18)
  have I3 := Aside0.mk ((I3.out).later b18)
  have BB := below_then BB BB.size b18
  clear b18
  clear CC
  go_wp2_with fail
  (with_reducible refine (Named_calls _ _).mono ?_)
  rintro e w19 ⟨rfl, b19⟩
  have I1 := Aside0.mk ((I1.out).later b19)
  have I2 := Aside0.mk ((I2.out).later b19)
  have I3 := Aside0.mk ((I3.out).later b19)
  have BB := below_then BB BB.size b19
  clear b19
  have CC0 := Aside0.mk (Right_calls tNil none 0 none 0 w19 (has_leaf w19 nil8 (by decide)) (by decide +kernel))
  rw [rgt_nil] at CC0
  have CC := Aside0.mk (show Calls _ _ #[.agg #[.int .u8 0, .string nil8, .slice none 0 0, .slice none 0 0]] _ _ from CC0.out)
  clear CC0
  go_wp2_with fail
  (with_reducible refine (CC.out).mono ?_)
  rintro e w20 ⟨rfl, b20⟩
  have I1 := Aside0.mk ((I1.out).later b20)
  have I2 := Aside0.mk ((I2.out).later b20)
  have I3 := Aside0.mk ((I3.out).later b20)
  have BB := below_then BB BB.size b20
  clear b20
  clear CC
  go_wp2_with fail
  (with_reducible refine (CA.out _).mono ?_)
  rintro e w21 ⟨rfl, b21⟩
  have I1 := Aside0.mk ((I1.out).later b21)
  have I2 := Aside0.mk ((I2.out).later b21)
  have I3 := Aside0.mk ((I3.out).later b21)
  have BB := below_then BB BB.size b21
  clear b21
  go_wp2
  go_ret
  exact ⟨rfl, BB⟩
end Go.Proofs.YtjeofffddbibeaaDoor.Ex
