/-
  Part 6 of what the row stands on, put together by a program: Awb, Tel, Pwk, PLaid.
-/
import Derived.LaidMore
import Derived.Lay
import Derived.OpenShut
import Derived.ProofKit
import Derived.Shelf.Vars
import Derived.Stop.Joined
import Derived.Test.YtjeofffddbibeaaDoorRows
import Derived.Test.YtjeofffddbibeaaDoorPcE
section
namespace Go.Proofs.YtjeofffddbibeaaDoor.Pa
open Go Go.RowKit Go.Proofs.YtjeofffddbibeaaDoor.PParseTells Go.Proofs.YtjeofffddbibeaaDoor.Ex Go.Proofs.YtjeofffddbibeaaDoorW.PrintWords Go.Proofs.YtjeofffddbibeaaDoorW.PrintLast Go.Proofs.YtjeofffddbibeaaDoorW.PrintMore
set_option linter.unusedVariables false
set_option linter.unusedSimpArgs false
structure AwF (w W : World) (b1 b2 b5 b8 b6 : Nat) (A2 : Option Addr) (c2 : Nat) (A3 : Option Addr) (c3 : Nat) (B2 : Option Addr) (d2 : Nat) (B3 : Option Addr) (d3 : Nat) (s1 s2 : Nat) : Prop where
  bx1 : Bx b1 ⟨0, ⟨#[100, 97, 121]⟩, [], []⟩ none 0 none 0 W
  bx2 : Bx b2 ⟨1, nil8, [3], [⟨0, ⟨#[100, 97, 121]⟩, [], []⟩]⟩ A2 c2 A3 c3 W
  bx5 : Bx b5 ⟨10, nil8, [], [⟨0, ⟨#[97]⟩, [], []⟩, ⟨2, nil8, [-1], [⟨0, ⟨#[98]⟩, [], []⟩]⟩]⟩ B2 d2 B3 d3 W
  bx8 : Bx b8 ⟨10, nil8, [], [⟨0, ⟨#[97]⟩, [], []⟩, ⟨2, nil8, [-1], [⟨0, ⟨#[98]⟩, [], []⟩]⟩]⟩ none 0 (some ⟨b6, 0, none⟩) 2 W
  r3 : W.heap[s1]? = some (.cells #[.int .i64 3] 2 (0, 0))
  rd : W.heap[s2]? = some (.cells #[.int .u8 0, .string ⟨#[100, 97, 121]⟩, .slice none 0 0, .slice none 0 0] TX (0, 0))
  hb : Below w.heap.size w W
theorem blk_on {W W2 : World} {k : Nat} {o : Obj} (hb : Below W.heap.size W W2) (h : W.heap[k]? = some o) : W2.heap[k]? = some o := (hb.block k (blk_lt h)).trans h
abbrev xDay : X := ⟨0, ⟨#[100, 97, 121]⟩, [], []⟩
abbrev xA : X := ⟨0, ⟨#[97]⟩, [], []⟩
abbrev xB : X := ⟨0, ⟨#[98]⟩, [], []⟩
abbrev xSh : X := ⟨2, nil8, [-1], [xB]⟩
abbrev xOne : X := ⟨1, nil8, [3], [xDay]⟩
abbrev xTwo : X := ⟨10, nil8, [], [xA, xSh]⟩
set_option maxHeartbeats 16000000 in
set_option maxRecDepth 100000 in
theorem awake_calls (w : World) (hL : Cal w) : Calls Tryd.prog 31 #[] w fun e w' => e = .returned (.bool true) ∧ Below w.heap.size w w' := by
  have HL := Aside0.mk hL
  clear hL
  go_enter Tryd.func31, Tryd.ntmps31
  go_wp2_with fail
  (with_reducible refine (Named_to ⟨#[100, 97, 121]⟩ _).mono ?_)
  rintro e w1 ⟨rfl, hb1⟩
  have HB := Aside0.mk (below_alloc hb1 (.cells #[.int .u8 xDay.f0, .string xDay.f1, .slice none xDay.f2.length 0, .slice none xDay.f3.length 0] TX))
  have bx1 := Aside0.mk (Bx.new (K_named w1 ⟨#[100, 97, 121]⟩))
  clear hb1
  go_wp2_with fail
  (with_reducible refine (lineE _ _ _ _ ex1_w ex1_p _ ?c1).mono ?_)
  case c1 => exact HL.out.l HB.out
  rintro e w2 ⟨A2, c2, A3, c3, rfl, hk2, hb2⟩
  have bx1 := Aside0.mk (bx1.out.later hb2)
  have HB := Aside0.mk (below_then HB.out HB.out.size hb2)
  have bx2 := Aside0.mk (Bx.new hk2)
  have bx1 := Aside0.mk (bx1.out.later (below_alloc (Below.refl _ _) (.cells #[.int .u8 xOne.f0, .string xOne.f1, .slice A2 xOne.f2.length c2, .slice A3 xOne.f3.length c3] TX)))
  have HB := Aside0.mk (below_alloc HB.out (.cells #[.int .u8 xOne.f0, .string xOne.f1, .slice A2 xOne.f2.length c2, .slice A3 xOne.f3.length c3] TX))
  clear hk2 hb2
  go_wp2_with fail
  (with_reducible refine (lineE _ _ _ _ ex2_w ex2_p _ ?c2).mono ?_)
  case c2 => exact HL.out.l HB.out
  rintro e w3 ⟨B2, d2, B3, d3, rfl, hk3, hb3⟩
  have bx1 := Aside0.mk (bx1.out.later hb3)
  have bx2 := Aside0.mk (bx2.out.later hb3)
  have HB := Aside0.mk (below_then HB.out HB.out.size hb3)
  have bx5 := Aside0.mk (Bx.new hk3)
  have bx1 := Aside0.mk (bx1.out.later (below_alloc (Below.refl _ _) (.cells #[.int .u8 xTwo.f0, .string xTwo.f1, .slice B2 xTwo.f2.length d2, .slice B3 xTwo.f3.length d3] TX)))
  have bx2 := Aside0.mk (bx2.out.later (below_alloc (Below.refl _ _) (.cells #[.int .u8 xTwo.f0, .string xTwo.f1, .slice B2 xTwo.f2.length d2, .slice B3 xTwo.f3.length d3] TX)))
  have HB := Aside0.mk (below_alloc HB.out (.cells #[.int .u8 xTwo.f0, .string xTwo.f1, .slice B2 xTwo.f2.length d2, .slice B3 xTwo.f3.length d3] TX))
  clear hk3 hb3
  go_wp2_with fail
  (with_reducible refine (Named_to ⟨#[97]⟩ _).mono ?_)
  rintro e w4 ⟨rfl, hb4⟩
  have bx1 := Aside0.mk (bx1.out.later hb4)
  have bx2 := Aside0.mk (bx2.out.later hb4)
  have bx5 := Aside0.mk (bx5.out.later hb4)
  have HB := Aside0.mk (below_alloc (below_then HB.out HB.out.size hb4) (.cells #[.int .i64 (-1)] 2))
  have r1 := Aside0.mk (blk_new w4 (.cells #[.int .i64 (-1)] 2))
  clear hb4
  have bx1 := Aside0.mk (bx1.out.later (below_alloc (Below.refl _ _) (.cells #[.int .i64 (-1)] 2)))
  have bx2 := Aside0.mk (bx2.out.later (below_alloc (Below.refl _ _) (.cells #[.int .i64 (-1)] 2)))
  have bx5 := Aside0.mk (bx5.out.later (below_alloc (Below.refl _ _) (.cells #[.int .i64 (-1)] 2)))
  go_wp2_with fail
  (with_reducible refine (Named_to ⟨#[98]⟩ _).mono ?_)
  rintro e w5 ⟨rfl, hb5⟩
  have bx1 := Aside0.mk (bx1.out.later hb5)
  have bx2 := Aside0.mk (bx2.out.later hb5)
  have bx5 := Aside0.mk (bx5.out.later hb5)
  have r1 := Aside0.mk (blk_alloc (blk_on hb5 r1.out) (.cells #[.int .u8 0, .string ⟨#[98]⟩, .slice none 0 0, .slice none 0 0] TX))
  have rb := Aside0.mk (blk_new w5 (.cells #[.int .u8 0, .string ⟨#[98]⟩, .slice none 0 0, .slice none 0 0] TX))
  have HB := Aside0.mk (below_alloc (below_then HB.out HB.out.size hb5) (.cells #[.int .u8 0, .string ⟨#[98]⟩, .slice none 0 0, .slice none 0 0] TX))
  clear hb5
  have bx1 := Aside0.mk (bx1.out.later (below_alloc (Below.refl _ _) (.cells #[.int .u8 0, .string ⟨#[98]⟩, .slice none 0 0, .slice none 0 0] TX)))
  have bx2 := Aside0.mk (bx2.out.later (below_alloc (Below.refl _ _) (.cells #[.int .u8 0, .string ⟨#[98]⟩, .slice none 0 0, .slice none 0 0] TX)))
  have bx5 := Aside0.mk (bx5.out.later (below_alloc (Below.refl _ _) (.cells #[.int .u8 0, .string ⟨#[98]⟩, .slice none 0 0, .slice none 0 0] TX)))
  go_wp2_with fail
  (with_reducible refine (Made_to 2 _ 1 1 _ 1 1 _).mono ?_)
  rintro e w6 ⟨rfl, hb6⟩
  have bx1 := Aside0.mk (bx1.out.later hb6)
  have bx2 := Aside0.mk (bx2.out.later hb6)
  have bx5 := Aside0.mk (bx5.out.later hb6)
  have hsh := k25_mk w6 xSh (A2 := some ⟨w4.heap.size, 0, none⟩) (c2 := 1) (A3 := some ⟨w5.heap.size, 0, none⟩) (c3 := 1) (Nat.le_refl 1) (rowI (blk_on hb6 r1.out)) (Nat.le_refl 1) (rowX1 (K_named w6 _) (blk_on hb6 rb.out))
  have HSH := Aside0.mk hsh
  have rab := Aside0.mk (blk_new w6 (.cells #[.int .u8 0, .string ⟨#[97]⟩, .slice none 0 0, .slice none 0 0, .int .u8 2, .string nil8, .slice (some ⟨w4.heap.size, 0, none⟩) 1 1, .slice (some ⟨w5.heap.size, 0, none⟩) 1 1] TX))
  have HB := Aside0.mk (below_alloc (below_then HB.out HB.out.size hb6) (.cells #[.int .u8 0, .string ⟨#[97]⟩, .slice none 0 0, .slice none 0 0, .int .u8 2, .string nil8, .slice (some ⟨w4.heap.size, 0, none⟩) 1 1, .slice (some ⟨w5.heap.size, 0, none⟩) 1 1] TX))
  clear hb6 hsh r1 rb
  have bx1 := Aside0.mk (bx1.out.later (below_alloc (Below.refl _ _) (.cells #[.int .u8 0, .string ⟨#[97]⟩, .slice none 0 0, .slice none 0 0, .int .u8 2, .string nil8, .slice (some ⟨w4.heap.size, 0, none⟩) 1 1, .slice (some ⟨w5.heap.size, 0, none⟩) 1 1] TX)))
  have bx2 := Aside0.mk (bx2.out.later (below_alloc (Below.refl _ _) (.cells #[.int .u8 0, .string ⟨#[97]⟩, .slice none 0 0, .slice none 0 0, .int .u8 2, .string nil8, .slice (some ⟨w4.heap.size, 0, none⟩) 1 1, .slice (some ⟨w5.heap.size, 0, none⟩) 1 1] TX)))
  have bx5 := Aside0.mk (bx5.out.later (below_alloc (Below.refl _ _) (.cells #[.int .u8 0, .string ⟨#[97]⟩, .slice none 0 0, .slice none 0 0, .int .u8 2, .string nil8, .slice (some ⟨w4.heap.size, 0, none⟩) 1 1, .slice (some ⟨w5.heap.size, 0, none⟩) 1 1] TX)))
  go_wp2_with fail
  (with_reducible refine (Made_to 10 none 0 0 _ 2 2 _).mono ?_)
  rintro e w7 ⟨rfl, hb7⟩
  have bx1 := Aside0.mk (bx1.out.later hb7)
  have bx2 := Aside0.mk (bx2.out.later hb7)
  have bx5 := Aside0.mk (bx5.out.later hb7)
  have hwt := k25_mk w7 xTwo (A2 := none) (c2 := 0) (A3 := some ⟨w6.heap.size, 0, none⟩) (c3 := 2) (Nat.le_refl 0) (Kd.C_nil _ _) (Nat.le_refl 2) (rowX2 (K_named w7 _) (kX.K_below hb7 (kX.K_below (below_alloc (Below.refl _ _) (.cells #[.int .u8 0, .string ⟨#[97]⟩, .slice none 0 0, .slice none 0 0, .int .u8 2, .string nil8, .slice (some ⟨w4.heap.size, 0, none⟩) 1 1, .slice (some ⟨w5.heap.size, 0, none⟩) 1 1] TX)) HSH.out)) (blk_on hb7 rab.out))
  have bx8 := Aside0.mk (Bx.new hwt)
  have HB := Aside0.mk (below_alloc (below_then HB.out HB.out.size hb7) (.cells #[.int .u8 xTwo.f0, .string xTwo.f1, .slice none xTwo.f2.length 0, .slice (some ⟨w6.heap.size, 0, none⟩) xTwo.f3.length 2] TX))
  have bx1 := Aside0.mk (bx1.out.later (below_alloc (Below.refl _ _) (.cells #[.int .u8 xTwo.f0, .string xTwo.f1, .slice none xTwo.f2.length 0, .slice (some ⟨w6.heap.size, 0, none⟩) xTwo.f3.length 2] TX)))
  have bx2 := Aside0.mk (bx2.out.later (below_alloc (Below.refl _ _) (.cells #[.int .u8 xTwo.f0, .string xTwo.f1, .slice none xTwo.f2.length 0, .slice (some ⟨w6.heap.size, 0, none⟩) xTwo.f3.length 2] TX)))
  have bx5 := Aside0.mk (bx5.out.later (below_alloc (Below.refl _ _) (.cells #[.int .u8 xTwo.f0, .string xTwo.f1, .slice none xTwo.f2.length 0, .slice (some ⟨w6.heap.size, 0, none⟩) xTwo.f3.length 2] TX)))
  clear hb7 hwt HSH rab
  go_wp2_with fail
  obtain ⟨w8, hw8⟩ : ∃ w8, w8 = w7.alloc (.cells #[.int .u8 10, .string ⟨#[]⟩, .slice none 0 0, .slice (some ⟨w6.heap.size, 0, none⟩) 2 2] 25) := ⟨_, rfl⟩
  rw [← hw8]
  have bx1 := Aside0.mk (show Bx w1.heap.size xDay none 0 none 0 w8 by rw [hw8]; exact bx1.out)
  have bx2 := Aside0.mk (show Bx w2.heap.size xOne A2 c2 A3 c3 w8 by rw [hw8]; exact bx2.out)
  have bx5 := Aside0.mk (show Bx w3.heap.size xTwo B2 d2 B3 d3 w8 by rw [hw8]; exact bx5.out)
  have bx8 := Aside0.mk (show Bx w7.heap.size xTwo none 0 (some ⟨w6.heap.size, 0, none⟩) 2 w8 by rw [hw8]; exact bx8.out)
  have HB := Aside0.mk (show Below w.heap.size w w8 by rw [hw8]; exact HB.out)
  clear hw8
  refine start_ (n := 29) (S := fun w' => w'.cell? ⟨w1.heap.size, 0, none⟩ = some (.int .u8 0) ∧ w'.cell? ⟨w1.heap.size, 1, none⟩ = some (.string ⟨#[100, 97, 121]⟩) ∧ w'.cell? ⟨w1.heap.size, 2, none⟩ = some (.slice none 0 0) ∧ w'.cell? ⟨w1.heap.size, 3, none⟩ = some (.slice none 0 0) ∧ w'.cell? ⟨w2.heap.size, 0, none⟩ = some (.int .u8 1) ∧ w'.cell? ⟨w2.heap.size, 1, none⟩ = some (.string nil8) ∧ w'.cell? ⟨w2.heap.size, 2, none⟩ = some (.slice A2 1 c2) ∧ w'.cell? ⟨w2.heap.size, 3, none⟩ = some (.slice A3 1 c3) ∧ w'.cell? ⟨w3.heap.size, 0, none⟩ = some (.int .u8 10) ∧ w'.cell? ⟨w3.heap.size, 1, none⟩ = some (.string nil8) ∧ w'.cell? ⟨w3.heap.size, 2, none⟩ = some (.slice B2 0 d2) ∧ w'.cell? ⟨w3.heap.size, 3, none⟩ = some (.slice B3 2 d3) ∧ w'.cell? ⟨w7.heap.size, 0, none⟩ = some (.int .u8 10) ∧ w'.cell? ⟨w7.heap.size, 1, none⟩ = some (.string nil8) ∧ w'.cell? ⟨w7.heap.size, 2, none⟩ = some (.slice none 0 0) ∧ w'.cell? ⟨w7.heap.size, 3, none⟩ = some (.slice (some ⟨w6.heap.size, 0, none⟩) 2 2)) (ds := []) #[false, false, false, false, false, false, false, false, false, false, false, false, false, false, false, false, false, false, false, false, false, false, false, false, false, false, false, false, false] (by kernel_rfl) rfl rfl ⟨bx1.out.q0, bx1.out.q1, bx1.out.q2, bx1.out.q3, bx2.out.q0, bx2.out.q1, bx2.out.q2, bx2.out.q3, bx5.out.q0, bx5.out.q1, bx5.out.q2, bx5.out.q3, bx8.out.q0, bx8.out.q1, bx8.out.q2, bx8.out.q3⟩ (fun hHeld => ?_)
  refine pure_ (i := 0) (N := some 47) (v := ?_) (a' := ?_) #[true, false, false, false, false, false, false, false, false, false, false, false, false, false, false, false, false, false, false, false, false, false, false, false, false, false, false, false, false] rfl rfl (by kernel_rfl) (fun _ _ _ h => h) (Or.inl ⟨by rfl, ?_⟩) ?_ ?_
  rotate_left
  · intro w'
    go_simp
    with_reducible rfl
  rotate_left
  · simp only [Act.put, List.setIfInBounds_toArray, List.set_cons_zero, List.set_cons_succ, i64_w, i32_w]
    rfl
  refine pure_ (i := 1) (N := some 48) (v := ?_) (a' := ?_) #[true, true, false, false, false, false, false, false, false, false, false, false, false, false, false, false, false, false, false, false, false, false, false, false, false, false, false, false, false] rfl rfl (by kernel_rfl) (fun _ _ _ h => h) (Or.inl ⟨by rfl, ?_⟩) ?_ ?_
  rotate_left
  · intro w'
    go_simp
    with_reducible rfl
  rotate_left
  · simp only [Act.put, List.setIfInBounds_toArray, List.set_cons_zero, List.set_cons_succ, i64_w, i32_w]
    rfl
  refine pure_ (i := 2) (N := some 49) (v := ?_) (a' := ?_) #[true, true, true, false, false, false, false, false, false, false, false, false, false, false, false, false, false, false, false, false, false, false, false, false, false, false, false, false, false] rfl rfl (by kernel_rfl) (fun _ _ _ h => h) (Or.inl ⟨by rfl, ?_⟩) ?_ ?_
  rotate_left
  · intro w'
    go_simp
    with_reducible rfl
  rotate_left
  · simp only [Act.put, List.setIfInBounds_toArray, List.set_cons_zero, List.set_cons_succ, i64_w, i32_w]
    rfl
  refine pure_ (i := 3) (N := some 50) (v := ?_) (a' := ?_) #[true, true, true, true, false, false, false, false, false, false, false, false, false, false, false, false, false, false, false, false, false, false, false, false, false, false, false, false, false] rfl rfl (by kernel_rfl) (fun _ _ _ h => h) (Or.inl ⟨by rfl, ?_⟩) ?_ ?_
  rotate_left
  · intro w'
    go_simp
    with_reducible rfl
  rotate_left
  · simp only [Act.put, List.setIfInBounds_toArray, List.set_cons_zero, List.set_cons_succ, i64_w, i32_w]
    rfl
  refine pure_ (i := 4) (N := some 51) (v := ?_) (a' := ?_) #[true, true, true, true, true, false, false, false, false, false, false, false, false, false, false, false, false, false, false, false, false, false, false, false, false, false, false, false, false] rfl rfl (by kernel_rfl) (fun _ _ _ h => h) (Or.inl ⟨by rfl, ?_⟩) ?_ ?_
  rotate_left
  · intro w'
    go_simp
    with_reducible rfl
  rotate_left
  · simp only [Act.put, List.setIfInBounds_toArray, List.set_cons_zero, List.set_cons_succ, i64_w, i32_w]
    rfl
  refine pure_ (i := 5) (N := some 52) (v := ?_) (a' := ?_) #[true, true, true, true, true, true, false, false, false, false, false, false, false, false, false, false, false, false, false, false, false, false, false, false, false, false, false, false, false] rfl rfl (by kernel_rfl) (fun _ _ _ h => h) (Or.inl ⟨by rfl, ?_⟩) ?_ ?_
  rotate_left
  · intro w'
    go_simp
    with_reducible rfl
  rotate_left
  · simp only [Act.put, List.setIfInBounds_toArray, List.set_cons_zero, List.set_cons_succ, i64_w, i32_w]
    rfl
  refine pure_ (i := 6) (N := some 53) (v := ?_) (a' := ?_) #[true, true, true, true, true, true, true, false, false, false, false, false, false, false, false, false, false, false, false, false, false, false, false, false, false, false, false, false, false] rfl rfl (by kernel_rfl) (fun _ _ _ h => h) (Or.inl ⟨by rfl, ?_⟩) ?_ ?_
  rotate_left
  · intro w'
    go_simp
    with_reducible rfl
  rotate_left
  · simp only [Act.put, List.setIfInBounds_toArray, List.set_cons_zero, List.set_cons_succ, i64_w, i32_w]
    rfl
  refine take_ (i := 7) (N := some 54) (v := ?_) (a' := ?_) #[true, true, true, true, true, true, true, true, false, false, false, false, false, false, false, false, false, false, false, false, false, false, false, false, false, false, false, false, false] rfl rfl (by kernel_rfl) (fun _ _ _ h => h) (Or.inl ⟨by rfl, ?_⟩) hHeld ?_ ?_
  rotate_left
  · rintro w' ⟨s0, s1, s2, s3, s4, s5, s6, s7, s8, s9, s10, s11, s12, s13, s14, s15⟩
    go_simp
    with_reducible rfl
  rotate_left
  · simp only [Act.put, List.setIfInBounds_toArray, List.set_cons_zero, List.set_cons_succ, i64_w, i32_w]
    rfl
  refine take_ (i := 9) (N := some 56) (v := ?_) (a' := ?_) #[true, true, true, true, true, true, true, true, false, true, false, false, false, false, false, false, false, false, false, false, false, false, false, false, false, false, false, false, false] rfl rfl (by kernel_rfl) (fun _ _ _ h => h) (Or.inl ⟨by rfl, ?_⟩) hHeld ?_ ?_
  rotate_left
  · rintro w' ⟨s0, s1, s2, s3, s4, s5, s6, s7, s8, s9, s10, s11, s12, s13, s14, s15⟩
    go_simp
    with_reducible rfl
  rotate_left
  · simp only [Act.put, List.setIfInBounds_toArray, List.set_cons_zero, List.set_cons_succ, i64_w, i32_w]
    rfl
  refine join_ (σ := Nat × Nat) 18 #[true, true, true, true, true, true, true, true, true, true, true, false, false, false, false, false, false, false, false, false, false, false, false, false, false, false, false, false, false] (fun s => [(55, .slice (some ⟨s.1, 0, none⟩) 1 1), (57, .slice (some ⟨s.2, 0, none⟩) 1 1)]) (fun s w' => AwF w w' w1.heap.size w2.heap.size w3.heap.size w7.heap.size w6.heap.size A2 c2 A3 c3 B2 d2 B3 d3 s.1 s.2) ?_ ?_
  rotate_left
  · intro hCont
    refine two_ (i := 8) (j := 10) (Ni := some 55) (Nj := some 57) #[true, true, true, true, true, true, true, true, true, true, false, false, false, false, false, false, false, false, false, false, false, false, false, false, false, false, false, false, false] #[true, true, true, true, true, true, true, true, false, true, true, false, false, false, false, false, false, false, false, false, false, false, false, false, false, false, false, false, false] rfl rfl rfl rfl (by kernel_rfl) (by decide) (by decide) (fun K hK => ?_) (fun K hK => ?_)
    · skip
      refine value_ (w1 := ?_) (v := ?_) (by rfl) rfl ?_ ?_
      rotate_left 2
      · go_simp
        constructor
        · rfl
        · rfl
      have bx1a := Aside0.mk (bx1.out.later (below_alloc (below_drew (Below.refl _ _)) (.cells #[.int .i64 3] 2)))
      have bx2a := Aside0.mk (bx2.out.later (below_alloc (below_drew (Below.refl _ _)) (.cells #[.int .i64 3] 2)))
      have bx5a := Aside0.mk (bx5.out.later (below_alloc (below_drew (Below.refl _ _)) (.cells #[.int .i64 3] 2)))
      have bx8a := Aside0.mk (bx8.out.later (below_alloc (below_drew (Below.refl _ _)) (.cells #[.int .i64 3] 2)))
      have r3 := Aside0.mk (show (w8.drew.alloc (.cells #[.int .i64 3] 2)).heap[w8.heap.size]? = some _ from blk_new w8.drew (.cells #[.int .i64 3] 2))
      refine hK.out _ _ ⟨bx1a.out.q0, bx1a.out.q1, bx1a.out.q2, bx1a.out.q3, bx2a.out.q0, bx2a.out.q1, bx2a.out.q2, bx2a.out.q3, bx5a.out.q0, bx5a.out.q1, bx5a.out.q2, bx5a.out.q3, bx8a.out.q0, bx8a.out.q1, bx8a.out.q2, bx8a.out.q3⟩ (fun hHeld => ?_)
      clear hK K
      refine norm_ (a' := ?_) ?_ ?_
      rotate_left
      · show Act.put _ (some 55) _ = _
        simp only [Act.put, List.setIfInBounds_toArray, List.set_cons_zero, List.set_cons_succ, i64_w, i32_w]
        rfl
      refine one_ (i := 10) (N := some 57) #[true, true, true, true, true, true, true, true, true, true, true, false, false, false, false, false, false, false, false, false, false, false, false, false, false, false, false, false, false] rfl rfl (by kernel_rfl) (by decide) (fun K hK => ?_)
      refine value_ (w1 := ?_) (v := ?_) (by rfl) rfl ?_ ?_
      rotate_left 2
      · go_simp
        constructor
        · rfl
        · rfl
      have bx1b := Aside0.mk (bx1a.out.later (below_alloc (Below.refl _ _) (.cells #[.int .u8 0, .string ⟨#[100, 97, 121]⟩, .slice none 0 0, .slice none 0 0] TX)))
      have bx2b := Aside0.mk (bx2a.out.later (below_alloc (Below.refl _ _) (.cells #[.int .u8 0, .string ⟨#[100, 97, 121]⟩, .slice none 0 0, .slice none 0 0] TX)))
      have bx5b := Aside0.mk (bx5a.out.later (below_alloc (Below.refl _ _) (.cells #[.int .u8 0, .string ⟨#[100, 97, 121]⟩, .slice none 0 0, .slice none 0 0] TX)))
      have bx8b := Aside0.mk (bx8a.out.later (below_alloc (Below.refl _ _) (.cells #[.int .u8 0, .string ⟨#[100, 97, 121]⟩, .slice none 0 0, .slice none 0 0] TX)))
      have r3 := Aside0.mk (blk_alloc r3.out (.cells #[.int .u8 0, .string ⟨#[100, 97, 121]⟩, .slice none 0 0, .slice none 0 0] TX))
      have hnew := blk_new (w8.drew.alloc (.cells #[.int .i64 3] 2)) (.cells #[.int .u8 0, .string ⟨#[100, 97, 121]⟩, .slice none 0 0, .slice none 0 0] TX)
      rw [show ((w8.drew.alloc (.cells #[.int .i64 3] 2))).heap.size = w8.heap.size + 1 from Array.size_push ..] at hnew
      have rd := Aside0.mk hnew
      clear hnew
      refine hK.out _ _ ⟨bx1b.out.q0, bx1b.out.q1, bx1b.out.q2, bx1b.out.q3, bx2b.out.q0, bx2b.out.q1, bx2b.out.q2, bx2b.out.q3, bx5b.out.q0, bx5b.out.q1, bx5b.out.q2, bx5b.out.q3, bx8b.out.q0, bx8b.out.q1, bx8b.out.q2, bx8b.out.q3⟩ (fun hHeld => ?_)
      clear hK K
      refine norm_ (a' := ?_) ?_ ?_
      rotate_left
      · show Act.put _ (some 57) _ = _
        simp only [Act.put, List.setIfInBounds_toArray, List.set_cons_zero, List.set_cons_succ, i64_w, i32_w]
        rfl
      exact norm_ (by first | rfl | (simp only [putAll, Act.put, List.setIfInBounds_toArray, List.set_cons_zero, List.set_cons_succ]; done) | (simp only [putAll, Act.put, List.setIfInBounds_toArray, List.set_cons_zero, List.set_cons_succ]; rfl)) (hCont ⟨_, _⟩ _ (show AwF w ((w8.drew.alloc (.cells #[.int .i64 3] 2)).alloc (.cells #[.int .u8 0, .string ⟨#[100, 97, 121]⟩, .slice none 0 0, .slice none 0 0] TX)) _ _ _ _ _ _ _ _ _ _ _ _ _ _ _ from ⟨bx1b.out, bx2b.out, bx5b.out, bx8b.out, r3.out, rd.out, below_alloc (below_alloc (below_drew HB.out) _) _⟩))
    · skip
      refine value_ (w1 := ?_) (v := ?_) (by rfl) rfl ?_ ?_
      rotate_left 2
      · go_simp
        constructor
        · rfl
        · rfl
      have bx1a := Aside0.mk (bx1.out.later (below_alloc (below_drew (Below.refl _ _)) (.cells #[.int .u8 0, .string ⟨#[100, 97, 121]⟩, .slice none 0 0, .slice none 0 0] TX)))
      have bx2a := Aside0.mk (bx2.out.later (below_alloc (below_drew (Below.refl _ _)) (.cells #[.int .u8 0, .string ⟨#[100, 97, 121]⟩, .slice none 0 0, .slice none 0 0] TX)))
      have bx5a := Aside0.mk (bx5.out.later (below_alloc (below_drew (Below.refl _ _)) (.cells #[.int .u8 0, .string ⟨#[100, 97, 121]⟩, .slice none 0 0, .slice none 0 0] TX)))
      have bx8a := Aside0.mk (bx8.out.later (below_alloc (below_drew (Below.refl _ _)) (.cells #[.int .u8 0, .string ⟨#[100, 97, 121]⟩, .slice none 0 0, .slice none 0 0] TX)))
      have rd := Aside0.mk (show (w8.drew.alloc (.cells #[.int .u8 0, .string ⟨#[100, 97, 121]⟩, .slice none 0 0, .slice none 0 0] TX)).heap[w8.heap.size]? = some _ from blk_new w8.drew (.cells #[.int .u8 0, .string ⟨#[100, 97, 121]⟩, .slice none 0 0, .slice none 0 0] TX))
      refine hK.out _ _ ⟨bx1a.out.q0, bx1a.out.q1, bx1a.out.q2, bx1a.out.q3, bx2a.out.q0, bx2a.out.q1, bx2a.out.q2, bx2a.out.q3, bx5a.out.q0, bx5a.out.q1, bx5a.out.q2, bx5a.out.q3, bx8a.out.q0, bx8a.out.q1, bx8a.out.q2, bx8a.out.q3⟩ (fun hHeld => ?_)
      clear hK K
      refine norm_ (a' := ?_) ?_ ?_
      rotate_left
      · show Act.put _ (some 57) _ = _
        simp only [Act.put, List.setIfInBounds_toArray, List.set_cons_zero, List.set_cons_succ, i64_w, i32_w]
        rfl
      refine one_ (i := 8) (N := some 55) #[true, true, true, true, true, true, true, true, true, true, true, false, false, false, false, false, false, false, false, false, false, false, false, false, false, false, false, false, false] rfl rfl (by kernel_rfl) (by decide) (fun K hK => ?_)
      refine value_ (w1 := ?_) (v := ?_) (by rfl) rfl ?_ ?_
      rotate_left 2
      · go_simp
        constructor
        · rfl
        · rfl
      have bx1b := Aside0.mk (bx1a.out.later (below_alloc (Below.refl _ _) (.cells #[.int .i64 3] 2)))
      have bx2b := Aside0.mk (bx2a.out.later (below_alloc (Below.refl _ _) (.cells #[.int .i64 3] 2)))
      have bx5b := Aside0.mk (bx5a.out.later (below_alloc (Below.refl _ _) (.cells #[.int .i64 3] 2)))
      have bx8b := Aside0.mk (bx8a.out.later (below_alloc (Below.refl _ _) (.cells #[.int .i64 3] 2)))
      have rd := Aside0.mk (blk_alloc rd.out (.cells #[.int .i64 3] 2))
      have hnew := blk_new (w8.drew.alloc (.cells #[.int .u8 0, .string ⟨#[100, 97, 121]⟩, .slice none 0 0, .slice none 0 0] TX)) (.cells #[.int .i64 3] 2)
      rw [show ((w8.drew.alloc (.cells #[.int .u8 0, .string ⟨#[100, 97, 121]⟩, .slice none 0 0, .slice none 0 0] TX))).heap.size = w8.heap.size + 1 from Array.size_push ..] at hnew
      have r3 := Aside0.mk hnew
      clear hnew
      refine hK.out _ _ ⟨bx1b.out.q0, bx1b.out.q1, bx1b.out.q2, bx1b.out.q3, bx2b.out.q0, bx2b.out.q1, bx2b.out.q2, bx2b.out.q3, bx5b.out.q0, bx5b.out.q1, bx5b.out.q2, bx5b.out.q3, bx8b.out.q0, bx8b.out.q1, bx8b.out.q2, bx8b.out.q3⟩ (fun hHeld => ?_)
      clear hK K
      refine norm_ (a' := ?_) ?_ ?_
      rotate_left
      · show Act.put _ (some 55) _ = _
        simp only [Act.put, List.setIfInBounds_toArray, List.set_cons_zero, List.set_cons_succ, i64_w, i32_w]
        rfl
      exact norm_ (by first | rfl | (simp only [putAll, Act.put, List.setIfInBounds_toArray, List.set_cons_zero, List.set_cons_succ]; done) | (simp only [putAll, Act.put, List.setIfInBounds_toArray, List.set_cons_zero, List.set_cons_succ]; rfl)) (hCont ⟨_, _⟩ _ (show AwF w ((w8.drew.alloc (.cells #[.int .u8 0, .string ⟨#[100, 97, 121]⟩, .slice none 0 0, .slice none 0 0] TX)).alloc (.cells #[.int .i64 3] 2)) _ _ _ _ _ _ _ _ _ _ _ _ _ _ _ from ⟨bx1b.out, bx2b.out, bx5b.out, bx8b.out, r3.out, rd.out, below_alloc (below_alloc (below_drew HB.out) _) _⟩))
  rintro ⟨s1, s2⟩ w8 hF
  have HF := Aside0.mk hF
  clear hF
  clear bx1 bx2 bx5 bx8 HB
  have bx1b := Aside0.mk HF.out.bx1
  have bx2b := Aside0.mk HF.out.bx2
  have bx5b := Aside0.mk HF.out.bx5
  have bx8b := Aside0.mk HF.out.bx8
  have hHeld : w8.cell? ⟨w1.heap.size, 0, none⟩ = some (.int .u8 0) ∧ w8.cell? ⟨w1.heap.size, 1, none⟩ = some (.string ⟨#[100, 97, 121]⟩) ∧ w8.cell? ⟨w1.heap.size, 2, none⟩ = some (.slice none 0 0) ∧ w8.cell? ⟨w1.heap.size, 3, none⟩ = some (.slice none 0 0) ∧ w8.cell? ⟨w2.heap.size, 0, none⟩ = some (.int .u8 1) ∧ w8.cell? ⟨w2.heap.size, 1, none⟩ = some (.string nil8) ∧ w8.cell? ⟨w2.heap.size, 2, none⟩ = some (.slice A2 1 c2) ∧ w8.cell? ⟨w2.heap.size, 3, none⟩ = some (.slice A3 1 c3) ∧ w8.cell? ⟨w3.heap.size, 0, none⟩ = some (.int .u8 10) ∧ w8.cell? ⟨w3.heap.size, 1, none⟩ = some (.string nil8) ∧ w8.cell? ⟨w3.heap.size, 2, none⟩ = some (.slice B2 0 d2) ∧ w8.cell? ⟨w3.heap.size, 3, none⟩ = some (.slice B3 2 d3) ∧ w8.cell? ⟨w7.heap.size, 0, none⟩ = some (.int .u8 10) ∧ w8.cell? ⟨w7.heap.size, 1, none⟩ = some (.string nil8) ∧ w8.cell? ⟨w7.heap.size, 2, none⟩ = some (.slice none 0 0) ∧ w8.cell? ⟨w7.heap.size, 3, none⟩ = some (.slice (some ⟨w6.heap.size, 0, none⟩) 2 2) := ⟨bx1b.out.q0, bx1b.out.q1, bx1b.out.q2, bx1b.out.q3, bx2b.out.q0, bx2b.out.q1, bx2b.out.q2, bx2b.out.q3, bx5b.out.q0, bx5b.out.q1, bx5b.out.q2, bx5b.out.q3, bx8b.out.q0, bx8b.out.q1, bx8b.out.q2, bx8b.out.q3⟩
  refine norm_ (a' := ?_) ?_ ?_
  rotate_left
  · simp only [putAll, Act.put, List.setIfInBounds_toArray, List.set_cons_zero, List.set_cons_succ]
    rfl
  refine one_ (i := 11) (N := some 58) #[true, true, true, true, true, true, true, true, true, true, true, true, false, false, false, false, false, false, false, false, false, false, false, false, false, false, false, false, false] rfl rfl (by kernel_rfl) (by decide) (fun K hK => ?_)
  refine goes_ Tryd.func14 (by kernel_rfl) rfl #[.int .u8 1, .slice (some ⟨s1, 0, none⟩) 1 1, .slice (some ⟨s2, 0, none⟩) 1 1] (by rfl) rfl rfl (by simp only [List.map_toArray, List.map_cons, List.map_nil]; rfl) ?_
  with_reducible refine (Made_to 1 (some ⟨s1, 0, none⟩) 1 1 (some ⟨s2, 0, none⟩) 1 1 _).mono ?_
  rintro e w9 ⟨rfl, hb9⟩
  refine ⟨_, rfl, ?_⟩
  have HK1 := Aside0.mk (k25_mk w9 xOne (A2 := some ⟨s1, 0, none⟩) (c2 := 1) (A3 := some ⟨s2, 0, none⟩) (c3 := 1) (Nat.le_refl 1) (rowI (blk_on hb9 HF.out.r3)) (Nat.le_refl 1) (rowX1 (K_named w9 _) (blk_on hb9 HF.out.rd)))
  have bx1c := Aside0.mk (bx1b.out.later hb9)
  have bx2c := Aside0.mk (bx2b.out.later hb9)
  have bx5c := Aside0.mk (bx5b.out.later hb9)
  have bx8c := Aside0.mk (bx8b.out.later hb9)
  have HB9 := Aside0.mk (below_then HF.out.hb HF.out.hb.size hb9)
  clear hb9
  refine hK.out _ _ ⟨bx1c.out.q0, bx1c.out.q1, bx1c.out.q2, bx1c.out.q3, bx2c.out.q0, bx2c.out.q1, bx2c.out.q2, bx2c.out.q3, bx5c.out.q0, bx5c.out.q1, bx5c.out.q2, bx5c.out.q3, bx8c.out.q0, bx8c.out.q1, bx8c.out.q2, bx8c.out.q3⟩ (fun hHeld => ?_)
  clear hK K
  refine norm_ (a' := ?_) ?_ ?_
  rotate_left
  · show Act.put _ (some 58) _ = _
    simp only [Act.put, List.setIfInBounds_toArray, List.set_cons_zero, List.set_cons_succ, i64_w, i32_w]
    rfl
  refine one_ (i := 12) (N := some 59) #[true, true, true, true, true, true, true, true, true, true, true, true, true, false, false, false, false, false, false, false, false, false, false, false, false, false, false, false, false] rfl rfl (by kernel_rfl) (by decide) (fun K hK => ?_)
  refine goes_ Tryd.func28 (by kernel_rfl) rfl #[.agg #[.int .u8 1, .string nil8, .slice A2 1 c2, .slice A3 1 c3], .agg #[.int .u8 1, .string nil8, .slice (some ⟨s1, 0, none⟩) 1 1, .slice (some ⟨s2, 0, none⟩) 1 1]] (by rfl) rfl rfl (by simp only [List.map_toArray, List.map_cons, List.map_nil]; rfl) ?_
  refine (same_k xOne A2 c2 A3 c3 (some ⟨s1, 0, none⟩) 1 (some ⟨s2, 0, none⟩) 1 w9 bx2c.out.K HK1.out).mono ?_
  rintro e w10 ⟨rfl, hb10⟩
  refine ⟨_, rfl, ?_⟩
  have bx1d := Aside0.mk (bx1c.out.later hb10)
  have bx2d := Aside0.mk (bx2c.out.later hb10)
  have bx5d := Aside0.mk (bx5c.out.later hb10)
  have bx8d := Aside0.mk (bx8c.out.later hb10)
  have HB10 := Aside0.mk (below_then HB9.out HB9.out.size hb10)
  clear hb10
  refine hK.out _ _ ⟨bx1d.out.q0, bx1d.out.q1, bx1d.out.q2, bx1d.out.q3, bx2d.out.q0, bx2d.out.q1, bx2d.out.q2, bx2d.out.q3, bx5d.out.q0, bx5d.out.q1, bx5d.out.q2, bx5d.out.q3, bx8d.out.q0, bx8d.out.q1, bx8d.out.q2, bx8d.out.q3⟩ (fun hHeld => ?_)
  clear hK K
  refine norm_ (a' := ?_) ?_ ?_
  rotate_left
  · show Act.put _ (some 59) _ = _
    simp only [Act.put, List.setIfInBounds_toArray, List.set_cons_zero, List.set_cons_succ, i64_w, i32_w]
    rfl
  refine pure_ (i := 13) (N := some 60) (v := ?_) (a' := ?_) #[true, true, true, true, true, true, true, true, true, true, true, true, true, true, false, false, false, false, false, false, false, false, false, false, false, false, false, false, false] rfl rfl (by kernel_rfl) (fun _ _ _ h => h) (Or.inl ⟨by rfl, ?_⟩) ?_ ?_
  rotate_left
  · intro w'
    go_simp
    with_reducible rfl
  rotate_left
  · simp only [Act.put, List.setIfInBounds_toArray, List.set_cons_zero, List.set_cons_succ, i64_w, i32_w]
    rfl
  refine pure_ (i := 14) (N := some 61) (v := ?_) (a' := ?_) #[true, true, true, true, true, true, true, true, true, true, true, true, true, true, true, false, false, false, false, false, false, false, false, false, false, false, false, false, false] rfl rfl (by kernel_rfl) (fun _ _ _ h => h) (Or.inl ⟨by rfl, ?_⟩) ?_ ?_
  rotate_left
  · intro w'
    go_simp
    with_reducible rfl
  rotate_left
  · simp only [Act.put, List.setIfInBounds_toArray, List.set_cons_zero, List.set_cons_succ, i64_w, i32_w]
    rfl
  refine pure_ (i := 15) (N := some 62) (v := ?_) (a' := ?_) #[true, true, true, true, true, true, true, true, true, true, true, true, true, true, true, true, false, false, false, false, false, false, false, false, false, false, false, false, false] rfl rfl (by kernel_rfl) (fun _ _ _ h => h) (Or.inl ⟨by rfl, ?_⟩) ?_ ?_
  rotate_left
  · intro w'
    go_simp
    with_reducible rfl
  rotate_left
  · simp only [Act.put, List.setIfInBounds_toArray, List.set_cons_zero, List.set_cons_succ, i64_w, i32_w]
    rfl
  refine pure_ (i := 16) (N := some 63) (v := ?_) (a' := ?_) #[true, true, true, true, true, true, true, true, true, true, true, true, true, true, true, true, true, false, false, false, false, false, false, false, false, false, false, false, false] rfl rfl (by kernel_rfl) (fun _ _ _ h => h) (Or.inl ⟨by rfl, ?_⟩) ?_ ?_
  rotate_left
  · intro w'
    go_simp
    with_reducible rfl
  rotate_left
  · simp only [Act.put, List.setIfInBounds_toArray, List.set_cons_zero, List.set_cons_succ, i64_w, i32_w]
    rfl
  refine pure_ (i := 17) (N := some 64) (v := ?_) (a' := ?_) #[true, true, true, true, true, true, true, true, true, true, true, true, true, true, true, true, true, true, false, false, false, false, false, false, false, false, false, false, false] rfl rfl (by kernel_rfl) (fun _ _ _ h => h) (Or.inl ⟨by rfl, ?_⟩) ?_ ?_
  rotate_left
  · intro w'
    go_simp
    with_reducible rfl
  rotate_left
  · simp only [Act.put, List.setIfInBounds_toArray, List.set_cons_zero, List.set_cons_succ, i64_w, i32_w]
    rfl
  refine pure_ (i := 18) (N := some 65) (v := ?_) (a' := ?_) #[true, true, true, true, true, true, true, true, true, true, true, true, true, true, true, true, true, true, true, false, false, false, false, false, false, false, false, false, false] rfl rfl (by kernel_rfl) (fun _ _ _ h => h) (Or.inl ⟨by rfl, ?_⟩) ?_ ?_
  rotate_left
  · intro w'
    go_simp
    with_reducible rfl
  rotate_left
  · simp only [Act.put, List.setIfInBounds_toArray, List.set_cons_zero, List.set_cons_succ, i64_w, i32_w]
    rfl
  refine pure_ (i := 19) (N := some 66) (v := ?_) (a' := ?_) #[true, true, true, true, true, true, true, true, true, true, true, true, true, true, true, true, true, true, true, true, false, false, false, false, false, false, false, false, false] rfl rfl (by kernel_rfl) (fun _ _ _ h => h) (Or.inl ⟨by rfl, ?_⟩) ?_ ?_
  rotate_left
  · intro w'
    go_simp
    with_reducible rfl
  rotate_left
  · simp only [Act.put, List.setIfInBounds_toArray, List.set_cons_zero, List.set_cons_succ, i64_w, i32_w]
    rfl
  refine pure_ (i := 20) (N := some 67) (v := ?_) (a' := ?_) #[true, true, true, true, true, true, true, true, true, true, true, true, true, true, true, true, true, true, true, true, true, false, false, false, false, false, false, false, false] rfl rfl (by kernel_rfl) (fun _ _ _ h => h) (Or.inl ⟨by rfl, ?_⟩) ?_ ?_
  rotate_left
  · intro w'
    go_simp
    with_reducible rfl
  rotate_left
  · simp only [Act.put, List.setIfInBounds_toArray, List.set_cons_zero, List.set_cons_succ, i64_w, i32_w]
    rfl
  refine pure_ (i := 21) (N := some 68) (v := ?_) (a' := ?_) #[true, true, true, true, true, true, true, true, true, true, true, true, true, true, true, true, true, true, true, true, true, true, false, false, false, false, false, false, false] rfl rfl (by kernel_rfl) (fun _ _ _ h => h) (Or.inl ⟨by rfl, ?_⟩) ?_ ?_
  rotate_left
  · intro w'
    go_simp
    with_reducible rfl
  rotate_left
  · simp only [Act.put, List.setIfInBounds_toArray, List.set_cons_zero, List.set_cons_succ, i64_w, i32_w]
    rfl
  refine pure_ (i := 22) (N := some 69) (v := ?_) (a' := ?_) #[true, true, true, true, true, true, true, true, true, true, true, true, true, true, true, true, true, true, true, true, true, true, true, false, false, false, false, false, false] rfl rfl (by kernel_rfl) (fun _ _ _ h => h) (Or.inl ⟨by rfl, ?_⟩) ?_ ?_
  rotate_left
  · intro w'
    go_simp
    with_reducible rfl
  rotate_left
  · simp only [Act.put, List.setIfInBounds_toArray, List.set_cons_zero, List.set_cons_succ, i64_w, i32_w]
    rfl
  refine pure_ (i := 23) (N := some 70) (v := ?_) (a' := ?_) #[true, true, true, true, true, true, true, true, true, true, true, true, true, true, true, true, true, true, true, true, true, true, true, true, false, false, false, false, false] rfl rfl (by kernel_rfl) (fun _ _ _ h => h) (Or.inl ⟨by rfl, ?_⟩) ?_ ?_
  rotate_left
  · intro w'
    go_simp
    with_reducible rfl
  rotate_left
  · simp only [Act.put, List.setIfInBounds_toArray, List.set_cons_zero, List.set_cons_succ, i64_w, i32_w]
    rfl
  refine take_ (i := 24) (N := some 71) (v := ?_) (a' := ?_) #[true, true, true, true, true, true, true, true, true, true, true, true, true, true, true, true, true, true, true, true, true, true, true, true, true, false, false, false, false] rfl rfl (by kernel_rfl) (fun _ _ _ h => h) (Or.inl ⟨by rfl, ?_⟩) hHeld ?_ ?_
  rotate_left
  · rintro w' ⟨s0, s1, s2, s3, s4, s5, s6, s7, s8, s9, s10, s11, s12, s13, s14, s15⟩
    go_simp
    with_reducible rfl
  rotate_left
  · simp only [Act.put, List.setIfInBounds_toArray, List.set_cons_zero, List.set_cons_succ, i64_w, i32_w]
    rfl
  refine take_ (i := 25) (N := some 72) (v := ?_) (a' := ?_) #[true, true, true, true, true, true, true, true, true, true, true, true, true, true, true, true, true, true, true, true, true, true, true, true, true, true, false, false, false] rfl rfl (by kernel_rfl) (fun _ _ _ h => h) (Or.inl ⟨by rfl, ?_⟩) hHeld ?_ ?_
  rotate_left
  · rintro w' ⟨s0, s1, s2, s3, s4, s5, s6, s7, s8, s9, s10, s11, s12, s13, s14, s15⟩
    go_simp
    with_reducible rfl
  rotate_left
  · simp only [Act.put, List.setIfInBounds_toArray, List.set_cons_zero, List.set_cons_succ, i64_w, i32_w]
    rfl
  refine one_ (i := 26) (N := some 73) #[true, true, true, true, true, true, true, true, true, true, true, true, true, true, true, true, true, true, true, true, true, true, true, true, true, true, true, false, false] rfl rfl (by kernel_rfl) (by decide) (fun K hK => ?_)
  refine goes_ Tryd.func28 (by kernel_rfl) rfl #[.agg #[.int .u8 10, .string nil8, .slice B2 0 d2, .slice B3 2 d3], .agg #[.int .u8 10, .string nil8, .slice none 0 0, .slice (some ⟨w6.heap.size, 0, none⟩) 2 2]] (by rfl) rfl rfl (by simp only [List.map_toArray, List.map_cons, List.map_nil]; rfl) ?_
  refine (same_k xTwo B2 d2 B3 d3 none 0 (some ⟨w6.heap.size, 0, none⟩) 2 w10 bx5d.out.K bx8d.out.K).mono ?_
  rintro e w11 ⟨rfl, hb11⟩
  refine ⟨_, rfl, ?_⟩
  have HB11 := Aside0.mk (below_then HB10.out HB10.out.size hb11)
  have bx1e := Aside0.mk (bx1d.out.later hb11)
  have bx2e := Aside0.mk (bx2d.out.later hb11)
  have bx5e := Aside0.mk (bx5d.out.later hb11)
  have bx8e := Aside0.mk (bx8d.out.later hb11)
  clear hb11
  refine hK.out _ _ ⟨bx1e.out.q0, bx1e.out.q1, bx1e.out.q2, bx1e.out.q3, bx2e.out.q0, bx2e.out.q1, bx2e.out.q2, bx2e.out.q3, bx5e.out.q0, bx5e.out.q1, bx5e.out.q2, bx5e.out.q3, bx8e.out.q0, bx8e.out.q1, bx8e.out.q2, bx8e.out.q3⟩ (fun hHeld => ?_)
  clear hK K
  refine norm_ (a' := ?_) ?_ ?_
  rotate_left
  · show Act.put _ (some 73) _ = _
    simp only [Act.put, List.setIfInBounds_toArray, List.set_cons_zero, List.set_cons_succ, i64_w, i32_w]
    rfl
  refine pure_ (i := 27) (N := some 74) (v := ?_) (a' := ?_) #[true, true, true, true, true, true, true, true, true, true, true, true, true, true, true, true, true, true, true, true, true, true, true, true, true, true, true, true, false] rfl rfl (by kernel_rfl) (fun _ _ _ h => h) (Or.inl ⟨by rfl, ?_⟩) ?_ ?_
  rotate_left
  · intro w'
    go_simp
    with_reducible rfl
  rotate_left
  · simp only [Act.put, List.setIfInBounds_toArray, List.set_cons_zero, List.set_cons_succ, i64_w, i32_w]
    rfl
  refine pure_ (i := 28) (N := some 75) (v := ?_) (a' := ?_) #[true, true, true, true, true, true, true, true, true, true, true, true, true, true, true, true, true, true, true, true, true, true, true, true, true, true, true, true, true] rfl rfl (by kernel_rfl) (fun _ _ _ h => h) (Or.inl ⟨by rfl, ?_⟩) ?_ ?_
  rotate_left
  · intro w'
    go_simp
    with_reducible rfl
  rotate_left
  · simp only [Act.put, List.setIfInBounds_toArray, List.set_cons_zero, List.set_cons_succ, i64_w, i32_w]
    rfl
  refine done_ (by kernel_rfl) ?_

  clear bx1b bx2b bx5b bx8b bx1c bx2c bx5c bx8c bx1d bx2d bx5d bx8d bx1e bx2e bx5e bx8e HK1 HB9 HB10 HF hHeld
  have HB := HB11
  clear HB11
  go_wp2_with fail
  refine wp_loop_rounds 5 ?_
  rw [rounds_succ]
  go_wp2_with fail
  (with_reducible refine (lineE _ _ _ _ ex3_w ex3_p _ ?k0).mono ?_)
  case k0 => exact HL.out.l (below_alloc (below_alloc HB.out (.cells #[.string ⟨#[103, 114, 111, 117, 112, 40, 100, 97, 121, 41]⟩, .int .i64 2, .string ⟨#[103, 114, 111, 117, 112, 40, 51, 44, 32, 100, 97, 121]⟩, .int .i64 5, .string ⟨#[97, 32, 98]⟩, .int .i64 1, .string ⟨#[]⟩, .int .i64 0] 84)) (.cells #[.string ⟨#[103, 114, 111, 117, 112, 40, 100, 97, 121, 41]⟩, .int .i64 2] 84))
  rintro e w12 ⟨F2, g2, F3, g3, rfl, hk, hb⟩
  have HB := Aside0.mk (below_then (below_alloc (below_alloc HB.out (.cells #[.string ⟨#[103, 114, 111, 117, 112, 40, 100, 97, 121, 41]⟩, .int .i64 2, .string ⟨#[103, 114, 111, 117, 112, 40, 51, 44, 32, 100, 97, 121]⟩, .int .i64 5, .string ⟨#[97, 32, 98]⟩, .int .i64 1, .string ⟨#[]⟩, .int .i64 0] 84)) (.cells #[.string ⟨#[103, 114, 111, 117, 112, 40, 100, 97, 121, 41]⟩, .int .i64 2] 84)) (below_alloc (below_alloc HB.out (.cells #[.string ⟨#[103, 114, 111, 117, 112, 40, 100, 97, 121, 41]⟩, .int .i64 2, .string ⟨#[103, 114, 111, 117, 112, 40, 51, 44, 32, 100, 97, 121]⟩, .int .i64 5, .string ⟨#[97, 32, 98]⟩, .int .i64 1, .string ⟨#[]⟩, .int .i64 0] 84)) (.cells #[.string ⟨#[103, 114, 111, 117, 112, 40, 100, 97, 121, 41]⟩, .int .i64 2] 84)).size hb)
  have hbox := blk_on hb (blk_new (w11.alloc (.cells #[.string ⟨#[103, 114, 111, 117, 112, 40, 100, 97, 121, 41]⟩, .int .i64 2, .string ⟨#[103, 114, 111, 117, 112, 40, 51, 44, 32, 100, 97, 121]⟩, .int .i64 5, .string ⟨#[97, 32, 98]⟩, .int .i64 1, .string ⟨#[]⟩, .int .i64 0] 84)) (.cells #[.string ⟨#[103, 114, 111, 117, 112, 40, 100, 97, 121, 41]⟩, .int .i64 2] 84))
  rw [show ((w11.alloc (.cells #[.string ⟨#[103, 114, 111, 117, 112, 40, 100, 97, 121, 41]⟩, .int .i64 2, .string ⟨#[103, 114, 111, 117, 112, 40, 51, 44, 32, 100, 97, 121]⟩, .int .i64 5, .string ⟨#[97, 32, 98]⟩, .int .i64 1, .string ⟨#[]⟩, .int .i64 0] 84))).heap.size = w11.heap.size + 1 from Array.size_push ..] at hbox
  have row := Aside0.mk (blk_on hb (blk_alloc (blk_new w11 (.cells #[.string ⟨#[103, 114, 111, 117, 112, 40, 100, 97, 121, 41]⟩, .int .i64 2, .string ⟨#[103, 114, 111, 117, 112, 40, 51, 44, 32, 100, 97, 121]⟩, .int .i64 5, .string ⟨#[97, 32, 98]⟩, .int .i64 1, .string ⟨#[]⟩, .int .i64 0] 84)) (.cells #[.string ⟨#[103, 114, 111, 117, 112, 40, 100, 97, 121, 41]⟩, .int .i64 2] 84)))
  have cb : w12.cell? ⟨w11.heap.size + 1, 1, none⟩ = some (.int .i64 2) := (blk_cell hbox 1).trans rfl
  have c0 : w12.cell? ⟨w11.heap.size, 2, none⟩ = some (.string ⟨#[103, 114, 111, 117, 112, 40, 51, 44, 32, 100, 97, 121]⟩) := (blk_cell row.out 2).trans rfl
  have c1 : w12.cell? ⟨w11.heap.size, 3, none⟩ = some (.int .i64 5) := (blk_cell row.out 3).trans rfl
  have ltr : w11.heap.size < w12.heap.size := blk_lt row.out
  have ltn : ¬ (w11.heap.size = w12.heap.size) := by omega
  have ltb : w11.heap.size + 1 < w12.heap.size := blk_lt hbox
  have ltm : ¬ (w11.heap.size + 1 = w12.heap.size) := by omega
  clear hbox hk hb
  go_wp2_with fail
  rw [rounds_succ]
  clear cb ltb ltm
  go_wp2_with fail
  clear c0 c1
  clear ltr ltn
  obtain ⟨E2, hE2⟩ : ∃ E2, E2 = F2 := ⟨_, rfl⟩
  obtain ⟨E3, hE3⟩ : ∃ E3, E3 = F3 := ⟨_, rfl⟩
  obtain ⟨f2, hf2⟩ : ∃ f2, f2 = g2 := ⟨_, rfl⟩
  obtain ⟨f3, hf3⟩ : ∃ f3, f3 = g3 := ⟨_, rfl⟩
  subst hE2
  subst hE3
  subst hf2
  subst hf3
  (with_reducible refine (lineE _ _ _ _ ex4_w ex4_p _ ?k1).mono ?_)
  case k1 => exact HL.out.l (below_alloc (below_alloc HB.out (.cells #[.int .u8 0, .string ⟨#[]⟩, .slice E2 0 f2, .slice E3 0 f3] TX)) (.cells #[.string ⟨#[103, 114, 111, 117, 112, 40, 51, 44, 32, 100, 97, 121]⟩, .int .i64 5] 84))
  rintro e w13 ⟨F2, g2, F3, g3, rfl, hk, hb⟩
  have HB := Aside0.mk (below_then (below_alloc (below_alloc HB.out (.cells #[.int .u8 0, .string ⟨#[]⟩, .slice E2 0 f2, .slice E3 0 f3] TX)) (.cells #[.string ⟨#[103, 114, 111, 117, 112, 40, 51, 44, 32, 100, 97, 121]⟩, .int .i64 5] 84)) (below_alloc (below_alloc HB.out (.cells #[.int .u8 0, .string ⟨#[]⟩, .slice E2 0 f2, .slice E3 0 f3] TX)) (.cells #[.string ⟨#[103, 114, 111, 117, 112, 40, 51, 44, 32, 100, 97, 121]⟩, .int .i64 5] 84)).size hb)
  have hbox := blk_on hb (blk_new (w12.alloc (.cells #[.int .u8 0, .string ⟨#[]⟩, .slice E2 0 f2, .slice E3 0 f3] TX)) (.cells #[.string ⟨#[103, 114, 111, 117, 112, 40, 51, 44, 32, 100, 97, 121]⟩, .int .i64 5] 84))
  rw [show ((w12.alloc (.cells #[.int .u8 0, .string ⟨#[]⟩, .slice E2 0 f2, .slice E3 0 f3] TX))).heap.size = w12.heap.size + 1 from Array.size_push ..] at hbox
  have row := Aside0.mk (blk_on hb (blk_alloc (blk_alloc row.out (.cells #[.int .u8 0, .string ⟨#[]⟩, .slice E2 0 f2, .slice E3 0 f3] TX)) (.cells #[.string ⟨#[103, 114, 111, 117, 112, 40, 51, 44, 32, 100, 97, 121]⟩, .int .i64 5] 84)))
  have cb : w13.cell? ⟨w12.heap.size + 1, 1, none⟩ = some (.int .i64 5) := (blk_cell hbox 1).trans rfl
  have c0 : w13.cell? ⟨w11.heap.size, 4, none⟩ = some (.string ⟨#[97, 32, 98]⟩) := (blk_cell row.out 4).trans rfl
  have c1 : w13.cell? ⟨w11.heap.size, 5, none⟩ = some (.int .i64 1) := (blk_cell row.out 5).trans rfl
  have ltr : w11.heap.size < w13.heap.size := blk_lt row.out
  have ltn : ¬ (w11.heap.size = w13.heap.size) := by omega
  have ltb : w12.heap.size + 1 < w13.heap.size := blk_lt hbox
  have ltm : ¬ (w12.heap.size + 1 = w13.heap.size) := by omega
  clear hbox hk hb
  go_wp2_with fail
  rw [rounds_succ]
  clear cb ltb ltm
  go_wp2_with fail
  clear c0 c1
  clear ltr ltn
  obtain ⟨E2, hE2⟩ : ∃ E2, E2 = F2 := ⟨_, rfl⟩
  obtain ⟨E3, hE3⟩ : ∃ E3, E3 = F3 := ⟨_, rfl⟩
  obtain ⟨f2, hf2⟩ : ∃ f2, f2 = g2 := ⟨_, rfl⟩
  obtain ⟨f3, hf3⟩ : ∃ f3, f3 = g3 := ⟨_, rfl⟩
  subst hE2
  subst hE3
  subst hf2
  subst hf3
  (with_reducible refine (lineE _ _ _ _ ex5_w ex5_p _ ?k2).mono ?_)
  case k2 => exact HL.out.l (below_alloc (below_alloc HB.out (.cells #[.int .u8 0, .string ⟨#[]⟩, .slice E2 0 f2, .slice E3 0 f3] TX)) (.cells #[.string ⟨#[97, 32, 98]⟩, .int .i64 1] 84))
  rintro e w14 ⟨F2, g2, F3, g3, rfl, hk, hb⟩
  have HB := Aside0.mk (below_then (below_alloc (below_alloc HB.out (.cells #[.int .u8 0, .string ⟨#[]⟩, .slice E2 0 f2, .slice E3 0 f3] TX)) (.cells #[.string ⟨#[97, 32, 98]⟩, .int .i64 1] 84)) (below_alloc (below_alloc HB.out (.cells #[.int .u8 0, .string ⟨#[]⟩, .slice E2 0 f2, .slice E3 0 f3] TX)) (.cells #[.string ⟨#[97, 32, 98]⟩, .int .i64 1] 84)).size hb)
  have hbox := blk_on hb (blk_new (w13.alloc (.cells #[.int .u8 0, .string ⟨#[]⟩, .slice E2 0 f2, .slice E3 0 f3] TX)) (.cells #[.string ⟨#[97, 32, 98]⟩, .int .i64 1] 84))
  rw [show ((w13.alloc (.cells #[.int .u8 0, .string ⟨#[]⟩, .slice E2 0 f2, .slice E3 0 f3] TX))).heap.size = w13.heap.size + 1 from Array.size_push ..] at hbox
  have row := Aside0.mk (blk_on hb (blk_alloc (blk_alloc row.out (.cells #[.int .u8 0, .string ⟨#[]⟩, .slice E2 0 f2, .slice E3 0 f3] TX)) (.cells #[.string ⟨#[97, 32, 98]⟩, .int .i64 1] 84)))
  have cb : w14.cell? ⟨w13.heap.size + 1, 1, none⟩ = some (.int .i64 1) := (blk_cell hbox 1).trans rfl
  have c0 : w14.cell? ⟨w11.heap.size, 6, none⟩ = some (.string ⟨#[]⟩) := (blk_cell row.out 6).trans rfl
  have c1 : w14.cell? ⟨w11.heap.size, 7, none⟩ = some (.int .i64 0) := (blk_cell row.out 7).trans rfl
  have ltr : w11.heap.size < w14.heap.size := blk_lt row.out
  have ltn : ¬ (w11.heap.size = w14.heap.size) := by omega
  have ltb : w13.heap.size + 1 < w14.heap.size := blk_lt hbox
  have ltm : ¬ (w13.heap.size + 1 = w14.heap.size) := by omega
  clear hbox hk hb
  go_wp2_with fail
  rw [rounds_succ]
  clear cb ltb ltm
  go_wp2_with fail
  clear c0 c1
  clear ltr ltn
  obtain ⟨E2, hE2⟩ : ∃ E2, E2 = F2 := ⟨_, rfl⟩
  obtain ⟨E3, hE3⟩ : ∃ E3, E3 = F3 := ⟨_, rfl⟩
  obtain ⟨f2, hf2⟩ : ∃ f2, f2 = g2 := ⟨_, rfl⟩
  obtain ⟨f3, hf3⟩ : ∃ f3, f3 = g3 := ⟨_, rfl⟩
  subst hE2
  subst hE3
  subst hf2
  subst hf3
  (with_reducible refine (lineE _ _ _ _ ex6_w ex6_p _ ?k3).mono ?_)
  case k3 => exact HL.out.l (below_alloc (below_alloc HB.out (.cells #[.int .u8 0, .string ⟨#[]⟩, .slice E2 0 f2, .slice E3 0 f3] TX)) (.cells #[.string ⟨#[]⟩, .int .i64 0] 84))
  rintro e w15 ⟨F2, g2, F3, g3, rfl, hk, hb⟩
  have HB := Aside0.mk (below_then (below_alloc (below_alloc HB.out (.cells #[.int .u8 0, .string ⟨#[]⟩, .slice E2 0 f2, .slice E3 0 f3] TX)) (.cells #[.string ⟨#[]⟩, .int .i64 0] 84)) (below_alloc (below_alloc HB.out (.cells #[.int .u8 0, .string ⟨#[]⟩, .slice E2 0 f2, .slice E3 0 f3] TX)) (.cells #[.string ⟨#[]⟩, .int .i64 0] 84)).size hb)
  have hbox := blk_on hb (blk_new (w14.alloc (.cells #[.int .u8 0, .string ⟨#[]⟩, .slice E2 0 f2, .slice E3 0 f3] TX)) (.cells #[.string ⟨#[]⟩, .int .i64 0] 84))
  rw [show ((w14.alloc (.cells #[.int .u8 0, .string ⟨#[]⟩, .slice E2 0 f2, .slice E3 0 f3] TX))).heap.size = w14.heap.size + 1 from Array.size_push ..] at hbox
  have row := Aside0.mk (blk_on hb (blk_alloc (blk_alloc row.out (.cells #[.int .u8 0, .string ⟨#[]⟩, .slice E2 0 f2, .slice E3 0 f3] TX)) (.cells #[.string ⟨#[]⟩, .int .i64 0] 84)))
  have cb : w15.cell? ⟨w14.heap.size + 1, 1, none⟩ = some (.int .i64 0) := (blk_cell hbox 1).trans rfl
  have ltr : w11.heap.size < w15.heap.size := blk_lt row.out
  have ltn : ¬ (w11.heap.size = w15.heap.size) := by omega
  have ltb : w14.heap.size + 1 < w15.heap.size := blk_lt hbox
  have ltm : ¬ (w14.heap.size + 1 = w15.heap.size) := by omega
  clear hbox hk hb
  go_wp2_with fail
  rw [rounds_succ]
  clear cb ltb ltm
  go_wp2_with fail
  clear ltr ltn
  obtain ⟨E2, hE2⟩ : ∃ E2, E2 = F2 := ⟨_, rfl⟩
  obtain ⟨E3, hE3⟩ : ∃ E3, E3 = F3 := ⟨_, rfl⟩
  obtain ⟨f2, hf2⟩ : ∃ f2, f2 = g2 := ⟨_, rfl⟩
  obtain ⟨f3, hf3⟩ : ∃ f3, f3 = g3 := ⟨_, rfl⟩
  subst hE2
  subst hE3
  subst hf2
  subst hf3
  (with_reducible refine (lineE _ _ _ _ ex7_w ex7_p _ ?k7).mono ?_)
  case k7 => exact HL.out.l (below_alloc HB.out (.cells #[.int .u8 0, .string ⟨#[]⟩, .slice E2 0 f2, .slice E3 0 f3] TX))
  rintro e w16 ⟨G2, h2, G3, h3, rfl, hk, hb⟩
  have HB := Aside0.mk (below_then (below_alloc HB.out (.cells #[.int .u8 0, .string ⟨#[]⟩, .slice E2 0 f2, .slice E3 0 f3] TX)) (below_alloc HB.out (.cells #[.int .u8 0, .string ⟨#[]⟩, .slice E2 0 f2, .slice E3 0 f3] TX)).size hb)
  have b14 := Aside0.mk (blk_new w16 (.cells #[.int .u8 0, .string ⟨#[103, 114, 111, 117, 112]⟩, .slice G2 0 h2, .slice G3 0 h3] TX))
  clear hk hb row
  go_wp2_with fail
  (with_reducible refine (lineC _ _ _ _ cm1_w cm1_p _ ?m1).mono ?_)
  case m1 => exact HL.out.l (below_alloc HB.out (.cells #[.int .u8 0, .string ⟨#[103, 114, 111, 117, 112]⟩, .slice G2 0 h2, .slice G3 0 h3] TX))
  rintro e w17 ⟨AN1, cN1, AM1, nM1, cM1, P1, p1, q1, R1, r1, t1, rfl, hl1, hN1, hb⟩
  have HB := Aside0.mk (below_then (below_alloc HB.out (.cells #[.int .u8 0, .string ⟨#[103, 114, 111, 117, 112]⟩, .slice G2 0 h2, .slice G3 0 h3] TX)) (below_alloc HB.out (.cells #[.int .u8 0, .string ⟨#[103, 114, 111, 117, 112]⟩, .slice G2 0 h2, .slice G3 0 h3] TX)).size hb)
  have b14 := Aside0.mk (blk_alloc (blk_on hb b14.out) (.cells #[.string ⟨#[98, 111, 117, 110, 100]⟩, .slice AN1 3 cN1, .slice AM1 nM1 cM1, .int .i64 1, .int .i64 0, .bool true, .bool false, .int .u8 0, .string ⟨#[]⟩, .slice P1 p1 q1, .slice R1 r1 t1] TC))
  have b17 := Aside0.mk (blk_new w17 (.cells #[.string ⟨#[98, 111, 117, 110, 100]⟩, .slice AN1 3 cN1, .slice AM1 nM1 cM1, .int .i64 1, .int .i64 0, .bool true, .bool false, .int .u8 0, .string ⟨#[]⟩, .slice P1 p1 q1, .slice R1 r1 t1] TC))
  have HN := Aside0.mk (Kd.C_below hN1 (below_alloc (Below.refl _ _) (.cells #[.string ⟨#[98, 111, 117, 110, 100]⟩, .slice AN1 3 cN1, .slice AM1 nM1 cM1, .int .i64 1, .int .i64 0, .bool true, .bool false, .int .u8 0, .string ⟨#[]⟩, .slice P1 p1 q1, .slice R1 r1 t1] TC)))
  have HL1 := Aside0.mk hl1
  clear hb hN1 hl1
  go_wp2_with fail
  (with_reducible refine (lineC _ _ _ _ cm2_w cm2_p _ ?m2).mono ?_)
  case m2 => exact HL.out.l (below_alloc HB.out (.cells #[.string ⟨#[98, 111, 117, 110, 100]⟩, .slice AN1 3 cN1, .slice AM1 nM1 cM1, .int .i64 1, .int .i64 0, .bool true, .bool false, .int .u8 0, .string ⟨#[]⟩, .slice P1 p1 q1, .slice R1 r1 t1] TC))
  rintro e w18 ⟨AN2, cN2, AM2, nM2, cM2, P2, p2, q2, R2, r2, t2, rfl, hl2, hN2, hb⟩
  have HB := Aside0.mk (below_then (below_alloc HB.out (.cells #[.string ⟨#[98, 111, 117, 110, 100]⟩, .slice AN1 3 cN1, .slice AM1 nM1 cM1, .int .i64 1, .int .i64 0, .bool true, .bool false, .int .u8 0, .string ⟨#[]⟩, .slice P1 p1 q1, .slice R1 r1 t1] TC)) (below_alloc HB.out (.cells #[.string ⟨#[98, 111, 117, 110, 100]⟩, .slice AN1 3 cN1, .slice AM1 nM1 cM1, .int .i64 1, .int .i64 0, .bool true, .bool false, .int .u8 0, .string ⟨#[]⟩, .slice P1 p1 q1, .slice R1 r1 t1] TC)).size hb)
  have b14 := Aside0.mk (blk_alloc (blk_on hb b14.out) (.cells #[.string ⟨#[100, 101, 102, 105, 110, 101]⟩, .slice AN2 1 cN2, .slice AM2 nM2 cM2, .int .i64 0, .int .i64 0, .bool false, .bool false, .int .u8 0, .string ⟨#[98]⟩, .slice P2 p2 q2, .slice R2 r2 t2] TC))
  have b17 := Aside0.mk (blk_alloc (blk_on hb b17.out) (.cells #[.string ⟨#[100, 101, 102, 105, 110, 101]⟩, .slice AN2 1 cN2, .slice AM2 nM2 cM2, .int .i64 0, .int .i64 0, .bool false, .bool false, .int .u8 0, .string ⟨#[98]⟩, .slice P2 p2 q2, .slice R2 r2 t2] TC))
  have b20 := Aside0.mk (blk_new w18 (.cells #[.string ⟨#[100, 101, 102, 105, 110, 101]⟩, .slice AN2 1 cN2, .slice AM2 nM2 cM2, .int .i64 0, .int .i64 0, .bool false, .bool false, .int .u8 0, .string ⟨#[98]⟩, .slice P2 p2 q2, .slice R2 r2 t2] TC))
  have HN := Aside0.mk (Kd.C_below (Kd.C_below HN.out hb) (below_alloc (Below.refl _ _) (.cells #[.string ⟨#[100, 101, 102, 105, 110, 101]⟩, .slice AN2 1 cN2, .slice AM2 nM2 cM2, .int .i64 0, .int .i64 0, .bool false, .bool false, .int .u8 0, .string ⟨#[98]⟩, .slice P2 p2 q2, .slice R2 r2 t2] TC)))
  clear hb hN2 hl2
  go_wp2_with fail
  (with_reducible refine (lineC _ _ _ _ cm3_w cm3_p _ ?m3).mono ?_)
  case m3 => exact HL.out.l (below_alloc HB.out (.cells #[.string ⟨#[100, 101, 102, 105, 110, 101]⟩, .slice AN2 1 cN2, .slice AM2 nM2 cM2, .int .i64 0, .int .i64 0, .bool false, .bool false, .int .u8 0, .string ⟨#[98]⟩, .slice P2 p2 q2, .slice R2 r2 t2] TC))
  rintro e w19 ⟨AN3, cN3, AM3, nM3, cM3, P3, p3, q3, R3, r3, t3, rfl, hl3, hN3, hb⟩
  have HB := Aside0.mk (below_then (below_alloc HB.out (.cells #[.string ⟨#[100, 101, 102, 105, 110, 101]⟩, .slice AN2 1 cN2, .slice AM2 nM2 cM2, .int .i64 0, .int .i64 0, .bool false, .bool false, .int .u8 0, .string ⟨#[98]⟩, .slice P2 p2 q2, .slice R2 r2 t2] TC)) (below_alloc HB.out (.cells #[.string ⟨#[100, 101, 102, 105, 110, 101]⟩, .slice AN2 1 cN2, .slice AM2 nM2 cM2, .int .i64 0, .int .i64 0, .bool false, .bool false, .int .u8 0, .string ⟨#[98]⟩, .slice P2 p2 q2, .slice R2 r2 t2] TC)).size hb)
  have b14 := Aside0.mk (blk_alloc (blk_on hb b14.out) (.cells #[.string ⟨#[]⟩, .slice AN3 0 cN3, .slice AM3 nM3 cM3, .int .i64 0, .int .i64 0, .bool false, .bool false, .int .u8 0, .string ⟨#[]⟩, .slice P3 p3 q3, .slice R3 r3 t3] TC))
  have b17 := Aside0.mk (blk_alloc (blk_on hb b17.out) (.cells #[.string ⟨#[]⟩, .slice AN3 0 cN3, .slice AM3 nM3 cM3, .int .i64 0, .int .i64 0, .bool false, .bool false, .int .u8 0, .string ⟨#[]⟩, .slice P3 p3 q3, .slice R3 r3 t3] TC))
  have b20 := Aside0.mk (blk_alloc (blk_on hb b20.out) (.cells #[.string ⟨#[]⟩, .slice AN3 0 cN3, .slice AM3 nM3 cM3, .int .i64 0, .int .i64 0, .bool false, .bool false, .int .u8 0, .string ⟨#[]⟩, .slice P3 p3 q3, .slice R3 r3 t3] TC))
  have HN := Aside0.mk (Kd.C_below (Kd.C_below HN.out hb) (below_alloc (Below.refl _ _) (.cells #[.string ⟨#[]⟩, .slice AN3 0 cN3, .slice AM3 nM3 cM3, .int .i64 0, .int .i64 0, .bool false, .bool false, .int .u8 0, .string ⟨#[]⟩, .slice P3 p3 q3, .slice R3 r3 t3] TC)))
  clear hb hN3 hl3
  go_wp2_with fail
  (with_reducible refine (lineC _ _ _ _ cm4_w cm4_p _ ?m4).mono ?_)
  case m4 => exact HL.out.l (below_alloc HB.out (.cells #[.string ⟨#[]⟩, .slice AN3 0 cN3, .slice AM3 nM3 cM3, .int .i64 0, .int .i64 0, .bool false, .bool false, .int .u8 0, .string ⟨#[]⟩, .slice P3 p3 q3, .slice R3 r3 t3] TC))
  rintro e w20 ⟨AN4, cN4, AM4, nM4, cM4, P4, p4, q4, R4, r4, t4, rfl, hl4, hN4, hb⟩
  have HB := Aside0.mk (below_then (below_alloc HB.out (.cells #[.string ⟨#[]⟩, .slice AN3 0 cN3, .slice AM3 nM3 cM3, .int .i64 0, .int .i64 0, .bool false, .bool false, .int .u8 0, .string ⟨#[]⟩, .slice P3 p3 q3, .slice R3 r3 t3] TC)) (below_alloc HB.out (.cells #[.string ⟨#[]⟩, .slice AN3 0 cN3, .slice AM3 nM3 cM3, .int .i64 0, .int .i64 0, .bool false, .bool false, .int .u8 0, .string ⟨#[]⟩, .slice P3 p3 q3, .slice R3 r3 t3] TC)).size hb)
  have b14 := blk_on hb b14.out
  have b17 := blk_on hb b17.out
  have b20 := blk_on hb b20.out
  have HN := Aside0.mk (Kd.C_below HN.out hb)
  clear hb hN4 hl4
  have e0 : w20.cell? ⟨w16.heap.size, 1, none⟩ = some (.string ⟨#[103, 114, 111, 117, 112]⟩) := (blk_cell b14 1).trans rfl
  have e1 : w20.cell? ⟨w17.heap.size, 1, none⟩ = some (.slice AN1 3 cN1) := (blk_cell b17 1).trans rfl
  have e3 : w20.cell? ⟨w17.heap.size, 3, none⟩ = some (.int .i64 1) := (blk_cell b17 3).trans rfl
  have e4 : w20.cell? ⟨w17.heap.size, 4, none⟩ = some (.int .i64 0) := (blk_cell b17 4).trans rfl
  have e5 : w20.cell? ⟨w17.heap.size, 5, none⟩ = some (.bool true) := (blk_cell b17 5).trans rfl
  have e6 : w20.cell? ⟨w17.heap.size, 6, none⟩ = some (.bool false) := (blk_cell b17 6).trans rfl
  have e7 : w20.cell? ⟨w18.heap.size, 1, none⟩ = some (.slice AN2 1 cN2) := (blk_cell b20 1).trans rfl
  have e8 : w20.cell? ⟨w18.heap.size, 8, none⟩ = some (.string ⟨#[98]⟩) := (blk_cell b20 8).trans rfl
  have l16 := blk_lt b14
  have l17 := blk_lt b17
  have l18 := blk_lt b20
  have n16 : ¬ (w16.heap.size = w20.heap.size) := by omega
  have n17 : ¬ (w17.heap.size = w20.heap.size) := by omega
  have n18 : ¬ (w18.heap.size = w20.heap.size) := by omega
  clear b14 b17 b20
  have CT : ∀ (A1 : Option Addr) (c1 : Nat) (W : World), kT.C W AN1 3 [⟨#[120]⟩, ⟨#[121]⟩, ⟨#[100, 97, 121]⟩] → kT.C W A1 3 [⟨#[120]⟩, ⟨#[121]⟩, ⟨#[100, 97, 121]⟩] → 3 ≤ c1 → Calls Tryd.prog 15 #[.slice AN1 3 cN1, .slice A1 3 c1] W fun e w' => e = .returned (.bool true) ∧ Drawn0 W w' :=
    fun A1 c1 W h1 h2 h3 => epactlaw09_Texts.calls 9 AN1 cN1 [⟨#[120]⟩, ⟨#[121]⟩, ⟨#[100, 97, 121]⟩] A1 c1 [⟨#[120]⟩, ⟨#[121]⟩, ⟨#[100, 97, 121]⟩] true W h1 HL1.out h2 h3 (by decide +kernel)
  go_wp2_with fail
  (with_reducible refine (CT _ _ _ ?x1 ?x2 ?x3).mono ?_)
  case x1 => exact Kd.C_below (Kd.C_below HN.out (below_alloc (Below.refl _ _) (.cells #[.string ⟨#[]⟩, .slice AN4 0 cN4, .slice AM4 nM4 cM4, .int .i64 0, .int .i64 0, .bool false, .bool false, .int .u8 0, .string ⟨#[]⟩, .slice P4 p4 q4, .slice R4 r4 t4] TC))) (below_alloc (Below.refl _ _) (.cells #[.string ⟨#[120]⟩, .string ⟨#[121]⟩, .string ⟨#[100, 97, 121]⟩] TS))
  case x2 =>
    have hns := blk_new (w20.alloc (.cells #[.string ⟨#[]⟩, .slice AN4 0 cN4, .slice AM4 nM4 cM4, .int .i64 0, .int .i64 0, .bool false, .bool false, .int .u8 0, .string ⟨#[]⟩, .slice P4 p4 q4, .slice R4 r4 t4] TC)) (.cells #[.string ⟨#[120]⟩, .string ⟨#[121]⟩, .string ⟨#[100, 97, 121]⟩] TS)
    rw [show (w20.alloc (.cells #[.string ⟨#[]⟩, .slice AN4 0 cN4, .slice AM4 nM4 cM4, .int .i64 0, .int .i64 0, .bool false, .bool false, .int .u8 0, .string ⟨#[]⟩, .slice P4 p4 q4, .slice R4 r4 t4] TC)).heap.size = w20.heap.size + 1 from Array.size_push ..] at hns
    exact rowS (l := [⟨#[120]⟩, ⟨#[121]⟩, ⟨#[100, 97, 121]⟩]) (by decide) hns
  case x3 => exact Nat.le_refl 3
  rintro e w21 ⟨rfl, ⟨m, rfl⟩⟩
  clear CT HN HL1
  go_wp2
  go_ret
  exact ⟨rfl, pw_below_drewN (below_alloc (below_alloc HB.out _) _) m⟩
end Go.Proofs.YtjeofffddbibeaaDoor.Pa
end

section
namespace Go.Proofs.YtjeofffddbibeaaDoor.Pa
open Go Go.RowKit Go.Proofs.YtjeofffddbibeaaDoor.PParseTells Go.Proofs.YtjeofffddbibeaaDoor.Ex Go.Proofs.YtjeofffddbibeaaDoorW.PrintWords Go.Proofs.YtjeofffddbibeaaDoorW.PrintLast Go.Proofs.YtjeofffddbibeaaDoorW.PrintMore
set_option linter.unusedVariables false
set_option linter.unusedSimpArgs false
theorem GivesC.later {wa W W2 : World} {c : Cmd} {vN vM v2 v3 : Value} (h : GivesC wa W c vN vM v2 v3) (hb : Below W.heap.size W W2) : GivesC wa W2 c vN vM v2 v3 := ⟨Kd.R_below h.1 hb, Kd.R_below h.2.1 hb, Kd.M_below h.2.2 hb⟩
theorem GivesC.slices {wa W : World} {c : Cmd} {vN vM v2 v3 : Value} (h : GivesC wa W c vN vM v2 v3) : ∃ A0 n0 c0 A1 n1 c1 A2 n2 c2 A3 n3 c3, vN = .slice A0 n0 c0 ∧ vM = .slice A1 n1 c1 ∧ v2 = .slice A2 n2 c2 ∧ v3 = .slice A3 n3 c3 := by
  obtain ⟨A0, c0, e0⟩ := Kd.R_slice h.1
  obtain ⟨A1, c1, e1⟩ := Kd.R_slice h.2.1
  obtain ⟨u2, u3, he, h2, h3⟩ := k25_openM h.2.2
  simp only [List.cons.injEq, true_and, and_true] at he
  obtain ⟨rfl, rfl⟩ := he
  obtain ⟨A2, c2, e2⟩ := Kd.R_slice h2
  obtain ⟨A3, c3, e3⟩ := Kd.R_slice h3
  exact ⟨A0, _, c0, A1, _, c1, A2, _, c2, A3, _, c3, e0, e1, e2, e3⟩
abbrev xC (x : X) (A2 : Option Addr) (c2 : Nat) (A3 : Option Addr) (c3 : Nat) : Obj := .cells #[.int .u8 x.f0, .string x.f1, .slice A2 x.f2.length c2, .slice A3 x.f3.length c3] TX
abbrev qC (c : Cmd) (vN vM v2 v3 : Value) : Obj := .cells (cCells c vN vM v2 v3) TC
end Go.Proofs.YtjeofffddbibeaaDoor.Pa
end

section
namespace Go.Proofs.YtjeofffddbibeaaDoor.Pa
open Go Go.RowKit Go.Proofs.YtjeofffddbibeaaDoor.PParseTells Go.Proofs.YtjeofffddbibeaaDoor.Ex Go.Proofs.YtjeofffddbibeaaDoorW.PrintWords Go.Proofs.YtjeofffddbibeaaDoorW.PrintLast Go.Proofs.YtjeofffddbibeaaDoorW.PrintMore
set_option linter.unusedVariables false
set_option linter.unusedSimpArgs false
theorem info_tok3 : (Tryd.prog.info? 61).map (fun i => (i.zero, i.size, i.bytes)) = some (some (.agg #[.int .u8 0, .string nil8, .int .i64 0]), 3, 32) := by kernel_rfl
theorem cut_run (A : Option Addr) (n c k : Nat) (h : k ≤ n) (hc : n ≤ c) : ∀ W : World, (Instr.slice 43 (.slice A n c) none (some (.int .i64 (k : Int))) none).run Tryd.prog W = .ok (.slice A k c) W := by
  obtain ⟨i, hi, _⟩ := Option.map_eq_some_iff.1 info_tok3
  have := cut_to 43 61 .i64 Tryd.underlying43 hi A n c (k : Int) (by omega) (by omega) hc
  rwa [Int.toNat_natCast] at this
theorem own_lit0 {α : Type} {R : α → List Value → Prop} {e : TypeId} {size : Nat} (W : World) (base : Nat) (hb : base ≤ W.heap.size) (n : Nat) (hn : n = W.heap.size) : OwnRow R e size (W.alloc (.cells #[] e)) base (.slice (some ⟨n, 0, none⟩) 0 0) [] := by
  subst hn
  exact OwnRow.lit W base (inner := []) (ps := ([] : List α)) (Reps.none _ _) hb (by simp)
set_option maxHeartbeats 32000000 in
set_option maxRecDepth 100000 in
theorem ParsePlace_walk (L M : List Tok) (A : Option Addr) (n c : Nat) (A' : Option Addr) (n' c' : Nat) (w : World) (hL : Cal w) (hn : n = L.length) (hC : Kd.C k61 w A L.length L) (hc : L.length ≤ c) (hn' : n' = M.length) (hC' : Kd.C k61 w A' M.length M) (hc' : M.length ≤ c') :
    Calls Tryd.prog 10 #[.slice A n c, .slice A' n' c'] w fun e w' => e = .returned (.bool true) ∧ Below w.heap.size w w' := by
  subst hn
  subst hn'
  have HL := Aside0.mk hL
  have HC := Aside0.mk hC
  have HM := Aside0.mk hC'
  have CW := fun W h => Aside0.mk (awake_calls W h)
  clear hL hC hC'
  by_cases hs : L.length > 200 ∨ M.length > 10
  · obtain ⟨N, hN⟩ : ∃ N, N = L.length := ⟨_, rfl⟩
    obtain ⟨N', hN'⟩ : ∃ N', N' = M.length := ⟨_, rfl⟩
    rw [← hN, ← hN'] at hs ⊢
    clear hN hN' HC HM hc hc'
    by_cases h1 : N > 200
    · have g1 : (200 : Int) < (N : Int) := by omega
      have g2 : decide ((200 : Int) < (N : Int)) = true := decide_eq_true g1
      have g3 : 200 < N := by omega
      clear hs
      go_enter Tryd.func10, Tryd.ntmps10
      go_wp2_with fail
      (with_reducible refine (CW _ HL.out).out.mono ?_)
      rintro e w1 ⟨rfl, hb1⟩
      go_wp2
      go_ret
      exact ⟨rfl, hb1⟩
    · have g1 : ¬ (200 : Int) < (N : Int) := by omega
      have g2 : decide ((200 : Int) < (N : Int)) = false := decide_eq_false g1
      have g3 : ¬ 200 < N := by omega
      have k1 : (10 : Int) < (N' : Int) := by omega
      have k2 : decide ((10 : Int) < (N' : Int)) = true := decide_eq_true k1
      have k3 : 10 < N' := by omega
      clear hs
      go_enter Tryd.func10, Tryd.ntmps10
      go_wp2_with fail
      (with_reducible refine (CW _ HL.out).out.mono ?_)
      rintro e w1 ⟨rfl, hb1⟩
      go_wp2
      go_ret
      exact ⟨rfl, hb1⟩
  · have C1 := fun W h h2 => Aside0.mk (Expr_calls L A L.length c W rfl h hc h2)
    have C3 := fun W h h2 => Aside0.mk (Command_calls L A L.length c W rfl h hc h2)
    have pE := Aside0.mk (placeE L)
    have pC := Aside0.mk (placeC L)
    obtain ⟨x, ax, ex, hx⟩ : ∃ x ax ex, parseE L = (x, ax, ex) := ⟨_, _, _, rfl⟩
    obtain ⟨q, aq, eq, hq⟩ : ∃ q aq eq, parseC L = (q, aq, eq) := ⟨_, _, _, rfl⟩
    rw [hx] at C1 pE
    rw [hq] at C3 pC
    dsimp only at C1 C3
    have T0 : ∀ k, k ≤ L.length → Kd.C k61 w A k (L.take k) := fun k hk => by
      have h := Kd.C_take HC.out hk
      rwa [List.length_take, Nat.min_eq_left hk] at h
    have TL : ∀ k, k ≤ L.length → (L.take k).length = k := fun k hk => by rw [List.length_take, Nat.min_eq_left hk]
    obtain ⟨N, hN⟩ : ∃ N, N = L.length := ⟨_, rfl⟩
    obtain ⟨N', hN'⟩ : ∃ N', N' = M.length := ⟨_, rfl⟩
    rw [← hN, ← hN'] at hs
    rw [← hN] at hc C1 C3 HC pE pC T0 TL ⊢
    rw [← hN'] at hc' HM ⊢
    have g1 : ¬ (200 : Int) < (N : Int) := by omega
    have g2 : decide ((200 : Int) < (N : Int)) = false := decide_eq_false g1
    have g3 : ¬ 200 < N := by omega
    have k1 : ¬ (10 : Int) < (N' : Int) := by omega
    have k2 : decide ((10 : Int) < (N' : Int)) = false := decide_eq_false k1
    have k3 : ¬ 10 < N' := by omega
    have z1 : ¬ (N : Int) < 0 := by omega
    have z2 : decide ((N : Int) < 0) = false := decide_eq_false z1
    have z3 : ¬ (N : Int) < -1 := by omega
    have z4 : decide ((N : Int) < -1) = false := decide_eq_false z3
    have TC0 := Aside0.mk T0
    have TLL := Aside0.mk TL
    have HCC := Aside0.mk (show N ≤ c from hc)
    clear hs hx hq hN hN' T0 TL hc
    go_enter Tryd.func10, Tryd.ntmps10
    go_wp2_with fail
    (with_reducible refine (C1 _ HC.out HL.out).out.mono ?_)
    rintro e w5 ⟨v2, v3, rfl, hg, hb5⟩
    obtain ⟨A2, c2, A3, c3, rfl, rfl⟩ := hg.slices
    have HB := Aside0.mk (below_alloc hb5 (xC x A2 c2 A3 c3))
    clear hg hb5 C1
    go_wp2_with fail
    (with_reducible refine (C3 _ ?a2 ?a3).out.mono ?_)
    case a2 => exact Kd.C_below HC.out HB.out
    case a3 => exact HL.out.l HB.out
    rintro e w7 ⟨vN, vM, v2, v3, rfl, hg, hb7⟩
    obtain ⟨E0, m0, k0, E1, m1, k1, E2, m2, k2, E3, m3, k3, rfl, rfl, rfl, rfl⟩ := hg.slices
    have HB := Aside0.mk (below_alloc (below_then HB.out HB.out.size hb7) (qC q (.slice E0 m0 k0) (.slice E1 m1 k1) (.slice E2 m2 k2) (.slice E3 m3 k3)))
    clear hg hb7 C3
    have PF := Aside0.mk (show (eq = 0 ∧ aq = -1) ∨ (eq ≠ 0 ∧ aq = 0) ∨ (eq ≠ 0 ∧ ∃ j : Nat, aq = (j : Int) ∧ 0 < j ∧ j ≤ N ∧ ((parseC (L.take j ++ M)).2.2 ≠ 0 → (j : Int) ≤ (parseC (L.take j ++ M)).2.1)) from by
      obtain ⟨p1, p2⟩ := pC.out
      by_cases h : eq = 0
      · exact .inl ⟨h, p1 h⟩
      · obtain ⟨j, h1, h2, h3⟩ := p2 h
        by_cases hj : j = 0
        · exact .inr (.inl ⟨h, by (try dsimp only at h1); omega⟩)
        · exact .inr (.inr ⟨h, j, h1, by omega, h2, h3 (by omega) M⟩))
    have PE := Aside0.mk (show (ex = 0 ∧ ax = -1) ∨ (ex ≠ 0 ∧ ∃ k : Nat, ax = (k : Int) ∧ k ≤ N ∧ ((parseE (L.take k ++ M)).2.2 ≠ 0 → (k : Int) ≤ (parseE (L.take k ++ M)).2.1)) from by
      obtain ⟨p1, p2⟩ := pE.out
      by_cases h : ex = 0
      · exact .inl ⟨h, p1 h⟩
      · obtain ⟨k, h1, h2, h3⟩ := p2 h
        exact .inr ⟨h, k, h1, h2, h3 M⟩)
    clear pE pC
    rcases PE.out with ⟨h1, h2⟩ | ⟨h1, k, h2, hkN, hM⟩
    · subst h1
      subst h2
      rcases PF.out with ⟨h1, h2⟩ | ⟨h1, h2⟩ | ⟨h1, j, h2, hj, hjN, hM⟩
      · subst h2
        subst h1
        go_wp2_with fail
        (with_reducible refine (CW _ (HL.out.l HB.out)).out.mono ?_)
        rintro e wz ⟨rfl, hbz⟩
        have HB := Aside0.mk (below_then HB.out HB.out.size hbz)
        go_wp2
        go_ret
        exact ⟨rfl, HB.out⟩
      · subst h2
        have f1 : (eq == 0) = false := beq_eq_false_iff_ne.2 h1
        have f2 : (eq != 0) = true := bne_iff_ne.2 h1
        clear h1
        go_wp2_with fail
        (with_reducible refine (CW _ (HL.out.l HB.out)).out.mono ?_)
        rintro e wz ⟨rfl, hbz⟩
        have HB := Aside0.mk (below_then HB.out HB.out.size hbz)
        go_wp2
        go_ret
        exact ⟨rfl, HB.out⟩
      · subst h2
        have f1 : (eq == 0) = false := beq_eq_false_iff_ne.2 h1
        have f2 : (eq != 0) = true := bne_iff_ne.2 h1
        have j1 : ((j : Int) == -1) = false := beq_eq_false_iff_ne.2 (by omega)
        have j2 : ¬ ((N : Int) < (j : Int)) := by omega
        have j3 : decide ((N : Int) < (j : Int)) = false := decide_eq_false j2
        have j4 : ¬ (N < j) := by omega
        have j5 : (0 : Int) < (j : Int) := by omega
        have j6 : decide ((0 : Int) < (j : Int)) = true := decide_eq_true j5
        have j7 : 0 < j := hj
        have j8 := cut_run A N c j hjN HCC.out
        obtain ⟨U, hU⟩ : ∃ U, U = L.take j ++ M := ⟨_, rfl⟩
        have C6 := fun B d W h1 h2 h3 => Aside0.mk (Command_calls U B U.length d W rfl h1 h2 h3)
        have HU := Aside0.mk hU
        rw [← hU] at hM
        obtain ⟨y', bq, f2, hy'⟩ : ∃ y b f2, parseC U = (y, b, f2) := ⟨_, _, _, rfl⟩
        rw [hy'] at C6 hM
        dsimp only at C6 hM
        have PC2 := Aside0.mk (show f2 = 0 ∨ (f2 ≠ 0 ∧ (j : Int) ≤ bq) from (Classical.em (f2 = 0)).imp id (fun h => ⟨h, hM h⟩))
        clear hU hy' hM
        clear h1
        go_wp2_with (first | ((with_reducible refine gate_builtin (b := .append) (xs := #[.tmp 90, .tmp 93]) rfl ?_); at_builtin; refine Kd.R_append_rows k61 (w0 := w) w.heap.size rfl (.tmp 90) (.tmp 93) 43 61 (.agg #[.int .u8 0, .string nil8, .int .i64 0]) 32 rfl Tryd.underlying43 info_tok3 rfl (by decide) (by omega) (.slice (some ⟨_, 0, none⟩) 0 0) ([] : List Tok) (L.take j) _ j c (fun _ => True) (fun _ => False) rfl rfl ⟨fun _ _ => trivial, own_lit0 _ _ HB.out.size _ (by first | rfl | exact (Array.size_push ..).symm)⟩ (Kd.C_below (TC0.out j (by omega)) (below_alloc HB.out _)) (fun y cs hk => by rw [k61_open hk]; exact k61_mkM _ _ _ y) (fun _ hk => hk.elim) (fun _ _ => trivial) (below_alloc HB.out _) (below_alloc HB.out _).size (by rw [List.length_nil]; omega) ?_; intro v1 wa ho hb hg hat; rw [List.nil_append] at ho; have HO := Aside0.mk ho; have HB := Aside0.mk hb; clear ho hb hg hat) | ((with_reducible refine gate_builtin (b := .append) (xs := #[.tmp 94, .tmp 95]) rfl ?_); at_builtin; refine Kd.R_append_rows k61 (w0 := w) w.heap.size rfl (.tmp 94) (.tmp 95) 43 61 (.agg #[.int .u8 0, .string nil8, .int .i64 0]) 32 rfl Tryd.underlying43 info_tok3 rfl (by decide) (by omega) _ (L.take j) M A' N' c' (fun _ => True) (fun _ => False) rfl rfl HO.out (Kd.C_below HM.out HB.out) (fun y cs hk => by rw [k61_open hk]; exact k61_mkM _ _ _ y) (fun _ hk => hk.elim) (fun _ _ => trivial) HB.out HB.out.size (by rw [TLL.out j (by omega)]; omega) ?_; intro v2 wb ho hb hg hat; rw [← HU.out] at ho; obtain ⟨B, d, rfl, hd, hCC⟩ := Kd.R_reads ho; have HT := Aside0.mk hCC; have HD := Aside0.mk hd; have HB := Aside0.mk hb; clear ho hb hg hat hCC hd))
        (with_reducible refine (C6 _ _ _ HT.out HD.out (HL.out.l HB.out)).out.mono ?_)
        rintro e w9 ⟨vN, vM, v2, v3, rfl, hg, hb9⟩
        obtain ⟨F0, i0, j0, F1, i1, j1, F2, i2, j2, F3, i3, j3, rfl, rfl, rfl, rfl⟩ := hg.slices
        have HB := Aside0.mk (below_alloc (below_then HB.out HB.out.size hb9) (qC y' (.slice F0 i0 j0) (.slice F1 i1 j1) (.slice F2 i2 j2) (.slice F3 i3 j3)))
        clear hg hb9 C6
        rcases PC2.out with h9 | ⟨h9, h10⟩
        · subst h9
          go_wp2_with fail
          (with_reducible refine (CW _ (HL.out.l HB.out)).out.mono ?_)
          rintro e wz ⟨rfl, hbz⟩
          have HB := Aside0.mk (below_then HB.out HB.out.size hbz)
          go_wp2
          go_ret
          exact ⟨rfl, HB.out⟩
        · have u1 : (f2 != 0) = true := bne_iff_ne.2 h9
          have u2 : ¬ (bq < (j : Int)) := by omega
          have u3 : decide (bq < (j : Int)) = false := decide_eq_false u2
          clear h9 h10
          go_wp2_with fail
          (with_reducible refine (CW _ (HL.out.l HB.out)).out.mono ?_)
          rintro e wz ⟨rfl, hbz⟩
          have HB := Aside0.mk (below_then HB.out HB.out.size hbz)
          go_wp2
          go_ret
          exact ⟨rfl, HB.out⟩
    · subst h2
      have e1 : (ex == 0) = false := beq_eq_false_iff_ne.2 h1
      have e2 : (ex != 0) = true := bne_iff_ne.2 h1
      have i1 : ((k : Int) == -1) = false := beq_eq_false_iff_ne.2 (by omega)
      have i2 : ¬ ((N : Int) < (k : Int)) := by omega
      have i3 : decide ((N : Int) < (k : Int)) = false := decide_eq_false i2
      have i4 : ¬ (N < k) := by omega
      have i8 := cut_run A N c k hkN HCC.out
      obtain ⟨T, hT⟩ : ∃ T, T = L.take k ++ M := ⟨_, rfl⟩
      have C5 := fun B d W h1 h2 h3 => Aside0.mk (Expr_calls T B T.length d W rfl h1 h2 h3)
      have HTT := Aside0.mk hT
      rw [← hT] at hM
      obtain ⟨y, b, g, hy⟩ : ∃ y b g, parseE T = (y, b, g) := ⟨_, _, _, rfl⟩
      rw [hy] at C5 hM
      dsimp only at C5 hM
      have PE2 := Aside0.mk (show g = 0 ∨ (g ≠ 0 ∧ (k : Int) ≤ b) from (Classical.em (g = 0)).imp id (fun h => ⟨h, hM h⟩))
      clear hT hy hM h1
      rcases PF.out with ⟨h1, h2⟩ | ⟨h1, h2⟩ | ⟨h1, j, h2, hj, hjN, hM⟩
      · subst h2
        subst h1
        go_wp2_with (first | ((with_reducible refine gate_builtin (b := .append) (xs := #[.tmp 65, .tmp 68]) rfl ?_); at_builtin; refine Kd.R_append_rows k61 (w0 := w) w.heap.size rfl (.tmp 65) (.tmp 68) 43 61 (.agg #[.int .u8 0, .string nil8, .int .i64 0]) 32 rfl Tryd.underlying43 info_tok3 rfl (by decide) (by omega) (.slice (some ⟨_, 0, none⟩) 0 0) ([] : List Tok) (L.take k) _ k c (fun _ => True) (fun _ => False) rfl rfl ⟨fun _ _ => trivial, own_lit0 _ _ HB.out.size _ (by first | rfl | exact (Array.size_push ..).symm)⟩ (Kd.C_below (TC0.out k (by omega)) (below_alloc HB.out _)) (fun y cs hk => by rw [k61_open hk]; exact k61_mkM _ _ _ y) (fun _ hk => hk.elim) (fun _ _ => trivial) (below_alloc HB.out _) (below_alloc HB.out _).size (by rw [List.length_nil]; omega) ?_; intro v1 wa ho hb hg hat; rw [List.nil_append] at ho; have HO := Aside0.mk ho; have HB := Aside0.mk hb; clear ho hb hg hat) | ((with_reducible refine gate_builtin (b := .append) (xs := #[.tmp 69, .tmp 70]) rfl ?_); at_builtin; refine Kd.R_append_rows k61 (w0 := w) w.heap.size rfl (.tmp 69) (.tmp 70) 43 61 (.agg #[.int .u8 0, .string nil8, .int .i64 0]) 32 rfl Tryd.underlying43 info_tok3 rfl (by decide) (by omega) _ (L.take k) M A' N' c' (fun _ => True) (fun _ => False) rfl rfl HO.out (Kd.C_below HM.out HB.out) (fun y cs hk => by rw [k61_open hk]; exact k61_mkM _ _ _ y) (fun _ hk => hk.elim) (fun _ _ => trivial) HB.out HB.out.size (by rw [TLL.out k (by omega)]; omega) ?_; intro v2 wb ho hb hg hat; rw [← HTT.out] at ho; obtain ⟨B, d, rfl, hd, hCC⟩ := Kd.R_reads ho; have HT := Aside0.mk hCC; have HD := Aside0.mk hd; have HB := Aside0.mk hb; clear ho hb hg hat hCC hd))
        (with_reducible refine (C5 _ _ _ HT.out HD.out (HL.out.l HB.out)).out.mono ?_)
        rintro e w8 ⟨v2, v3, rfl, hg, hb8⟩
        obtain ⟨B2, d2, B3, d3, rfl, rfl⟩ := hg.slices
        have HB := Aside0.mk (below_alloc (below_then HB.out HB.out.size hb8) (xC y B2 d2 B3 d3))
        clear hg hb8 C5
        rcases PE2.out with h9 | ⟨h9, h10⟩
        · subst h9
          go_wp2_with fail
          (with_reducible refine (CW _ (HL.out.l HB.out)).out.mono ?_)
          rintro e wz ⟨rfl, hbz⟩
          have HB := Aside0.mk (below_then HB.out HB.out.size hbz)
          go_wp2
          go_ret
          exact ⟨rfl, HB.out⟩
        · have s1 : (g != 0) = true := bne_iff_ne.2 h9
          have s2 : ¬ (b < (k : Int)) := by omega
          have s3 : decide (b < (k : Int)) = false := decide_eq_false s2
          clear h9 h10
          go_wp2_with fail
          (with_reducible refine (CW _ (HL.out.l HB.out)).out.mono ?_)
          rintro e wz ⟨rfl, hbz⟩
          have HB := Aside0.mk (below_then HB.out HB.out.size hbz)
          go_wp2
          go_ret
          exact ⟨rfl, HB.out⟩
      · subst h2
        have f1 : (eq == 0) = false := beq_eq_false_iff_ne.2 h1
        have f2 : (eq != 0) = true := bne_iff_ne.2 h1
        clear h1
        go_wp2_with (first | ((with_reducible refine gate_builtin (b := .append) (xs := #[.tmp 65, .tmp 68]) rfl ?_); at_builtin; refine Kd.R_append_rows k61 (w0 := w) w.heap.size rfl (.tmp 65) (.tmp 68) 43 61 (.agg #[.int .u8 0, .string nil8, .int .i64 0]) 32 rfl Tryd.underlying43 info_tok3 rfl (by decide) (by omega) (.slice (some ⟨_, 0, none⟩) 0 0) ([] : List Tok) (L.take k) _ k c (fun _ => True) (fun _ => False) rfl rfl ⟨fun _ _ => trivial, own_lit0 _ _ HB.out.size _ (by first | rfl | exact (Array.size_push ..).symm)⟩ (Kd.C_below (TC0.out k (by omega)) (below_alloc HB.out _)) (fun y cs hk => by rw [k61_open hk]; exact k61_mkM _ _ _ y) (fun _ hk => hk.elim) (fun _ _ => trivial) (below_alloc HB.out _) (below_alloc HB.out _).size (by rw [List.length_nil]; omega) ?_; intro v1 wa ho hb hg hat; rw [List.nil_append] at ho; have HO := Aside0.mk ho; have HB := Aside0.mk hb; clear ho hb hg hat) | ((with_reducible refine gate_builtin (b := .append) (xs := #[.tmp 69, .tmp 70]) rfl ?_); at_builtin; refine Kd.R_append_rows k61 (w0 := w) w.heap.size rfl (.tmp 69) (.tmp 70) 43 61 (.agg #[.int .u8 0, .string nil8, .int .i64 0]) 32 rfl Tryd.underlying43 info_tok3 rfl (by decide) (by omega) _ (L.take k) M A' N' c' (fun _ => True) (fun _ => False) rfl rfl HO.out (Kd.C_below HM.out HB.out) (fun y cs hk => by rw [k61_open hk]; exact k61_mkM _ _ _ y) (fun _ hk => hk.elim) (fun _ _ => trivial) HB.out HB.out.size (by rw [TLL.out k (by omega)]; omega) ?_; intro v2 wb ho hb hg hat; rw [← HTT.out] at ho; obtain ⟨B, d, rfl, hd, hCC⟩ := Kd.R_reads ho; have HT := Aside0.mk hCC; have HD := Aside0.mk hd; have HB := Aside0.mk hb; clear ho hb hg hat hCC hd))
        (with_reducible refine (C5 _ _ _ HT.out HD.out (HL.out.l HB.out)).out.mono ?_)
        rintro e w8 ⟨v2, v3, rfl, hg, hb8⟩
        obtain ⟨B2, d2, B3, d3, rfl, rfl⟩ := hg.slices
        have HB := Aside0.mk (below_alloc (below_then HB.out HB.out.size hb8) (xC y B2 d2 B3 d3))
        clear hg hb8 C5
        rcases PE2.out with h9 | ⟨h9, h10⟩
        · subst h9
          go_wp2_with fail
          (with_reducible refine (CW _ (HL.out.l HB.out)).out.mono ?_)
          rintro e wz ⟨rfl, hbz⟩
          have HB := Aside0.mk (below_then HB.out HB.out.size hbz)
          go_wp2
          go_ret
          exact ⟨rfl, HB.out⟩
        · have s1 : (g != 0) = true := bne_iff_ne.2 h9
          have s2 : ¬ (b < (k : Int)) := by omega
          have s3 : decide (b < (k : Int)) = false := decide_eq_false s2
          clear h9 h10
          go_wp2_with fail
          (with_reducible refine (CW _ (HL.out.l HB.out)).out.mono ?_)
          rintro e wz ⟨rfl, hbz⟩
          have HB := Aside0.mk (below_then HB.out HB.out.size hbz)
          go_wp2
          go_ret
          exact ⟨rfl, HB.out⟩
      · subst h2
        have f1 : (eq == 0) = false := beq_eq_false_iff_ne.2 h1
        have f2 : (eq != 0) = true := bne_iff_ne.2 h1
        have j1 : ((j : Int) == -1) = false := beq_eq_false_iff_ne.2 (by omega)
        have j2 : ¬ ((N : Int) < (j : Int)) := by omega
        have j3 : decide ((N : Int) < (j : Int)) = false := decide_eq_false j2
        have j4 : ¬ (N < j) := by omega
        have j5 : (0 : Int) < (j : Int) := by omega
        have j6 : decide ((0 : Int) < (j : Int)) = true := decide_eq_true j5
        have j7 : 0 < j := hj
        have j8 := cut_run A N c j hjN HCC.out
        obtain ⟨U, hU⟩ : ∃ U, U = L.take j ++ M := ⟨_, rfl⟩
        have C6 := fun B d W h1 h2 h3 => Aside0.mk (Command_calls U B U.length d W rfl h1 h2 h3)
        have HU := Aside0.mk hU
        rw [← hU] at hM
        obtain ⟨y', bq, f2, hy'⟩ : ∃ y b f2, parseC U = (y, b, f2) := ⟨_, _, _, rfl⟩
        rw [hy'] at C6 hM
        dsimp only at C6 hM
        have PC2 := Aside0.mk (show f2 = 0 ∨ (f2 ≠ 0 ∧ (j : Int) ≤ bq) from (Classical.em (f2 = 0)).imp id (fun h => ⟨h, hM h⟩))
        clear hU hy' hM
        clear h1
        go_wp2_with (first | ((with_reducible refine gate_builtin (b := .append) (xs := #[.tmp 65, .tmp 68]) rfl ?_); at_builtin; refine Kd.R_append_rows k61 (w0 := w) w.heap.size rfl (.tmp 65) (.tmp 68) 43 61 (.agg #[.int .u8 0, .string nil8, .int .i64 0]) 32 rfl Tryd.underlying43 info_tok3 rfl (by decide) (by omega) (.slice (some ⟨_, 0, none⟩) 0 0) ([] : List Tok) (L.take k) _ k c (fun _ => True) (fun _ => False) rfl rfl ⟨fun _ _ => trivial, own_lit0 _ _ HB.out.size _ (by first | rfl | exact (Array.size_push ..).symm)⟩ (Kd.C_below (TC0.out k (by omega)) (below_alloc HB.out _)) (fun y cs hk => by rw [k61_open hk]; exact k61_mkM _ _ _ y) (fun _ hk => hk.elim) (fun _ _ => trivial) (below_alloc HB.out _) (below_alloc HB.out _).size (by rw [List.length_nil]; omega) ?_; intro v1 wa ho hb hg hat; rw [List.nil_append] at ho; have HO := Aside0.mk ho; have HB := Aside0.mk hb; clear ho hb hg hat) | ((with_reducible refine gate_builtin (b := .append) (xs := #[.tmp 69, .tmp 70]) rfl ?_); at_builtin; refine Kd.R_append_rows k61 (w0 := w) w.heap.size rfl (.tmp 69) (.tmp 70) 43 61 (.agg #[.int .u8 0, .string nil8, .int .i64 0]) 32 rfl Tryd.underlying43 info_tok3 rfl (by decide) (by omega) _ (L.take k) M A' N' c' (fun _ => True) (fun _ => False) rfl rfl HO.out (Kd.C_below HM.out HB.out) (fun y cs hk => by rw [k61_open hk]; exact k61_mkM _ _ _ y) (fun _ hk => hk.elim) (fun _ _ => trivial) HB.out HB.out.size (by rw [TLL.out k (by omega)]; omega) ?_; intro v2 wb ho hb hg hat; rw [← HTT.out] at ho; obtain ⟨B, d, rfl, hd, hCC⟩ := Kd.R_reads ho; have HT := Aside0.mk hCC; have HD := Aside0.mk hd; have HB := Aside0.mk hb; clear ho hb hg hat hCC hd))
        (with_reducible refine (C5 _ _ _ HT.out HD.out (HL.out.l HB.out)).out.mono ?_)
        rintro e w8 ⟨v2, v3, rfl, hg, hb8⟩
        obtain ⟨B2, d2, B3, d3, rfl, rfl⟩ := hg.slices
        have HB := Aside0.mk (below_alloc (below_then HB.out HB.out.size hb8) (xC y B2 d2 B3 d3))
        clear hg hb8 C5
        rcases PE2.out with h9 | ⟨h9, h10⟩
        · subst h9
          go_wp2_with (first | ((with_reducible refine gate_builtin (b := .append) (xs := #[.tmp 90, .tmp 93]) rfl ?_); at_builtin; refine Kd.R_append_rows k61 (w0 := w) w.heap.size rfl (.tmp 90) (.tmp 93) 43 61 (.agg #[.int .u8 0, .string nil8, .int .i64 0]) 32 rfl Tryd.underlying43 info_tok3 rfl (by decide) (by omega) (.slice (some ⟨_, 0, none⟩) 0 0) ([] : List Tok) (L.take j) _ j c (fun _ => True) (fun _ => False) rfl rfl ⟨fun _ _ => trivial, own_lit0 _ _ HB.out.size _ (by first | rfl | exact (Array.size_push ..).symm)⟩ (Kd.C_below (TC0.out j (by omega)) (below_alloc HB.out _)) (fun y cs hk => by rw [k61_open hk]; exact k61_mkM _ _ _ y) (fun _ hk => hk.elim) (fun _ _ => trivial) (below_alloc HB.out _) (below_alloc HB.out _).size (by rw [List.length_nil]; omega) ?_; intro v1 wa ho hb hg hat; rw [List.nil_append] at ho; have HO := Aside0.mk ho; have HB := Aside0.mk hb; clear ho hb hg hat) | ((with_reducible refine gate_builtin (b := .append) (xs := #[.tmp 94, .tmp 95]) rfl ?_); at_builtin; refine Kd.R_append_rows k61 (w0 := w) w.heap.size rfl (.tmp 94) (.tmp 95) 43 61 (.agg #[.int .u8 0, .string nil8, .int .i64 0]) 32 rfl Tryd.underlying43 info_tok3 rfl (by decide) (by omega) _ (L.take j) M A' N' c' (fun _ => True) (fun _ => False) rfl rfl HO.out (Kd.C_below HM.out HB.out) (fun y cs hk => by rw [k61_open hk]; exact k61_mkM _ _ _ y) (fun _ hk => hk.elim) (fun _ _ => trivial) HB.out HB.out.size (by rw [TLL.out j (by omega)]; omega) ?_; intro v2 wb ho hb hg hat; rw [← HU.out] at ho; obtain ⟨B, d, rfl, hd, hCC⟩ := Kd.R_reads ho; have HT := Aside0.mk hCC; have HD := Aside0.mk hd; have HB := Aside0.mk hb; clear ho hb hg hat hCC hd))
          (with_reducible refine (C6 _ _ _ HT.out HD.out (HL.out.l HB.out)).out.mono ?_)
          rintro e w9 ⟨vN, vM, v2, v3, rfl, hg, hb9⟩
          obtain ⟨F0, i0, j0, F1, i1, j1, F2, i2, j2, F3, i3, j3, rfl, rfl, rfl, rfl⟩ := hg.slices
          have HB := Aside0.mk (below_alloc (below_then HB.out HB.out.size hb9) (qC y' (.slice F0 i0 j0) (.slice F1 i1 j1) (.slice F2 i2 j2) (.slice F3 i3 j3)))
          clear hg hb9 C6
          rcases PC2.out with h9 | ⟨h9, h10⟩
          · subst h9
            go_wp2_with fail
            (with_reducible refine (CW _ (HL.out.l HB.out)).out.mono ?_)
            rintro e wz ⟨rfl, hbz⟩
            have HB := Aside0.mk (below_then HB.out HB.out.size hbz)
            go_wp2
            go_ret
            exact ⟨rfl, HB.out⟩
          · have u1 : (f2 != 0) = true := bne_iff_ne.2 h9
            have u2 : ¬ (bq < (j : Int)) := by omega
            have u3 : decide (bq < (j : Int)) = false := decide_eq_false u2
            clear h9 h10
            go_wp2_with fail
            (with_reducible refine (CW _ (HL.out.l HB.out)).out.mono ?_)
            rintro e wz ⟨rfl, hbz⟩
            have HB := Aside0.mk (below_then HB.out HB.out.size hbz)
            go_wp2
            go_ret
            exact ⟨rfl, HB.out⟩
        · have s1 : (g != 0) = true := bne_iff_ne.2 h9
          have s2 : ¬ (b < (k : Int)) := by omega
          have s3 : decide (b < (k : Int)) = false := decide_eq_false s2
          clear h9 h10
          go_wp2_with (first | ((with_reducible refine gate_builtin (b := .append) (xs := #[.tmp 90, .tmp 93]) rfl ?_); at_builtin; refine Kd.R_append_rows k61 (w0 := w) w.heap.size rfl (.tmp 90) (.tmp 93) 43 61 (.agg #[.int .u8 0, .string nil8, .int .i64 0]) 32 rfl Tryd.underlying43 info_tok3 rfl (by decide) (by omega) (.slice (some ⟨_, 0, none⟩) 0 0) ([] : List Tok) (L.take j) _ j c (fun _ => True) (fun _ => False) rfl rfl ⟨fun _ _ => trivial, own_lit0 _ _ HB.out.size _ (by first | rfl | exact (Array.size_push ..).symm)⟩ (Kd.C_below (TC0.out j (by omega)) (below_alloc HB.out _)) (fun y cs hk => by rw [k61_open hk]; exact k61_mkM _ _ _ y) (fun _ hk => hk.elim) (fun _ _ => trivial) (below_alloc HB.out _) (below_alloc HB.out _).size (by rw [List.length_nil]; omega) ?_; intro v1 wa ho hb hg hat; rw [List.nil_append] at ho; have HO := Aside0.mk ho; have HB := Aside0.mk hb; clear ho hb hg hat) | ((with_reducible refine gate_builtin (b := .append) (xs := #[.tmp 94, .tmp 95]) rfl ?_); at_builtin; refine Kd.R_append_rows k61 (w0 := w) w.heap.size rfl (.tmp 94) (.tmp 95) 43 61 (.agg #[.int .u8 0, .string nil8, .int .i64 0]) 32 rfl Tryd.underlying43 info_tok3 rfl (by decide) (by omega) _ (L.take j) M A' N' c' (fun _ => True) (fun _ => False) rfl rfl HO.out (Kd.C_below HM.out HB.out) (fun y cs hk => by rw [k61_open hk]; exact k61_mkM _ _ _ y) (fun _ hk => hk.elim) (fun _ _ => trivial) HB.out HB.out.size (by rw [TLL.out j (by omega)]; omega) ?_; intro v2 wb ho hb hg hat; rw [← HU.out] at ho; obtain ⟨B, d, rfl, hd, hCC⟩ := Kd.R_reads ho; have HT := Aside0.mk hCC; have HD := Aside0.mk hd; have HB := Aside0.mk hb; clear ho hb hg hat hCC hd))
          (with_reducible refine (C6 _ _ _ HT.out HD.out (HL.out.l HB.out)).out.mono ?_)
          rintro e w9 ⟨vN, vM, v2, v3, rfl, hg, hb9⟩
          obtain ⟨F0, i0, j0, F1, i1, j1, F2, i2, j2, F3, i3, j3, rfl, rfl, rfl, rfl⟩ := hg.slices
          have HB := Aside0.mk (below_alloc (below_then HB.out HB.out.size hb9) (qC y' (.slice F0 i0 j0) (.slice F1 i1 j1) (.slice F2 i2 j2) (.slice F3 i3 j3)))
          clear hg hb9 C6
          rcases PC2.out with h9 | ⟨h9, h10⟩
          · subst h9
            go_wp2_with fail
            (with_reducible refine (CW _ (HL.out.l HB.out)).out.mono ?_)
            rintro e wz ⟨rfl, hbz⟩
            have HB := Aside0.mk (below_then HB.out HB.out.size hbz)
            go_wp2
            go_ret
            exact ⟨rfl, HB.out⟩
          · have u1 : (f2 != 0) = true := bne_iff_ne.2 h9
            have u2 : ¬ (bq < (j : Int)) := by omega
            have u3 : decide (bq < (j : Int)) = false := decide_eq_false u2
            clear h9 h10
            go_wp2_with fail
            (with_reducible refine (CW _ (HL.out.l HB.out)).out.mono ?_)
            rintro e wz ⟨rfl, hbz⟩
            have HB := Aside0.mk (below_then HB.out HB.out.size hbz)
            go_wp2
            go_ret
            exact ⟨rfl, HB.out⟩
end Go.Proofs.YtjeofffddbibeaaDoor.Pa
end

section
namespace Go.Proofs.YtjeofffddbibeaaDoor.PLaid
open Go Go.ChangeShapes Go.WideShapes Go.ChangeAt Go.RowKit Go.Proofs.YtjeofffddbibeaaDoor.PParseTells Go.Proofs.YtjeofffddbibeaaDoorW.PrintWords Go.Proofs.YtjeofffddbibeaaDoorW.PrintLast Go.Proofs.YtjeofffddbibeaaDoorW.PrintMore
set_option linter.unusedVariables false
theorem own : ownKnob Tryd.prog.godebug = none := by kernel_rfl
abbrev laidL : List (String × DataW Unit) := [("unicode.White_Space", Rows.laid_unicode_White_Space), ("strings.asciiSpace", Rows.laid_strings_asciiSpace)]
theorem gSpace : Tryd.prog.globalNamed "strings.asciiSpace" = some 0 := by kernel_rfl
theorem tSpace : (Tryd.prog.globals[0]?).map (·.type) = some 116 := by kernel_rfl
set_option maxRecDepth 100000 in
theorem door_met (os : Os) (args : Array Value) : laidMetH Tryd.prog laidL ((World.laidAll Tryd.prog os laidL).forCall (fun _ _ => 0) ⟨#[], args, []⟩).memory := by
  rw [MakeChecks.laidMetH_plain _ _ _ (by kernel_rfl)]
  exact laidMet_laidAll _ (by kernel_rfl) (by kernel_rfl)
theorem spaceData : (Rows.laid_strings_asciiSpace : DataW Unit) = Lib.tabData .u8 Lib.asciiSpaceTab := by kernel_rfl
set_option maxRecDepth 100000 in
theorem cal_of {W : World} (h : laidMetH Tryd.prog laidL W) (hs : W.ShapedOpen Tryd.prog) : Pa.Cal W := by
  rw [MakeChecks.laidMetH_plain _ _ _ (by kernel_rfl)] at h
  obtain ⟨ps, hv, _⟩ := h
  obtain ⟨_, _, _, _, _, q1, _, _, _, _, hv, _⟩ := hv
  obtain ⟨g3, t3, cs3, f3, p3, q3, hg3, ht3, hv3, hd3, _, _⟩ := hv
  refine ⟨?_, ?_⟩
  · obtain rfl := Option.some.inj (gSpace.symm.trans hg3)
    obtain rfl := Option.some.inj (tSpace.symm.trans ht3)
    unfold Lib.TabIs
    rw [spaceData] at hd3
    rw [hv3, ← Lib.cells_of_tab Tryd.underlying116 Tryd.underlying5 (by kernel_rfl) (by kernel_rfl) hd3]
  · exact cell_of_shapedOpen_int (P := Tryd.prog) (g := 2) (t := 3) (zero := #[.int .i64 0]) hs (of_decide_eq_true (by kernel_rfl)) (by kernel_rfl) rfl (by kernel_rfl) (by kernel_rfl) Tryd.underlying3
theorem cells_tok : Tryd.prog.cellsOf 61 = 3 := by kernel_rfl
theorem cells_byte : Tryd.prog.cellsOf 5 = 1 := by kernel_rfl
theorem cells_int64 : Tryd.prog.cellsOf 2 = 1 := by kernel_rfl
theorem cells_str : Tryd.prog.cellsOf 9 = 1 := by kernel_rfl
section
variable {H : Type} {enc : TypeId × Value → H} {w : World} {base : Nat}
set_option maxRecDepth 100000 in
theorem tok_of_trod {fuel : Nat} {cs : List Value} {y : DataW H × List MemPlace} (h : DataW.trod enc Tryd.prog w base (fun _ => true) true fuel 61 cs = some y) : ∃ t : S61, cs = [.int .u8 t.f0, .string t.f1, .int .i64 t.f2] := by
  obtain ⟨xs, n, rfl, rfl, hlen, hsz, hall⟩ := DataW.trod_struct Tryd.underlying61 h
  rw [cells_tok] at hlen
  match cs, hlen with
  | [v0, v1, v2], _ =>
  match xs, hsz with
  | [y0, y1, y2], _ =>
  have e0 : DataW.trod enc Tryd.prog w base (fun _ => true) true n 5 (([v0, v1, v2].drop 0).take (Tryd.prog.cellsOf 5)) = some y0 := hall 0 _ rfl
  have e1 : DataW.trod enc Tryd.prog w base (fun _ => true) true n 9 (([v0, v1, v2].drop 1).take (Tryd.prog.cellsOf 9)) = some y1 := hall 1 _ rfl
  have e2 : DataW.trod enc Tryd.prog w base (fun _ => true) true n 2 (([v0, v1, v2].drop 2).take (Tryd.prog.cellsOf 2)) = some y2 := hall 2 _ rfl
  rw [cells_byte] at e0
  rw [cells_str] at e1
  rw [cells_int64] at e2
  obtain ⟨o, h0, rfl, hw0⟩ := DataW.trod_int Tryd.underlying5 e0
  obtain ⟨s, h1, rfl, hs⟩ := DataW.trod_string Tryd.underlying9 e1
  obtain ⟨n2, h2, rfl, hw2⟩ := DataW.trod_int Tryd.underlying2 e2
  obtain rfl : v0 = .int .u8 o := by simpa using h0
  obtain rfl : v1 = .string s := by simpa using h1
  obtain rfl : v2 = .int .i64 n2 := by simpa using h2
  exact ⟨⟨o, s, n2⟩, rfl⟩
set_option maxRecDepth 100000 in
/-- Words that came in. -/
theorem toks_of_trod {fuel : Nat} {cs : List Value} {y : DataW H × List MemPlace} (h : DataW.trod enc Tryd.prog w base (fun _ => true) true fuel 43 cs = some y) :
    ∃ A c, ∃ L : List S61, cs = [.slice A L.length c] ∧ L.length ≤ c ∧ Kd.C k61 w A L.length L := by
  rcases DataW.trod_slice Tryd.underlying43 h with ⟨h3, rfl⟩ | ⟨a, len, cap, elems, rest, n', rfl, h3, rfl, hb, hl, hm, hle, hel, _, _⟩
  · exact ⟨none, 0, [], h3, Nat.le_refl 0, Kd.C_nil _ _⟩
  · rw [cells_tok] at hel
    have each : ∀ i, i < len → ∃ t : S61, w.cells? base (a.add (i * 3)) 3 = some [.int .u8 t.f0, .string t.f1, .int .i64 t.f2] := by
      intro i hi
      have h1 := hel i (by omega)
      rw [List.getElem?_eq_getElem (by omega)] at h1
      obtain ⟨cs', h2, h4⟩ := Option.bind_eq_some_iff.1 h1
      obtain ⟨t, rfl⟩ := tok_of_trod h4
      exact ⟨t, h2⟩
    have rows : ∀ k, k ≤ len → ∃ L : List S61, L.length = k ∧ ∀ i, ∀ hi : i < L.length, w.cells? base (a.add (i * 3)) 3 = some [.int .u8 L[i].f0, .string L[i].f1, .int .i64 L[i].f2] := by
      intro k
      induction k with
      | zero => intro _; exact ⟨[], rfl, fun i hi => by simp at hi⟩
      | succ k ihk =>
        intro hk
        obtain ⟨L, hL, hy⟩ := ihk (by omega)
        obtain ⟨t, ht⟩ := each k (by omega)
        refine ⟨L ++ [t], by simp [hL], fun i hi => ?_⟩
        rw [List.length_append] at hi
        simp only [List.length_cons, List.length_nil] at hi
        by_cases hik : i < L.length
        · rw [List.getElem_append_left hik]
          exact hy i hik
        · obtain rfl : i = L.length := by omega
          rw [List.getElem_concat_length rfl]
          rw [hL]
          exact ht
    obtain ⟨L, hL, hy⟩ := rows len (Nat.le_refl _)
    subst hL
    refine ⟨some a, cap, L, h3, hl, rfl, by show L.length ≤ 9223372036854775807; unfold maxLen at hm; omega, fun _ => ⟨a, rfl, ?_⟩⟩
    intro j p hj
    obtain ⟨hjl, rfl⟩ := List.getElem?_eq_some_iff.1 hj
    have hc := hy j hjl
    refine ⟨_, rfl, k61_mk w L[j], ?_⟩
    intro i u hu
    obtain ⟨_, hl4, hcell⟩ := World.cells?_some hc
    have hi : i < 3 := by
      have := (List.getElem?_eq_some_iff.1 hu).1
      simpa using this
    have h5 := hcell i hi
    rw [hu] at h5
    have h6 : (a.add (j * 3)).add i = a.add (j * 3 + i) := by first | exact Addr.add_add a _ _ | exact Go.Addr.add_add a _ _ | (unfold Addr.add; repeat' split <;> simp_all <;> omega)
    rw [h6] at h5
    exact h5
end
end Go.Proofs.YtjeofffddbibeaaDoor.PLaid
end
