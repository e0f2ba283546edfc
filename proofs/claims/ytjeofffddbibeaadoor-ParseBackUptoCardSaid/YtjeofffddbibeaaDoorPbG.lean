/-
  Part 7 of what the row stands on, put together by a program: Awb, Tel, Bkw, Has, PLaid.
-/
import Derived.LaidMore
import Derived.Lay
import Derived.OpenShut
import Derived.ProofKit
import Derived.Shelf.Vars
import Derived.Stop.Joined
import Derived.Test.YtjeofffddbibeaaDoorRows
import Derived.Test.YtjeofffddbibeaaDoorPbF
section
namespace Go.Proofs.YtjeofffddbibeaaDoor.Pa
open Go Go.RowKit Go.Proofs.YtjeofffddbibeaaDoor.PParseTells Go.Proofs.YtjeofffddbibeaaDoor.Ex Go.Proofs.YtjeofffddbibeaaDoorW.PrintWords Go.Proofs.YtjeofffddbibeaaDoorW.PrintLast Go.Proofs.YtjeofffddbibeaaDoorW.PrintMore
set_option linter.unusedVariables false
set_option linter.unusedSimpArgs false
structure AwF (w W : World) (b1 b2 b5 b8 b6 : Nat) (A2 : Option Addr) (c2 : Nat) (A3 : Option Addr) (c3 : Nat) (B2 : Option Addr) (d2 : Nat) (B3 : Option Addr) (d3 : Nat) (s1 s2 : Nat) : Prop where
  bx1 : Bx b1 ⟨0, ⟨#[100, 97, 121]⟩, [], []⟩ none 0 none 0 W
  bx2 : Bx b2 ⟨1, nil8, [3], [⟨0, ⟨#[100, 97, 121]⟩, [], []⟩]⟩ A2 c2 A3 c3 W
  bx5 : Bx b5 ⟨10, nil8, [], [⟨0, ⟨#[97]⟩, [], []⟩, ⟨2, nil8, [-1], [⟨0, ⟨#[98]⟩, [], []⟩]⟩]⟩ B2 d2 B3 d3 W
  bx8 : Bx b8 ⟨10, nil8, [], [⟨0, ⟨#[97]⟩, [], []⟩, ⟨2, nil8, [-1], [⟨0, ⟨#[98]⟩, [], []⟩]⟩]⟩ none 0 (some ⟨b6, 0, none⟩) 2 W
  r3 : W.heap[s1]? = some (.cells #[.int .i64 3] 2 (0, 0))
  rd : W.heap[s2]? = some (.cells #[.int .u8 0, .string ⟨#[100, 97, 121]⟩, .slice none 0 0, .slice none 0 0] TX (0, 0))
  hb : Below w.heap.size w W
theorem blk_on {W W2 : World} {k : Nat} {o : Obj} (hb : Below W.heap.size W W2) (h : W.heap[k]? = some o) : W2.heap[k]? = some o := (hb.block k (blk_lt h)).trans h
abbrev xDay : X := ⟨0, ⟨#[100, 97, 121]⟩, [], []⟩
abbrev xA : X := ⟨0, ⟨#[97]⟩, [], []⟩
abbrev xB : X := ⟨0, ⟨#[98]⟩, [], []⟩
abbrev xSh : X := ⟨2, nil8, [-1], [xB]⟩
abbrev xOne : X := ⟨1, nil8, [3], [xDay]⟩
abbrev xTwo : X := ⟨10, nil8, [], [xA, xSh]⟩
set_option maxHeartbeats 16000000 in
set_option maxRecDepth 100000 in
theorem awake_calls (w : World) (hL : Cal w) : Calls Tryd.prog 31 #[] w fun e w' => e = .returned (.bool true) ∧ Below w.heap.size w w' := by
  have HL := Aside0.mk hL
  clear hL
  go_enter Tryd.func31, Tryd.ntmps31
  go_wp2_with fail
  (with_reducible refine (Named_to ⟨#[100, 97, 121]⟩ _).mono ?_)
  rintro e w1 ⟨rfl, hb1⟩
  have HB := Aside0.mk (below_alloc hb1 (.cells #[.int .u8 xDay.f0, .string xDay.f1, .slice none xDay.f2.length 0, .slice none xDay.f3.length 0] TX))
  have bx1 := Aside0.mk (Bx.new (K_named w1 ⟨#[100, 97, 121]⟩))
  clear hb1
  go_wp2_with fail
  (with_reducible refine (lineE _ _ _ _ ex1_w ex1_p _ ?c1).mono ?_)
  case c1 => exact HL.out.l HB.out
  rintro e w2 ⟨A2, c2, A3, c3, rfl, hk2, hb2⟩
  have bx1 := Aside0.mk (bx1.out.later hb2)
  have HB := Aside0.mk (below_then HB.out HB.out.size hb2)
  have bx2 := Aside0.mk (Bx.new hk2)
  have bx1 := Aside0.mk (bx1.out.later (below_alloc (Below.refl _ _) (.cells #[.int .u8 xOne.f0, .string xOne.f1, .slice A2 xOne.f2.length c2, .slice A3 xOne.f3.length c3] TX)))
  have HB := Aside0.mk (below_alloc HB.out (.cells #[.int .u8 xOne.f0, .string xOne.f1, .slice A2 xOne.f2.length c2, .slice A3 xOne.f3.length c3] TX))
  clear hk2 hb2
  go_wp2_with fail
  (with_reducible refine (lineE _ _ _ _ ex2_w ex2_p _ ?c2).mono ?_)
  case c2 => exact HL.out.l HB.out
  rintro e w3 ⟨B2, d2, B3, d3, rfl, hk3, hb3⟩
  have bx1 := Aside0.mk (bx1.out.later hb3)
  have bx2 := Aside0.mk (bx2.out.later hb3)
  have HB := Aside0.mk (below_then HB.out HB.out.size hb3)
  have bx5 := Aside0.mk (Bx.new hk3)
  have bx1 := Aside0.mk (bx1.out.later (below_alloc (Below.refl _ _) (.cells #[.int .u8 xTwo.f0, .string xTwo.f1, .slice B2 xTwo.f2.length d2, .slice B3 xTwo.f3.length d3] TX)))
  have bx2 := Aside0.mk (bx2.out.later (below_alloc (Below.refl _ _) (.cells #[.int .u8 xTwo.f0, .string xTwo.f1, .slice B2 xTwo.f2.length d2, .slice B3 xTwo.f3.length d3] TX)))
  have HB := Aside0.mk (below_alloc HB.out (.cells #[.int .u8 xTwo.f0, .string xTwo.f1, .slice B2 xTwo.f2.length d2, .slice B3 xTwo.f3.length d3] TX))
  clear hk3 hb3
  go_wp2_with fail
  (with_reducible refine (Named_to ⟨#[97]⟩ _).mono ?_)
  rintro e w4 ⟨rfl, hb4⟩
  have bx1 := Aside0.mk (bx1.out.later hb4)
  have bx2 := Aside0.mk (bx2.out.later hb4)
  have bx5 := Aside0.mk (bx5.out.later hb4)
  have HB := Aside0.mk (below_alloc (below_then HB.out HB.out.size hb4) (.cells #[.int .i64 (-1)] 2))
  have r1 := Aside0.mk (blk_new w4 (.cells #[.int .i64 (-1)] 2))
  clear hb4
  have bx1 := Aside0.mk (bx1.out.later (below_alloc (Below.refl _ _) (.cells #[.int .i64 (-1)] 2)))
  have bx2 := Aside0.mk (bx2.out.later (below_alloc (Below.refl _ _) (.cells #[.int .i64 (-1)] 2)))
  have bx5 := Aside0.mk (bx5.out.later (below_alloc (Below.refl _ _) (.cells #[.int .i64 (-1)] 2)))
  go_wp2_with fail
  (with_reducible refine (Named_to ⟨#[98]⟩ _).mono ?_)
  rintro e w5 ⟨rfl, hb5⟩
  have bx1 := Aside0.mk (bx1.out.later hb5)
  have bx2 := Aside0.mk (bx2.out.later hb5)
  have bx5 := Aside0.mk (bx5.out.later hb5)
  have r1 := Aside0.mk (blk_alloc (blk_on hb5 r1.out) (.cells #[.int .u8 0, .string ⟨#[98]⟩, .slice none 0 0, .slice none 0 0] TX))
  have rb := Aside0.mk (blk_new w5 (.cells #[.int .u8 0, .string ⟨#[98]⟩, .slice none 0 0, .slice none 0 0] TX))
  have HB := Aside0.mk (below_alloc (below_then HB.out HB.out.size hb5) (.cells #[.int .u8 0, .string ⟨#[98]⟩, .slice none 0 0, .slice none 0 0] TX))
  clear hb5
  have bx1 := Aside0.mk (bx1.out.later (below_alloc (Below.refl _ _) (.cells #[.int .u8 0, .string ⟨#[98]⟩, .slice none 0 0, .slice none 0 0] TX)))
  have bx2 := Aside0.mk (bx2.out.later (below_alloc (Below.refl _ _) (.cells #[.int .u8 0, .string ⟨#[98]⟩, .slice none 0 0, .slice none 0 0] TX)))
  have bx5 := Aside0.mk (bx5.out.later (below_alloc (Below.refl _ _) (.cells #[.int .u8 0, .string ⟨#[98]⟩, .slice none 0 0, .slice none 0 0] TX)))
  go_wp2_with fail
  (with_reducible refine (Made_to 2 _ 1 1 _ 1 1 _).mono ?_)
  rintro e w6 ⟨rfl, hb6⟩
  have bx1 := Aside0.mk (bx1.out.later hb6)
  have bx2 := Aside0.mk (bx2.out.later hb6)
  have bx5 := Aside0.mk (bx5.out.later hb6)
  have hsh := k25_mk w6 xSh (A2 := some ⟨w4.heap.size, 0, none⟩) (c2 := 1) (A3 := some ⟨w5.heap.size, 0, none⟩) (c3 := 1) (Nat.le_refl 1) (rowI (blk_on hb6 r1.out)) (Nat.le_refl 1) (rowX1 (K_named w6 _) (blk_on hb6 rb.out))
  have HSH := Aside0.mk hsh
  have rab := Aside0.mk (blk_new w6 (.cells #[.int .u8 0, .string ⟨#[97]⟩, .slice none 0 0, .slice none 0 0, .int .u8 2, .string nil8, .slice (some ⟨w4.heap.size, 0, none⟩) 1 1, .slice (some ⟨w5.heap.size, 0, none⟩) 1 1] TX))
  have HB := Aside0.mk (below_alloc (below_then HB.out HB.out.size hb6) (.cells #[.int .u8 0, .string ⟨#[97]⟩, .slice none 0 0, .slice none 0 0, .int .u8 2, .string nil8, .slice (some ⟨w4.heap.size, 0, none⟩) 1 1, .slice (some ⟨w5.heap.size, 0, none⟩) 1 1] TX))
  clear hb6 hsh r1 rb
  have bx1 := Aside0.mk (bx1.out.later (below_alloc (Below.refl _ _) (.cells #[.int .u8 0, .string ⟨#[97]⟩, .slice none 0 0, .slice none 0 0, .int .u8 2, .string nil8, .slice (some ⟨w4.heap.size, 0, none⟩) 1 1, .slice (some ⟨w5.heap.size, 0, none⟩) 1 1] TX)))
  have bx2 := Aside0.mk (bx2.out.later (below_alloc (Below.refl _ _) (.cells #[.int .u8 0, .string ⟨#[97]⟩, .slice none 0 0, .slice none 0 0, .int .u8 2, .string nil8, .slice (some ⟨w4.heap.size, 0, none⟩) 1 1, .slice (some ⟨w5.heap.size, 0, none⟩) 1 1] TX)))
  have bx5 := Aside0.mk (bx5.out.later (below_alloc (Below.refl _ _) (.cells #[.int .u8 0, .string ⟨#[97]⟩, .slice none 0 0, .slice none 0 0, .int .u8 2, .string nil8, .slice (some ⟨w4.heap.size, 0, none⟩) 1 1, .slice (some ⟨w5.heap.size, 0, none⟩) 1 1] TX)))
  go_wp2_with fail
  (with_reducible refine (Made_to 10 none 0 0 _ 2 2 _).mono ?_)
  rintro e w7 ⟨rfl, hb7⟩
  have bx1 := Aside0.mk (bx1.out.later hb7)
  have bx2 := Aside0.mk (bx2.out.later hb7)
  have bx5 := Aside0.mk (bx5.out.later hb7)
  have hwt := k25_mk w7 xTwo (A2 := none) (c2 := 0) (A3 := some ⟨w6.heap.size, 0, none⟩) (c3 := 2) (Nat.le_refl 0) (Kd.C_nil _ _) (Nat.le_refl 2) (rowX2 (K_named w7 _) (kX.K_below hb7 (kX.K_below (below_alloc (Below.refl _ _) (.cells #[.int .u8 0, .string ⟨#[97]⟩, .slice none 0 0, .slice none 0 0, .int .u8 2, .string nil8, .slice (some ⟨w4.heap.size, 0, none⟩) 1 1, .slice (some ⟨w5.heap.size, 0, none⟩) 1 1] TX)) HSH.out)) (blk_on hb7 rab.out))
  have bx8 := Aside0.mk (Bx.new hwt)
  have HB := Aside0.mk (below_alloc (below_then HB.out HB.out.size hb7) (.cells #[.int .u8 xTwo.f0, .string xTwo.f1, .slice none xTwo.f2.length 0, .slice (some ⟨w6.heap.size, 0, none⟩) xTwo.f3.length 2] TX))
  have bx1 := Aside0.mk (bx1.out.later (below_alloc (Below.refl _ _) (.cells #[.int .u8 xTwo.f0, .string xTwo.f1, .slice none xTwo.f2.length 0, .slice (some ⟨w6.heap.size, 0, none⟩) xTwo.f3.length 2] TX)))
  have bx2 := Aside0.mk (bx2.out.later (below_alloc (Below.refl _ _) (.cells #[.int .u8 xTwo.f0, .string xTwo.f1, .slice none xTwo.f2.length 0, .slice (some ⟨w6.heap.size, 0, none⟩) xTwo.f3.length 2] TX)))
  have bx5 := Aside0.mk (bx5.out.later (below_alloc (Below.refl _ _) (.cells #[.int .u8 xTwo.f0, .string xTwo.f1, .slice none xTwo.f2.length 0, .slice (some ⟨w6.heap.size, 0, none⟩) xTwo.f3.length 2] TX)))
  clear hb7 hwt HSH rab
  go_wp2_with fail
  obtain ⟨w8, hw8⟩ : ∃ w8, w8 = w7.alloc (.cells #[.int .u8 10, .string ⟨#[]⟩, .slice none 0 0, .slice (some ⟨w6.heap.size, 0, none⟩) 2 2] 25) := ⟨_, rfl⟩
  rw [← hw8]
  have bx1 := Aside0.mk (show Bx w1.heap.size xDay none 0 none 0 w8 by rw [hw8]; exact bx1.out)
  have bx2 := Aside0.mk (show Bx w2.heap.size xOne A2 c2 A3 c3 w8 by rw [hw8]; exact bx2.out)
  have bx5 := Aside0.mk (show Bx w3.heap.size xTwo B2 d2 B3 d3 w8 by rw [hw8]; exact bx5.out)
  have bx8 := Aside0.mk (show Bx w7.heap.size xTwo none 0 (some ⟨w6.heap.size, 0, none⟩) 2 w8 by rw [hw8]; exact bx8.out)
  have HB := Aside0.mk (show Below w.heap.size w w8 by rw [hw8]; exact HB.out)
  clear hw8
  refine start_ (n := 29) (S := fun w' => w'.cell? ⟨w1.heap.size, 0, none⟩ = some (.int .u8 0) ∧ w'.cell? ⟨w1.heap.size, 1, none⟩ = some (.string ⟨#[100, 97, 121]⟩) ∧ w'.cell? ⟨w1.heap.size, 2, none⟩ = some (.slice none 0 0) ∧ w'.cell? ⟨w1.heap.size, 3, none⟩ = some (.slice none 0 0) ∧ w'.cell? ⟨w2.heap.size, 0, none⟩ = some (.int .u8 1) ∧ w'.cell? ⟨w2.heap.size, 1, none⟩ = some (.string nil8) ∧ w'.cell? ⟨w2.heap.size, 2, none⟩ = some (.slice A2 1 c2) ∧ w'.cell? ⟨w2.heap.size, 3, none⟩ = some (.slice A3 1 c3) ∧ w'.cell? ⟨w3.heap.size, 0, none⟩ = some (.int .u8 10) ∧ w'.cell? ⟨w3.heap.size, 1, none⟩ = some (.string nil8) ∧ w'.cell? ⟨w3.heap.size, 2, none⟩ = some (.slice B2 0 d2) ∧ w'.cell? ⟨w3.heap.size, 3, none⟩ = some (.slice B3 2 d3) ∧ w'.cell? ⟨w7.heap.size, 0, none⟩ = some (.int .u8 10) ∧ w'.cell? ⟨w7.heap.size, 1, none⟩ = some (.string nil8) ∧ w'.cell? ⟨w7.heap.size, 2, none⟩ = some (.slice none 0 0) ∧ w'.cell? ⟨w7.heap.size, 3, none⟩ = some (.slice (some ⟨w6.heap.size, 0, none⟩) 2 2)) (ds := []) #[false, false, false, false, false, false, false, false, false, false, false, false, false, false, false, false, false, false, false, false, false, false, false, false, false, false, false, false, false] (by kernel_rfl) rfl rfl ⟨bx1.out.q0, bx1.out.q1, bx1.out.q2, bx1.out.q3, bx2.out.q0, bx2.out.q1, bx2.out.q2, bx2.out.q3, bx5.out.q0, bx5.out.q1, bx5.out.q2, bx5.out.q3, bx8.out.q0, bx8.out.q1, bx8.out.q2, bx8.out.q3⟩ (fun hHeld => ?_)
  refine pure_ (i := 0) (N := some 47) (v := ?_) (a' := ?_) #[true, false, false, false, false, false, false, false, false, false, false, false, false, false, false, false, false, false, false, false, false, false, false, false, false, false, false, false, false] rfl rfl (by kernel_rfl) (fun _ _ _ h => h) (Or.inl ⟨by rfl, ?_⟩) ?_ ?_
  rotate_left
  · intro w'
    go_simp
    with_reducible rfl
  rotate_left
  · simp only [Act.put, List.setIfInBounds_toArray, List.set_cons_zero, List.set_cons_succ, i64_w, i32_w]
    rfl
  refine pure_ (i := 1) (N := some 48) (v := ?_) (a' := ?_) #[true, true, false, false, false, false, false, false, false, false, false, false, false, false, false, false, false, false, false, false, false, false, false, false, false, false, false, false, false] rfl rfl (by kernel_rfl) (fun _ _ _ h => h) (Or.inl ⟨by rfl, ?_⟩) ?_ ?_
  rotate_left
  · intro w'
    go_simp
    with_reducible rfl
  rotate_left
  · simp only [Act.put, List.setIfInBounds_toArray, List.set_cons_zero, List.set_cons_succ, i64_w, i32_w]
    rfl
  refine pure_ (i := 2) (N := some 49) (v := ?_) (a' := ?_) #[true, true, true, false, false, false, false, false, false, false, false, false, false, false, false, false, false, false, false, false, false, false, false, false, false, false, false, false, false] rfl rfl (by kernel_rfl) (fun _ _ _ h => h) (Or.inl ⟨by rfl, ?_⟩) ?_ ?_
  rotate_left
  · intro w'
    go_simp
    with_reducible rfl
  rotate_left
  · simp only [Act.put, List.setIfInBounds_toArray, List.set_cons_zero, List.set_cons_succ, i64_w, i32_w]
    rfl
  refine pure_ (i := 3) (N := some 50) (v := ?_) (a' := ?_) #[true, true, true, true, false, false, false, false, false, false, false, false, false, false, false, false, false, false, false, false, false, false, false, false, false, false, false, false, false] rfl rfl (by kernel_rfl) (fun _ _ _ h => h) (Or.inl ⟨by rfl, ?_⟩) ?_ ?_
  rotate_left
  · intro w'
    go_simp
    with_reducible rfl
  rotate_left
  · simp only [Act.put, List.setIfInBounds_toArray, List.set_cons_zero, List.set_cons_succ, i64_w, i32_w]
    rfl
  refine pure_ (i := 4) (N := some 51) (v := ?_) (a' := ?_) #[true, true, true, true, true, false, false, false, false, false, false, false, false, false, false, false, false, false, false, false, false, false, false, false, false, false, false, false, false] rfl rfl (by kernel_rfl) (fun _ _ _ h => h) (Or.inl ⟨by rfl, ?_⟩) ?_ ?_
  rotate_left
  · intro w'
    go_simp
    with_reducible rfl
  rotate_left
  · simp only [Act.put, List.setIfInBounds_toArray, List.set_cons_zero, List.set_cons_succ, i64_w, i32_w]
    rfl
  refine pure_ (i := 5) (N := some 52) (v := ?_) (a' := ?_) #[true, true, true, true, true, true, false, false, false, false, false, false, false, false, false, false, false, false, false, false, false, false, false, false, false, false, false, false, false] rfl rfl (by kernel_rfl) (fun _ _ _ h => h) (Or.inl ⟨by rfl, ?_⟩) ?_ ?_
  rotate_left
  · intro w'
    go_simp
    with_reducible rfl
  rotate_left
  · simp only [Act.put, List.setIfInBounds_toArray, List.set_cons_zero, List.set_cons_succ, i64_w, i32_w]
    rfl
  refine pure_ (i := 6) (N := some 53) (v := ?_) (a' := ?_) #[true, true, true, true, true, true, true, false, false, false, false, false, false, false, false, false, false, false, false, false, false, false, false, false, false, false, false, false, false] rfl rfl (by kernel_rfl) (fun _ _ _ h => h) (Or.inl ⟨by rfl, ?_⟩) ?_ ?_
  rotate_left
  · intro w'
    go_simp
    with_reducible rfl
  rotate_left
  · simp only [Act.put, List.setIfInBounds_toArray, List.set_cons_zero, List.set_cons_succ, i64_w, i32_w]
    rfl
  refine take_ (i := 7) (N := some 54) (v := ?_) (a' := ?_) #[true, true, true, true, true, true, true, true, false, false, false, false, false, false, false, false, false, false, false, false, false, false, false, false, false, false, false, false, false] rfl rfl (by kernel_rfl) (fun _ _ _ h => h) (Or.inl ⟨by rfl, ?_⟩) hHeld ?_ ?_
  rotate_left
  · rintro w' ⟨s0, s1, s2, s3, s4, s5, s6, s7, s8, s9, s10, s11, s12, s13, s14, s15⟩
    go_simp
    with_reducible rfl
  rotate_left
  · simp only [Act.put, List.setIfInBounds_toArray, List.set_cons_zero, List.set_cons_succ, i64_w, i32_w]
    rfl
  refine take_ (i := 9) (N := some 56) (v := ?_) (a' := ?_) #[true, true, true, true, true, true, true, true, false, true, false, false, false, false, false, false, false, false, false, false, false, false, false, false, false, false, false, false, false] rfl rfl (by kernel_rfl) (fun _ _ _ h => h) (Or.inl ⟨by rfl, ?_⟩) hHeld ?_ ?_
  rotate_left
  · rintro w' ⟨s0, s1, s2, s3, s4, s5, s6, s7, s8, s9, s10, s11, s12, s13, s14, s15⟩
    go_simp
    with_reducible rfl
  rotate_left
  · simp only [Act.put, List.setIfInBounds_toArray, List.set_cons_zero, List.set_cons_succ, i64_w, i32_w]
    rfl
  refine join_ (σ := Nat × Nat) 18 #[true, true, true, true, true, true, true, true, true, true, true, false, false, false, false, false, false, false, false, false, false, false, false, false, false, false, false, false, false] (fun s => [(55, .slice (some ⟨s.1, 0, none⟩) 1 1), (57, .slice (some ⟨s.2, 0, none⟩) 1 1)]) (fun s w' => AwF w w' w1.heap.size w2.heap.size w3.heap.size w7.heap.size w6.heap.size A2 c2 A3 c3 B2 d2 B3 d3 s.1 s.2) ?_ ?_
  rotate_left
  · intro hCont
    refine two_ (i := 8) (j := 10) (Ni := some 55) (Nj := some 57) #[true, true, true, true, true, true, true, true, true, true, false, false, false, false, false, false, false, false, false, false, false, false, false, false, false, false, false, false, false] #[true, true, true, true, true, true, true, true, false, true, true, false, false, false, false, false, false, false, false, false, false, false, false, false, false, false, false, false, false] rfl rfl rfl rfl (by kernel_rfl) (by decide) (by decide) (fun K hK => ?_) (fun K hK => ?_)
    · skip
      refine value_ (w1 := ?_) (v := ?_) (by rfl) rfl ?_ ?_
      rotate_left 2
      · go_simp
        constructor
        · rfl
        · rfl
      have bx1a := Aside0.mk (bx1.out.later (below_alloc (below_drew (Below.refl _ _)) (.cells #[.int .i64 3] 2)))
      have bx2a := Aside0.mk (bx2.out.later (below_alloc (below_drew (Below.refl _ _)) (.cells #[.int .i64 3] 2)))
      have bx5a := Aside0.mk (bx5.out.later (below_alloc (below_drew (Below.refl _ _)) (.cells #[.int .i64 3] 2)))
      have bx8a := Aside0.mk (bx8.out.later (below_alloc (below_drew (Below.refl _ _)) (.cells #[.int .i64 3] 2)))
      have r3 := Aside0.mk (show (w8.drew.alloc (.cells #[.int .i64 3] 2)).heap[w8.heap.size]? = some _ from blk_new w8.drew (.cells #[.int .i64 3] 2))
      refine hK.out _ _ ⟨bx1a.out.q0, bx1a.out.q1, bx1a.out.q2, bx1a.out.q3, bx2a.out.q0, bx2a.out.q1, bx2a.out.q2, bx2a.out.q3, bx5a.out.q0, bx5a.out.q1, bx5a.out.q2, bx5a.out.q3, bx8a.out.q0, bx8a.out.q1, bx8a.out.q2, bx8a.out.q3⟩ (fun hHeld => ?_)
      clear hK K
      refine norm_ (a' := ?_) ?_ ?_
      rotate_left
      · show Act.put _ (some 55) _ = _
        simp only [Act.put, List.setIfInBounds_toArray, List.set_cons_zero, List.set_cons_succ, i64_w, i32_w]
        rfl
      refine one_ (i := 10) (N := some 57) #[true, true, true, true, true, true, true, true, true, true, true, false, false, false, false, false, false, false, false, false, false, false, false, false, false, false, false, false, false] rfl rfl (by kernel_rfl) (by decide) (fun K hK => ?_)
      refine value_ (w1 := ?_) (v := ?_) (by rfl) rfl ?_ ?_
      rotate_left 2
      · go_simp
        constructor
        · rfl
        · rfl
      have bx1b := Aside0.mk (bx1a.out.later (below_alloc (Below.refl _ _) (.cells #[.int .u8 0, .string ⟨#[100, 97, 121]⟩, .slice none 0 0, .slice none 0 0] TX)))
      have bx2b := Aside0.mk (bx2a.out.later (below_alloc (Below.refl _ _) (.cells #[.int .u8 0, .string ⟨#[100, 97, 121]⟩, .slice none 0 0, .slice none 0 0] TX)))
      have bx5b := Aside0.mk (bx5a.out.later (below_alloc (Below.refl _ _) (.cells #[.int .u8 0, .string ⟨#[100, 97, 121]⟩, .slice none 0 0, .slice none 0 0] TX)))
      have bx8b := Aside0.mk (bx8a.out.later (below_alloc (Below.refl _ _) (.cells #[.int .u8 0, .string ⟨#[100, 97, 121]⟩, .slice none 0 0, .slice none 0 0] TX)))
      have r3 := Aside0.mk (blk_alloc r3.out (.cells #[.int .u8 0, .string ⟨#[100, 97, 121]⟩, .slice none 0 0, .slice none 0 0] TX))
      have hnew := blk_new (w8.drew.alloc (.cells #[.int .i64 3] 2)) (.cells #[.int .u8 0, .string ⟨#[100, 97, 121]⟩, .slice none 0 0, .slice none 0 0] TX)
      rw [show ((w8.drew.alloc (.cells #[.int .i64 3] 2))).heap.size = w8.heap.size + 1 from Array.size_push ..] at hnew
      have rd := Aside0.mk hnew
      clear hnew
      refine hK.out _ _ ⟨bx1b.out.q0, bx1b.out.q1, bx1b.out.q2, bx1b.out.q3, bx2b.out.q0, bx2b.out.q1, bx2b.out.q2, bx2b.out.q3, bx5b.out.q0, bx5b.out.q1, bx5b.out.q2, bx5b.out.q3, bx8b.out.q0, bx8b.out.q1, bx8b.out.q2, bx8b.out.q3⟩ (fun hHeld => ?_)
      clear hK K
      refine norm_ (a' := ?_) ?_ ?_
      rotate_left
      · show Act.put _ (some 57) _ = _
        simp only [Act.put, List.setIfInBounds_toArray, List.set_cons_zero, List.set_cons_succ, i64_w, i32_w]
        rfl
      exact norm_ (by first | rfl | (simp only [putAll, Act.put, List.setIfInBounds_toArray, List.set_cons_zero, List.set_cons_succ]; done) | (simp only [putAll, Act.put, List.setIfInBounds_toArray, List.set_cons_zero, List.set_cons_succ]; rfl)) (hCont ⟨_, _⟩ _ (show AwF w ((w8.drew.alloc (.cells #[.int .i64 3] 2)).alloc (.cells #[.int .u8 0, .string ⟨#[100, 97, 121]⟩, .slice none 0 0, .slice none 0 0] TX)) _ _ _ _ _ _ _ _ _ _ _ _ _ _ _ from ⟨bx1b.out, bx2b.out, bx5b.out, bx8b.out, r3.out, rd.out, below_alloc (below_alloc (below_drew HB.out) _) _⟩))
    · skip
      refine value_ (w1 := ?_) (v := ?_) (by rfl) rfl ?_ ?_
      rotate_left 2
      · go_simp
        constructor
        · rfl
        · rfl
      have bx1a := Aside0.mk (bx1.out.later (below_alloc (below_drew (Below.refl _ _)) (.cells #[.int .u8 0, .string ⟨#[100, 97, 121]⟩, .slice none 0 0, .slice none 0 0] TX)))
      have bx2a := Aside0.mk (bx2.out.later (below_alloc (below_drew (Below.refl _ _)) (.cells #[.int .u8 0, .string ⟨#[100, 97, 121]⟩, .slice none 0 0, .slice none 0 0] TX)))
      have bx5a := Aside0.mk (bx5.out.later (below_alloc (below_drew (Below.refl _ _)) (.cells #[.int .u8 0, .string ⟨#[100, 97, 121]⟩, .slice none 0 0, .slice none 0 0] TX)))
      have bx8a := Aside0.mk (bx8.out.later (below_alloc (below_drew (Below.refl _ _)) (.cells #[.int .u8 0, .string ⟨#[100, 97, 121]⟩, .slice none 0 0, .slice none 0 0] TX)))
      have rd := Aside0.mk (show (w8.drew.alloc (.cells #[.int .u8 0, .string ⟨#[100, 97, 121]⟩, .slice none 0 0, .slice none 0 0] TX)).heap[w8.heap.size]? = some _ from blk_new w8.drew (.cells #[.int .u8 0, .string ⟨#[100, 97, 121]⟩, .slice none 0 0, .slice none 0 0] TX))
      refine hK.out _ _ ⟨bx1a.out.q0, bx1a.out.q1, bx1a.out.q2, bx1a.out.q3, bx2a.out.q0, bx2a.out.q1, bx2a.out.q2, bx2a.out.q3, bx5a.out.q0, bx5a.out.q1, bx5a.out.q2, bx5a.out.q3, bx8a.out.q0, bx8a.out.q1, bx8a.out.q2, bx8a.out.q3⟩ (fun hHeld => ?_)
      clear hK K
      refine norm_ (a' := ?_) ?_ ?_
      rotate_left
      · show Act.put _ (some 57) _ = _
        simp only [Act.put, List.setIfInBounds_toArray, List.set_cons_zero, List.set_cons_succ, i64_w, i32_w]
        rfl
      refine one_ (i := 8) (N := some 55) #[true, true, true, true, true, true, true, true, true, true, true, false, false, false, false, false, false, false, false, false, false, false, false, false, false, false, false, false, false] rfl rfl (by kernel_rfl) (by decide) (fun K hK => ?_)
      refine value_ (w1 := ?_) (v := ?_) (by rfl) rfl ?_ ?_
      rotate_left 2
      · go_simp
        constructor
        · rfl
        · rfl
      have bx1b := Aside0.mk (bx1a.out.later (below_alloc (Below.refl _ _) (.cells #[.int .i64 3] 2)))
      have bx2b := Aside0.mk (bx2a.out.later (below_alloc (Below.refl _ _) (.cells #[.int .i64 3] 2)))
      have bx5b := Aside0.mk (bx5a.out.later (below_alloc (Below.refl _ _) (.cells #[.int .i64 3] 2)))
      have bx8b := Aside0.mk (bx8a.out.later (below_alloc (Below.refl _ _) (.cells #[.int .i64 3] 2)))
      have rd := Aside0.mk (blk_alloc rd.out (.cells #[.int .i64 3] 2))
      have hnew := blk_new (w8.drew.alloc (.cells #[.int .u8 0, .string ⟨#[100, 97, 121]⟩, .slice none 0 0, .slice none 0 0] TX)) (.cells #[.int .i64 3] 2)
      rw [show ((w8.drew.alloc (.cells #[.int .u8 0, .string ⟨#[100, 97, 121]⟩, .slice none 0 0, .slice none 0 0] TX))).heap.size = w8.heap.size + 1 from Array.size_push ..] at hnew
      have r3 := Aside0.mk hnew
      clear hnew
      refine hK.out _ _ ⟨bx1b.out.q0, bx1b.out.q1, bx1b.out.q2, bx1b.out.q3, bx2b.out.q0, bx2b.out.q1, bx2b.out.q2, bx2b.out.q3, bx5b.out.q0, bx5b.out.q1, bx5b.out.q2, bx5b.out.q3, bx8b.out.q0, bx8b.out.q1, bx8b.out.q2, bx8b.out.q3⟩ (fun hHeld => ?_)
      clear hK K
      refine norm_ (a' := ?_) ?_ ?_
      rotate_left
      · show Act.put _ (some 55) _ = _
        simp only [Act.put, List.setIfInBounds_toArray, List.set_cons_zero, List.set_cons_succ, i64_w, i32_w]
        rfl
      exact norm_ (by first | rfl | (simp only [putAll, Act.put, List.setIfInBounds_toArray, List.set_cons_zero, List.set_cons_succ]; done) | (simp only [putAll, Act.put, List.setIfInBounds_toArray, List.set_cons_zero, List.set_cons_succ]; rfl)) (hCont ⟨_, _⟩ _ (show AwF w ((w8.drew.alloc (.cells #[.int .u8 0, .string ⟨#[100, 97, 121]⟩, .slice none 0 0, .slice none 0 0] TX)).alloc (.cells #[.int .i64 3] 2)) _ _ _ _ _ _ _ _ _ _ _ _ _ _ _ from ⟨bx1b.out, bx2b.out, bx5b.out, bx8b.out, r3.out, rd.out, below_alloc (below_alloc (below_drew HB.out) _) _⟩))
  rintro ⟨s1, s2⟩ w8 hF
  have HF := Aside0.mk hF
  clear hF
  clear bx1 bx2 bx5 bx8 HB
  have bx1b := Aside0.mk HF.out.bx1
  have bx2b := Aside0.mk HF.out.bx2
  have bx5b := Aside0.mk HF.out.bx5
  have bx8b := Aside0.mk HF.out.bx8
  have hHeld : w8.cell? ⟨w1.heap.size, 0, none⟩ = some (.int .u8 0) ∧ w8.cell? ⟨w1.heap.size, 1, none⟩ = some (.string ⟨#[100, 97, 121]⟩) ∧ w8.cell? ⟨w1.heap.size, 2, none⟩ = some (.slice none 0 0) ∧ w8.cell? ⟨w1.heap.size, 3, none⟩ = some (.slice none 0 0) ∧ w8.cell? ⟨w2.heap.size, 0, none⟩ = some (.int .u8 1) ∧ w8.cell? ⟨w2.heap.size, 1, none⟩ = some (.string nil8) ∧ w8.cell? ⟨w2.heap.size, 2, none⟩ = some (.slice A2 1 c2) ∧ w8.cell? ⟨w2.heap.size, 3, none⟩ = some (.slice A3 1 c3) ∧ w8.cell? ⟨w3.heap.size, 0, none⟩ = some (.int .u8 10) ∧ w8.cell? ⟨w3.heap.size, 1, none⟩ = some (.string nil8) ∧ w8.cell? ⟨w3.heap.size, 2, none⟩ = some (.slice B2 0 d2) ∧ w8.cell? ⟨w3.heap.size, 3, none⟩ = some (.slice B3 2 d3) ∧ w8.cell? ⟨w7.heap.size, 0, none⟩ = some (.int .u8 10) ∧ w8.cell? ⟨w7.heap.size, 1, none⟩ = some (.string nil8) ∧ w8.cell? ⟨w7.heap.size, 2, none⟩ = some (.slice none 0 0) ∧ w8.cell? ⟨w7.heap.size, 3, none⟩ = some (.slice (some ⟨w6.heap.size, 0, none⟩) 2 2) := ⟨bx1b.out.q0, bx1b.out.q1, bx1b.out.q2, bx1b.out.q3, bx2b.out.q0, bx2b.out.q1, bx2b.out.q2, bx2b.out.q3, bx5b.out.q0, bx5b.out.q1, bx5b.out.q2, bx5b.out.q3, bx8b.out.q0, bx8b.out.q1, bx8b.out.q2, bx8b.out.q3⟩
  refine norm_ (a' := ?_) ?_ ?_
  rotate_left
  · simp only [putAll, Act.put, List.setIfInBounds_toArray, List.set_cons_zero, List.set_cons_succ]
    rfl
  refine one_ (i := 11) (N := some 58) #[true, true, true, true, true, true, true, true, true, true, true, true, false, false, false, false, false, false, false, false, false, false, false, false, false, false, false, false, false] rfl rfl (by kernel_rfl) (by decide) (fun K hK => ?_)
  refine goes_ Tryd.func14 (by kernel_rfl) rfl #[.int .u8 1, .slice (some ⟨s1, 0, none⟩) 1 1, .slice (some ⟨s2, 0, none⟩) 1 1] (by rfl) rfl rfl (by simp only [List.map_toArray, List.map_cons, List.map_nil]; rfl) ?_
  with_reducible refine (Made_to 1 (some ⟨s1, 0, none⟩) 1 1 (some ⟨s2, 0, none⟩) 1 1 _).mono ?_
  rintro e w9 ⟨rfl, hb9⟩
  refine ⟨_, rfl, ?_⟩
  have HK1 := Aside0.mk (k25_mk w9 xOne (A2 := some ⟨s1, 0, none⟩) (c2 := 1) (A3 := some ⟨s2, 0, none⟩) (c3 := 1) (Nat.le_refl 1) (rowI (blk_on hb9 HF.out.r3)) (Nat.le_refl 1) (rowX1 (K_named w9 _) (blk_on hb9 HF.out.rd)))
  have bx1c := Aside0.mk (bx1b.out.later hb9)
  have bx2c := Aside0.mk (bx2b.out.later hb9)
  have bx5c := Aside0.mk (bx5b.out.later hb9)
  have bx8c := Aside0.mk (bx8b.out.later hb9)
  have HB9 := Aside0.mk (below_then HF.out.hb HF.out.hb.size hb9)
  clear hb9
  refine hK.out _ _ ⟨bx1c.out.q0, bx1c.out.q1, bx1c.out.q2, bx1c.out.q3, bx2c.out.q0, bx2c.out.q1, bx2c.out.q2, bx2c.out.q3, bx5c.out.q0, bx5c.out.q1, bx5c.out.q2, bx5c.out.q3, bx8c.out.q0, bx8c.out.q1, bx8c.out.q2, bx8c.out.q3⟩ (fun hHeld => ?_)
  clear hK K
  refine norm_ (a' := ?_) ?_ ?_
  rotate_left
  · show Act.put _ (some 58) _ = _
    simp only [Act.put, List.setIfInBounds_toArray, List.set_cons_zero, List.set_cons_succ, i64_w, i32_w]
    rfl
  refine one_ (i := 12) (N := some 59) #[true, true, true, true, true, true, true, true, true, true, true, true, true, false, false, false, false, false, false, false, false, false, false, false, false, false, false, false, false] rfl rfl (by kernel_rfl) (by decide) (fun K hK => ?_)
  refine goes_ Tryd.func28 (by kernel_rfl) rfl #[.agg #[.int .u8 1, .string nil8, .slice A2 1 c2, .slice A3 1 c3], .agg #[.int .u8 1, .string nil8, .slice (some ⟨s1, 0, none⟩) 1 1, .slice (some ⟨s2, 0, none⟩) 1 1]] (by rfl) rfl rfl (by simp only [List.map_toArray, List.map_cons, List.map_nil]; rfl) ?_
  refine (same_k xOne A2 c2 A3 c3 (some ⟨s1, 0, none⟩) 1 (some ⟨s2, 0, none⟩) 1 w9 bx2c.out.K HK1.out).mono ?_
  rintro e w10 ⟨rfl, hb10⟩
  refine ⟨_, rfl, ?_⟩
  have bx1d := Aside0.mk (bx1c.out.later hb10)
  have bx2d := Aside0.mk (bx2c.out.later hb10)
  have bx5d := Aside0.mk (bx5c.out.later hb10)
  have bx8d := Aside0.mk (bx8c.out.later hb10)
  have HB10 := Aside0.mk (below_then HB9.out HB9.out.size hb10)
  clear hb10
  refine hK.out _ _ ⟨bx1d.out.q0, bx1d.out.q1, bx1d.out.q2, bx1d.out.q3, bx2d.out.q0, bx2d.out.q1, bx2d.out.q2, bx2d.out.q3, bx5d.out.q0, bx5d.out.q1, bx5d.out.q2, bx5d.out.q3, bx8d.out.q0, bx8d.out.q1, bx8d.out.q2, bx8d.out.q3⟩ (fun hHeld => ?_)
  clear hK K
  refine norm_ (a' := ?_) ?_ ?_
  rotate_left
  · show Act.put _ (some 59) _ = _
    simp only [Act.put, List.setIfInBounds_toArray, List.set_cons_zero, List.set_cons_succ, i64_w, i32_w]
    rfl
  refine pure_ (i := 13) (N := some 60) (v := ?_) (a' := ?_) #[true, true, true, true, true, true, true, true, true, true, true, true, true, true, false, false, false, false, false, false, false, false, false, false, false, false, false, false, false] rfl rfl (by kernel_rfl) (fun _ _ _ h => h) (Or.inl ⟨by rfl, ?_⟩) ?_ ?_
  rotate_left
  · intro w'
    go_simp
    with_reducible rfl
  rotate_left
  · simp only [Act.put, List.setIfInBounds_toArray, List.set_cons_zero, List.set_cons_succ, i64_w, i32_w]
    rfl
  refine pure_ (i := 14) (N := some 61) (v := ?_) (a' := ?_) #[true, true, true, true, true, true, true, true, true, true, true, true, true, true, true, false, false, false, false, false, false, false, false, false, false, false, false, false, false] rfl rfl (by kernel_rfl) (fun _ _ _ h => h) (Or.inl ⟨by rfl, ?_⟩) ?_ ?_
  rotate_left
  · intro w'
    go_simp
    with_reducible rfl
  rotate_left
  · simp only [Act.put, List.setIfInBounds_toArray, List.set_cons_zero, List.set_cons_succ, i64_w, i32_w]
    rfl
  refine pure_ (i := 15) (N := some 62) (v := ?_) (a' := ?_) #[true, true, true, true, true, true, true, true, true, true, true, true, true, true, true, true, false, false, false, false, false, false, false, false, false, false, false, false, false] rfl rfl (by kernel_rfl) (fun _ _ _ h => h) (Or.inl ⟨by rfl, ?_⟩) ?_ ?_
  rotate_left
  · intro w'
    go_simp
    with_reducible rfl
  rotate_left
  · simp only [Act.put, List.setIfInBounds_toArray, List.set_cons_zero, List.set_cons_succ, i64_w, i32_w]
    rfl
  refine pure_ (i := 16) (N := some 63) (v := ?_) (a' := ?_) #[true, true, true, true, true, true, true, true, true, true, true, true, true, true, true, true, true, false, false, false, false, false, false, false, false, false, false, false, false] rfl rfl (by kernel_rfl) (fun _ _ _ h => h) (Or.inl ⟨by rfl, ?_⟩) ?_ ?_
  rotate_left
  · intro w'
    go_simp
    with_reducible rfl
  rotate_left
  · simp only [Act.put, List.setIfInBounds_toArray, List.set_cons_zero, List.set_cons_succ, i64_w, i32_w]
    rfl
  refine pure_ (i := 17) (N := some 64) (v := ?_) (a' := ?_) #[true, true, true, true, true, true, true, true, true, true, true, true, true, true, true, true, true, true, false, false, false, false, false, false, false, false, false, false, false] rfl rfl (by kernel_rfl) (fun _ _ _ h => h) (Or.inl ⟨by rfl, ?_⟩) ?_ ?_
  rotate_left
  · intro w'
    go_simp
    with_reducible rfl
  rotate_left
  · simp only [Act.put, List.setIfInBounds_toArray, List.set_cons_zero, List.set_cons_succ, i64_w, i32_w]
    rfl
  refine pure_ (i := 18) (N := some 65) (v := ?_) (a' := ?_) #[true, true, true, true, true, true, true, true, true, true, true, true, true, true, true, true, true, true, true, false, false, false, false, false, false, false, false, false, false] rfl rfl (by kernel_rfl) (fun _ _ _ h => h) (Or.inl ⟨by rfl, ?_⟩) ?_ ?_
  rotate_left
  · intro w'
    go_simp
    with_reducible rfl
  rotate_left
  · simp only [Act.put, List.setIfInBounds_toArray, List.set_cons_zero, List.set_cons_succ, i64_w, i32_w]
    rfl
  refine pure_ (i := 19) (N := some 66) (v := ?_) (a' := ?_) #[true, true, true, true, true, true, true, true, true, true, true, true, true, true, true, true, true, true, true, true, false, false, false, false, false, false, false, false, false] rfl rfl (by kernel_rfl) (fun _ _ _ h => h) (Or.inl ⟨by rfl, ?_⟩) ?_ ?_
  rotate_left
  · intro w'
    go_simp
    with_reducible rfl
  rotate_left
  · simp only [Act.put, List.setIfInBounds_toArray, List.set_cons_zero, List.set_cons_succ, i64_w, i32_w]
    rfl
  refine pure_ (i := 20) (N := some 67) (v := ?_) (a' := ?_) #[true, true, true, true, true, true, true, true, true, true, true, true, true, true, true, true, true, true, true, true, true, false, false, false, false, false, false, false, false] rfl rfl (by kernel_rfl) (fun _ _ _ h => h) (Or.inl ⟨by rfl, ?_⟩) ?_ ?_
  rotate_left
  · intro w'
    go_simp
    with_reducible rfl
  rotate_left
  · simp only [Act.put, List.setIfInBounds_toArray, List.set_cons_zero, List.set_cons_succ, i64_w, i32_w]
    rfl
  refine pure_ (i := 21) (N := some 68) (v := ?_) (a' := ?_) #[true, true, true, true, true, true, true, true, true, true, true, true, true, true, true, true, true, true, true, true, true, true, false, false, false, false, false, false, false] rfl rfl (by kernel_rfl) (fun _ _ _ h => h) (Or.inl ⟨by rfl, ?_⟩) ?_ ?_
  rotate_left
  · intro w'
    go_simp
    with_reducible rfl
  rotate_left
  · simp only [Act.put, List.setIfInBounds_toArray, List.set_cons_zero, List.set_cons_succ, i64_w, i32_w]
    rfl
  refine pure_ (i := 22) (N := some 69) (v := ?_) (a' := ?_) #[true, true, true, true, true, true, true, true, true, true, true, true, true, true, true, true, true, true, true, true, true, true, true, false, false, false, false, false, false] rfl rfl (by kernel_rfl) (fun _ _ _ h => h) (Or.inl ⟨by rfl, ?_⟩) ?_ ?_
  rotate_left
  · intro w'
    go_simp
    with_reducible rfl
  rotate_left
  · simp only [Act.put, List.setIfInBounds_toArray, List.set_cons_zero, List.set_cons_succ, i64_w, i32_w]
    rfl
  refine pure_ (i := 23) (N := some 70) (v := ?_) (a' := ?_) #[true, true, true, true, true, true, true, true, true, true, true, true, true, true, true, true, true, true, true, true, true, true, true, true, false, false, false, false, false] rfl rfl (by kernel_rfl) (fun _ _ _ h => h) (Or.inl ⟨by rfl, ?_⟩) ?_ ?_
  rotate_left
  · intro w'
    go_simp
    with_reducible rfl
  rotate_left
  · simp only [Act.put, List.setIfInBounds_toArray, List.set_cons_zero, List.set_cons_succ, i64_w, i32_w]
    rfl
  refine take_ (i := 24) (N := some 71) (v := ?_) (a' := ?_) #[true, true, true, true, true, true, true, true, true, true, true, true, true, true, true, true, true, true, true, true, true, true, true, true, true, false, false, false, false] rfl rfl (by kernel_rfl) (fun _ _ _ h => h) (Or.inl ⟨by rfl, ?_⟩) hHeld ?_ ?_
  rotate_left
  · rintro w' ⟨s0, s1, s2, s3, s4, s5, s6, s7, s8, s9, s10, s11, s12, s13, s14, s15⟩
    go_simp
    with_reducible rfl
  rotate_left
  · simp only [Act.put, List.setIfInBounds_toArray, List.set_cons_zero, List.set_cons_succ, i64_w, i32_w]
    rfl
  refine take_ (i := 25) (N := some 72) (v := ?_) (a' := ?_) #[true, true, true, true, true, true, true, true, true, true, true, true, true, true, true, true, true, true, true, true, true, true, true, true, true, true, false, false, false] rfl rfl (by kernel_rfl) (fun _ _ _ h => h) (Or.inl ⟨by rfl, ?_⟩) hHeld ?_ ?_
  rotate_left
  · rintro w' ⟨s0, s1, s2, s3, s4, s5, s6, s7, s8, s9, s10, s11, s12, s13, s14, s15⟩
    go_simp
    with_reducible rfl
  rotate_left
  · simp only [Act.put, List.setIfInBounds_toArray, List.set_cons_zero, List.set_cons_succ, i64_w, i32_w]
    rfl
  refine one_ (i := 26) (N := some 73) #[true, true, true, true, true, true, true, true, true, true, true, true, true, true, true, true, true, true, true, true, true, true, true, true, true, true, true, false, false] rfl rfl (by kernel_rfl) (by decide) (fun K hK => ?_)
  refine goes_ Tryd.func28 (by kernel_rfl) rfl #[.agg #[.int .u8 10, .string nil8, .slice B2 0 d2, .slice B3 2 d3], .agg #[.int .u8 10, .string nil8, .slice none 0 0, .slice (some ⟨w6.heap.size, 0, none⟩) 2 2]] (by rfl) rfl rfl (by simp only [List.map_toArray, List.map_cons, List.map_nil]; rfl) ?_
  refine (same_k xTwo B2 d2 B3 d3 none 0 (some ⟨w6.heap.size, 0, none⟩) 2 w10 bx5d.out.K bx8d.out.K).mono ?_
  rintro e w11 ⟨rfl, hb11⟩
  refine ⟨_, rfl, ?_⟩
  have HB11 := Aside0.mk (below_then HB10.out HB10.out.size hb11)
  have bx1e := Aside0.mk (bx1d.out.later hb11)
  have bx2e := Aside0.mk (bx2d.out.later hb11)
  have bx5e := Aside0.mk (bx5d.out.later hb11)
  have bx8e := Aside0.mk (bx8d.out.later hb11)
  clear hb11
  refine hK.out _ _ ⟨bx1e.out.q0, bx1e.out.q1, bx1e.out.q2, bx1e.out.q3, bx2e.out.q0, bx2e.out.q1, bx2e.out.q2, bx2e.out.q3, bx5e.out.q0, bx5e.out.q1, bx5e.out.q2, bx5e.out.q3, bx8e.out.q0, bx8e.out.q1, bx8e.out.q2, bx8e.out.q3⟩ (fun hHeld => ?_)
  clear hK K
  refine norm_ (a' := ?_) ?_ ?_
  rotate_left
  · show Act.put _ (some 73) _ = _
    simp only [Act.put, List.setIfInBounds_toArray, List.set_cons_zero, List.set_cons_succ, i64_w, i32_w]
    rfl
  refine pure_ (i := 27) (N := some 74) (v := ?_) (a' := ?_) #[true, true, true, true, true, true, true, true, true, true, true, true, true, true, true, true, true, true, true, true, true, true, true, true, true, true, true, true, false] rfl rfl (by kernel_rfl) (fun _ _ _ h => h) (Or.inl ⟨by rfl, ?_⟩) ?_ ?_
  rotate_left
  · intro w'
    go_simp
    with_reducible rfl
  rotate_left
  · simp only [Act.put, List.setIfInBounds_toArray, List.set_cons_zero, List.set_cons_succ, i64_w, i32_w]
    rfl
  refine pure_ (i := 28) (N := some 75) (v := ?_) (a' := ?_) #[true, true, true, true, true, true, true, true, true, true, true, true, true, true, true, true, true, true, true, true, true, true, true, true, true, true, true, true, true] rfl rfl (by kernel_rfl) (fun _ _ _ h => h) (Or.inl ⟨by rfl, ?_⟩) ?_ ?_
  rotate_left
  · intro w'
    go_simp
    with_reducible rfl
  rotate_left
  · simp only [Act.put, List.setIfInBounds_toArray, List.set_cons_zero, List.set_cons_succ, i64_w, i32_w]
    rfl
  refine done_ (by kernel_rfl) ?_

  clear bx1b bx2b bx5b bx8b bx1c bx2c bx5c bx8c bx1d bx2d bx5d bx8d bx1e bx2e bx5e bx8e HK1 HB9 HB10 HF hHeld
  have HB := HB11
  clear HB11
  go_wp2_with fail
  refine wp_loop_rounds 5 ?_
  rw [rounds_succ]
  go_wp2_with fail
  (with_reducible refine (lineE _ _ _ _ ex3_w ex3_p _ ?k0).mono ?_)
  case k0 => exact HL.out.l (below_alloc (below_alloc HB.out (.cells #[.string ⟨#[103, 114, 111, 117, 112, 40, 100, 97, 121, 41]⟩, .int .i64 2, .string ⟨#[103, 114, 111, 117, 112, 40, 51, 44, 32, 100, 97, 121]⟩, .int .i64 5, .string ⟨#[97, 32, 98]⟩, .int .i64 1, .string ⟨#[]⟩, .int .i64 0] 84)) (.cells #[.string ⟨#[103, 114, 111, 117, 112, 40, 100, 97, 121, 41]⟩, .int .i64 2] 84))
  rintro e w12 ⟨F2, g2, F3, g3, rfl, hk, hb⟩
  have HB := Aside0.mk (below_then (below_alloc (below_alloc HB.out (.cells #[.string ⟨#[103, 114, 111, 117, 112, 40, 100, 97, 121, 41]⟩, .int .i64 2, .string ⟨#[103, 114, 111, 117, 112, 40, 51, 44, 32, 100, 97, 121]⟩, .int .i64 5, .string ⟨#[97, 32, 98]⟩, .int .i64 1, .string ⟨#[]⟩, .int .i64 0] 84)) (.cells #[.string ⟨#[103, 114, 111, 117, 112, 40, 100, 97, 121, 41]⟩, .int .i64 2] 84)) (below_alloc (below_alloc HB.out (.cells #[.string ⟨#[103, 114, 111, 117, 112, 40, 100, 97, 121, 41]⟩, .int .i64 2, .string ⟨#[103, 114, 111, 117, 112, 40, 51, 44, 32, 100, 97, 121]⟩, .int .i64 5, .string ⟨#[97, 32, 98]⟩, .int .i64 1, .string ⟨#[]⟩, .int .i64 0] 84)) (.cells #[.string ⟨#[103, 114, 111, 117, 112, 40, 100, 97, 121, 41]⟩, .int .i64 2] 84)).size hb)
  have hbox := blk_on hb (blk_new (w11.alloc (.cells #[.string ⟨#[103, 114, 111, 117, 112, 40, 100, 97, 121, 41]⟩, .int .i64 2, .string ⟨#[103, 114, 111, 117, 112, 40, 51, 44, 32, 100, 97, 121]⟩, .int .i64 5, .string ⟨#[97, 32, 98]⟩, .int .i64 1, .string ⟨#[]⟩, .int .i64 0] 84)) (.cells #[.string ⟨#[103, 114, 111, 117, 112, 40, 100, 97, 121, 41]⟩, .int .i64 2] 84))
  rw [show ((w11.alloc (.cells #[.string ⟨#[103, 114, 111, 117, 112, 40, 100, 97, 121, 41]⟩, .int .i64 2, .string ⟨#[103, 114, 111, 117, 112, 40, 51, 44, 32, 100, 97, 121]⟩, .int .i64 5, .string ⟨#[97, 32, 98]⟩, .int .i64 1, .string ⟨#[]⟩, .int .i64 0] 84))).heap.size = w11.heap.size + 1 from Array.size_push ..] at hbox
  have row := Aside0.mk (blk_on hb (blk_alloc (blk_new w11 (.cells #[.string ⟨#[103, 114, 111, 117, 112, 40, 100, 97, 121, 41]⟩, .int .i64 2, .string ⟨#[103, 114, 111, 117, 112, 40, 51, 44, 32, 100, 97, 121]⟩, .int .i64 5, .string ⟨#[97, 32, 98]⟩, .int .i64 1, .string ⟨#[]⟩, .int .i64 0] 84)) (.cells #[.string ⟨#[103, 114, 111, 117, 112, 40, 100, 97, 121, 41]⟩, .int .i64 2] 84)))
  have cb : w12.cell? ⟨w11.heap.size + 1, 1, none⟩ = some (.int .i64 2) := (blk_cell hbox 1).trans rfl
  have c0 : w12.cell? ⟨w11.heap.size, 2, none⟩ = some (.string ⟨#[103, 114, 111, 117, 112, 40, 51, 44, 32, 100, 97, 121]⟩) := (blk_cell row.out 2).trans rfl
  have c1 : w12.cell? ⟨w11.heap.size, 3, none⟩ = some (.int .i64 5) := (blk_cell row.out 3).trans rfl
  have ltr : w11.heap.size < w12.heap.size := blk_lt row.out
  have ltn : ¬ (w11.heap.size = w12.heap.size) := by omega
  have ltb : w11.heap.size + 1 < w12.heap.size := blk_lt hbox
  have ltm : ¬ (w11.heap.size + 1 = w12.heap.size) := by omega
  clear hbox hk hb
  go_wp2_with fail
  rw [rounds_succ]
  clear cb ltb ltm
  go_wp2_with fail
  clear c0 c1
  clear ltr ltn
  obtain ⟨E2, hE2⟩ : ∃ E2, E2 = F2 := ⟨_, rfl⟩
  obtain ⟨E3, hE3⟩ : ∃ E3, E3 = F3 := ⟨_, rfl⟩
  obtain ⟨f2, hf2⟩ : ∃ f2, f2 = g2 := ⟨_, rfl⟩
  obtain ⟨f3, hf3⟩ : ∃ f3, f3 = g3 := ⟨_, rfl⟩
  subst hE2
  subst hE3
  subst hf2
  subst hf3
  (with_reducible refine (lineE _ _ _ _ ex4_w ex4_p _ ?k1).mono ?_)
  case k1 => exact HL.out.l (below_alloc (below_alloc HB.out (.cells #[.int .u8 0, .string ⟨#[]⟩, .slice E2 0 f2, .slice E3 0 f3] TX)) (.cells #[.string ⟨#[103, 114, 111, 117, 112, 40, 51, 44, 32, 100, 97, 121]⟩, .int .i64 5] 84))
  rintro e w13 ⟨F2, g2, F3, g3, rfl, hk, hb⟩
  have HB := Aside0.mk (below_then (below_alloc (below_alloc HB.out (.cells #[.int .u8 0, .string ⟨#[]⟩, .slice E2 0 f2, .slice E3 0 f3] TX)) (.cells #[.string ⟨#[103, 114, 111, 117, 112, 40, 51, 44, 32, 100, 97, 121]⟩, .int .i64 5] 84)) (below_alloc (below_alloc HB.out (.cells #[.int .u8 0, .string ⟨#[]⟩, .slice E2 0 f2, .slice E3 0 f3] TX)) (.cells #[.string ⟨#[103, 114, 111, 117, 112, 40, 51, 44, 32, 100, 97, 121]⟩, .int .i64 5] 84)).size hb)
  have hbox := blk_on hb (blk_new (w12.alloc (.cells #[.int .u8 0, .string ⟨#[]⟩, .slice E2 0 f2, .slice E3 0 f3] TX)) (.cells #[.string ⟨#[103, 114, 111, 117, 112, 40, 51, 44, 32, 100, 97, 121]⟩, .int .i64 5] 84))
  rw [show ((w12.alloc (.cells #[.int .u8 0, .string ⟨#[]⟩, .slice E2 0 f2, .slice E3 0 f3] TX))).heap.size = w12.heap.size + 1 from Array.size_push ..] at hbox
  have row := Aside0.mk (blk_on hb (blk_alloc (blk_alloc row.out (.cells #[.int .u8 0, .string ⟨#[]⟩, .slice E2 0 f2, .slice E3 0 f3] TX)) (.cells #[.string ⟨#[103, 114, 111, 117, 112, 40, 51, 44, 32, 100, 97, 121]⟩, .int .i64 5] 84)))
  have cb : w13.cell? ⟨w12.heap.size + 1, 1, none⟩ = some (.int .i64 5) := (blk_cell hbox 1).trans rfl
  have c0 : w13.cell? ⟨w11.heap.size, 4, none⟩ = some (.string ⟨#[97, 32, 98]⟩) := (blk_cell row.out 4).trans rfl
  have c1 : w13.cell? ⟨w11.heap.size, 5, none⟩ = some (.int .i64 1) := (blk_cell row.out 5).trans rfl
  have ltr : w11.heap.size < w13.heap.size := blk_lt row.out
  have ltn : ¬ (w11.heap.size = w13.heap.size) := by omega
  have ltb : w12.heap.size + 1 < w13.heap.size := blk_lt hbox
  have ltm : ¬ (w12.heap.size + 1 = w13.heap.size) := by omega
  clear hbox hk hb
  go_wp2_with fail
  rw [rounds_succ]
  clear cb ltb ltm
  go_wp2_with fail
  clear c0 c1
  clear ltr ltn
  obtain ⟨E2, hE2⟩ : ∃ E2, E2 = F2 := ⟨_, rfl⟩
  obtain ⟨E3, hE3⟩ : ∃ E3, E3 = F3 := ⟨_, rfl⟩
  obtain ⟨f2, hf2⟩ : ∃ f2, f2 = g2 := ⟨_, rfl⟩
  obtain ⟨f3, hf3⟩ : ∃ f3, f3 = g3 := ⟨_, rfl⟩
  subst hE2
  subst hE3
  subst hf2
  subst hf3
  (with_reducible refine (lineE _ _ _ _ ex5_w ex5_p _ ?k2).mono ?_)
  case k2 => exact HL.out.l (below_alloc (below_alloc HB.out (.cells #[.int .u8 0, .string ⟨#[]⟩, .slice E2 0 f2, .slice E3 0 f3] TX)) (.cells #[.string ⟨#[97, 32, 98]⟩, .int .i64 1] 84))
  rintro e w14 ⟨F2, g2, F3, g3, rfl, hk, hb⟩
  have HB := Aside0.mk (below_then (below_alloc (below_alloc HB.out (.cells #[.int .u8 0, .string ⟨#[]⟩, .slice E2 0 f2, .slice E3 0 f3] TX)) (.cells #[.string ⟨#[97, 32, 98]⟩, .int .i64 1] 84)) (below_alloc (below_alloc HB.out (.cells #[.int .u8 0, .string ⟨#[]⟩, .slice E2 0 f2, .slice E3 0 f3] TX)) (.cells #[.string ⟨#[97, 32, 98]⟩, .int .i64 1] 84)).size hb)
  have hbox := blk_on hb (blk_new (w13.alloc (.cells #[.int .u8 0, .string ⟨#[]⟩, .slice E2 0 f2, .slice E3 0 f3] TX)) (.cells #[.string ⟨#[97, 32, 98]⟩, .int .i64 1] 84))
  rw [show ((w13.alloc (.cells #[.int .u8 0, .string ⟨#[]⟩, .slice E2 0 f2, .slice E3 0 f3] TX))).heap.size = w13.heap.size + 1 from Array.size_push ..] at hbox
  have row := Aside0.mk (blk_on hb (blk_alloc (blk_alloc row.out (.cells #[.int .u8 0, .string ⟨#[]⟩, .slice E2 0 f2, .slice E3 0 f3] TX)) (.cells #[.string ⟨#[97, 32, 98]⟩, .int .i64 1] 84)))
  have cb : w14.cell? ⟨w13.heap.size + 1, 1, none⟩ = some (.int .i64 1) := (blk_cell hbox 1).trans rfl
  have c0 : w14.cell? ⟨w11.heap.size, 6, none⟩ = some (.string ⟨#[]⟩) := (blk_cell row.out 6).trans rfl
  have c1 : w14.cell? ⟨w11.heap.size, 7, none⟩ = some (.int .i64 0) := (blk_cell row.out 7).trans rfl
  have ltr : w11.heap.size < w14.heap.size := blk_lt row.out
  have ltn : ¬ (w11.heap.size = w14.heap.size) := by omega
  have ltb : w13.heap.size + 1 < w14.heap.size := blk_lt hbox
  have ltm : ¬ (w13.heap.size + 1 = w14.heap.size) := by omega
  clear hbox hk hb
  go_wp2_with fail
  rw [rounds_succ]
  clear cb ltb ltm
  go_wp2_with fail
  clear c0 c1
  clear ltr ltn
  obtain ⟨E2, hE2⟩ : ∃ E2, E2 = F2 := ⟨_, rfl⟩
  obtain ⟨E3, hE3⟩ : ∃ E3, E3 = F3 := ⟨_, rfl⟩
  obtain ⟨f2, hf2⟩ : ∃ f2, f2 = g2 := ⟨_, rfl⟩
  obtain ⟨f3, hf3⟩ : ∃ f3, f3 = g3 := ⟨_, rfl⟩
  subst hE2
  subst hE3
  subst hf2
  subst hf3
  (with_reducible refine (lineE _ _ _ _ ex6_w ex6_p _ ?k3).mono ?_)
  case k3 => exact HL.out.l (below_alloc (below_alloc HB.out (.cells #[.int .u8 0, .string ⟨#[]⟩, .slice E2 0 f2, .slice E3 0 f3] TX)) (.cells #[.string ⟨#[]⟩, .int .i64 0] 84))
  rintro e w15 ⟨F2, g2, F3, g3, rfl, hk, hb⟩
  have HB := Aside0.mk (below_then (below_alloc (below_alloc HB.out (.cells #[.int .u8 0, .string ⟨#[]⟩, .slice E2 0 f2, .slice E3 0 f3] TX)) (.cells #[.string ⟨#[]⟩, .int .i64 0] 84)) (below_alloc (below_alloc HB.out (.cells #[.int .u8 0, .string ⟨#[]⟩, .slice E2 0 f2, .slice E3 0 f3] TX)) (.cells #[.string ⟨#[]⟩, .int .i64 0] 84)).size hb)
  have hbox := blk_on hb (blk_new (w14.alloc (.cells #[.int .u8 0, .string ⟨#[]⟩, .slice E2 0 f2, .slice E3 0 f3] TX)) (.cells #[.string ⟨#[]⟩, .int .i64 0] 84))
  rw [show ((w14.alloc (.cells #[.int .u8 0, .string ⟨#[]⟩, .slice E2 0 f2, .slice E3 0 f3] TX))).heap.size = w14.heap.size + 1 from Array.size_push ..] at hbox
  have row := Aside0.mk (blk_on hb (blk_alloc (blk_alloc row.out (.cells #[.int .u8 0, .string ⟨#[]⟩, .slice E2 0 f2, .slice E3 0 f3] TX)) (.cells #[.string ⟨#[]⟩, .int .i64 0] 84)))
  have cb : w15.cell? ⟨w14.heap.size + 1, 1, none⟩ = some (.int .i64 0) := (blk_cell hbox 1).trans rfl
  have ltr : w11.heap.size < w15.heap.size := blk_lt row.out
  have ltn : ¬ (w11.heap.size = w15.heap.size) := by omega
  have ltb : w14.heap.size + 1 < w15.heap.size := blk_lt hbox
  have ltm : ¬ (w14.heap.size + 1 = w15.heap.size) := by omega
  clear hbox hk hb
  go_wp2_with fail
  rw [rounds_succ]
  clear cb ltb ltm
  go_wp2_with fail
  clear ltr ltn
  obtain ⟨E2, hE2⟩ : ∃ E2, E2 = F2 := ⟨_, rfl⟩
  obtain ⟨E3, hE3⟩ : ∃ E3, E3 = F3 := ⟨_, rfl⟩
  obtain ⟨f2, hf2⟩ : ∃ f2, f2 = g2 := ⟨_, rfl⟩
  obtain ⟨f3, hf3⟩ : ∃ f3, f3 = g3 := ⟨_, rfl⟩
  subst hE2
  subst hE3
  subst hf2
  subst hf3
  (with_reducible refine (lineE _ _ _ _ ex7_w ex7_p _ ?k7).mono ?_)
  case k7 => exact HL.out.l (below_alloc HB.out (.cells #[.int .u8 0, .string ⟨#[]⟩, .slice E2 0 f2, .slice E3 0 f3] TX))
  rintro e w16 ⟨G2, h2, G3, h3, rfl, hk, hb⟩
  have HB := Aside0.mk (below_then (below_alloc HB.out (.cells #[.int .u8 0, .string ⟨#[]⟩, .slice E2 0 f2, .slice E3 0 f3] TX)) (below_alloc HB.out (.cells #[.int .u8 0, .string ⟨#[]⟩, .slice E2 0 f2, .slice E3 0 f3] TX)).size hb)
  have b14 := Aside0.mk (blk_new w16 (.cells #[.int .u8 0, .string ⟨#[103, 114, 111, 117, 112]⟩, .slice G2 0 h2, .slice G3 0 h3] TX))
  clear hk hb row
  go_wp2_with fail
  (with_reducible refine (lineC _ _ _ _ cm1_w cm1_p _ ?m1).mono ?_)
  case m1 => exact HL.out.l (below_alloc HB.out (.cells #[.int .u8 0, .string ⟨#[103, 114, 111, 117, 112]⟩, .slice G2 0 h2, .slice G3 0 h3] TX))
  rintro e w17 ⟨AN1, cN1, AM1, nM1, cM1, P1, p1, q1, R1, r1, t1, rfl, hl1, hN1, hb⟩
  have HB := Aside0.mk (below_then (below_alloc HB.out (.cells #[.int .u8 0, .string ⟨#[103, 114, 111, 117, 112]⟩, .slice G2 0 h2, .slice G3 0 h3] TX)) (below_alloc HB.out (.cells #[.int .u8 0, .string ⟨#[103, 114, 111, 117, 112]⟩, .slice G2 0 h2, .slice G3 0 h3] TX)).size hb)
  have b14 := Aside0.mk (blk_alloc (blk_on hb b14.out) (.cells #[.string ⟨#[98, 111, 117, 110, 100]⟩, .slice AN1 3 cN1, .slice AM1 nM1 cM1, .int .i64 1, .int .i64 0, .bool true, .bool false, .int .u8 0, .string ⟨#[]⟩, .slice P1 p1 q1, .slice R1 r1 t1] TC))
  have b17 := Aside0.mk (blk_new w17 (.cells #[.string ⟨#[98, 111, 117, 110, 100]⟩, .slice AN1 3 cN1, .slice AM1 nM1 cM1, .int .i64 1, .int .i64 0, .bool true, .bool false, .int .u8 0, .string ⟨#[]⟩, .slice P1 p1 q1, .slice R1 r1 t1] TC))
  have HN := Aside0.mk (Kd.C_below hN1 (below_alloc (Below.refl _ _) (.cells #[.string ⟨#[98, 111, 117, 110, 100]⟩, .slice AN1 3 cN1, .slice AM1 nM1 cM1, .int .i64 1, .int .i64 0, .bool true, .bool false, .int .u8 0, .string ⟨#[]⟩, .slice P1 p1 q1, .slice R1 r1 t1] TC)))
  have HL1 := Aside0.mk hl1
  clear hb hN1 hl1
  go_wp2_with fail
  (with_reducible refine (lineC _ _ _ _ cm2_w cm2_p _ ?m2).mono ?_)
  case m2 => exact HL.out.l (below_alloc HB.out (.cells #[.string ⟨#[98, 111, 117, 110, 100]⟩, .slice AN1 3 cN1, .slice AM1 nM1 cM1, .int .i64 1, .int .i64 0, .bool true, .bool false, .int .u8 0, .string ⟨#[]⟩, .slice P1 p1 q1, .slice R1 r1 t1] TC))
  rintro e w18 ⟨AN2, cN2, AM2, nM2, cM2, P2, p2, q2, R2, r2, t2, rfl, hl2, hN2, hb⟩
  have HB := Aside0.mk (below_then (below_alloc HB.out (.cells #[.string ⟨#[98, 111, 117, 110, 100]⟩, .slice AN1 3 cN1, .slice AM1 nM1 cM1, .int .i64 1, .int .i64 0, .bool true, .bool false, .int .u8 0, .string ⟨#[]⟩, .slice P1 p1 q1, .slice R1 r1 t1] TC)) (below_alloc HB.out (.cells #[.string ⟨#[98, 111, 117, 110, 100]⟩, .slice AN1 3 cN1, .slice AM1 nM1 cM1, .int .i64 1, .int .i64 0, .bool true, .bool false, .int .u8 0, .string ⟨#[]⟩, .slice P1 p1 q1, .slice R1 r1 t1] TC)).size hb)
  have b14 := Aside0.mk (blk_alloc (blk_on hb b14.out) (.cells #[.string ⟨#[100, 101, 102, 105, 110, 101]⟩, .slice AN2 1 cN2, .slice AM2 nM2 cM2, .int .i64 0, .int .i64 0, .bool false, .bool false, .int .u8 0, .string ⟨#[98]⟩, .slice P2 p2 q2, .slice R2 r2 t2] TC))
  have b17 := Aside0.mk (blk_alloc (blk_on hb b17.out) (.cells #[.string ⟨#[100, 101, 102, 105, 110, 101]⟩, .slice AN2 1 cN2, .slice AM2 nM2 cM2, .int .i64 0, .int .i64 0, .bool false, .bool false, .int .u8 0, .string ⟨#[98]⟩, .slice P2 p2 q2, .slice R2 r2 t2] TC))
  have b20 := Aside0.mk (blk_new w18 (.cells #[.string ⟨#[100, 101, 102, 105, 110, 101]⟩, .slice AN2 1 cN2, .slice AM2 nM2 cM2, .int .i64 0, .int .i64 0, .bool false, .bool false, .int .u8 0, .string ⟨#[98]⟩, .slice P2 p2 q2, .slice R2 r2 t2] TC))
  have HN := Aside0.mk (Kd.C_below (Kd.C_below HN.out hb) (below_alloc (Below.refl _ _) (.cells #[.string ⟨#[100, 101, 102, 105, 110, 101]⟩, .slice AN2 1 cN2, .slice AM2 nM2 cM2, .int .i64 0, .int .i64 0, .bool false, .bool false, .int .u8 0, .string ⟨#[98]⟩, .slice P2 p2 q2, .slice R2 r2 t2] TC)))
  clear hb hN2 hl2
  go_wp2_with fail
  (with_reducible refine (lineC _ _ _ _ cm3_w cm3_p _ ?m3).mono ?_)
  case m3 => exact HL.out.l (below_alloc HB.out (.cells #[.string ⟨#[100, 101, 102, 105, 110, 101]⟩, .slice AN2 1 cN2, .slice AM2 nM2 cM2, .int .i64 0, .int .i64 0, .bool false, .bool false, .int .u8 0, .string ⟨#[98]⟩, .slice P2 p2 q2, .slice R2 r2 t2] TC))
  rintro e w19 ⟨AN3, cN3, AM3, nM3, cM3, P3, p3, q3, R3, r3, t3, rfl, hl3, hN3, hb⟩
  have HB := Aside0.mk (below_then (below_alloc HB.out (.cells #[.string ⟨#[100, 101, 102, 105, 110, 101]⟩, .slice AN2 1 cN2, .slice AM2 nM2 cM2, .int .i64 0, .int .i64 0, .bool false, .bool false, .int .u8 0, .string ⟨#[98]⟩, .slice P2 p2 q2, .slice R2 r2 t2] TC)) (below_alloc HB.out (.cells #[.string ⟨#[100, 101, 102, 105, 110, 101]⟩, .slice AN2 1 cN2, .slice AM2 nM2 cM2, .int .i64 0, .int .i64 0, .bool false, .bool false, .int .u8 0, .string ⟨#[98]⟩, .slice P2 p2 q2, .slice R2 r2 t2] TC)).size hb)
  have b14 := Aside0.mk (blk_alloc (blk_on hb b14.out) (.cells #[.string ⟨#[]⟩, .slice AN3 0 cN3, .slice AM3 nM3 cM3, .int .i64 0, .int .i64 0, .bool false, .bool false, .int .u8 0, .string ⟨#[]⟩, .slice P3 p3 q3, .slice R3 r3 t3] TC))
  have b17 := Aside0.mk (blk_alloc (blk_on hb b17.out) (.cells #[.string ⟨#[]⟩, .slice AN3 0 cN3, .slice AM3 nM3 cM3, .int .i64 0, .int .i64 0, .bool false, .bool false, .int .u8 0, .string ⟨#[]⟩, .slice P3 p3 q3, .slice R3 r3 t3] TC))
  have b20 := Aside0.mk (blk_alloc (blk_on hb b20.out) (.cells #[.string ⟨#[]⟩, .slice AN3 0 cN3, .slice AM3 nM3 cM3, .int .i64 0, .int .i64 0, .bool false, .bool false, .int .u8 0, .string ⟨#[]⟩, .slice P3 p3 q3, .slice R3 r3 t3] TC))
  have HN := Aside0.mk (Kd.C_below (Kd.C_below HN.out hb) (below_alloc (Below.refl _ _) (.cells #[.string ⟨#[]⟩, .slice AN3 0 cN3, .slice AM3 nM3 cM3, .int .i64 0, .int .i64 0, .bool false, .bool false, .int .u8 0, .string ⟨#[]⟩, .slice P3 p3 q3, .slice R3 r3 t3] TC)))
  clear hb hN3 hl3
  go_wp2_with fail
  (with_reducible refine (lineC _ _ _ _ cm4_w cm4_p _ ?m4).mono ?_)
  case m4 => exact HL.out.l (below_alloc HB.out (.cells #[.string ⟨#[]⟩, .slice AN3 0 cN3, .slice AM3 nM3 cM3, .int .i64 0, .int .i64 0, .bool false, .bool false, .int .u8 0, .string ⟨#[]⟩, .slice P3 p3 q3, .slice R3 r3 t3] TC))
  rintro e w20 ⟨AN4, cN4, AM4, nM4, cM4, P4, p4, q4, R4, r4, t4, rfl, hl4, hN4, hb⟩
  have HB := Aside0.mk (below_then (below_alloc HB.out (.cells #[.string ⟨#[]⟩, .slice AN3 0 cN3, .slice AM3 nM3 cM3, .int .i64 0, .int .i64 0, .bool false, .bool false, .int .u8 0, .string ⟨#[]⟩, .slice P3 p3 q3, .slice R3 r3 t3] TC)) (below_alloc HB.out (.cells #[.string ⟨#[]⟩, .slice AN3 0 cN3, .slice AM3 nM3 cM3, .int .i64 0, .int .i64 0, .bool false, .bool false, .int .u8 0, .string ⟨#[]⟩, .slice P3 p3 q3, .slice R3 r3 t3] TC)).size hb)
  have b14 := blk_on hb b14.out
  have b17 := blk_on hb b17.out
  have b20 := blk_on hb b20.out
  have HN := Aside0.mk (Kd.C_below HN.out hb)
  clear hb hN4 hl4
  have e0 : w20.cell? ⟨w16.heap.size, 1, none⟩ = some (.string ⟨#[103, 114, 111, 117, 112]⟩) := (blk_cell b14 1).trans rfl
  have e1 : w20.cell? ⟨w17.heap.size, 1, none⟩ = some (.slice AN1 3 cN1) := (blk_cell b17 1).trans rfl
  have e3 : w20.cell? ⟨w17.heap.size, 3, none⟩ = some (.int .i64 1) := (blk_cell b17 3).trans rfl
  have e4 : w20.cell? ⟨w17.heap.size, 4, none⟩ = some (.int .i64 0) := (blk_cell b17 4).trans rfl
  have e5 : w20.cell? ⟨w17.heap.size, 5, none⟩ = some (.bool true) := (blk_cell b17 5).trans rfl
  have e6 : w20.cell? ⟨w17.heap.size, 6, none⟩ = some (.bool false) := (blk_cell b17 6).trans rfl
  have e7 : w20.cell? ⟨w18.heap.size, 1, none⟩ = some (.slice AN2 1 cN2) := (blk_cell b20 1).trans rfl
  have e8 : w20.cell? ⟨w18.heap.size, 8, none⟩ = some (.string ⟨#[98]⟩) := (blk_cell b20 8).trans rfl
  have l16 := blk_lt b14
  have l17 := blk_lt b17
  have l18 := blk_lt b20
  have n16 : ¬ (w16.heap.size = w20.heap.size) := by omega
  have n17 : ¬ (w17.heap.size = w20.heap.size) := by omega
  have n18 : ¬ (w18.heap.size = w20.heap.size) := by omega
  clear b14 b17 b20
  have CT : ∀ (A1 : Option Addr) (c1 : Nat) (W : World), kT.C W AN1 3 [⟨#[120]⟩, ⟨#[121]⟩, ⟨#[100, 97, 121]⟩] → kT.C W A1 3 [⟨#[120]⟩, ⟨#[121]⟩, ⟨#[100, 97, 121]⟩] → 3 ≤ c1 → Calls Tryd.prog 15 #[.slice AN1 3 cN1, .slice A1 3 c1] W fun e w' => e = .returned (.bool true) ∧ Drawn0 W w' :=
    fun A1 c1 W h1 h2 h3 => epactlaw09_Texts.calls 9 AN1 cN1 [⟨#[120]⟩, ⟨#[121]⟩, ⟨#[100, 97, 121]⟩] A1 c1 [⟨#[120]⟩, ⟨#[121]⟩, ⟨#[100, 97, 121]⟩] true W h1 HL1.out h2 h3 (by decide +kernel)
  go_wp2_with fail
  (with_reducible refine (CT _ _ _ ?x1 ?x2 ?x3).mono ?_)
  case x1 => exact Kd.C_below (Kd.C_below HN.out (below_alloc (Below.refl _ _) (.cells #[.string ⟨#[]⟩, .slice AN4 0 cN4, .slice AM4 nM4 cM4, .int .i64 0, .int .i64 0, .bool false, .bool false, .int .u8 0, .string ⟨#[]⟩, .slice P4 p4 q4, .slice R4 r4 t4] TC))) (below_alloc (Below.refl _ _) (.cells #[.string ⟨#[120]⟩, .string ⟨#[121]⟩, .string ⟨#[100, 97, 121]⟩] TS))
  case x2 =>
    have hns := blk_new (w20.alloc (.cells #[.string ⟨#[]⟩, .slice AN4 0 cN4, .slice AM4 nM4 cM4, .int .i64 0, .int .i64 0, .bool false, .bool false, .int .u8 0, .string ⟨#[]⟩, .slice P4 p4 q4, .slice R4 r4 t4] TC)) (.cells #[.string ⟨#[120]⟩, .string ⟨#[121]⟩, .string ⟨#[100, 97, 121]⟩] TS)
    rw [show (w20.alloc (.cells #[.string ⟨#[]⟩, .slice AN4 0 cN4, .slice AM4 nM4 cM4, .int .i64 0, .int .i64 0, .bool false, .bool false, .int .u8 0, .string ⟨#[]⟩, .slice P4 p4 q4, .slice R4 r4 t4] TC)).heap.size = w20.heap.size + 1 from Array.size_push ..] at hns
    exact rowS (l := [⟨#[120]⟩, ⟨#[121]⟩, ⟨#[100, 97, 121]⟩]) (by decide) hns
  case x3 => exact Nat.le_refl 3
  rintro e w21 ⟨rfl, ⟨m, rfl⟩⟩
  clear CT HN HL1
  go_wp2
  go_ret
  exact ⟨rfl, pw_below_drewN (below_alloc (below_alloc HB.out _) _) m⟩
end Go.Proofs.YtjeofffddbibeaaDoor.Pa
end

section
namespace Go.Proofs.YtjeofffddbibeaaDoor.Pa
open Go Go.RowKit Go.Proofs.YtjeofffddbibeaaDoor.PParseTells Go.Proofs.YtjeofffddbibeaaDoor.Ex Go.Proofs.YtjeofffddbibeaaDoorW.PrintWords Go.Proofs.YtjeofffddbibeaaDoorW.PrintLast Go.Proofs.YtjeofffddbibeaaDoorW.PrintMore
set_option linter.unusedVariables false
set_option linter.unusedSimpArgs false
theorem GivesC.later {wa W W2 : World} {c : Cmd} {vN vM v2 v3 : Value} (h : GivesC wa W c vN vM v2 v3) (hb : Below W.heap.size W W2) : GivesC wa W2 c vN vM v2 v3 := ⟨Kd.R_below h.1 hb, Kd.R_below h.2.1 hb, Kd.M_below h.2.2 hb⟩
theorem GivesC.slices {wa W : World} {c : Cmd} {vN vM v2 v3 : Value} (h : GivesC wa W c vN vM v2 v3) : ∃ A0 n0 c0 A1 n1 c1 A2 n2 c2 A3 n3 c3, vN = .slice A0 n0 c0 ∧ vM = .slice A1 n1 c1 ∧ v2 = .slice A2 n2 c2 ∧ v3 = .slice A3 n3 c3 := by
  obtain ⟨A0, c0, e0⟩ := Kd.R_slice h.1
  obtain ⟨A1, c1, e1⟩ := Kd.R_slice h.2.1
  obtain ⟨u2, u3, he, h2, h3⟩ := k25_openM h.2.2
  simp only [List.cons.injEq, true_and, and_true] at he
  obtain ⟨rfl, rfl⟩ := he
  obtain ⟨A2, c2, e2⟩ := Kd.R_slice h2
  obtain ⟨A3, c3, e3⟩ := Kd.R_slice h3
  exact ⟨A0, _, c0, A1, _, c1, A2, _, c2, A3, _, c3, e0, e1, e2, e3⟩
abbrev xC (x : X) (A2 : Option Addr) (c2 : Nat) (A3 : Option Addr) (c3 : Nat) : Obj := .cells #[.int .u8 x.f0, .string x.f1, .slice A2 x.f2.length c2, .slice A3 x.f3.length c3] TX
end Go.Proofs.YtjeofffddbibeaaDoor.Pa
end

section
namespace Go.Proofs.YtjeofffddbibeaaDoor.Pa
open Go Go.RowKit Go.Proofs.YtjeofffddbibeaaDoor.PParseTells Go.Proofs.YtjeofffddbibeaaDoor.Ex Go.Proofs.YtjeofffddbibeaaDoorW.PrintWords Go.Proofs.YtjeofffddbibeaaDoorW.PrintLast Go.Proofs.YtjeofffddbibeaaDoorW.PrintMore
set_option linter.unusedVariables false
set_option linter.unusedSimpArgs false
theorem info_tok5 : (Tryd.prog.info? 61).map (fun i => (i.zero, i.size, i.bytes)) = some (some (.agg #[.int .u8 0, .string nil8, .int .i64 0]), 3, 32) := by kernel_rfl
theorem cut_run5 (A : Option Addr) (n c k : Nat) (h : k ≤ n) (hc : n ≤ c) : ∀ W : World, (Instr.slice 43 (.slice A n c) none (some (.int .i64 (k : Int))) none).run Tryd.prog W = .ok (.slice A k c) W := by
  obtain ⟨i, hi, _⟩ := Option.map_eq_some_iff.1 info_tok5
  have := cut_to 43 61 .i64 Tryd.underlying43 hi A n c (k : Int) (by omega) (by omega) hc
  rwa [Int.toNat_natCast] at this
theorem own_lit5 {α : Type} {R : α → List Value → Prop} {e : TypeId} {size : Nat} (W : World) (base : Nat) (hb : base ≤ W.heap.size) (n : Nat) (hn : n = W.heap.size) : OwnRow R e size (W.alloc (.cells #[] e)) base (.slice (some ⟨n, 0, none⟩) 0 0) [] := by
  subst hn
  exact OwnRow.lit W base (inner := []) (ps := ([] : List α)) (Reps.none _ _) hb (by simp)
abbrev tB (t : Tok) : Obj := .cells #[.int .u8 t.f0, .string t.f1, .int .i64 t.f2] 61
theorem tcells {W : World} {j : Nat} {t : Tok} (h : W.heap[j]? = some (tB t)) : W.cell? ⟨j, 0, none⟩ = some (.int .u8 t.f0) ∧ W.cell? ⟨j, 1, none⟩ = some (.string t.f1) ∧ W.cell? ⟨j, 2, none⟩ = some (.int .i64 t.f2) :=
  ⟨(blk_cell h 0).trans rfl, (blk_cell h 1).trans rfl, (blk_cell h 2).trans rfl⟩
theorem blk_newB {b : Nat} {w0 W : World} (h : Below b w0 W) (ob : Obj) : (W.alloc ob).heap[W.heap.size]? = some ob := blk_new W ob
theorem t_rowB {W : World} {n : Nat} {t : Tok} (h : W.heap[n]? = some (tB t)) : Kd.C k61 W (some ⟨n, 0, none⟩) 1 [t] := by
  refine ⟨rfl, by simp, fun _ => ⟨⟨n, 0, none⟩, rfl, ?_⟩⟩
  intro j p hj
  obtain ⟨hjl, rfl⟩ := List.getElem?_eq_some_iff.1 hj
  obtain rfl : j = 0 := by simpa using hjl
  refine ⟨_, rfl, k61_mk W t, ?_⟩
  intro i u hu
  have hi : i < 3 := by
    have := (List.getElem?_eq_some_iff.1 hu).1
    simpa using this
  obtain ⟨c0, c1, c2⟩ := tcells h
  match i, hi with
  | 0, _ => obtain rfl : u = _ := (Option.some.inj hu).symm; exact c0
  | 1, _ => obtain rfl : u = _ := (Option.some.inj hu).symm; exact c1
  | 2, _ => obtain rfl : u = _ := (Option.some.inj hu).symm; exact c2
theorem refCount_calls (x : X) (A2 : Option Addr) (c2 : Nat) (A3 : Option Addr) (c3 : Nat) (w : World) (hc : cnt x ≤ 1048576) (h : Has w x A2 c2 A3 c3) :
    Calls Tryd.prog 23 #[agg x A2 c2 A3 c3] w fun e w' => e = .returned (.int .i64 (cnt x)) ∧ Below w.heap.size w w' :=
  epactref09_Count.calls (2 * cnt x) x.f0 x.f1 A2 c2 x.f2 A3 c3 x.f3 _ w h.C2 h.l2 h.C3 h.l3 (refCount_f (cnt x) x (Nat.le_refl _) (by omega) _ (Nat.le_refl _))
/-- The box of the expression and the box of the word, within the law. -/
structure Bk (w W : World) (x : X) (A2 : Option Addr) (c2 : Nat) (A3 : Option Addr) (c3 : Nat) (t : Tok) : Prop where
  bx : InBox w.heap.size x A2 c2 A3 c3 W
  tb : W.heap[w.heap.size + 1]? = some (tB t)
  below : Below w.heap.size w W
theorem Bk.later {w W W2 : World} {x : X} {A2 : Option Addr} {c2 : Nat} {A3 : Option Addr} {c3 : Nat} {t : Tok} (h : Bk w W x A2 c2 A3 c3 t) (hb : Below W.heap.size W W2) : Bk w W2 x A2 c2 A3 c3 t :=
  ⟨h.bx.later hb, blk_on hb h.tb, below_then h.below h.below.size hb⟩
theorem Bk.a {w W : World} {x : X} {A2 : Option Addr} {c2 : Nat} {A3 : Option Addr} {c3 : Nat} {t : Tok} (h : Bk w W x A2 c2 A3 c3 t) (ob : Obj) : Bk w (W.alloc ob) x A2 c2 A3 c3 t := h.later (below_alloc (Below.refl _ _) ob)
theorem Bk.new {w : World} {x : X} {A2 : Option Addr} {c2 : Nat} {A3 : Option Addr} {c3 : Nat} (t : Tok) (h : Has w x A2 c2 A3 c3) :
    Bk w ((w.alloc (xC x A2 c2 A3 c3)).alloc (tB t)) x A2 c2 A3 c3 t :=
  ⟨(InBox.new h 25 _ rfl).a _, by
    have h1 := blk_new (w.alloc (xC x A2 c2 A3 c3)) (tB t)
    rw [show (w.alloc (xC x A2 c2 A3 c3)).heap.size = w.heap.size + 1 from Array.size_push ..] at h1
    exact h1, below_alloc (below_alloc (Below.refl _ _) _) _⟩
set_option maxHeartbeats 32000000 in
set_option maxRecDepth 100000 in
theorem ParseBack_walk (x : X) (A2 : Option Addr) (c2 : Nat) (A3 : Option Addr) (c3 : Nat) (u : Int) (u0 : 0 ≤ u) (u1 : u ≤ 65535) (t : Tok) (w : World) (hL : Cal w) (hx : Has w x A2 c2 A3 c3) (hc : cnt x ≤ 1048576) :
    Calls Tryd.prog 7 #[agg x A2 c2 A3 c3, .int .u16 u, tokV t] w fun e w' => e = .returned (.bool true) ∧ Below w.heap.size w w' := by
  have HL := Aside0.mk hL
  have BK := Aside0.mk (Bk.new t hx)
  have hwf := hx.wf
  have CW := fun W h => Aside0.mk (awake_calls W h)
  have CC := fun W h => Aside0.mk (refCount_calls x A2 c2 A3 c3 W hc h)
  have CR := fun W h => Aside0.mk (refRight_calls x A2 c2 A3 c3 W (by omega) h)
  clear hL hx
  by_cases hbig : 2000 < cnt x
  · obtain ⟨N, hN⟩ : ∃ N, N = cnt x := ⟨_, rfl⟩
    rw [← hN] at hbig CC
    have g1 : (2000 : Int) < (N : Int) := by omega
    have g2 : decide ((2000 : Int) < (N : Int)) = true := decide_eq_true g1
    clear hN hbig hc CR
    go_enter Tryd.func7, Tryd.ntmps7
    go_wp2_with fail
    (with_reducible refine (CC _ ?h1).out.mono ?_)
    case h1 => exact BK.out.bx.has
    rintro e w1 ⟨rfl, hb⟩
    have BK := Aside0.mk (BK.out.later hb)
    clear hb CC
    go_wp2_with fail
    (with_reducible refine (CW _ (HL.out.l BK.out.below)).out.mono ?_)
    rintro e wz ⟨rfl, hbz⟩
    have HB := Aside0.mk (below_then BK.out.below BK.out.below.size hbz)
    go_wp2
    go_ret
    exact ⟨rfl, HB.out⟩
  obtain ⟨C, hC⟩ : ∃ C, C = cnt x := ⟨_, rfl⟩
  have hc2 : cnt x ≤ 2000 := by omega
  rw [← hC] at CC
  have g1 : ¬ (2000 : Int) < (C : Int) := by omega
  have g2 : decide ((2000 : Int) < (C : Int)) = false := decide_eq_false g1
  clear hC hbig
  by_cases hR : RightB x = true
  case neg =>
    rw [Bool.eq_false_iff.2 hR] at CR
    clear hR hc
    go_enter Tryd.func7, Tryd.ntmps7
    go_wp2_with fail
    (with_reducible refine (CC _ ?h1).out.mono ?_)
    case h1 => exact BK.out.bx.has
    rintro e w1 ⟨rfl, hb⟩
    have BK := Aside0.mk (BK.out.later hb)
    clear hb CC
    have q0 := BK.out.bx.q0
    have q1 := BK.out.bx.q1
    have q2 := BK.out.bx.q2
    have q3 := BK.out.bx.q3
    go_wp2_with fail
    (with_reducible refine (CR _ ?h2).out.mono ?_)
    case h2 => exact BK.out.bx.has
    rintro e w2 ⟨rfl, hb⟩
    have BK := Aside0.mk (BK.out.later hb)
    clear hb CR q0 q1 q2 q3
    go_wp2_with fail
    (with_reducible refine (CW _ (HL.out.l BK.out.below)).out.mono ?_)
    rintro e wz ⟨rfl, hbz⟩
    have HB := Aside0.mk (below_then BK.out.below BK.out.below.size hbz)
    go_wp2
    go_ret
    exact ⟨rfl, HB.out⟩
  rw [hR] at CR
  have hB := right_parts hR
  have hAR := hB.1
  have CWd := fun W h => Aside0.mk (Words_calls x A2 c2 A3 c3 W h hAR hc2)
  obtain ⟨L, hLw⟩ : ∃ L, L = wordsX x := ⟨_, rfl⟩
  have hlen := words_len hwf hAR
  have pall := back_all hwf hR
  have pone := back_one hwf hR
  have pcut := back_cut hwf hR
  have pmore := back_more hwf hR t
  rw [← hLw] at CWd hlen pall pone pcut pmore
  have CE0 := fun B d W h1 h2 h3 => Aside0.mk (Expr_calls L B L.length d W rfl h1 h2 h3)
  rw [pall] at CE0
  dsimp only at CE0
  have CEk := fun k B n d W h0 h1 h2 h3 => Aside0.mk (Expr_calls (L.take k) B n d W h0 h1 h2 h3)
  obtain ⟨T, hT⟩ : ∃ T, T = L ++ [t] := ⟨_, rfl⟩
  have CET := fun B d W h1 h2 h3 => Aside0.mk (Expr_calls T B T.length d W rfl h1 h2 h3)
  rw [← hT] at pmore
  obtain ⟨N, hN⟩ : ∃ N, N = L.length := ⟨_, rfl⟩
  rw [← hN] at CE0 hlen pone pcut pmore
  have hN0 : 0 < N := hlen.1
  have hNm : N ≤ 24000 := by
    have h1 := words_le (cnt x) x (Nat.le_refl _) hwf hAR
    rw [← hLw, ← hN] at h1
    omega
  obtain ⟨k, hk, hkN⟩ : ∃ k : Nat, u.tmod (N : Int) = (k : Int) ∧ k < N := ⟨(u.tmod (N : Int)).toNat, by
      have h1 := Int.tmod_nonneg (N : Int) u0
      omega, by
      have h1 := Int.tmod_nonneg (N : Int) u0
      have h2 := Int.tmod_lt_of_pos u (show (0 : Int) < N by omega)
      omega⟩
  have n1 : ((N : Int) == 0) = false := beq_eq_false_iff_ne.2 (by omega)
  have n2 : ¬ ((N : Int) = 0) := by omega
  have n3 : ¬ (N = 0) := by omega
  have n4 : ¬ ((N : Int) < 0) := by omega
  have n5 : decide ((N : Int) < 0) = false := decide_eq_false n4
  have n6 : (0 : Int) < (N : Int) := by omega
  have n7 : 0 < N := hN0
  have HLW := Aside0.mk hLw
  have HN := Aside0.mk hN
  have HT := Aside0.mk hT
  have TLk := Aside0.mk (show (L.take k).length = k by rw [List.length_take]; omega)
  have SM := Aside0.mk (fun B2 d2 B3 d3 W h1 h2 => same_k x A2 c2 A3 c3 B2 d2 B3 d3 W h1 h2)
  have KK := Aside0.mk (fun W (h : Has W x A2 c2 A3 c3) => k25_mk W x h.l2 h.C2 h.l3 h.C3)
  clear hB hAR hlen hwf hR hLw hN hT hc hc2 pall
  by_cases hk1 : k = 1
  · subst hk1
    obtain ⟨s, hs, hhd⟩ := pone hkN
    have hN1 : N ≠ 1 := by omega
    have CK := fun B n d W h0 h1 h2 h3 => Aside0.mk (CEk 1 B n d W h0 h1 h2 h3).out
    rw [hs] at CK
    dsimp only at CK
    obtain ⟨m1, m2⟩ := pmore (fun h => absurd h hN1)
    obtain ⟨yT, bT, gT, hpT⟩ : ∃ y b g, parseE T = (y, b, g) := ⟨_, _, _, rfl⟩
    rw [hpT] at CET m1 m2
    dsimp only at CET m1 m2
    subst m1
    subst m2
    clear hpT
    have e1 : ((N : Int) == 1) = false := beq_eq_false_iff_ne.2 (by omega)
    have e2 : ¬ ((N : Int) = 1) := by omega
    obtain ⟨r, hr⟩ : ∃ r, L = wTok s :: r := by
      cases L with
      | nil => cases hhd
      | cons a r => exact ⟨r, by rw [List.head?_cons] at hhd; rw [Option.some.inj hhd]⟩
    have HR := Aside0.mk hr
    clear pone pcut pmore hs hhd hr CEk hN1
    go_enter Tryd.func7, Tryd.ntmps7
    go_wp2_with fail
    (with_reducible refine (CC _ ?h1).out.mono ?_)
    case h1 => exact BK.out.bx.has
    rintro e w1 ⟨rfl, hb⟩
    have BK := Aside0.mk (BK.out.later hb)
    clear hb CC
    have q0 := BK.out.bx.q0
    have q1 := BK.out.bx.q1
    have q2 := BK.out.bx.q2
    have q3 := BK.out.bx.q3
    go_wp2_with fail
    (with_reducible refine (CR _ ?h2).out.mono ?_)
    case h2 => exact BK.out.bx.has
    rintro e w2 ⟨rfl, hb⟩
    have BK := Aside0.mk (BK.out.later hb)
    clear hb CR q0 q1 q2 q3
    have q0 := BK.out.bx.q0
    have q1 := BK.out.bx.q1
    have q2 := BK.out.bx.q2
    have q3 := BK.out.bx.q3
    go_wp2_with fail
    (with_reducible refine (CWd _ ?h3).out.mono ?_)
    case h3 => exact BK.out.bx.has
    rintro e w3 ⟨v, rfl, ho, hb⟩
    have BK := Aside0.mk (BK.out.later hb)
    obtain ⟨B, d, rfl, hd, hCC⟩ := Kd.R_reads ho
    rw [← HN.out] at hd hCC ⊢
    have HC := Aside0.mk hCC
    have HD := Aside0.mk hd
    clear hb CWd q0 q1 q2 q3 ho hd hCC
    go_wp2_with fail
    (with_reducible refine (CE0 _ _ _ ?h4 ?h5 ?h6).out.mono ?_)
    case h4 => exact HC.out
    case h5 => exact HD.out
    case h6 => exact HL.out.l BK.out.below
    rintro e w4 ⟨v2, v3, rfl, hg, hb⟩
    obtain ⟨E2, d2, E3, d3, rfl, rfl⟩ := hg.slices
    have BK := Aside0.mk ((BK.out.later hb).a (xC x E2 d2 E3 d3))
    have BY := Aside0.mk (Bx.new (kX.K_of_M hg))
    have HC := Aside0.mk (Kd.C_below HC.out (below_alloc hb (xC x E2 d2 E3 d3)))
    have y0 := BY.out.q0
    have y1 := BY.out.q1
    have y2 := BY.out.q2
    have y3 := BY.out.q3
    clear hg hb CE0
    have q0 := BK.out.bx.q0
    have q1 := BK.out.bx.q1
    have q2 := BK.out.bx.q2
    have q3 := BK.out.bx.q3
    go_wp2_with fail
    (with_reducible refine (SM.out _ _ _ _ _ ?s1 ?s2).mono ?_)
    case s1 => exact KK.out _ BK.out.bx.has
    case s2 => exact BY.out.K
    rintro e w5 ⟨rfl, hb⟩
    have BK := Aside0.mk (BK.out.later hb)
    have HC := Aside0.mk (Kd.C_below HC.out hb)
    clear hb SM q0 q1 q2 q3 y0 y1 y2 y3 BY
    have cr : ∀ W : World, (Instr.slice 43 (.slice B N d) none (some (.int .i64 1)) none).run Tryd.prog W = .ok (.slice B 1 d) W := cut_run5 B N d 1 (by omega) HD.out
    have HCk := Aside0.mk (show Kd.C k61 w5 B 1 (L.take 1) from by
      have h := Kd.C_take (m := 1) (xs := L) (by rw [← HN.out]; exact HC.out) (by rw [← HN.out]; omega)
      rwa [TLk.out] at h)
    go_wp2_with fail
    (with_reducible refine (CK _ _ _ _ ?h7 ?h8 ?h9 ?h10).out.mono ?_)
    case h7 => exact TLk.out.symm
    case h8 => rw [TLk.out]; exact HCk.out
    case h9 => rw [TLk.out]; have := HD.out; omega
    case h10 => exact HL.out.l BK.out.below
    rintro e w6 ⟨v2, v3, rfl, hg, hb⟩
    obtain ⟨G2, i2, G3, i3, rfl, rfl⟩ := hg.slices
    have BK6 := Aside0.mk (BK.out.later hb)
    obtain ⟨w7, hw7⟩ : ∃ z : World, z = w6.alloc (.cells #[.int .u8 0, .string s, .slice G2 0 i2, .slice G3 0 i3] TX) := ⟨_, rfl⟩
    have hb7 : Below w6.heap.size w6 w7 := hw7 ▸ below_alloc (Below.refl _ _) _
    have HW7 := Aside0.mk hw7
    have BK := Aside0.mk (BK6.out.later hb7)
    have HC6 := Aside0.mk (Kd.C_below HC.out hb)
    have y1 : w7.cell? ⟨w6.heap.size, 1, none⟩ = some (.string s) := by rw [hw7]; exact (Bx.new (kX.K_of_M hg)).q1
    have HC := Aside0.mk (Kd.C_below HC6.out hb7)
    clear hg hb CK hw7
    obtain ⟨ad, rfl, dd1, dd2, dd3⟩ := at_T61 HC.out 0 (by omega) (by omega)
    have e : ad.add ((0 : Int).toNat * 3) = ad := by show ad.add 0 = ad; exact Addr.add_zero' ad
    have er : rd_T61 L 0 = wTok s := by rw [HR.out]; rfl
    rw [e, er] at dd2
    have dq2 : w7.cell? ⟨ad.block, ad.off + 1, none⟩ = some (.string s) := dd2
    have dq3 : w7.cell? ⟨(ad.add 0).block, (ad.add 0).off + 1, none⟩ = some (.string s) := by rw [Addr.add_zero']; exact dd2
    clear e er dd1 dd2 dd3
    obtain ⟨t0, t1, t2⟩ := tcells BK.out.tb
    go_wp2_with fail
    rw [← HW7.out]
    go_quiet (fail)
    go_wp2_with fail
    obtain ⟨wd, hwd⟩ : ∃ z : World, z = w7.drewN nq := ⟨_, rfl⟩
    rw [← hwd]
    have hbd : Below w6.heap.size w6 wd := hwd ▸ pw_below_drewN hb7 nq
    clear hwd
    have HB := Aside0.mk (show Below w6.heap.size w6 wd.drew from below_drew hbd)
    have TB := Aside0.mk (show wd.drew.heap[w.heap.size + 1]? = some (tB t) from blk_on (show Below w6.heap.size w6 wd.drew from below_drew hbd) BK6.out.tb)
    refine start_ (n := 13) (S := fun w' => w'.cell? ⟨w.heap.size + 1, 0, none⟩ = some (.int .u8 t.f0) ∧ w'.cell? ⟨w.heap.size + 1, 1, none⟩ = some (.string t.f1) ∧ w'.cell? ⟨w.heap.size + 1, 2, none⟩ = some (.int .i64 t.f2)) (ds := []) #[false, false, false, false, false, false, false, false, false, false, false, false, false] (by kernel_rfl) rfl rfl ⟨(tcells TB.out).1, (tcells TB.out).2.1, (tcells TB.out).2.2⟩ (fun hHeld => ?_)
    refine pure_ (i := 1) (N := some 91) (v := ?_) (a' := ?_) #[false, true, false, false, false, false, false, false, false, false, false, false, false] rfl rfl (by kernel_rfl) (fun _ _ _ h => h) (Or.inl ⟨by rfl, ?_⟩) ?_ ?_
    rotate_left
    · intro w'
      go_simp
      with_reducible rfl
    rotate_left
    · simp only [Act.put, List.setIfInBounds_toArray, List.set_cons_zero, List.set_cons_succ, i64_w, i32_w]
      rfl
    refine take_ (i := 3) (N := some 93) (v := ?_) (a' := ?_) #[false, true, false, true, false, false, false, false, false, false, false, false, false] rfl rfl (by kernel_rfl) (fun _ _ _ h => h) (Or.inl ⟨by rfl, ?_⟩) hHeld ?_ ?_
    rotate_left
    · rintro w' ⟨s0, s1, s2⟩
      go_simp
      with_reducible rfl
    rotate_left
    · simp only [Act.put, List.setIfInBounds_toArray, List.set_cons_zero, List.set_cons_succ, i64_w, i32_w]
      rfl
    refine join_ (σ := Nat × Value × Nat) 8 #[true, true, true, true, true, false, false, false, false, false, false, false, false] (fun s => [(90, .slice (some ⟨s.1, 0, none⟩) 0 0), (92, s.2.1), (94, .slice (some ⟨s.2.2, 0, none⟩) 1 1)]) (fun s w' => Kd.R k61 61 w' w6.heap.size (fun _ => True) s.2.1 L ∧ w'.heap[s.2.2]? = some (tB t) ∧ Below w6.heap.size w6 w') ?_ ?_
    rotate_left
    · intro hCont
      refine two_ (i := 0) (j := 4) (Ni := some 90) (Nj := some 94) #[true, true, false, true, false, false, false, false, false, false, false, false, false] #[false, true, false, true, true, false, false, false, false, false, false, false, false] rfl rfl rfl rfl (by kernel_rfl) (by decide) (by decide) (fun K hK => ?_) (fun K hK => ?_)
      · skip
        refine value_ (w1 := ?_) (v := ?_) (by rfl) rfl ?_ ?_
        rotate_left 2
        · go_simp
          constructor
          · rfl
          · rfl
        have ZR := Aside0.mk (show Kd.R k61 61 _ w6.heap.size (fun _ => True) (.slice (some ⟨(wd.drew).heap.size, 0, none⟩) 0 0) ([] : List Tok) from ⟨fun _ _ => trivial, own_lit5 _ _ HB.out.size _ rfl⟩)
        have TB := Aside0.mk (blk_alloc TB.out (.cells #[] 61))
        have HB := Aside0.mk (below_alloc HB.out (.cells #[] 61))
        obtain ⟨wq1, hwq1⟩ : ∃ z : World, z = (wd.drew).alloc (.cells #[] 61) := ⟨_, rfl⟩
        replace ZR := ZR.out
        rw [← hwq1] at ZR
        have ZR := Aside0.mk ZR
        replace TB := TB.out
        rw [← hwq1] at TB
        have TB := Aside0.mk TB
        replace HB := HB.out
        rw [← hwq1] at HB
        have HB := Aside0.mk HB
        change K _ ((wd.drew).alloc (.cells #[] 61))
        rw [← hwq1]
        clear hwq1
        refine hK.out _ _ ⟨(tcells TB.out).1, (tcells TB.out).2.1, (tcells TB.out).2.2⟩ (fun hHeld => ?_)
        clear hK K
        refine norm_ (a' := ?_) ?_ ?_
        rotate_left
        · show Act.put _ (some 90) _ = _
          simp only [Act.put, List.setIfInBounds_toArray, List.set_cons_zero, List.set_cons_succ, i64_w, i32_w]
          rfl
        refine two_ (i := 2) (j := 4) (Ni := some 92) (Nj := some 94) #[true, true, true, true, false, false, false, false, false, false, false, false, false] #[true, true, false, true, true, false, false, false, false, false, false, false, false] rfl rfl rfl rfl (by kernel_rfl) (by decide) (by decide) (fun K hK => ?_) (fun K hK => ?_)
        · skip
          refine Kd.R_append_rows_step k61 (w0 := w6) w6.heap.size (by rfl) (.tmp 90) (.tmp 91) 43 61 (.agg #[.int .u8 0, .string nil8, .int .i64 0]) 32 rfl Tryd.underlying43 info_tok5 rfl (by decide) (by omega) (.slice (some ⟨_, 0, none⟩) 0 0) ([] : List Tok) L _ N d (fun _ => True) (fun _ => False) rfl rfl ZR.out (Kd.C_below HC6.out HB.out) (fun y cs hk => by rw [k61_open hk]; exact k61_mkM _ _ _ y) (fun _ hk => hk.elim) (fun _ _ => trivial) HB.out HB.out.size (by rw [List.length_nil]; omega) ?_
          intro va wa ho hb hg hat
          rw [List.nil_append] at ho
          have HO := Aside0.mk ho
          have TB := Aside0.mk (blk_on hb BK6.out.tb)
          have HB := Aside0.mk hb
          clear ho hb hg hat
          refine hK.out _ _ ⟨(tcells TB.out).1, (tcells TB.out).2.1, (tcells TB.out).2.2⟩ (fun hHeld => ?_)
          clear hK K
          refine norm_ (a' := ?_) ?_ ?_
          rotate_left
          · show Act.put _ (some 92) _ = _
            simp only [Act.put, List.setIfInBounds_toArray, List.set_cons_zero, List.set_cons_succ, i64_w, i32_w]
            rfl
          refine one_ (i := 4) (N := some 94) #[true, true, true, true, true, false, false, false, false, false, false, false, false] rfl rfl (by kernel_rfl) (by decide) (fun K hK => ?_)
          refine value_ (w1 := ?_) (v := ?_) (by rfl) rfl ?_ ?_
          rotate_left 2
          · go_simp
            constructor
            · rfl
            · rfl
          have Q4 := Aside0.mk (blk_newB HB.out (tB t))
          have HO := Aside0.mk (Kd.R_below HO.out (below_alloc (Below.refl _ _) (tB t)))
          have TB := Aside0.mk (blk_alloc TB.out (tB t))
          have HB := Aside0.mk (below_alloc HB.out (tB t))
          obtain ⟨wq3, hwq3⟩ : ∃ z : World, z = (wa).alloc (tB t) := ⟨_, rfl⟩
          replace Q4 := Q4.out
          rw [← hwq3] at Q4
          have Q4 := Aside0.mk Q4
          replace HO := HO.out
          rw [← hwq3] at HO
          have HO := Aside0.mk HO
          replace TB := TB.out
          rw [← hwq3] at TB
          have TB := Aside0.mk TB
          replace HB := HB.out
          rw [← hwq3] at HB
          have HB := Aside0.mk HB
          change K _ ((wa).alloc (tB t))
          rw [← hwq3]
          clear hwq3
          refine hK.out _ _ ⟨(tcells TB.out).1, (tcells TB.out).2.1, (tcells TB.out).2.2⟩ (fun hHeld => ?_)
          clear hK K
          refine norm_ (a' := ?_) ?_ ?_
          rotate_left
          · show Act.put _ (some 94) _ = _
            simp only [Act.put, List.setIfInBounds_toArray, List.set_cons_zero, List.set_cons_succ, i64_w, i32_w]
            rfl
          exact norm_ (by first | rfl | (simp only [putAll, Act.put, List.setIfInBounds_toArray, List.set_cons_zero, List.set_cons_succ]; done) | (simp only [putAll, Act.put, List.setIfInBounds_toArray, List.set_cons_zero, List.set_cons_succ]; rfl)) (hCont ⟨_, _, _⟩ _ ⟨HO.out, Q4.out, HB.out⟩)
        · skip
          refine value_ (w1 := ?_) (v := ?_) (by rfl) rfl ?_ ?_
          rotate_left 2
          · go_simp
            constructor
            · rfl
            · rfl
          have Q4 := Aside0.mk (blk_newB HB.out (tB t))
          have Q4n := Aside0.mk (Nat.ne_of_gt (Kd.R_lt ZR.out _ rfl))
          have ZR := Aside0.mk (Kd.R_below ZR.out (below_alloc (Below.refl _ _) (tB t)))
          have TB := Aside0.mk (blk_alloc TB.out (tB t))
          have HB := Aside0.mk (below_alloc HB.out (tB t))
          obtain ⟨wq2, hwq2⟩ : ∃ z : World, z = (wq1).alloc (tB t) := ⟨_, rfl⟩
          replace Q4 := Q4.out
          rw [← hwq2] at Q4
          have Q4 := Aside0.mk Q4
          replace ZR := ZR.out
          rw [← hwq2] at ZR
          have ZR := Aside0.mk ZR
          replace TB := TB.out
          rw [← hwq2] at TB
          have TB := Aside0.mk TB
          replace HB := HB.out
          rw [← hwq2] at HB
          have HB := Aside0.mk HB
          change K _ ((wq1).alloc (tB t))
          rw [← hwq2]
          clear hwq2
          refine hK.out _ _ ⟨(tcells TB.out).1, (tcells TB.out).2.1, (tcells TB.out).2.2⟩ (fun hHeld => ?_)
          clear hK K
          refine norm_ (a' := ?_) ?_ ?_
          rotate_left
          · show Act.put _ (some 94) _ = _
            simp only [Act.put, List.setIfInBounds_toArray, List.set_cons_zero, List.set_cons_succ, i64_w, i32_w]
            rfl
          refine one_ (i := 2) (N := some 92) #[true, true, true, true, true, false, false, false, false, false, false, false, false] rfl rfl (by kernel_rfl) (by decide) (fun K hK => ?_)
          refine Kd.R_append_rows_step k61 (w0 := w6) w6.heap.size (by rfl) (.tmp 90) (.tmp 91) 43 61 (.agg #[.int .u8 0, .string nil8, .int .i64 0]) 32 rfl Tryd.underlying43 info_tok5 rfl (by decide) (by omega) (.slice (some ⟨_, 0, none⟩) 0 0) ([] : List Tok) L _ N d (fun _ => True) (fun _ => False) rfl rfl ZR.out (Kd.C_below HC6.out HB.out) (fun y cs hk => by rw [k61_open hk]; exact k61_mkM _ _ _ y) (fun _ hk => hk.elim) (fun _ _ => trivial) HB.out HB.out.size (by rw [List.length_nil]; omega) ?_
          intro va wa ho hb hg hat
          rw [List.nil_append] at ho
          have HO := Aside0.mk ho
          have Q4 := Aside0.mk (blk_grown Q4.out hg (by intro h9; have h8 := Option.some.inj h9; exact Q4n.out h8))
          have TB := Aside0.mk (blk_on hb BK6.out.tb)
          have HB := Aside0.mk hb
          clear ho hb hg hat
          refine hK.out _ _ ⟨(tcells TB.out).1, (tcells TB.out).2.1, (tcells TB.out).2.2⟩ (fun hHeld => ?_)
          clear hK K
          refine norm_ (a' := ?_) ?_ ?_
          rotate_left
          · show Act.put _ (some 92) _ = _
            simp only [Act.put, List.setIfInBounds_toArray, List.set_cons_zero, List.set_cons_succ, i64_w, i32_w]
            rfl
          exact norm_ (by first | rfl | (simp only [putAll, Act.put, List.setIfInBounds_toArray, List.set_cons_zero, List.set_cons_succ]; done) | (simp only [putAll, Act.put, List.setIfInBounds_toArray, List.set_cons_zero, List.set_cons_succ]; rfl)) (hCont ⟨_, _, _⟩ _ ⟨HO.out, Q4.out, HB.out⟩)
      · skip
        refine value_ (w1 := ?_) (v := ?_) (by rfl) rfl ?_ ?_
        rotate_left 2
        · go_simp
          constructor
          · rfl
          · rfl
        have Q4 := Aside0.mk (blk_newB HB.out (tB t))
        have TB := Aside0.mk (blk_alloc TB.out (tB t))
        have HB := Aside0.mk (below_alloc HB.out (tB t))
        obtain ⟨wq1, hwq1⟩ : ∃ z : World, z = (wd.drew).alloc (tB t) := ⟨_, rfl⟩
        replace Q4 := Q4.out
        rw [← hwq1] at Q4
        have Q4 := Aside0.mk Q4
        replace TB := TB.out
        rw [← hwq1] at TB
        have TB := Aside0.mk TB
        replace HB := HB.out
        rw [← hwq1] at HB
        have HB := Aside0.mk HB
        change K _ ((wd.drew).alloc (tB t))
        rw [← hwq1]
        clear hwq1
        refine hK.out _ _ ⟨(tcells TB.out).1, (tcells TB.out).2.1, (tcells TB.out).2.2⟩ (fun hHeld => ?_)
        clear hK K
        refine norm_ (a' := ?_) ?_ ?_
        rotate_left
        · show Act.put _ (some 94) _ = _
          simp only [Act.put, List.setIfInBounds_toArray, List.set_cons_zero, List.set_cons_succ, i64_w, i32_w]
          rfl
        refine one_ (i := 0) (N := some 90) #[true, true, false, true, true, false, false, false, false, false, false, false, false] rfl rfl (by kernel_rfl) (by decide) (fun K hK => ?_)
        refine value_ (w1 := ?_) (v := ?_) (by rfl) rfl ?_ ?_
        rotate_left 2
        · go_simp
          constructor
          · rfl
          · rfl
        have ZR := Aside0.mk (show Kd.R k61 61 _ w6.heap.size (fun _ => True) (.slice (some ⟨(wq1).heap.size, 0, none⟩) 0 0) ([] : List Tok) from ⟨fun _ _ => trivial, own_lit5 _ _ HB.out.size _ rfl⟩)
        have Q4n := Aside0.mk (Nat.ne_of_lt (blk_lt Q4.out))
        have Q4 := Aside0.mk (blk_alloc Q4.out (.cells #[] 61))
        have TB := Aside0.mk (blk_alloc TB.out (.cells #[] 61))
        have HB := Aside0.mk (below_alloc HB.out (.cells #[] 61))
        obtain ⟨wq2, hwq2⟩ : ∃ z : World, z = (wq1).alloc (.cells #[] 61) := ⟨_, rfl⟩
        replace ZR := ZR.out
        rw [← hwq2] at ZR
        have ZR := Aside0.mk ZR
        replace Q4 := Q4.out
        rw [← hwq2] at Q4
        have Q4 := Aside0.mk Q4
        replace TB := TB.out
        rw [← hwq2] at TB
        have TB := Aside0.mk TB
        replace HB := HB.out
        rw [← hwq2] at HB
        have HB := Aside0.mk HB
        change K _ ((wq1).alloc (.cells #[] 61))
        rw [← hwq2]
        clear hwq2
        refine hK.out _ _ ⟨(tcells TB.out).1, (tcells TB.out).2.1, (tcells TB.out).2.2⟩ (fun hHeld => ?_)
        clear hK K
        refine norm_ (a' := ?_) ?_ ?_
        rotate_left
        · show Act.put _ (some 90) _ = _
          simp only [Act.put, List.setIfInBounds_toArray, List.set_cons_zero, List.set_cons_succ, i64_w, i32_w]
          rfl
        refine one_ (i := 2) (N := some 92) #[true, true, true, true, true, false, false, false, false, false, false, false, false] rfl rfl (by kernel_rfl) (by decide) (fun K hK => ?_)
        refine Kd.R_append_rows_step k61 (w0 := w6) w6.heap.size (by rfl) (.tmp 90) (.tmp 91) 43 61 (.agg #[.int .u8 0, .string nil8, .int .i64 0]) 32 rfl Tryd.underlying43 info_tok5 rfl (by decide) (by omega) (.slice (some ⟨_, 0, none⟩) 0 0) ([] : List Tok) L _ N d (fun _ => True) (fun _ => False) rfl rfl ZR.out (Kd.C_below HC6.out HB.out) (fun y cs hk => by rw [k61_open hk]; exact k61_mkM _ _ _ y) (fun _ hk => hk.elim) (fun _ _ => trivial) HB.out HB.out.size (by rw [List.length_nil]; omega) ?_
        intro va wa ho hb hg hat
        rw [List.nil_append] at ho
        have HO := Aside0.mk ho
        have Q4 := Aside0.mk (blk_grown Q4.out hg (by intro h9; have h8 := Option.some.inj h9; exact Q4n.out h8))
        have TB := Aside0.mk (blk_on hb BK6.out.tb)
        have HB := Aside0.mk hb
        clear ho hb hg hat
        refine hK.out _ _ ⟨(tcells TB.out).1, (tcells TB.out).2.1, (tcells TB.out).2.2⟩ (fun hHeld => ?_)
        clear hK K
        refine norm_ (a' := ?_) ?_ ?_
        rotate_left
        · show Act.put _ (some 92) _ = _
          simp only [Act.put, List.setIfInBounds_toArray, List.set_cons_zero, List.set_cons_succ, i64_w, i32_w]
          rfl
        exact norm_ (by first | rfl | (simp only [putAll, Act.put, List.setIfInBounds_toArray, List.set_cons_zero, List.set_cons_succ]; done) | (simp only [putAll, Act.put, List.setIfInBounds_toArray, List.set_cons_zero, List.set_cons_succ]; rfl)) (hCont ⟨_, _, _⟩ _ ⟨HO.out, Q4.out, HB.out⟩)
    rintro ⟨s0, v1, s4⟩ wg ⟨hO, hQ, hB⟩
    have HO := Aside0.mk hO
    have Q4 := Aside0.mk hQ
    have HB := Aside0.mk hB
    have TB := Aside0.mk (blk_on hB BK6.out.tb)
    clear hO hQ hB
    have hHeld : wg.cell? ⟨w.heap.size + 1, 0, none⟩ = some (.int .u8 t.f0) ∧ wg.cell? ⟨w.heap.size + 1, 1, none⟩ = some (.string t.f1) ∧ wg.cell? ⟨w.heap.size + 1, 2, none⟩ = some (.int .i64 t.f2) := ⟨(tcells TB.out).1, (tcells TB.out).2.1, (tcells TB.out).2.2⟩
    refine norm_ (a' := ?_) ?_ ?_
    rotate_left
    · simp only [putAll, Act.put, List.setIfInBounds_toArray, List.set_cons_zero, List.set_cons_succ]
      rfl
    refine one_ (i := 5) (N := some 95) #[true, true, true, true, true, true, false, false, false, false, false, false, false] rfl rfl (by kernel_rfl) (by decide) (fun K hK => ?_)
    refine Kd.R_append_rows_step k61 (w0 := w6) w6.heap.size (by rfl) (.tmp 92) (.tmp 94) 43 61 (.agg #[.int .u8 0, .string nil8, .int .i64 0]) 32 rfl Tryd.underlying43 info_tok5 rfl (by decide) (by omega) _ L [t] _ 1 1 (fun _ => True) (fun _ => False) rfl rfl HO.out (t_rowB Q4.out) (fun y cs hk => by rw [k61_open hk]; exact k61_mkM _ _ _ y) (fun _ hk => hk.elim) (fun _ _ => trivial) HB.out HB.out.size (by rw [← HN.out]; omega) ?_
    intro va wa ho hb hg hat
    rw [← HT.out] at ho
    obtain ⟨U, z, rfl, hd, hCC⟩ := Kd.R_reads ho
    have HU := Aside0.mk hCC
    have HZ := Aside0.mk hd
    have TB := Aside0.mk (blk_on hb BK6.out.tb)
    have HB := Aside0.mk (below_then BK6.out.below BK6.out.below.size hb)
    clear ho hb hg hat hCC hd
    refine hK.out _ _ ⟨(tcells TB.out).1, (tcells TB.out).2.1, (tcells TB.out).2.2⟩ (fun hHeld => ?_)
    clear hK K
    refine norm_ (a' := ?_) ?_ ?_
    rotate_left
    · show Act.put _ (some 95) _ = _
      simp only [Act.put, List.setIfInBounds_toArray, List.set_cons_zero, List.set_cons_succ, i64_w, i32_w]
      rfl
    refine one_ (i := 6) (N := some 96) #[true, true, true, true, true, true, true, false, false, false, false, false, false] rfl rfl (by kernel_rfl) (by decide) (fun K hK => ?_)
    refine goes_ Tryd.func36 (by kernel_rfl) rfl #[.slice U T.length z] (by rfl) rfl rfl (by simp only [List.map_toArray, List.map_cons, List.map_nil]; rfl) ?_
    with_reducible refine ((CET _ _ _ HU.out HZ.out (HL.out.l HB.out)).out).mono ?_
    rintro e w8 ⟨v2, v3, rfl, hg, hb8⟩
    refine ⟨_, rfl, ?_⟩
    obtain ⟨G2, i2, G3, i3, rfl, rfl⟩ := hg.slices
    have TB := Aside0.mk (blk_on hb8 TB.out)
    have HB := Aside0.mk (below_then HB.out HB.out.size hb8)
    clear hg hb8 CET
    refine hK.out _ _ ⟨(tcells TB.out).1, (tcells TB.out).2.1, (tcells TB.out).2.2⟩ (fun hHeld => ?_)
    clear hK K
    refine norm_ (a' := ?_) ?_ ?_
    rotate_left
    · show Act.put _ (some 96) _ = _
      simp only [Act.put, List.setIfInBounds_toArray, List.set_cons_zero, List.set_cons_succ, i64_w, i32_w]
      rfl
    refine pure_ (i := 7) (N := some 89) (v := ?_) (a' := ?_) #[true, true, true, true, true, true, true, true, false, false, false, false, false] rfl rfl (by kernel_rfl) (fun _ _ _ h => h) (Or.inl ⟨by rfl, ?_⟩) ?_ ?_
    rotate_left
    · intro w'
      go_simp
      with_reducible rfl
    rotate_left
    · simp only [Act.put, List.setIfInBounds_toArray, List.set_cons_zero, List.set_cons_succ, i64_w, i32_w]
      rfl
    refine pure_ (i := 8) (N := some 97) (v := ?_) (a' := ?_) #[true, true, true, true, true, true, true, true, true, false, false, false, false] rfl rfl (by kernel_rfl) (fun _ _ _ h => h) (Or.inl ⟨by rfl, ?_⟩) ?_ ?_
    rotate_left
    · intro w'
      go_simp
      with_reducible rfl
    rotate_left
    · simp only [Act.put, List.setIfInBounds_toArray, List.set_cons_zero, List.set_cons_succ, i64_w, i32_w]
      rfl
    refine pure_ (i := 9) (N := some 98) (v := ?_) (a' := ?_) #[true, true, true, true, true, true, true, true, true, true, false, false, false] rfl rfl (by kernel_rfl) (fun _ _ _ h => h) (Or.inl ⟨by rfl, ?_⟩) ?_ ?_
    rotate_left
    · intro w'
      go_simp
      with_reducible rfl
    rotate_left
    · simp only [Act.put, List.setIfInBounds_toArray, List.set_cons_zero, List.set_cons_succ, i64_w, i32_w]
      rfl
    refine pure_ (i := 10) (N := some 99) (v := ?_) (a' := ?_) #[true, true, true, true, true, true, true, true, true, true, true, false, false] rfl rfl (by kernel_rfl) (fun _ _ _ h => h) (Or.inl ⟨by rfl, ?_⟩) ?_ ?_
    rotate_left
    · intro w'
      go_simp
      with_reducible rfl
    rotate_left
    · simp only [Act.put, List.setIfInBounds_toArray, List.set_cons_zero, List.set_cons_succ, i64_w, i32_w]
      rfl
    refine pure_ (i := 11) (N := some 9) (v := ?_) (a' := ?_) #[true, true, true, true, true, true, true, true, true, true, true, true, false] rfl rfl (by kernel_rfl) (fun _ _ _ h => h) (Or.inl ⟨by rfl, ?_⟩) ?_ ?_
    rotate_left
    · intro w'
      go_simp
      with_reducible rfl
    rotate_left
    · simp only [Act.put, List.setIfInBounds_toArray, List.set_cons_zero, List.set_cons_succ, i64_w, i32_w]
      rfl
    refine pure_ (i := 12) (N := some 10) (v := ?_) (a' := ?_) #[true, true, true, true, true, true, true, true, true, true, true, true, true] rfl rfl (by kernel_rfl) (fun _ _ _ h => h) (Or.inl ⟨by rfl, ?_⟩) ?_ ?_
    rotate_left
    · intro w'
      go_simp
      with_reducible rfl
    rotate_left
    · simp only [Act.put, List.setIfInBounds_toArray, List.set_cons_zero, List.set_cons_succ, i64_w, i32_w]
      rfl
    refine done_ (by kernel_rfl) ?_

    go_wp2_with fail
    (with_reducible refine (CW _ (HL.out.l HB.out)).out.mono ?_)
    rintro e wz ⟨rfl, hbz⟩
    have HB := Aside0.mk (below_then HB.out HB.out.size hbz)
    go_wp2
    go_ret
    exact ⟨rfl, HB.out⟩
  · obtain ⟨p1, p2⟩ := pcut k hkN hk1
    have CK := fun B n d W h0 h1 h2 h3 => Aside0.mk (CEk k B n d W h0 h1 h2 h3).out
    obtain ⟨yk, bk, gk, hpk⟩ : ∃ y b g, parseE (L.take k) = (y, b, g) := ⟨_, _, _, rfl⟩
    rw [hpk] at CK p1 p2
    dsimp only at CK p1 p2
    subst p1
    subst p2
    have e3 : ((k : Int) == 1) = false := beq_eq_false_iff_ne.2 (by omega)
    have e4 : ¬ ((k : Int) = 1) := by omega
    have e5 : ((k : Int) != (k : Int)) = false := bne_eq_false_iff_eq.2 rfl
    clear pone pcut hpk CEk hk1
    go_enter Tryd.func7, Tryd.ntmps7
    go_wp2_with fail
    (with_reducible refine (CC _ ?h1).out.mono ?_)
    case h1 => exact BK.out.bx.has
    rintro e w1 ⟨rfl, hb⟩
    have BK := Aside0.mk (BK.out.later hb)
    clear hb CC
    have q0 := BK.out.bx.q0
    have q1 := BK.out.bx.q1
    have q2 := BK.out.bx.q2
    have q3 := BK.out.bx.q3
    go_wp2_with fail
    (with_reducible refine (CR _ ?h2).out.mono ?_)
    case h2 => exact BK.out.bx.has
    rintro e w2 ⟨rfl, hb⟩
    have BK := Aside0.mk (BK.out.later hb)
    clear hb CR q0 q1 q2 q3
    have q0 := BK.out.bx.q0
    have q1 := BK.out.bx.q1
    have q2 := BK.out.bx.q2
    have q3 := BK.out.bx.q3
    go_wp2_with fail
    (with_reducible refine (CWd _ ?h3).out.mono ?_)
    case h3 => exact BK.out.bx.has
    rintro e w3 ⟨v, rfl, ho, hb⟩
    have BK := Aside0.mk (BK.out.later hb)
    obtain ⟨B, d, rfl, hd, hCC⟩ := Kd.R_reads ho
    rw [← HN.out] at hd hCC ⊢
    have HC := Aside0.mk hCC
    have HD := Aside0.mk hd
    clear hb CWd q0 q1 q2 q3 ho hd hCC
    go_wp2_with fail
    (with_reducible refine (CE0 _ _ _ ?h4 ?h5 ?h6).out.mono ?_)
    case h4 => exact HC.out
    case h5 => exact HD.out
    case h6 => exact HL.out.l BK.out.below
    rintro e w4 ⟨v2, v3, rfl, hg, hb⟩
    obtain ⟨E2, d2, E3, d3, rfl, rfl⟩ := hg.slices
    have BK := Aside0.mk ((BK.out.later hb).a (xC x E2 d2 E3 d3))
    have BY := Aside0.mk (Bx.new (kX.K_of_M hg))
    have HC := Aside0.mk (Kd.C_below HC.out (below_alloc hb (xC x E2 d2 E3 d3)))
    have y0 := BY.out.q0
    have y1 := BY.out.q1
    have y2 := BY.out.q2
    have y3 := BY.out.q3
    clear hg hb CE0
    have q0 := BK.out.bx.q0
    have q1 := BK.out.bx.q1
    have q2 := BK.out.bx.q2
    have q3 := BK.out.bx.q3
    go_wp2_with fail
    (with_reducible refine (SM.out _ _ _ _ _ ?s1 ?s2).mono ?_)
    case s1 => exact KK.out _ BK.out.bx.has
    case s2 => exact BY.out.K
    rintro e w5 ⟨rfl, hb⟩
    have BK := Aside0.mk (BK.out.later hb)
    have HC := Aside0.mk (Kd.C_below HC.out hb)
    clear hb SM q0 q1 q2 q3 y0 y1 y2 y3 BY
    have cr : ∀ W : World, (Instr.slice 43 (.slice B N d) none (some (.int .i64 (k : Int))) none).run Tryd.prog W = .ok (.slice B k d) W := cut_run5 B N d k (by omega) HD.out
    have HCk := Aside0.mk (show Kd.C k61 w5 B k (L.take k) from by
      have h := Kd.C_take (m := k) (xs := L) (by rw [← HN.out]; exact HC.out) (by rw [← HN.out]; omega)
      rwa [TLk.out] at h)
    go_wp2_with fail
    (with_reducible refine (CK _ _ _ _ ?h7 ?h8 ?h9 ?h10).out.mono ?_)
    case h7 => exact TLk.out.symm
    case h8 => rw [TLk.out]; exact HCk.out
    case h9 => rw [TLk.out]; have := HD.out; omega
    case h10 => exact HL.out.l BK.out.below
    rintro e w6 ⟨v2, v3, rfl, hg, hb⟩
    obtain ⟨G2, i2, G3, i3, rfl, rfl⟩ := hg.slices
    have BK6 := Aside0.mk (BK.out.later hb)
    obtain ⟨w7, hw7⟩ : ∃ z : World, z = w6.alloc (.cells #[.int .u8 yk.f0, .string yk.f1, .slice G2 yk.f2.length i2, .slice G3 yk.f3.length i3] TX) := ⟨_, rfl⟩
    have hb7 : Below w6.heap.size w6 w7 := hw7 ▸ below_alloc (Below.refl _ _) _
    have HW7 := Aside0.mk hw7
    have BK := Aside0.mk (BK6.out.a (.cells #[.int .u8 yk.f0, .string yk.f1, .slice G2 yk.f2.length i2, .slice G3 yk.f3.length i3] TX))
    have HC6 := Aside0.mk (Kd.C_below HC.out hb)
    clear hg hb CK hw7
    obtain ⟨t0, t1, t2⟩ := tcells BK.out.tb
    by_cases hN1 : N = 1
    · have e1 : ((N : Int) == 1) = true := beq_iff_eq.2 (by omega)
      by_cases h4 : t.f0 = 4
      · have f1 : (t.f0 == 4) = true := beq_iff_eq.2 h4
        by_cases h5 : t.f1.toList = LPA.toList
        · have f2 : (t.f1.toList == [40]) = true := beq_iff_eq.2 (h5.trans (show LPA.toList = [40] by decide +kernel))
          clear pmore CET h4 h5 hN1
          go_wp2_with fail
          (with_reducible refine (CW _ (HL.out.l BK.out.below)).out.mono ?_)
          rintro e wz ⟨rfl, hbz⟩
          have HB := Aside0.mk (below_then BK.out.below BK.out.below.size hbz)
          go_wp2
          go_ret
          exact ⟨rfl, HB.out⟩
        · have f2 : (t.f1.toList == [40]) = false := beq_eq_false_iff_ne.2 (fun h => h5 (h.trans (show LPA.toList = [40] by decide +kernel).symm))
          obtain ⟨m1, m2⟩ := pmore (fun _ => by show (decide (t.f0 = 4) && (t.f1.toList == LPA.toList)) = false; rw [beq_eq_false_iff_ne.2 h5, Bool.and_false])
          obtain ⟨yT, bT, gT, hpT⟩ : ∃ y b g, parseE T = (y, b, g) := ⟨_, _, _, rfl⟩
          rw [hpT] at CET m1 m2
          dsimp only at CET m1 m2
          subst m1
          subst m2
          clear hpT
          clear h4 h5 hN1
          go_wp2_with fail
          rw [← HW7.out]
          have HB := Aside0.mk (show Below w6.heap.size w6 w7.drew from below_drew hb7)
          have TB := Aside0.mk (show w7.drew.heap[w.heap.size + 1]? = some (tB t) from blk_on (show Below w6.heap.size w6 w7.drew from below_drew hb7) BK6.out.tb)
          refine start_ (n := 13) (S := fun w' => w'.cell? ⟨w.heap.size + 1, 0, none⟩ = some (.int .u8 t.f0) ∧ w'.cell? ⟨w.heap.size + 1, 1, none⟩ = some (.string t.f1) ∧ w'.cell? ⟨w.heap.size + 1, 2, none⟩ = some (.int .i64 t.f2)) (ds := []) #[false, false, false, false, false, false, false, false, false, false, false, false, false] (by kernel_rfl) rfl rfl ⟨(tcells TB.out).1, (tcells TB.out).2.1, (tcells TB.out).2.2⟩ (fun hHeld => ?_)
          refine pure_ (i := 1) (N := some 91) (v := ?_) (a' := ?_) #[false, true, false, false, false, false, false, false, false, false, false, false, false] rfl rfl (by kernel_rfl) (fun _ _ _ h => h) (Or.inl ⟨by rfl, ?_⟩) ?_ ?_
          rotate_left
          · intro w'
            go_simp
            with_reducible rfl
          rotate_left
          · simp only [Act.put, List.setIfInBounds_toArray, List.set_cons_zero, List.set_cons_succ, i64_w, i32_w]
            rfl
          refine take_ (i := 3) (N := some 93) (v := ?_) (a' := ?_) #[false, true, false, true, false, false, false, false, false, false, false, false, false] rfl rfl (by kernel_rfl) (fun _ _ _ h => h) (Or.inl ⟨by rfl, ?_⟩) hHeld ?_ ?_
          rotate_left
          · rintro w' ⟨s0, s1, s2⟩
            go_simp
            with_reducible rfl
          rotate_left
          · simp only [Act.put, List.setIfInBounds_toArray, List.set_cons_zero, List.set_cons_succ, i64_w, i32_w]
            rfl
          refine join_ (σ := Nat × Value × Nat) 8 #[true, true, true, true, true, false, false, false, false, false, false, false, false] (fun s => [(90, .slice (some ⟨s.1, 0, none⟩) 0 0), (92, s.2.1), (94, .slice (some ⟨s.2.2, 0, none⟩) 1 1)]) (fun s w' => Kd.R k61 61 w' w6.heap.size (fun _ => True) s.2.1 L ∧ w'.heap[s.2.2]? = some (tB t) ∧ Below w6.heap.size w6 w') ?_ ?_
          rotate_left
          · intro hCont
            refine two_ (i := 0) (j := 4) (Ni := some 90) (Nj := some 94) #[true, true, false, true, false, false, false, false, false, false, false, false, false] #[false, true, false, true, true, false, false, false, false, false, false, false, false] rfl rfl rfl rfl (by kernel_rfl) (by decide) (by decide) (fun K hK => ?_) (fun K hK => ?_)
            · skip
              refine value_ (w1 := ?_) (v := ?_) (by rfl) rfl ?_ ?_
              rotate_left 2
              · go_simp
                constructor
                · rfl
                · rfl
              have ZR := Aside0.mk (show Kd.R k61 61 _ w6.heap.size (fun _ => True) (.slice (some ⟨(w7.drew).heap.size, 0, none⟩) 0 0) ([] : List Tok) from ⟨fun _ _ => trivial, own_lit5 _ _ HB.out.size _ rfl⟩)
              have TB := Aside0.mk (blk_alloc TB.out (.cells #[] 61))
              have HB := Aside0.mk (below_alloc HB.out (.cells #[] 61))
              obtain ⟨wq1, hwq1⟩ : ∃ z : World, z = (w7.drew).alloc (.cells #[] 61) := ⟨_, rfl⟩
              replace ZR := ZR.out
              rw [← hwq1] at ZR
              have ZR := Aside0.mk ZR
              replace TB := TB.out
              rw [← hwq1] at TB
              have TB := Aside0.mk TB
              replace HB := HB.out
              rw [← hwq1] at HB
              have HB := Aside0.mk HB
              change K _ ((w7.drew).alloc (.cells #[] 61))
              rw [← hwq1]
              clear hwq1
              refine hK.out _ _ ⟨(tcells TB.out).1, (tcells TB.out).2.1, (tcells TB.out).2.2⟩ (fun hHeld => ?_)
              clear hK K
              refine norm_ (a' := ?_) ?_ ?_
              rotate_left
              · show Act.put _ (some 90) _ = _
                simp only [Act.put, List.setIfInBounds_toArray, List.set_cons_zero, List.set_cons_succ, i64_w, i32_w]
                rfl
              refine two_ (i := 2) (j := 4) (Ni := some 92) (Nj := some 94) #[true, true, true, true, false, false, false, false, false, false, false, false, false] #[true, true, false, true, true, false, false, false, false, false, false, false, false] rfl rfl rfl rfl (by kernel_rfl) (by decide) (by decide) (fun K hK => ?_) (fun K hK => ?_)
              · skip
                refine Kd.R_append_rows_step k61 (w0 := w6) w6.heap.size (by rfl) (.tmp 90) (.tmp 91) 43 61 (.agg #[.int .u8 0, .string nil8, .int .i64 0]) 32 rfl Tryd.underlying43 info_tok5 rfl (by decide) (by omega) (.slice (some ⟨_, 0, none⟩) 0 0) ([] : List Tok) L _ N d (fun _ => True) (fun _ => False) rfl rfl ZR.out (Kd.C_below HC6.out HB.out) (fun y cs hk => by rw [k61_open hk]; exact k61_mkM _ _ _ y) (fun _ hk => hk.elim) (fun _ _ => trivial) HB.out HB.out.size (by rw [List.length_nil]; omega) ?_
                intro va wa ho hb hg hat
                rw [List.nil_append] at ho
                have HO := Aside0.mk ho
                have TB := Aside0.mk (blk_on hb BK6.out.tb)
                have HB := Aside0.mk hb
                clear ho hb hg hat
                refine hK.out _ _ ⟨(tcells TB.out).1, (tcells TB.out).2.1, (tcells TB.out).2.2⟩ (fun hHeld => ?_)
                clear hK K
                refine norm_ (a' := ?_) ?_ ?_
                rotate_left
                · show Act.put _ (some 92) _ = _
                  simp only [Act.put, List.setIfInBounds_toArray, List.set_cons_zero, List.set_cons_succ, i64_w, i32_w]
                  rfl
                refine one_ (i := 4) (N := some 94) #[true, true, true, true, true, false, false, false, false, false, false, false, false] rfl rfl (by kernel_rfl) (by decide) (fun K hK => ?_)
                refine value_ (w1 := ?_) (v := ?_) (by rfl) rfl ?_ ?_
                rotate_left 2
                · go_simp
                  constructor
                  · rfl
                  · rfl
                have Q4 := Aside0.mk (blk_newB HB.out (tB t))
                have HO := Aside0.mk (Kd.R_below HO.out (below_alloc (Below.refl _ _) (tB t)))
                have TB := Aside0.mk (blk_alloc TB.out (tB t))
                have HB := Aside0.mk (below_alloc HB.out (tB t))
                obtain ⟨wq3, hwq3⟩ : ∃ z : World, z = (wa).alloc (tB t) := ⟨_, rfl⟩
                replace Q4 := Q4.out
                rw [← hwq3] at Q4
                have Q4 := Aside0.mk Q4
                replace HO := HO.out
                rw [← hwq3] at HO
                have HO := Aside0.mk HO
                replace TB := TB.out
                rw [← hwq3] at TB
                have TB := Aside0.mk TB
                replace HB := HB.out
                rw [← hwq3] at HB
                have HB := Aside0.mk HB
                change K _ ((wa).alloc (tB t))
                rw [← hwq3]
                clear hwq3
                refine hK.out _ _ ⟨(tcells TB.out).1, (tcells TB.out).2.1, (tcells TB.out).2.2⟩ (fun hHeld => ?_)
                clear hK K
                refine norm_ (a' := ?_) ?_ ?_
                rotate_left
                · show Act.put _ (some 94) _ = _
                  simp only [Act.put, List.setIfInBounds_toArray, List.set_cons_zero, List.set_cons_succ, i64_w, i32_w]
                  rfl
                exact norm_ (by first | rfl | (simp only [putAll, Act.put, List.setIfInBounds_toArray, List.set_cons_zero, List.set_cons_succ]; done) | (simp only [putAll, Act.put, List.setIfInBounds_toArray, List.set_cons_zero, List.set_cons_succ]; rfl)) (hCont ⟨_, _, _⟩ _ ⟨HO.out, Q4.out, HB.out⟩)
              · skip
                refine value_ (w1 := ?_) (v := ?_) (by rfl) rfl ?_ ?_
                rotate_left 2
                · go_simp
                  constructor
                  · rfl
                  · rfl
                have Q4 := Aside0.mk (blk_newB HB.out (tB t))
                have Q4n := Aside0.mk (Nat.ne_of_gt (Kd.R_lt ZR.out _ rfl))
                have ZR := Aside0.mk (Kd.R_below ZR.out (below_alloc (Below.refl _ _) (tB t)))
                have TB := Aside0.mk (blk_alloc TB.out (tB t))
                have HB := Aside0.mk (below_alloc HB.out (tB t))
                obtain ⟨wq2, hwq2⟩ : ∃ z : World, z = (wq1).alloc (tB t) := ⟨_, rfl⟩
                replace Q4 := Q4.out
                rw [← hwq2] at Q4
                have Q4 := Aside0.mk Q4
                replace ZR := ZR.out
                rw [← hwq2] at ZR
                have ZR := Aside0.mk ZR
                replace TB := TB.out
                rw [← hwq2] at TB
                have TB := Aside0.mk TB
                replace HB := HB.out
                rw [← hwq2] at HB
                have HB := Aside0.mk HB
                change K _ ((wq1).alloc (tB t))
                rw [← hwq2]
                clear hwq2
                refine hK.out _ _ ⟨(tcells TB.out).1, (tcells TB.out).2.1, (tcells TB.out).2.2⟩ (fun hHeld => ?_)
                clear hK K
                refine norm_ (a' := ?_) ?_ ?_
                rotate_left
                · show Act.put _ (some 94) _ = _
                  simp only [Act.put, List.setIfInBounds_toArray, List.set_cons_zero, List.set_cons_succ, i64_w, i32_w]
                  rfl
                refine one_ (i := 2) (N := some 92) #[true, true, true, true, true, false, false, false, false, false, false, false, false] rfl rfl (by kernel_rfl) (by decide) (fun K hK => ?_)
                refine Kd.R_append_rows_step k61 (w0 := w6) w6.heap.size (by rfl) (.tmp 90) (.tmp 91) 43 61 (.agg #[.int .u8 0, .string nil8, .int .i64 0]) 32 rfl Tryd.underlying43 info_tok5 rfl (by decide) (by omega) (.slice (some ⟨_, 0, none⟩) 0 0) ([] : List Tok) L _ N d (fun _ => True) (fun _ => False) rfl rfl ZR.out (Kd.C_below HC6.out HB.out) (fun y cs hk => by rw [k61_open hk]; exact k61_mkM _ _ _ y) (fun _ hk => hk.elim) (fun _ _ => trivial) HB.out HB.out.size (by rw [List.length_nil]; omega) ?_
                intro va wa ho hb hg hat
                rw [List.nil_append] at ho
                have HO := Aside0.mk ho
                have Q4 := Aside0.mk (blk_grown Q4.out hg (by intro h9; have h8 := Option.some.inj h9; exact Q4n.out h8))
                have TB := Aside0.mk (blk_on hb BK6.out.tb)
                have HB := Aside0.mk hb
                clear ho hb hg hat
                refine hK.out _ _ ⟨(tcells TB.out).1, (tcells TB.out).2.1, (tcells TB.out).2.2⟩ (fun hHeld => ?_)
                clear hK K
                refine norm_ (a' := ?_) ?_ ?_
                rotate_left
                · show Act.put _ (some 92) _ = _
                  simp only [Act.put, List.setIfInBounds_toArray, List.set_cons_zero, List.set_cons_succ, i64_w, i32_w]
                  rfl
                exact norm_ (by first | rfl | (simp only [putAll, Act.put, List.setIfInBounds_toArray, List.set_cons_zero, List.set_cons_succ]; done) | (simp only [putAll, Act.put, List.setIfInBounds_toArray, List.set_cons_zero, List.set_cons_succ]; rfl)) (hCont ⟨_, _, _⟩ _ ⟨HO.out, Q4.out, HB.out⟩)
            · skip
              refine value_ (w1 := ?_) (v := ?_) (by rfl) rfl ?_ ?_
              rotate_left 2
              · go_simp
                constructor
                · rfl
                · rfl
              have Q4 := Aside0.mk (blk_newB HB.out (tB t))
              have TB := Aside0.mk (blk_alloc TB.out (tB t))
              have HB := Aside0.mk (below_alloc HB.out (tB t))
              obtain ⟨wq1, hwq1⟩ : ∃ z : World, z = (w7.drew).alloc (tB t) := ⟨_, rfl⟩
              replace Q4 := Q4.out
              rw [← hwq1] at Q4
              have Q4 := Aside0.mk Q4
              replace TB := TB.out
              rw [← hwq1] at TB
              have TB := Aside0.mk TB
              replace HB := HB.out
              rw [← hwq1] at HB
              have HB := Aside0.mk HB
              change K _ ((w7.drew).alloc (tB t))
              rw [← hwq1]
              clear hwq1
              refine hK.out _ _ ⟨(tcells TB.out).1, (tcells TB.out).2.1, (tcells TB.out).2.2⟩ (fun hHeld => ?_)
              clear hK K
              refine norm_ (a' := ?_) ?_ ?_
              rotate_left
              · show Act.put _ (some 94) _ = _
                simp only [Act.put, List.setIfInBounds_toArray, List.set_cons_zero, List.set_cons_succ, i64_w, i32_w]
                rfl
              refine one_ (i := 0) (N := some 90) #[true, true, false, true, true, false, false, false, false, false, false, false, false] rfl rfl (by kernel_rfl) (by decide) (fun K hK => ?_)
              refine value_ (w1 := ?_) (v := ?_) (by rfl) rfl ?_ ?_
              rotate_left 2
              · go_simp
                constructor
                · rfl
                · rfl
              have ZR := Aside0.mk (show Kd.R k61 61 _ w6.heap.size (fun _ => True) (.slice (some ⟨(wq1).heap.size, 0, none⟩) 0 0) ([] : List Tok) from ⟨fun _ _ => trivial, own_lit5 _ _ HB.out.size _ rfl⟩)
              have Q4n := Aside0.mk (Nat.ne_of_lt (blk_lt Q4.out))
              have Q4 := Aside0.mk (blk_alloc Q4.out (.cells #[] 61))
              have TB := Aside0.mk (blk_alloc TB.out (.cells #[] 61))
              have HB := Aside0.mk (below_alloc HB.out (.cells #[] 61))
              obtain ⟨wq2, hwq2⟩ : ∃ z : World, z = (wq1).alloc (.cells #[] 61) := ⟨_, rfl⟩
              replace ZR := ZR.out
              rw [← hwq2] at ZR
              have ZR := Aside0.mk ZR
              replace Q4 := Q4.out
              rw [← hwq2] at Q4
              have Q4 := Aside0.mk Q4
              replace TB := TB.out
              rw [← hwq2] at TB
              have TB := Aside0.mk TB
              replace HB := HB.out
              rw [← hwq2] at HB
              have HB := Aside0.mk HB
              change K _ ((wq1).alloc (.cells #[] 61))
              rw [← hwq2]
              clear hwq2
              refine hK.out _ _ ⟨(tcells TB.out).1, (tcells TB.out).2.1, (tcells TB.out).2.2⟩ (fun hHeld => ?_)
              clear hK K
              refine norm_ (a' := ?_) ?_ ?_
              rotate_left
              · show Act.put _ (some 90) _ = _
                simp only [Act.put, List.setIfInBounds_toArray, List.set_cons_zero, List.set_cons_succ, i64_w, i32_w]
                rfl
              refine one_ (i := 2) (N := some 92) #[true, true, true, true, true, false, false, false, false, false, false, false, false] rfl rfl (by kernel_rfl) (by decide) (fun K hK => ?_)
              refine Kd.R_append_rows_step k61 (w0 := w6) w6.heap.size (by rfl) (.tmp 90) (.tmp 91) 43 61 (.agg #[.int .u8 0, .string nil8, .int .i64 0]) 32 rfl Tryd.underlying43 info_tok5 rfl (by decide) (by omega) (.slice (some ⟨_, 0, none⟩) 0 0) ([] : List Tok) L _ N d (fun _ => True) (fun _ => False) rfl rfl ZR.out (Kd.C_below HC6.out HB.out) (fun y cs hk => by rw [k61_open hk]; exact k61_mkM _ _ _ y) (fun _ hk => hk.elim) (fun _ _ => trivial) HB.out HB.out.size (by rw [List.length_nil]; omega) ?_
              intro va wa ho hb hg hat
              rw [List.nil_append] at ho
              have HO := Aside0.mk ho
              have Q4 := Aside0.mk (blk_grown Q4.out hg (by intro h9; have h8 := Option.some.inj h9; exact Q4n.out h8))
              have TB := Aside0.mk (blk_on hb BK6.out.tb)
              have HB := Aside0.mk hb
              clear ho hb hg hat
              refine hK.out _ _ ⟨(tcells TB.out).1, (tcells TB.out).2.1, (tcells TB.out).2.2⟩ (fun hHeld => ?_)
              clear hK K
              refine norm_ (a' := ?_) ?_ ?_
              rotate_left
              · show Act.put _ (some 92) _ = _
                simp only [Act.put, List.setIfInBounds_toArray, List.set_cons_zero, List.set_cons_succ, i64_w, i32_w]
                rfl
              exact norm_ (by first | rfl | (simp only [putAll, Act.put, List.setIfInBounds_toArray, List.set_cons_zero, List.set_cons_succ]; done) | (simp only [putAll, Act.put, List.setIfInBounds_toArray, List.set_cons_zero, List.set_cons_succ]; rfl)) (hCont ⟨_, _, _⟩ _ ⟨HO.out, Q4.out, HB.out⟩)
          rintro ⟨s0, v1, s4⟩ wg ⟨hO, hQ, hB⟩
          have HO := Aside0.mk hO
          have Q4 := Aside0.mk hQ
          have HB := Aside0.mk hB
          have TB := Aside0.mk (blk_on hB BK6.out.tb)
          clear hO hQ hB
          have hHeld : wg.cell? ⟨w.heap.size + 1, 0, none⟩ = some (.int .u8 t.f0) ∧ wg.cell? ⟨w.heap.size + 1, 1, none⟩ = some (.string t.f1) ∧ wg.cell? ⟨w.heap.size + 1, 2, none⟩ = some (.int .i64 t.f2) := ⟨(tcells TB.out).1, (tcells TB.out).2.1, (tcells TB.out).2.2⟩
          refine norm_ (a' := ?_) ?_ ?_
          rotate_left
          · simp only [putAll, Act.put, List.setIfInBounds_toArray, List.set_cons_zero, List.set_cons_succ]
            rfl
          refine one_ (i := 5) (N := some 95) #[true, true, true, true, true, true, false, false, false, false, false, false, false] rfl rfl (by kernel_rfl) (by decide) (fun K hK => ?_)
          refine Kd.R_append_rows_step k61 (w0 := w6) w6.heap.size (by rfl) (.tmp 92) (.tmp 94) 43 61 (.agg #[.int .u8 0, .string nil8, .int .i64 0]) 32 rfl Tryd.underlying43 info_tok5 rfl (by decide) (by omega) _ L [t] _ 1 1 (fun _ => True) (fun _ => False) rfl rfl HO.out (t_rowB Q4.out) (fun y cs hk => by rw [k61_open hk]; exact k61_mkM _ _ _ y) (fun _ hk => hk.elim) (fun _ _ => trivial) HB.out HB.out.size (by rw [← HN.out]; omega) ?_
          intro va wa ho hb hg hat
          rw [← HT.out] at ho
          obtain ⟨U, z, rfl, hd, hCC⟩ := Kd.R_reads ho
          have HU := Aside0.mk hCC
          have HZ := Aside0.mk hd
          have TB := Aside0.mk (blk_on hb BK6.out.tb)
          have HB := Aside0.mk (below_then BK6.out.below BK6.out.below.size hb)
          clear ho hb hg hat hCC hd
          refine hK.out _ _ ⟨(tcells TB.out).1, (tcells TB.out).2.1, (tcells TB.out).2.2⟩ (fun hHeld => ?_)
          clear hK K
          refine norm_ (a' := ?_) ?_ ?_
          rotate_left
          · show Act.put _ (some 95) _ = _
            simp only [Act.put, List.setIfInBounds_toArray, List.set_cons_zero, List.set_cons_succ, i64_w, i32_w]
            rfl
          refine one_ (i := 6) (N := some 96) #[true, true, true, true, true, true, true, false, false, false, false, false, false] rfl rfl (by kernel_rfl) (by decide) (fun K hK => ?_)
          refine goes_ Tryd.func36 (by kernel_rfl) rfl #[.slice U T.length z] (by rfl) rfl rfl (by simp only [List.map_toArray, List.map_cons, List.map_nil]; rfl) ?_
          with_reducible refine ((CET _ _ _ HU.out HZ.out (HL.out.l HB.out)).out).mono ?_
          rintro e w8 ⟨v2, v3, rfl, hg, hb8⟩
          refine ⟨_, rfl, ?_⟩
          obtain ⟨G2, i2, G3, i3, rfl, rfl⟩ := hg.slices
          have TB := Aside0.mk (blk_on hb8 TB.out)
          have HB := Aside0.mk (below_then HB.out HB.out.size hb8)
          clear hg hb8 CET
          refine hK.out _ _ ⟨(tcells TB.out).1, (tcells TB.out).2.1, (tcells TB.out).2.2⟩ (fun hHeld => ?_)
          clear hK K
          refine norm_ (a' := ?_) ?_ ?_
          rotate_left
          · show Act.put _ (some 96) _ = _
            simp only [Act.put, List.setIfInBounds_toArray, List.set_cons_zero, List.set_cons_succ, i64_w, i32_w]
            rfl
          refine pure_ (i := 7) (N := some 89) (v := ?_) (a' := ?_) #[true, true, true, true, true, true, true, true, false, false, false, false, false] rfl rfl (by kernel_rfl) (fun _ _ _ h => h) (Or.inl ⟨by rfl, ?_⟩) ?_ ?_
          rotate_left
          · intro w'
            go_simp
            with_reducible rfl
          rotate_left
          · simp only [Act.put, List.setIfInBounds_toArray, List.set_cons_zero, List.set_cons_succ, i64_w, i32_w]
            rfl
          refine pure_ (i := 8) (N := some 97) (v := ?_) (a' := ?_) #[true, true, true, true, true, true, true, true, true, false, false, false, false] rfl rfl (by kernel_rfl) (fun _ _ _ h => h) (Or.inl ⟨by rfl, ?_⟩) ?_ ?_
          rotate_left
          · intro w'
            go_simp
            with_reducible rfl
          rotate_left
          · simp only [Act.put, List.setIfInBounds_toArray, List.set_cons_zero, List.set_cons_succ, i64_w, i32_w]
            rfl
          refine pure_ (i := 9) (N := some 98) (v := ?_) (a' := ?_) #[true, true, true, true, true, true, true, true, true, true, false, false, false] rfl rfl (by kernel_rfl) (fun _ _ _ h => h) (Or.inl ⟨by rfl, ?_⟩) ?_ ?_
          rotate_left
          · intro w'
            go_simp
            with_reducible rfl
          rotate_left
          · simp only [Act.put, List.setIfInBounds_toArray, List.set_cons_zero, List.set_cons_succ, i64_w, i32_w]
            rfl
          refine pure_ (i := 10) (N := some 99) (v := ?_) (a' := ?_) #[true, true, true, true, true, true, true, true, true, true, true, false, false] rfl rfl (by kernel_rfl) (fun _ _ _ h => h) (Or.inl ⟨by rfl, ?_⟩) ?_ ?_
          rotate_left
          · intro w'
            go_simp
            with_reducible rfl
          rotate_left
          · simp only [Act.put, List.setIfInBounds_toArray, List.set_cons_zero, List.set_cons_succ, i64_w, i32_w]
            rfl
          refine pure_ (i := 11) (N := some 9) (v := ?_) (a' := ?_) #[true, true, true, true, true, true, true, true, true, true, true, true, false] rfl rfl (by kernel_rfl) (fun _ _ _ h => h) (Or.inl ⟨by rfl, ?_⟩) ?_ ?_
          rotate_left
          · intro w'
            go_simp
            with_reducible rfl
          rotate_left
          · simp only [Act.put, List.setIfInBounds_toArray, List.set_cons_zero, List.set_cons_succ, i64_w, i32_w]
            rfl
          refine pure_ (i := 12) (N := some 10) (v := ?_) (a' := ?_) #[true, true, true, true, true, true, true, true, true, true, true, true, true] rfl rfl (by kernel_rfl) (fun _ _ _ h => h) (Or.inl ⟨by rfl, ?_⟩) ?_ ?_
          rotate_left
          · intro w'
            go_simp
            with_reducible rfl
          rotate_left
          · simp only [Act.put, List.setIfInBounds_toArray, List.set_cons_zero, List.set_cons_succ, i64_w, i32_w]
            rfl
          refine done_ (by kernel_rfl) ?_

          go_wp2_with fail
          (with_reducible refine (CW _ (HL.out.l HB.out)).out.mono ?_)
          rintro e wz ⟨rfl, hbz⟩
          have HB := Aside0.mk (below_then HB.out HB.out.size hbz)
          go_wp2
          go_ret
          exact ⟨rfl, HB.out⟩
      · have f1 : (t.f0 == 4) = false := beq_eq_false_iff_ne.2 h4
        obtain ⟨m1, m2⟩ := pmore (fun _ => by show (decide (t.f0 = 4) && (t.f1.toList == LPA.toList)) = false; rw [decide_eq_false h4, Bool.false_and])
        obtain ⟨yT, bT, gT, hpT⟩ : ∃ y b g, parseE T = (y, b, g) := ⟨_, _, _, rfl⟩
        rw [hpT] at CET m1 m2
        dsimp only at CET m1 m2
        subst m1
        subst m2
        clear hpT
        clear h4 hN1
        go_wp2_with fail
        rw [← HW7.out]
        have HB := Aside0.mk (show Below w6.heap.size w6 w7.drew from below_drew hb7)
        have TB := Aside0.mk (show w7.drew.heap[w.heap.size + 1]? = some (tB t) from blk_on (show Below w6.heap.size w6 w7.drew from below_drew hb7) BK6.out.tb)
        refine start_ (n := 13) (S := fun w' => w'.cell? ⟨w.heap.size + 1, 0, none⟩ = some (.int .u8 t.f0) ∧ w'.cell? ⟨w.heap.size + 1, 1, none⟩ = some (.string t.f1) ∧ w'.cell? ⟨w.heap.size + 1, 2, none⟩ = some (.int .i64 t.f2)) (ds := []) #[false, false, false, false, false, false, false, false, false, false, false, false, false] (by kernel_rfl) rfl rfl ⟨(tcells TB.out).1, (tcells TB.out).2.1, (tcells TB.out).2.2⟩ (fun hHeld => ?_)
        refine pure_ (i := 1) (N := some 91) (v := ?_) (a' := ?_) #[false, true, false, false, false, false, false, false, false, false, false, false, false] rfl rfl (by kernel_rfl) (fun _ _ _ h => h) (Or.inl ⟨by rfl, ?_⟩) ?_ ?_
        rotate_left
        · intro w'
          go_simp
          with_reducible rfl
        rotate_left
        · simp only [Act.put, List.setIfInBounds_toArray, List.set_cons_zero, List.set_cons_succ, i64_w, i32_w]
          rfl
        refine take_ (i := 3) (N := some 93) (v := ?_) (a' := ?_) #[false, true, false, true, false, false, false, false, false, false, false, false, false] rfl rfl (by kernel_rfl) (fun _ _ _ h => h) (Or.inl ⟨by rfl, ?_⟩) hHeld ?_ ?_
        rotate_left
        · rintro w' ⟨s0, s1, s2⟩
          go_simp
          with_reducible rfl
        rotate_left
        · simp only [Act.put, List.setIfInBounds_toArray, List.set_cons_zero, List.set_cons_succ, i64_w, i32_w]
          rfl
        refine join_ (σ := Nat × Value × Nat) 8 #[true, true, true, true, true, false, false, false, false, false, false, false, false] (fun s => [(90, .slice (some ⟨s.1, 0, none⟩) 0 0), (92, s.2.1), (94, .slice (some ⟨s.2.2, 0, none⟩) 1 1)]) (fun s w' => Kd.R k61 61 w' w6.heap.size (fun _ => True) s.2.1 L ∧ w'.heap[s.2.2]? = some (tB t) ∧ Below w6.heap.size w6 w') ?_ ?_
        rotate_left
        · intro hCont
          refine two_ (i := 0) (j := 4) (Ni := some 90) (Nj := some 94) #[true, true, false, true, false, false, false, false, false, false, false, false, false] #[false, true, false, true, true, false, false, false, false, false, false, false, false] rfl rfl rfl rfl (by kernel_rfl) (by decide) (by decide) (fun K hK => ?_) (fun K hK => ?_)
          · skip
            refine value_ (w1 := ?_) (v := ?_) (by rfl) rfl ?_ ?_
            rotate_left 2
            · go_simp
              constructor
              · rfl
              · rfl
            have ZR := Aside0.mk (show Kd.R k61 61 _ w6.heap.size (fun _ => True) (.slice (some ⟨(w7.drew).heap.size, 0, none⟩) 0 0) ([] : List Tok) from ⟨fun _ _ => trivial, own_lit5 _ _ HB.out.size _ rfl⟩)
            have TB := Aside0.mk (blk_alloc TB.out (.cells #[] 61))
            have HB := Aside0.mk (below_alloc HB.out (.cells #[] 61))
            obtain ⟨wq1, hwq1⟩ : ∃ z : World, z = (w7.drew).alloc (.cells #[] 61) := ⟨_, rfl⟩
            replace ZR := ZR.out
            rw [← hwq1] at ZR
            have ZR := Aside0.mk ZR
            replace TB := TB.out
            rw [← hwq1] at TB
            have TB := Aside0.mk TB
            replace HB := HB.out
            rw [← hwq1] at HB
            have HB := Aside0.mk HB
            change K _ ((w7.drew).alloc (.cells #[] 61))
            rw [← hwq1]
            clear hwq1
            refine hK.out _ _ ⟨(tcells TB.out).1, (tcells TB.out).2.1, (tcells TB.out).2.2⟩ (fun hHeld => ?_)
            clear hK K
            refine norm_ (a' := ?_) ?_ ?_
            rotate_left
            · show Act.put _ (some 90) _ = _
              simp only [Act.put, List.setIfInBounds_toArray, List.set_cons_zero, List.set_cons_succ, i64_w, i32_w]
              rfl
            refine two_ (i := 2) (j := 4) (Ni := some 92) (Nj := some 94) #[true, true, true, true, false, false, false, false, false, false, false, false, false] #[true, true, false, true, true, false, false, false, false, false, false, false, false] rfl rfl rfl rfl (by kernel_rfl) (by decide) (by decide) (fun K hK => ?_) (fun K hK => ?_)
            · skip
              refine Kd.R_append_rows_step k61 (w0 := w6) w6.heap.size (by rfl) (.tmp 90) (.tmp 91) 43 61 (.agg #[.int .u8 0, .string nil8, .int .i64 0]) 32 rfl Tryd.underlying43 info_tok5 rfl (by decide) (by omega) (.slice (some ⟨_, 0, none⟩) 0 0) ([] : List Tok) L _ N d (fun _ => True) (fun _ => False) rfl rfl ZR.out (Kd.C_below HC6.out HB.out) (fun y cs hk => by rw [k61_open hk]; exact k61_mkM _ _ _ y) (fun _ hk => hk.elim) (fun _ _ => trivial) HB.out HB.out.size (by rw [List.length_nil]; omega) ?_
              intro va wa ho hb hg hat
              rw [List.nil_append] at ho
              have HO := Aside0.mk ho
              have TB := Aside0.mk (blk_on hb BK6.out.tb)
              have HB := Aside0.mk hb
              clear ho hb hg hat
              refine hK.out _ _ ⟨(tcells TB.out).1, (tcells TB.out).2.1, (tcells TB.out).2.2⟩ (fun hHeld => ?_)
              clear hK K
              refine norm_ (a' := ?_) ?_ ?_
              rotate_left
              · show Act.put _ (some 92) _ = _
                simp only [Act.put, List.setIfInBounds_toArray, List.set_cons_zero, List.set_cons_succ, i64_w, i32_w]
                rfl
              refine one_ (i := 4) (N := some 94) #[true, true, true, true, true, false, false, false, false, false, false, false, false] rfl rfl (by kernel_rfl) (by decide) (fun K hK => ?_)
              refine value_ (w1 := ?_) (v := ?_) (by rfl) rfl ?_ ?_
              rotate_left 2
              · go_simp
                constructor
                · rfl
                · rfl
              have Q4 := Aside0.mk (blk_newB HB.out (tB t))
              have HO := Aside0.mk (Kd.R_below HO.out (below_alloc (Below.refl _ _) (tB t)))
              have TB := Aside0.mk (blk_alloc TB.out (tB t))
              have HB := Aside0.mk (below_alloc HB.out (tB t))
              obtain ⟨wq3, hwq3⟩ : ∃ z : World, z = (wa).alloc (tB t) := ⟨_, rfl⟩
              replace Q4 := Q4.out
              rw [← hwq3] at Q4
              have Q4 := Aside0.mk Q4
              replace HO := HO.out
              rw [← hwq3] at HO
              have HO := Aside0.mk HO
              replace TB := TB.out
              rw [← hwq3] at TB
              have TB := Aside0.mk TB
              replace HB := HB.out
              rw [← hwq3] at HB
              have HB := Aside0.mk HB
              change K _ ((wa).alloc (tB t))
              rw [← hwq3]
              clear hwq3
              refine hK.out _ _ ⟨(tcells TB.out).1, (tcells TB.out).2.1, (tcells TB.out).2.2⟩ (fun hHeld => ?_)
              clear hK K
              refine norm_ (a' := ?_) ?_ ?_
              rotate_left
              · show Act.put _ (some 94) _ = _
                simp only [Act.put, List.setIfInBounds_toArray, List.set_cons_zero, List.set_cons_succ, i64_w, i32_w]
                rfl
              exact norm_ (by first | rfl | (simp only [putAll, Act.put, List.setIfInBounds_toArray, List.set_cons_zero, List.set_cons_succ]; done) | (simp only [putAll, Act.put, List.setIfInBounds_toArray, List.set_cons_zero, List.set_cons_succ]; rfl)) (hCont ⟨_, _, _⟩ _ ⟨HO.out, Q4.out, HB.out⟩)
            · skip
              refine value_ (w1 := ?_) (v := ?_) (by rfl) rfl ?_ ?_
              rotate_left 2
              · go_simp
                constructor
                · rfl
                · rfl
              have Q4 := Aside0.mk (blk_newB HB.out (tB t))
              have Q4n := Aside0.mk (Nat.ne_of_gt (Kd.R_lt ZR.out _ rfl))
              have ZR := Aside0.mk (Kd.R_below ZR.out (below_alloc (Below.refl _ _) (tB t)))
              have TB := Aside0.mk (blk_alloc TB.out (tB t))
              have HB := Aside0.mk (below_alloc HB.out (tB t))
              obtain ⟨wq2, hwq2⟩ : ∃ z : World, z = (wq1).alloc (tB t) := ⟨_, rfl⟩
              replace Q4 := Q4.out
              rw [← hwq2] at Q4
              have Q4 := Aside0.mk Q4
              replace ZR := ZR.out
              rw [← hwq2] at ZR
              have ZR := Aside0.mk ZR
              replace TB := TB.out
              rw [← hwq2] at TB
              have TB := Aside0.mk TB
              replace HB := HB.out
              rw [← hwq2] at HB
              have HB := Aside0.mk HB
              change K _ ((wq1).alloc (tB t))
              rw [← hwq2]
              clear hwq2
              refine hK.out _ _ ⟨(tcells TB.out).1, (tcells TB.out).2.1, (tcells TB.out).2.2⟩ (fun hHeld => ?_)
              clear hK K
              refine norm_ (a' := ?_) ?_ ?_
              rotate_left
              · show Act.put _ (some 94) _ = _
                simp only [Act.put, List.setIfInBounds_toArray, List.set_cons_zero, List.set_cons_succ, i64_w, i32_w]
                rfl
              refine one_ (i := 2) (N := some 92) #[true, true, true, true, true, false, false, false, false, false, false, false, false] rfl rfl (by kernel_rfl) (by decide) (fun K hK => ?_)
              refine Kd.R_append_rows_step k61 (w0 := w6) w6.heap.size (by rfl) (.tmp 90) (.tmp 91) 43 61 (.agg #[.int .u8 0, .string nil8, .int .i64 0]) 32 rfl Tryd.underlying43 info_tok5 rfl (by decide) (by omega) (.slice (some ⟨_, 0, none⟩) 0 0) ([] : List Tok) L _ N d (fun _ => True) (fun _ => False) rfl rfl ZR.out (Kd.C_below HC6.out HB.out) (fun y cs hk => by rw [k61_open hk]; exact k61_mkM _ _ _ y) (fun _ hk => hk.elim) (fun _ _ => trivial) HB.out HB.out.size (by rw [List.length_nil]; omega) ?_
              intro va wa ho hb hg hat
              rw [List.nil_append] at ho
              have HO := Aside0.mk ho
              have Q4 := Aside0.mk (blk_grown Q4.out hg (by intro h9; have h8 := Option.some.inj h9; exact Q4n.out h8))
              have TB := Aside0.mk (blk_on hb BK6.out.tb)
              have HB := Aside0.mk hb
              clear ho hb hg hat
              refine hK.out _ _ ⟨(tcells TB.out).1, (tcells TB.out).2.1, (tcells TB.out).2.2⟩ (fun hHeld => ?_)
              clear hK K
              refine norm_ (a' := ?_) ?_ ?_
              rotate_left
              · show Act.put _ (some 92) _ = _
                simp only [Act.put, List.setIfInBounds_toArray, List.set_cons_zero, List.set_cons_succ, i64_w, i32_w]
                rfl
              exact norm_ (by first | rfl | (simp only [putAll, Act.put, List.setIfInBounds_toArray, List.set_cons_zero, List.set_cons_succ]; done) | (simp only [putAll, Act.put, List.setIfInBounds_toArray, List.set_cons_zero, List.set_cons_succ]; rfl)) (hCont ⟨_, _, _⟩ _ ⟨HO.out, Q4.out, HB.out⟩)
          · skip
            refine value_ (w1 := ?_) (v := ?_) (by rfl) rfl ?_ ?_
            rotate_left 2
            · go_simp
              constructor
              · rfl
              · rfl
            have Q4 := Aside0.mk (blk_newB HB.out (tB t))
            have TB := Aside0.mk (blk_alloc TB.out (tB t))
            have HB := Aside0.mk (below_alloc HB.out (tB t))
            obtain ⟨wq1, hwq1⟩ : ∃ z : World, z = (w7.drew).alloc (tB t) := ⟨_, rfl⟩
            replace Q4 := Q4.out
            rw [← hwq1] at Q4
            have Q4 := Aside0.mk Q4
            replace TB := TB.out
            rw [← hwq1] at TB
            have TB := Aside0.mk TB
            replace HB := HB.out
            rw [← hwq1] at HB
            have HB := Aside0.mk HB
            change K _ ((w7.drew).alloc (tB t))
            rw [← hwq1]
            clear hwq1
            refine hK.out _ _ ⟨(tcells TB.out).1, (tcells TB.out).2.1, (tcells TB.out).2.2⟩ (fun hHeld => ?_)
            clear hK K
            refine norm_ (a' := ?_) ?_ ?_
            rotate_left
            · show Act.put _ (some 94) _ = _
              simp only [Act.put, List.setIfInBounds_toArray, List.set_cons_zero, List.set_cons_succ, i64_w, i32_w]
              rfl
            refine one_ (i := 0) (N := some 90) #[true, true, false, true, true, false, false, false, false, false, false, false, false] rfl rfl (by kernel_rfl) (by decide) (fun K hK => ?_)
            refine value_ (w1 := ?_) (v := ?_) (by rfl) rfl ?_ ?_
            rotate_left 2
            · go_simp
              constructor
              · rfl
              · rfl
            have ZR := Aside0.mk (show Kd.R k61 61 _ w6.heap.size (fun _ => True) (.slice (some ⟨(wq1).heap.size, 0, none⟩) 0 0) ([] : List Tok) from ⟨fun _ _ => trivial, own_lit5 _ _ HB.out.size _ rfl⟩)
            have Q4n := Aside0.mk (Nat.ne_of_lt (blk_lt Q4.out))
            have Q4 := Aside0.mk (blk_alloc Q4.out (.cells #[] 61))
            have TB := Aside0.mk (blk_alloc TB.out (.cells #[] 61))
            have HB := Aside0.mk (below_alloc HB.out (.cells #[] 61))
            obtain ⟨wq2, hwq2⟩ : ∃ z : World, z = (wq1).alloc (.cells #[] 61) := ⟨_, rfl⟩
            replace ZR := ZR.out
            rw [← hwq2] at ZR
            have ZR := Aside0.mk ZR
            replace Q4 := Q4.out
            rw [← hwq2] at Q4
            have Q4 := Aside0.mk Q4
            replace TB := TB.out
            rw [← hwq2] at TB
            have TB := Aside0.mk TB
            replace HB := HB.out
            rw [← hwq2] at HB
            have HB := Aside0.mk HB
            change K _ ((wq1).alloc (.cells #[] 61))
            rw [← hwq2]
            clear hwq2
            refine hK.out _ _ ⟨(tcells TB.out).1, (tcells TB.out).2.1, (tcells TB.out).2.2⟩ (fun hHeld => ?_)
            clear hK K
            refine norm_ (a' := ?_) ?_ ?_
            rotate_left
            · show Act.put _ (some 90) _ = _
              simp only [Act.put, List.setIfInBounds_toArray, List.set_cons_zero, List.set_cons_succ, i64_w, i32_w]
              rfl
            refine one_ (i := 2) (N := some 92) #[true, true, true, true, true, false, false, false, false, false, false, false, false] rfl rfl (by kernel_rfl) (by decide) (fun K hK => ?_)
            refine Kd.R_append_rows_step k61 (w0 := w6) w6.heap.size (by rfl) (.tmp 90) (.tmp 91) 43 61 (.agg #[.int .u8 0, .string nil8, .int .i64 0]) 32 rfl Tryd.underlying43 info_tok5 rfl (by decide) (by omega) (.slice (some ⟨_, 0, none⟩) 0 0) ([] : List Tok) L _ N d (fun _ => True) (fun _ => False) rfl rfl ZR.out (Kd.C_below HC6.out HB.out) (fun y cs hk => by rw [k61_open hk]; exact k61_mkM _ _ _ y) (fun _ hk => hk.elim) (fun _ _ => trivial) HB.out HB.out.size (by rw [List.length_nil]; omega) ?_
            intro va wa ho hb hg hat
            rw [List.nil_append] at ho
            have HO := Aside0.mk ho
            have Q4 := Aside0.mk (blk_grown Q4.out hg (by intro h9; have h8 := Option.some.inj h9; exact Q4n.out h8))
            have TB := Aside0.mk (blk_on hb BK6.out.tb)
            have HB := Aside0.mk hb
            clear ho hb hg hat
            refine hK.out _ _ ⟨(tcells TB.out).1, (tcells TB.out).2.1, (tcells TB.out).2.2⟩ (fun hHeld => ?_)
            clear hK K
            refine norm_ (a' := ?_) ?_ ?_
            rotate_left
            · show Act.put _ (some 92) _ = _
              simp only [Act.put, List.setIfInBounds_toArray, List.set_cons_zero, List.set_cons_succ, i64_w, i32_w]
              rfl
            exact norm_ (by first | rfl | (simp only [putAll, Act.put, List.setIfInBounds_toArray, List.set_cons_zero, List.set_cons_succ]; done) | (simp only [putAll, Act.put, List.setIfInBounds_toArray, List.set_cons_zero, List.set_cons_succ]; rfl)) (hCont ⟨_, _, _⟩ _ ⟨HO.out, Q4.out, HB.out⟩)
        rintro ⟨s0, v1, s4⟩ wg ⟨hO, hQ, hB⟩
        have HO := Aside0.mk hO
        have Q4 := Aside0.mk hQ
        have HB := Aside0.mk hB
        have TB := Aside0.mk (blk_on hB BK6.out.tb)
        clear hO hQ hB
        have hHeld : wg.cell? ⟨w.heap.size + 1, 0, none⟩ = some (.int .u8 t.f0) ∧ wg.cell? ⟨w.heap.size + 1, 1, none⟩ = some (.string t.f1) ∧ wg.cell? ⟨w.heap.size + 1, 2, none⟩ = some (.int .i64 t.f2) := ⟨(tcells TB.out).1, (tcells TB.out).2.1, (tcells TB.out).2.2⟩
        refine norm_ (a' := ?_) ?_ ?_
        rotate_left
        · simp only [putAll, Act.put, List.setIfInBounds_toArray, List.set_cons_zero, List.set_cons_succ]
          rfl
        refine one_ (i := 5) (N := some 95) #[true, true, true, true, true, true, false, false, false, false, false, false, false] rfl rfl (by kernel_rfl) (by decide) (fun K hK => ?_)
        refine Kd.R_append_rows_step k61 (w0 := w6) w6.heap.size (by rfl) (.tmp 92) (.tmp 94) 43 61 (.agg #[.int .u8 0, .string nil8, .int .i64 0]) 32 rfl Tryd.underlying43 info_tok5 rfl (by decide) (by omega) _ L [t] _ 1 1 (fun _ => True) (fun _ => False) rfl rfl HO.out (t_rowB Q4.out) (fun y cs hk => by rw [k61_open hk]; exact k61_mkM _ _ _ y) (fun _ hk => hk.elim) (fun _ _ => trivial) HB.out HB.out.size (by rw [← HN.out]; omega) ?_
        intro va wa ho hb hg hat
        rw [← HT.out] at ho
        obtain ⟨U, z, rfl, hd, hCC⟩ := Kd.R_reads ho
        have HU := Aside0.mk hCC
        have HZ := Aside0.mk hd
        have TB := Aside0.mk (blk_on hb BK6.out.tb)
        have HB := Aside0.mk (below_then BK6.out.below BK6.out.below.size hb)
        clear ho hb hg hat hCC hd
        refine hK.out _ _ ⟨(tcells TB.out).1, (tcells TB.out).2.1, (tcells TB.out).2.2⟩ (fun hHeld => ?_)
        clear hK K
        refine norm_ (a' := ?_) ?_ ?_
        rotate_left
        · show Act.put _ (some 95) _ = _
          simp only [Act.put, List.setIfInBounds_toArray, List.set_cons_zero, List.set_cons_succ, i64_w, i32_w]
          rfl
        refine one_ (i := 6) (N := some 96) #[true, true, true, true, true, true, true, false, false, false, false, false, false] rfl rfl (by kernel_rfl) (by decide) (fun K hK => ?_)
        refine goes_ Tryd.func36 (by kernel_rfl) rfl #[.slice U T.length z] (by rfl) rfl rfl (by simp only [List.map_toArray, List.map_cons, List.map_nil]; rfl) ?_
        with_reducible refine ((CET _ _ _ HU.out HZ.out (HL.out.l HB.out)).out).mono ?_
        rintro e w8 ⟨v2, v3, rfl, hg, hb8⟩
        refine ⟨_, rfl, ?_⟩
        obtain ⟨G2, i2, G3, i3, rfl, rfl⟩ := hg.slices
        have TB := Aside0.mk (blk_on hb8 TB.out)
        have HB := Aside0.mk (below_then HB.out HB.out.size hb8)
        clear hg hb8 CET
        refine hK.out _ _ ⟨(tcells TB.out).1, (tcells TB.out).2.1, (tcells TB.out).2.2⟩ (fun hHeld => ?_)
        clear hK K
        refine norm_ (a' := ?_) ?_ ?_
        rotate_left
        · show Act.put _ (some 96) _ = _
          simp only [Act.put, List.setIfInBounds_toArray, List.set_cons_zero, List.set_cons_succ, i64_w, i32_w]
          rfl
        refine pure_ (i := 7) (N := some 89) (v := ?_) (a' := ?_) #[true, true, true, true, true, true, true, true, false, false, false, false, false] rfl rfl (by kernel_rfl) (fun _ _ _ h => h) (Or.inl ⟨by rfl, ?_⟩) ?_ ?_
        rotate_left
        · intro w'
          go_simp
          with_reducible rfl
        rotate_left
        · simp only [Act.put, List.setIfInBounds_toArray, List.set_cons_zero, List.set_cons_succ, i64_w, i32_w]
          rfl
        refine pure_ (i := 8) (N := some 97) (v := ?_) (a' := ?_) #[true, true, true, true, true, true, true, true, true, false, false, false, false] rfl rfl (by kernel_rfl) (fun _ _ _ h => h) (Or.inl ⟨by rfl, ?_⟩) ?_ ?_
        rotate_left
        · intro w'
          go_simp
          with_reducible rfl
        rotate_left
        · simp only [Act.put, List.setIfInBounds_toArray, List.set_cons_zero, List.set_cons_succ, i64_w, i32_w]
          rfl
        refine pure_ (i := 9) (N := some 98) (v := ?_) (a' := ?_) #[true, true, true, true, true, true, true, true, true, true, false, false, false] rfl rfl (by kernel_rfl) (fun _ _ _ h => h) (Or.inl ⟨by rfl, ?_⟩) ?_ ?_
        rotate_left
        · intro w'
          go_simp
          with_reducible rfl
        rotate_left
        · simp only [Act.put, List.setIfInBounds_toArray, List.set_cons_zero, List.set_cons_succ, i64_w, i32_w]
          rfl
        refine pure_ (i := 10) (N := some 99) (v := ?_) (a' := ?_) #[true, true, true, true, true, true, true, true, true, true, true, false, false] rfl rfl (by kernel_rfl) (fun _ _ _ h => h) (Or.inl ⟨by rfl, ?_⟩) ?_ ?_
        rotate_left
        · intro w'
          go_simp
          with_reducible rfl
        rotate_left
        · simp only [Act.put, List.setIfInBounds_toArray, List.set_cons_zero, List.set_cons_succ, i64_w, i32_w]
          rfl
        refine pure_ (i := 11) (N := some 9) (v := ?_) (a' := ?_) #[true, true, true, true, true, true, true, true, true, true, true, true, false] rfl rfl (by kernel_rfl) (fun _ _ _ h => h) (Or.inl ⟨by rfl, ?_⟩) ?_ ?_
        rotate_left
        · intro w'
          go_simp
          with_reducible rfl
        rotate_left
        · simp only [Act.put, List.setIfInBounds_toArray, List.set_cons_zero, List.set_cons_succ, i64_w, i32_w]
          rfl
        refine pure_ (i := 12) (N := some 10) (v := ?_) (a' := ?_) #[true, true, true, true, true, true, true, true, true, true, true, true, true] rfl rfl (by kernel_rfl) (fun _ _ _ h => h) (Or.inl ⟨by rfl, ?_⟩) ?_ ?_
        rotate_left
        · intro w'
          go_simp
          with_reducible rfl
        rotate_left
        · simp only [Act.put, List.setIfInBounds_toArray, List.set_cons_zero, List.set_cons_succ, i64_w, i32_w]
          rfl
        refine done_ (by kernel_rfl) ?_

        go_wp2_with fail
        (with_reducible refine (CW _ (HL.out.l HB.out)).out.mono ?_)
        rintro e wz ⟨rfl, hbz⟩
        have HB := Aside0.mk (below_then HB.out HB.out.size hbz)
        go_wp2
        go_ret
        exact ⟨rfl, HB.out⟩
    · have e1 : ((N : Int) == 1) = false := beq_eq_false_iff_ne.2 (by omega)
      have e2 : ¬ ((N : Int) = 1) := by omega
      obtain ⟨m1, m2⟩ := pmore (fun h => absurd h hN1)
      obtain ⟨yT, bT, gT, hpT⟩ : ∃ y b g, parseE T = (y, b, g) := ⟨_, _, _, rfl⟩
      rw [hpT] at CET m1 m2
      dsimp only at CET m1 m2
      subst m1
      subst m2
      clear hpT
      go_wp2_with fail
      rw [← HW7.out]
      have HB := Aside0.mk (show Below w6.heap.size w6 w7.drew from below_drew hb7)
      have TB := Aside0.mk (show w7.drew.heap[w.heap.size + 1]? = some (tB t) from blk_on (show Below w6.heap.size w6 w7.drew from below_drew hb7) BK6.out.tb)
      refine start_ (n := 13) (S := fun w' => w'.cell? ⟨w.heap.size + 1, 0, none⟩ = some (.int .u8 t.f0) ∧ w'.cell? ⟨w.heap.size + 1, 1, none⟩ = some (.string t.f1) ∧ w'.cell? ⟨w.heap.size + 1, 2, none⟩ = some (.int .i64 t.f2)) (ds := []) #[false, false, false, false, false, false, false, false, false, false, false, false, false] (by kernel_rfl) rfl rfl ⟨(tcells TB.out).1, (tcells TB.out).2.1, (tcells TB.out).2.2⟩ (fun hHeld => ?_)
      refine pure_ (i := 1) (N := some 91) (v := ?_) (a' := ?_) #[false, true, false, false, false, false, false, false, false, false, false, false, false] rfl rfl (by kernel_rfl) (fun _ _ _ h => h) (Or.inl ⟨by rfl, ?_⟩) ?_ ?_
      rotate_left
      · intro w'
        go_simp
        with_reducible rfl
      rotate_left
      · simp only [Act.put, List.setIfInBounds_toArray, List.set_cons_zero, List.set_cons_succ, i64_w, i32_w]
        rfl
      refine take_ (i := 3) (N := some 93) (v := ?_) (a' := ?_) #[false, true, false, true, false, false, false, false, false, false, false, false, false] rfl rfl (by kernel_rfl) (fun _ _ _ h => h) (Or.inl ⟨by rfl, ?_⟩) hHeld ?_ ?_
      rotate_left
      · rintro w' ⟨s0, s1, s2⟩
        go_simp
        with_reducible rfl
      rotate_left
      · simp only [Act.put, List.setIfInBounds_toArray, List.set_cons_zero, List.set_cons_succ, i64_w, i32_w]
        rfl
      refine join_ (σ := Nat × Value × Nat) 8 #[true, true, true, true, true, false, false, false, false, false, false, false, false] (fun s => [(90, .slice (some ⟨s.1, 0, none⟩) 0 0), (92, s.2.1), (94, .slice (some ⟨s.2.2, 0, none⟩) 1 1)]) (fun s w' => Kd.R k61 61 w' w6.heap.size (fun _ => True) s.2.1 L ∧ w'.heap[s.2.2]? = some (tB t) ∧ Below w6.heap.size w6 w') ?_ ?_
      rotate_left
      · intro hCont
        refine two_ (i := 0) (j := 4) (Ni := some 90) (Nj := some 94) #[true, true, false, true, false, false, false, false, false, false, false, false, false] #[false, true, false, true, true, false, false, false, false, false, false, false, false] rfl rfl rfl rfl (by kernel_rfl) (by decide) (by decide) (fun K hK => ?_) (fun K hK => ?_)
        · skip
          refine value_ (w1 := ?_) (v := ?_) (by rfl) rfl ?_ ?_
          rotate_left 2
          · go_simp
            constructor
            · rfl
            · rfl
          have ZR := Aside0.mk (show Kd.R k61 61 _ w6.heap.size (fun _ => True) (.slice (some ⟨(w7.drew).heap.size, 0, none⟩) 0 0) ([] : List Tok) from ⟨fun _ _ => trivial, own_lit5 _ _ HB.out.size _ rfl⟩)
          have TB := Aside0.mk (blk_alloc TB.out (.cells #[] 61))
          have HB := Aside0.mk (below_alloc HB.out (.cells #[] 61))
          obtain ⟨wq1, hwq1⟩ : ∃ z : World, z = (w7.drew).alloc (.cells #[] 61) := ⟨_, rfl⟩
          replace ZR := ZR.out
          rw [← hwq1] at ZR
          have ZR := Aside0.mk ZR
          replace TB := TB.out
          rw [← hwq1] at TB
          have TB := Aside0.mk TB
          replace HB := HB.out
          rw [← hwq1] at HB
          have HB := Aside0.mk HB
          change K _ ((w7.drew).alloc (.cells #[] 61))
          rw [← hwq1]
          clear hwq1
          refine hK.out _ _ ⟨(tcells TB.out).1, (tcells TB.out).2.1, (tcells TB.out).2.2⟩ (fun hHeld => ?_)
          clear hK K
          refine norm_ (a' := ?_) ?_ ?_
          rotate_left
          · show Act.put _ (some 90) _ = _
            simp only [Act.put, List.setIfInBounds_toArray, List.set_cons_zero, List.set_cons_succ, i64_w, i32_w]
            rfl
          refine two_ (i := 2) (j := 4) (Ni := some 92) (Nj := some 94) #[true, true, true, true, false, false, false, false, false, false, false, false, false] #[true, true, false, true, true, false, false, false, false, false, false, false, false] rfl rfl rfl rfl (by kernel_rfl) (by decide) (by decide) (fun K hK => ?_) (fun K hK => ?_)
          · skip
            refine Kd.R_append_rows_step k61 (w0 := w6) w6.heap.size (by rfl) (.tmp 90) (.tmp 91) 43 61 (.agg #[.int .u8 0, .string nil8, .int .i64 0]) 32 rfl Tryd.underlying43 info_tok5 rfl (by decide) (by omega) (.slice (some ⟨_, 0, none⟩) 0 0) ([] : List Tok) L _ N d (fun _ => True) (fun _ => False) rfl rfl ZR.out (Kd.C_below HC6.out HB.out) (fun y cs hk => by rw [k61_open hk]; exact k61_mkM _ _ _ y) (fun _ hk => hk.elim) (fun _ _ => trivial) HB.out HB.out.size (by rw [List.length_nil]; omega) ?_
            intro va wa ho hb hg hat
            rw [List.nil_append] at ho
            have HO := Aside0.mk ho
            have TB := Aside0.mk (blk_on hb BK6.out.tb)
            have HB := Aside0.mk hb
            clear ho hb hg hat
            refine hK.out _ _ ⟨(tcells TB.out).1, (tcells TB.out).2.1, (tcells TB.out).2.2⟩ (fun hHeld => ?_)
            clear hK K
            refine norm_ (a' := ?_) ?_ ?_
            rotate_left
            · show Act.put _ (some 92) _ = _
              simp only [Act.put, List.setIfInBounds_toArray, List.set_cons_zero, List.set_cons_succ, i64_w, i32_w]
              rfl
            refine one_ (i := 4) (N := some 94) #[true, true, true, true, true, false, false, false, false, false, false, false, false] rfl rfl (by kernel_rfl) (by decide) (fun K hK => ?_)
            refine value_ (w1 := ?_) (v := ?_) (by rfl) rfl ?_ ?_
            rotate_left 2
            · go_simp
              constructor
              · rfl
              · rfl
            have Q4 := Aside0.mk (blk_newB HB.out (tB t))
            have HO := Aside0.mk (Kd.R_below HO.out (below_alloc (Below.refl _ _) (tB t)))
            have TB := Aside0.mk (blk_alloc TB.out (tB t))
            have HB := Aside0.mk (below_alloc HB.out (tB t))
            obtain ⟨wq3, hwq3⟩ : ∃ z : World, z = (wa).alloc (tB t) := ⟨_, rfl⟩
            replace Q4 := Q4.out
            rw [← hwq3] at Q4
            have Q4 := Aside0.mk Q4
            replace HO := HO.out
            rw [← hwq3] at HO
            have HO := Aside0.mk HO
            replace TB := TB.out
            rw [← hwq3] at TB
            have TB := Aside0.mk TB
            replace HB := HB.out
            rw [← hwq3] at HB
            have HB := Aside0.mk HB
            change K _ ((wa).alloc (tB t))
            rw [← hwq3]
            clear hwq3
            refine hK.out _ _ ⟨(tcells TB.out).1, (tcells TB.out).2.1, (tcells TB.out).2.2⟩ (fun hHeld => ?_)
            clear hK K
            refine norm_ (a' := ?_) ?_ ?_
            rotate_left
            · show Act.put _ (some 94) _ = _
              simp only [Act.put, List.setIfInBounds_toArray, List.set_cons_zero, List.set_cons_succ, i64_w, i32_w]
              rfl
            exact norm_ (by first | rfl | (simp only [putAll, Act.put, List.setIfInBounds_toArray, List.set_cons_zero, List.set_cons_succ]; done) | (simp only [putAll, Act.put, List.setIfInBounds_toArray, List.set_cons_zero, List.set_cons_succ]; rfl)) (hCont ⟨_, _, _⟩ _ ⟨HO.out, Q4.out, HB.out⟩)
          · skip
            refine value_ (w1 := ?_) (v := ?_) (by rfl) rfl ?_ ?_
            rotate_left 2
            · go_simp
              constructor
              · rfl
              · rfl
            have Q4 := Aside0.mk (blk_newB HB.out (tB t))
            have Q4n := Aside0.mk (Nat.ne_of_gt (Kd.R_lt ZR.out _ rfl))
            have ZR := Aside0.mk (Kd.R_below ZR.out (below_alloc (Below.refl _ _) (tB t)))
            have TB := Aside0.mk (blk_alloc TB.out (tB t))
            have HB := Aside0.mk (below_alloc HB.out (tB t))
            obtain ⟨wq2, hwq2⟩ : ∃ z : World, z = (wq1).alloc (tB t) := ⟨_, rfl⟩
            replace Q4 := Q4.out
            rw [← hwq2] at Q4
            have Q4 := Aside0.mk Q4
            replace ZR := ZR.out
            rw [← hwq2] at ZR
            have ZR := Aside0.mk ZR
            replace TB := TB.out
            rw [← hwq2] at TB
            have TB := Aside0.mk TB
            replace HB := HB.out
            rw [← hwq2] at HB
            have HB := Aside0.mk HB
            change K _ ((wq1).alloc (tB t))
            rw [← hwq2]
            clear hwq2
            refine hK.out _ _ ⟨(tcells TB.out).1, (tcells TB.out).2.1, (tcells TB.out).2.2⟩ (fun hHeld => ?_)
            clear hK K
            refine norm_ (a' := ?_) ?_ ?_
            rotate_left
            · show Act.put _ (some 94) _ = _
              simp only [Act.put, List.setIfInBounds_toArray, List.set_cons_zero, List.set_cons_succ, i64_w, i32_w]
              rfl
            refine one_ (i := 2) (N := some 92) #[true, true, true, true, true, false, false, false, false, false, false, false, false] rfl rfl (by kernel_rfl) (by decide) (fun K hK => ?_)
            refine Kd.R_append_rows_step k61 (w0 := w6) w6.heap.size (by rfl) (.tmp 90) (.tmp 91) 43 61 (.agg #[.int .u8 0, .string nil8, .int .i64 0]) 32 rfl Tryd.underlying43 info_tok5 rfl (by decide) (by omega) (.slice (some ⟨_, 0, none⟩) 0 0) ([] : List Tok) L _ N d (fun _ => True) (fun _ => False) rfl rfl ZR.out (Kd.C_below HC6.out HB.out) (fun y cs hk => by rw [k61_open hk]; exact k61_mkM _ _ _ y) (fun _ hk => hk.elim) (fun _ _ => trivial) HB.out HB.out.size (by rw [List.length_nil]; omega) ?_
            intro va wa ho hb hg hat
            rw [List.nil_append] at ho
            have HO := Aside0.mk ho
            have Q4 := Aside0.mk (blk_grown Q4.out hg (by intro h9; have h8 := Option.some.inj h9; exact Q4n.out h8))
            have TB := Aside0.mk (blk_on hb BK6.out.tb)
            have HB := Aside0.mk hb
            clear ho hb hg hat
            refine hK.out _ _ ⟨(tcells TB.out).1, (tcells TB.out).2.1, (tcells TB.out).2.2⟩ (fun hHeld => ?_)
            clear hK K
            refine norm_ (a' := ?_) ?_ ?_
            rotate_left
            · show Act.put _ (some 92) _ = _
              simp only [Act.put, List.setIfInBounds_toArray, List.set_cons_zero, List.set_cons_succ, i64_w, i32_w]
              rfl
            exact norm_ (by first | rfl | (simp only [putAll, Act.put, List.setIfInBounds_toArray, List.set_cons_zero, List.set_cons_succ]; done) | (simp only [putAll, Act.put, List.setIfInBounds_toArray, List.set_cons_zero, List.set_cons_succ]; rfl)) (hCont ⟨_, _, _⟩ _ ⟨HO.out, Q4.out, HB.out⟩)
        · skip
          refine value_ (w1 := ?_) (v := ?_) (by rfl) rfl ?_ ?_
          rotate_left 2
          · go_simp
            constructor
            · rfl
            · rfl
          have Q4 := Aside0.mk (blk_newB HB.out (tB t))
          have TB := Aside0.mk (blk_alloc TB.out (tB t))
          have HB := Aside0.mk (below_alloc HB.out (tB t))
          obtain ⟨wq1, hwq1⟩ : ∃ z : World, z = (w7.drew).alloc (tB t) := ⟨_, rfl⟩
          replace Q4 := Q4.out
          rw [← hwq1] at Q4
          have Q4 := Aside0.mk Q4
          replace TB := TB.out
          rw [← hwq1] at TB
          have TB := Aside0.mk TB
          replace HB := HB.out
          rw [← hwq1] at HB
          have HB := Aside0.mk HB
          change K _ ((w7.drew).alloc (tB t))
          rw [← hwq1]
          clear hwq1
          refine hK.out _ _ ⟨(tcells TB.out).1, (tcells TB.out).2.1, (tcells TB.out).2.2⟩ (fun hHeld => ?_)
          clear hK K
          refine norm_ (a' := ?_) ?_ ?_
          rotate_left
          · show Act.put _ (some 94) _ = _
            simp only [Act.put, List.setIfInBounds_toArray, List.set_cons_zero, List.set_cons_succ, i64_w, i32_w]
            rfl
          refine one_ (i := 0) (N := some 90) #[true, true, false, true, true, false, false, false, false, false, false, false, false] rfl rfl (by kernel_rfl) (by decide) (fun K hK => ?_)
          refine value_ (w1 := ?_) (v := ?_) (by rfl) rfl ?_ ?_
          rotate_left 2
          · go_simp
            constructor
            · rfl
            · rfl
          have ZR := Aside0.mk (show Kd.R k61 61 _ w6.heap.size (fun _ => True) (.slice (some ⟨(wq1).heap.size, 0, none⟩) 0 0) ([] : List Tok) from ⟨fun _ _ => trivial, own_lit5 _ _ HB.out.size _ rfl⟩)
          have Q4n := Aside0.mk (Nat.ne_of_lt (blk_lt Q4.out))
          have Q4 := Aside0.mk (blk_alloc Q4.out (.cells #[] 61))
          have TB := Aside0.mk (blk_alloc TB.out (.cells #[] 61))
          have HB := Aside0.mk (below_alloc HB.out (.cells #[] 61))
          obtain ⟨wq2, hwq2⟩ : ∃ z : World, z = (wq1).alloc (.cells #[] 61) := ⟨_, rfl⟩
          replace ZR := ZR.out
          rw [← hwq2] at ZR
          have ZR := Aside0.mk ZR
          replace Q4 := Q4.out
          rw [← hwq2] at Q4
          have Q4 := Aside0.mk Q4
          replace TB := TB.out
          rw [← hwq2] at TB
          have TB := Aside0.mk TB
          replace HB := HB.out
          rw [← hwq2] at HB
          have HB := Aside0.mk HB
          change K _ ((wq1).alloc (.cells #[] 61))
          rw [← hwq2]
          clear hwq2
          refine hK.out _ _ ⟨(tcells TB.out).1, (tcells TB.out).2.1, (tcells TB.out).2.2⟩ (fun hHeld => ?_)
          clear hK K
          refine norm_ (a' := ?_) ?_ ?_
          rotate_left
          · show Act.put _ (some 90) _ = _
            simp only [Act.put, List.setIfInBounds_toArray, List.set_cons_zero, List.set_cons_succ, i64_w, i32_w]
            rfl
          refine one_ (i := 2) (N := some 92) #[true, true, true, true, true, false, false, false, false, false, false, false, false] rfl rfl (by kernel_rfl) (by decide) (fun K hK => ?_)
          refine Kd.R_append_rows_step k61 (w0 := w6) w6.heap.size (by rfl) (.tmp 90) (.tmp 91) 43 61 (.agg #[.int .u8 0, .string nil8, .int .i64 0]) 32 rfl Tryd.underlying43 info_tok5 rfl (by decide) (by omega) (.slice (some ⟨_, 0, none⟩) 0 0) ([] : List Tok) L _ N d (fun _ => True) (fun _ => False) rfl rfl ZR.out (Kd.C_below HC6.out HB.out) (fun y cs hk => by rw [k61_open hk]; exact k61_mkM _ _ _ y) (fun _ hk => hk.elim) (fun _ _ => trivial) HB.out HB.out.size (by rw [List.length_nil]; omega) ?_
          intro va wa ho hb hg hat
          rw [List.nil_append] at ho
          have HO := Aside0.mk ho
          have Q4 := Aside0.mk (blk_grown Q4.out hg (by intro h9; have h8 := Option.some.inj h9; exact Q4n.out h8))
          have TB := Aside0.mk (blk_on hb BK6.out.tb)
          have HB := Aside0.mk hb
          clear ho hb hg hat
          refine hK.out _ _ ⟨(tcells TB.out).1, (tcells TB.out).2.1, (tcells TB.out).2.2⟩ (fun hHeld => ?_)
          clear hK K
          refine norm_ (a' := ?_) ?_ ?_
          rotate_left
          · show Act.put _ (some 92) _ = _
            simp only [Act.put, List.setIfInBounds_toArray, List.set_cons_zero, List.set_cons_succ, i64_w, i32_w]
            rfl
          exact norm_ (by first | rfl | (simp only [putAll, Act.put, List.setIfInBounds_toArray, List.set_cons_zero, List.set_cons_succ]; done) | (simp only [putAll, Act.put, List.setIfInBounds_toArray, List.set_cons_zero, List.set_cons_succ]; rfl)) (hCont ⟨_, _, _⟩ _ ⟨HO.out, Q4.out, HB.out⟩)
      rintro ⟨s0, v1, s4⟩ wg ⟨hO, hQ, hB⟩
      have HO := Aside0.mk hO
      have Q4 := Aside0.mk hQ
      have HB := Aside0.mk hB
      have TB := Aside0.mk (blk_on hB BK6.out.tb)
      clear hO hQ hB
      have hHeld : wg.cell? ⟨w.heap.size + 1, 0, none⟩ = some (.int .u8 t.f0) ∧ wg.cell? ⟨w.heap.size + 1, 1, none⟩ = some (.string t.f1) ∧ wg.cell? ⟨w.heap.size + 1, 2, none⟩ = some (.int .i64 t.f2) := ⟨(tcells TB.out).1, (tcells TB.out).2.1, (tcells TB.out).2.2⟩
      refine norm_ (a' := ?_) ?_ ?_
      rotate_left
      · simp only [putAll, Act.put, List.setIfInBounds_toArray, List.set_cons_zero, List.set_cons_succ]
        rfl
      refine one_ (i := 5) (N := some 95) #[true, true, true, true, true, true, false, false, false, false, false, false, false] rfl rfl (by kernel_rfl) (by decide) (fun K hK => ?_)
      refine Kd.R_append_rows_step k61 (w0 := w6) w6.heap.size (by rfl) (.tmp 92) (.tmp 94) 43 61 (.agg #[.int .u8 0, .string nil8, .int .i64 0]) 32 rfl Tryd.underlying43 info_tok5 rfl (by decide) (by omega) _ L [t] _ 1 1 (fun _ => True) (fun _ => False) rfl rfl HO.out (t_rowB Q4.out) (fun y cs hk => by rw [k61_open hk]; exact k61_mkM _ _ _ y) (fun _ hk => hk.elim) (fun _ _ => trivial) HB.out HB.out.size (by rw [← HN.out]; omega) ?_
      intro va wa ho hb hg hat
      rw [← HT.out] at ho
      obtain ⟨U, z, rfl, hd, hCC⟩ := Kd.R_reads ho
      have HU := Aside0.mk hCC
      have HZ := Aside0.mk hd
      have TB := Aside0.mk (blk_on hb BK6.out.tb)
      have HB := Aside0.mk (below_then BK6.out.below BK6.out.below.size hb)
      clear ho hb hg hat hCC hd
      refine hK.out _ _ ⟨(tcells TB.out).1, (tcells TB.out).2.1, (tcells TB.out).2.2⟩ (fun hHeld => ?_)
      clear hK K
      refine norm_ (a' := ?_) ?_ ?_
      rotate_left
      · show Act.put _ (some 95) _ = _
        simp only [Act.put, List.setIfInBounds_toArray, List.set_cons_zero, List.set_cons_succ, i64_w, i32_w]
        rfl
      refine one_ (i := 6) (N := some 96) #[true, true, true, true, true, true, true, false, false, false, false, false, false] rfl rfl (by kernel_rfl) (by decide) (fun K hK => ?_)
      refine goes_ Tryd.func36 (by kernel_rfl) rfl #[.slice U T.length z] (by rfl) rfl rfl (by simp only [List.map_toArray, List.map_cons, List.map_nil]; rfl) ?_
      with_reducible refine ((CET _ _ _ HU.out HZ.out (HL.out.l HB.out)).out).mono ?_
      rintro e w8 ⟨v2, v3, rfl, hg, hb8⟩
      refine ⟨_, rfl, ?_⟩
      obtain ⟨G2, i2, G3, i3, rfl, rfl⟩ := hg.slices
      have TB := Aside0.mk (blk_on hb8 TB.out)
      have HB := Aside0.mk (below_then HB.out HB.out.size hb8)
      clear hg hb8 CET
      refine hK.out _ _ ⟨(tcells TB.out).1, (tcells TB.out).2.1, (tcells TB.out).2.2⟩ (fun hHeld => ?_)
      clear hK K
      refine norm_ (a' := ?_) ?_ ?_
      rotate_left
      · show Act.put _ (some 96) _ = _
        simp only [Act.put, List.setIfInBounds_toArray, List.set_cons_zero, List.set_cons_succ, i64_w, i32_w]
        rfl
      refine pure_ (i := 7) (N := some 89) (v := ?_) (a' := ?_) #[true, true, true, true, true, true, true, true, false, false, false, false, false] rfl rfl (by kernel_rfl) (fun _ _ _ h => h) (Or.inl ⟨by rfl, ?_⟩) ?_ ?_
      rotate_left
      · intro w'
        go_simp
        with_reducible rfl
      rotate_left
      · simp only [Act.put, List.setIfInBounds_toArray, List.set_cons_zero, List.set_cons_succ, i64_w, i32_w]
        rfl
      refine pure_ (i := 8) (N := some 97) (v := ?_) (a' := ?_) #[true, true, true, true, true, true, true, true, true, false, false, false, false] rfl rfl (by kernel_rfl) (fun _ _ _ h => h) (Or.inl ⟨by rfl, ?_⟩) ?_ ?_
      rotate_left
      · intro w'
        go_simp
        with_reducible rfl
      rotate_left
      · simp only [Act.put, List.setIfInBounds_toArray, List.set_cons_zero, List.set_cons_succ, i64_w, i32_w]
        rfl
      refine pure_ (i := 9) (N := some 98) (v := ?_) (a' := ?_) #[true, true, true, true, true, true, true, true, true, true, false, false, false] rfl rfl (by kernel_rfl) (fun _ _ _ h => h) (Or.inl ⟨by rfl, ?_⟩) ?_ ?_
      rotate_left
      · intro w'
        go_simp
        with_reducible rfl
      rotate_left
      · simp only [Act.put, List.setIfInBounds_toArray, List.set_cons_zero, List.set_cons_succ, i64_w, i32_w]
        rfl
      refine pure_ (i := 10) (N := some 99) (v := ?_) (a' := ?_) #[true, true, true, true, true, true, true, true, true, true, true, false, false] rfl rfl (by kernel_rfl) (fun _ _ _ h => h) (Or.inl ⟨by rfl, ?_⟩) ?_ ?_
      rotate_left
      · intro w'
        go_simp
        with_reducible rfl
      rotate_left
      · simp only [Act.put, List.setIfInBounds_toArray, List.set_cons_zero, List.set_cons_succ, i64_w, i32_w]
        rfl
      refine pure_ (i := 11) (N := some 9) (v := ?_) (a' := ?_) #[true, true, true, true, true, true, true, true, true, true, true, true, false] rfl rfl (by kernel_rfl) (fun _ _ _ h => h) (Or.inl ⟨by rfl, ?_⟩) ?_ ?_
      rotate_left
      · intro w'
        go_simp
        with_reducible rfl
      rotate_left
      · simp only [Act.put, List.setIfInBounds_toArray, List.set_cons_zero, List.set_cons_succ, i64_w, i32_w]
        rfl
      refine pure_ (i := 12) (N := some 10) (v := ?_) (a' := ?_) #[true, true, true, true, true, true, true, true, true, true, true, true, true] rfl rfl (by kernel_rfl) (fun _ _ _ h => h) (Or.inl ⟨by rfl, ?_⟩) ?_ ?_
      rotate_left
      · intro w'
        go_simp
        with_reducible rfl
      rotate_left
      · simp only [Act.put, List.setIfInBounds_toArray, List.set_cons_zero, List.set_cons_succ, i64_w, i32_w]
        rfl
      refine done_ (by kernel_rfl) ?_

      go_wp2_with fail
      (with_reducible refine (CW _ (HL.out.l HB.out)).out.mono ?_)
      rintro e wz ⟨rfl, hbz⟩
      have HB := Aside0.mk (below_then HB.out HB.out.size hbz)
      go_wp2
      go_ret
      exact ⟨rfl, HB.out⟩
end Go.Proofs.YtjeofffddbibeaaDoor.Pa
end

section
namespace Go.Proofs.YtjeofffddbibeaaDoor.Ex
open Go Go.RowKit Go.ChangeShapes Go.WideShapes Go.ChangeAt Go.Proofs.YtjeofffddbibeaaDoor.PParseTells Go.Proofs.YtjeofffddbibeaaDoorW.PrintWords Go.Proofs.YtjeofffddbibeaaDoorW.PrintLast Go.Proofs.YtjeofffddbibeaaDoorW.PrintMore
set_option linter.unusedVariables false
set_option linter.unusedSimpArgs false
theorem cells_expr : Tryd.prog.cellsOf 25 = 4 := by kernel_rfl
theorem cells_byte : Tryd.prog.cellsOf 5 = 1 := by kernel_rfl
theorem cells_int64 : Tryd.prog.cellsOf 2 = 1 := by kernel_rfl
theorem cells_str : Tryd.prog.cellsOf 9 = 1 := by kernel_rfl
theorem cells_nums : Tryd.prog.cellsOf 22 = 1 := by kernel_rfl
theorem cells_args : Tryd.prog.cellsOf 23 = 1 := by kernel_rfl
theorem bulk_cons {H : Type} (d : DataW H) (r : List (DataW H)) : Rows.uptoBulkAll (d :: r) = Rows.uptoBulk d + Rows.uptoBulkAll r := by rw [Rows.uptoBulkAll]
theorem bulk_nil {H : Type} : Rows.uptoBulkAll ([] : List (DataW H)) = 0 := by rw [Rows.uptoBulkAll]
theorem bulk_agg {H : Type} (l : List (DataW H)) : Rows.uptoBulk (.agg l) = Rows.uptoBulkAll l + 1 := by rw [Rows.uptoBulk]
theorem bulk_slice {H : Type} (l r : List (DataW H)) : Rows.uptoBulk (.slice l r) = Rows.uptoBulkAll l + Rows.uptoBulkAll r + 1 := by rw [Rows.uptoBulk]
theorem bulk_string {H : Type} (l : List UInt8) : Rows.uptoBulk (.lit (.string l) : DataW H) = l.length + 1 := by rw [Rows.uptoBulk]
theorem bulk_app {H : Type} (l r : List (DataW H)) : Rows.uptoBulkAll (l ++ r) = Rows.uptoBulkAll l + Rows.uptoBulkAll r := by
  induction l with
  | nil => rw [List.nil_append, bulk_nil]; omega
  | cons d l ih => rw [List.cons_append, bulk_cons, bulk_cons, ih]; omega
theorem cntL_app (l r : List X) : cntL (l ++ r) = cntL l + cntL r := by
  induction l with
  | nil => rw [List.nil_append, cntL_nil]; omega
  | cons d l ih => rw [List.cons_append, cntL_cons, cntL_cons, ih]; omega
theorem bulk_mem {H : Type} {l : List (DataW H)} {d : DataW H} (h : d ∈ l) : Rows.uptoBulk d ≤ Rows.uptoBulkAll l := by
  induction l with
  | nil => cases h
  | cons e l ih =>
    rw [bulk_cons]
    rcases List.mem_cons.1 h with rfl | h
    · omega
    · have := ih h; omega
section
variable {H : Type} {enc : TypeId × Value → H} {w : World} {base : Nat}
/-- The numbers of an expression. -/
theorem nums_of_trod {fuel : Nat} {cs : List Value} {y : DataW H × List MemPlace} (h : DataW.trod enc Tryd.prog w base (fun _ => true) true fuel 22 cs = some y) :
    ∃ A c, ∃ ns : List Int, cs = [.slice A ns.length c] ∧ ns.length ≤ c ∧ kI.C w A ns.length ns ∧ ∀ k ∈ ns, -9223372036854775808 ≤ k ∧ k ≤ 9223372036854775807 := by
  rcases open_ints Tryd.underlying22 Tryd.underlying2 cells_int64 h with ⟨rfl, rfl⟩ | ⟨a, len, cap, zs, rfl, hb, hl, hm, hz, rfl, hc, hw⟩
  · exact ⟨none, 0, [], rfl, Nat.le_refl _, Kd.C_nil _ _, fun _ h => by cases h⟩
  · have hz' : zs.length = cap := by simpa using hz
    have hlen : (zs.take len).length = len := by rw [List.length_take]; omega
    refine ⟨some a, cap, zs.take len, by rw [hlen], by omega, ?_, fun k hk => ?_⟩
    · rw [hlen]
      refine Kd.C_of_reads (enc := Value.int .i64) (d := (0 : Int)) (h1 := fun _ => rfl) ⟨hlen, by unfold maxLen at hm; omega, fun _ => ⟨a, rfl, fun j hj => ?_⟩⟩
      rw [hc j (by omega)]
      simp only [List.getD_eq_getElem?_getD]
      rw [List.getElem?_take_of_lt hj]
    · have := bounds_i64 (hw k (List.mem_of_mem_take hk))
      exact this
set_option maxRecDepth 100000 in
theorem has_of_trod (N : Nat) : ∀ (fuel : Nat), fuel ≤ N → ∀ (cs : List Value) (y : DataW H × List MemPlace), DataW.trod enc Tryd.prog w base (fun _ => true) true fuel 25 cs = some y → Rows.uptoBulk y.1 ≤ 1048576 →
    ∃ x A2 c2 A3 c3, cs = [.int .u8 x.f0, .string x.f1, .slice A2 x.f2.length c2, .slice A3 x.f3.length c3] ∧ Has w x A2 c2 A3 c3 ∧ cnt x ≤ Rows.uptoBulk y.1 := by
  induction N with
  | zero =>
    intro fuel hf cs y h
    obtain rfl : fuel = 0 := by omega
    simp [DataW.trod] at h
  | succ N ih =>
    intro fuel hf cs y h hbulk
    obtain ⟨xs, n, rfl, rfl, hlen, hsz, hall⟩ := DataW.trod_struct Tryd.underlying25 h
    rw [cells_expr] at hlen
    match cs, hlen with
    | [v0, v1, v2, v3], _ =>
    match xs, hsz with
    | [y0, y1, y2, y3], _ =>
    have e0 : DataW.trod enc Tryd.prog w base (fun _ => true) true n 5 (([v0, v1, v2, v3].drop 0).take (Tryd.prog.cellsOf 5)) = some y0 := hall 0 _ rfl
    have e1 : DataW.trod enc Tryd.prog w base (fun _ => true) true n 9 (([v0, v1, v2, v3].drop 1).take (Tryd.prog.cellsOf 9)) = some y1 := hall 1 _ rfl
    have e2 : DataW.trod enc Tryd.prog w base (fun _ => true) true n 22 (([v0, v1, v2, v3].drop 2).take (Tryd.prog.cellsOf 22)) = some y2 := hall 2 _ rfl
    have e3 : DataW.trod enc Tryd.prog w base (fun _ => true) true n 23 (([v0, v1, v2, v3].drop 3).take (Tryd.prog.cellsOf 23)) = some y3 := hall 3 _ rfl
    rw [cells_byte] at e0
    rw [cells_str] at e1
    rw [cells_nums] at e2
    rw [cells_args] at e3
    obtain ⟨o, h0, rfl, hw0⟩ := DataW.trod_int Tryd.underlying5 e0
    obtain ⟨s, h1, rfl, hs⟩ := DataW.trod_string Tryd.underlying9 e1
    obtain ⟨A2, c2, ns, h2, hl2, hC2, hb2⟩ := nums_of_trod e2
    obtain rfl : v0 = .int .u8 o := by simpa using h0
    obtain rfl : v1 = .string s := by simpa using h1
    obtain rfl : v2 = .slice A2 ns.length c2 := by simpa using h2
    have hbl : Rows.uptoBulk y3.1 ≤ 1048576 ∧ s.data.toList.length ≤ 1048576 ∧ Rows.uptoBulk y3.1 + 1 ≤ Rows.uptoBulk (DataW.agg (List.map (fun x => x.1) [(DataW.lit (Lit.int .u8 o), []), (DataW.lit (Lit.string s.data.toList), []), y2, y3])) := by
      simp only [List.map_cons, List.map_nil, bulk_agg, bulk_cons, bulk_nil, bulk_string] at hbulk ⊢
      omega
    have hop := bounds_u8 hw0
    have hss : s.size ≤ 140737488351232 := by
      have h1 : s.size = s.data.toList.length := by simp
      omega
    rcases DataW.trod_slice Tryd.underlying23 e3 with ⟨h3, rfl⟩ | ⟨a, len, cap, elems, rest, n', rfl, h3, rfl, hb, hl, hm, hle, hel, _, _⟩
    · obtain rfl : v3 = .slice none 0 0 := by simpa using h3
      refine ⟨⟨o, s, ns, []⟩, A2, c2, none, 0, rfl, ⟨(Wf_eq _).2 ⟨hop, hss, hb2, WfL_of (fun _ h => by cases h)⟩, hl2, hC2, Nat.le_refl 0, Kd.C_nil _ _⟩, ?_⟩
      rw [cnt_eq]
      show 1 + cntL [] ≤ _
      rw [cntL_nil]
      exact Nat.le_trans (by omega) hbl.2.2
    · obtain rfl : v3 = .slice (some a) len cap := by simpa using h3
      rw [cells_expr] at hel
      have hbe : ∀ e ∈ elems, Rows.uptoBulk e.1 ≤ 1048576 := fun e he => by
        have h1 := bulk_mem (List.mem_map_of_mem (f := fun x : DataW H × List MemPlace => x.1) he)
        have h2 := hbl.1
        rw [bulk_slice] at h2
        omega
      -- each argument
      have each : ∀ i, ∀ hi : i < elems.length, ∃ x B2 d2 B3 d3, w.cells? base (a.add (i * 4)) 4 = some [.int .u8 x.f0, .string x.f1, .slice B2 x.f2.length d2, .slice B3 x.f3.length d3] ∧ Has w x B2 d2 B3 d3 ∧ cnt x ≤ Rows.uptoBulk elems[i].1 := by
        intro i hi
        have h1 := hel i (by omega)
        rw [List.getElem?_eq_getElem hi] at h1
        obtain ⟨cs', h2, h4⟩ := Option.bind_eq_some_iff.1 h1
        obtain ⟨x, B2, d2, B3, d3, rfl, hx, hc⟩ := ih n' (by omega) cs' elems[i] h4 (hbe _ (List.getElem_mem hi))
        exact ⟨x, B2, d2, B3, d3, h2, hx, hc⟩
      have rows : ∀ k, k ≤ elems.length → ∃ ys : List X, ys.length = k ∧ cntL ys ≤ Rows.uptoBulkAll ((elems.take k).map (fun x => x.1)) ∧ ∀ i, ∀ hi : i < ys.length, ∃ B2 d2 B3 d3, w.cells? base (a.add (i * 4)) 4 = some [.int .u8 ys[i].f0, .string ys[i].f1, .slice B2 ys[i].f2.length d2, .slice B3 ys[i].f3.length d3] ∧ Has w ys[i] B2 d2 B3 d3 := by
        intro k
        induction k with
        | zero => intro _; exact ⟨[], rfl, by rw [cntL_nil]; exact Nat.zero_le _, fun i hi => by simp at hi⟩
        | succ k ihk =>
          intro hk
          obtain ⟨ys, hyl, hyc, hy⟩ := ihk (by omega)
          obtain ⟨x, B2, d2, B3, d3, hx1, hx2, hx3⟩ := each k (by omega)
          refine ⟨ys ++ [x], by simp [hyl], ?_, ?_⟩
          · rw [List.take_add_one, List.getElem?_eq_getElem (by omega), List.map_append, cntL_app, bulk_app]
            rw [cntL_cons, cntL_nil]
            show _ ≤ _ + Rows.uptoBulkAll [elems[k].1]
            rw [bulk_cons, bulk_nil]
            omega
          · intro i hi
            rw [List.length_append] at hi
            simp only [List.length_cons, List.length_nil] at hi
            by_cases hik : i < ys.length
            · rw [List.getElem_append_left hik]
              exact hy i hik
            · obtain rfl : i = ys.length := by omega
              rw [List.getElem_concat_length rfl]
              rw [hyl]
              exact ⟨B2, d2, B3, d3, hx1, hx2⟩
      obtain ⟨ys, hyl, hyc, hy⟩ := rows elems.length (Nat.le_refl _)
      rw [List.take_length] at hyc
      have hyl' : ys.length = len := by omega
      subst hyl'
      refine ⟨⟨o, s, ns, ys⟩, A2, c2, some a, cap, rfl, ⟨(Wf_eq _).2 ⟨hop, hss, hb2, WfL_of (fun z hz => ?_)⟩, hl2, hC2, hl, ?_⟩, ?_⟩
      · obtain ⟨i, hi, rfl⟩ := List.getElem_of_mem hz
        obtain ⟨B2, d2, B3, d3, _, hx⟩ := hy i hi
        exact hx.wf
      · refine ⟨rfl, by show ys.length ≤ 9223372036854775807; unfold maxLen at hm; omega, fun _ => ⟨a, rfl, ?_⟩⟩
        intro j p hj
        obtain ⟨hjl, rfl⟩ := List.getElem?_eq_some_iff.1 hj
        obtain ⟨B2, d2, B3, d3, hc, hx⟩ := hy j hjl
        refine ⟨_, rfl, k25_mk w ys[j] hx.l2 hx.C2 hx.l3 hx.C3, ?_⟩
        intro i u hu
        obtain ⟨_, hl4, hcell⟩ := World.cells?_some hc
        have hi : i < 4 := by
          have := (List.getElem?_eq_some_iff.1 hu).1
          simpa using this
        have h5 := hcell i hi
        rw [hu] at h5
        have h6 : (a.add (j * 4)).add i = a.add (j * 4 + i) := by first | exact Addr.add_add a _ _ | exact Go.Addr.add_add a _ _ | (unfold Addr.add; repeat' split <;> simp_all <;> omega)
        rw [h6] at h5
        exact h5
      · rw [cnt_eq]
        show 1 + cntL ys ≤ _
        have h2 := hbl.2.2
        rw [bulk_slice] at h2
        exact Nat.le_trans (by omega) h2
end
end Go.Proofs.YtjeofffddbibeaaDoor.Ex
end

section
namespace Go.Proofs.YtjeofffddbibeaaDoor.PLaid
open Go Go.ChangeShapes Go.WideShapes Go.ChangeAt Go.RowKit Go.Proofs.YtjeofffddbibeaaDoor.PParseTells Go.Proofs.YtjeofffddbibeaaDoorW.PrintWords Go.Proofs.YtjeofffddbibeaaDoorW.PrintLast Go.Proofs.YtjeofffddbibeaaDoorW.PrintMore
set_option linter.unusedVariables false
theorem own : ownKnob Tryd.prog.godebug = none := by kernel_rfl
abbrev laidL : List (String × DataW Unit) := [("unicode.White_Space", Rows.laid_unicode_White_Space), ("strings.asciiSpace", Rows.laid_strings_asciiSpace)]
theorem gSpace : Tryd.prog.globalNamed "strings.asciiSpace" = some 0 := by kernel_rfl
theorem tSpace : (Tryd.prog.globals[0]?).map (·.type) = some 116 := by kernel_rfl
set_option maxRecDepth 100000 in
theorem door_met (os : Os) (args : Array Value) : laidMetH Tryd.prog laidL ((World.laidAll Tryd.prog os laidL).forCall (fun _ _ => 0) ⟨#[], args, []⟩).memory := by
  rw [MakeChecks.laidMetH_plain _ _ _ (by kernel_rfl)]
  exact laidMet_laidAll _ (by kernel_rfl) (by kernel_rfl)
theorem spaceData : (Rows.laid_strings_asciiSpace : DataW Unit) = Lib.tabData .u8 Lib.asciiSpaceTab := by kernel_rfl
set_option maxRecDepth 100000 in
theorem cal_of {W : World} (h : laidMetH Tryd.prog laidL W) (hs : W.ShapedOpen Tryd.prog) : Pa.Cal W := by
  rw [MakeChecks.laidMetH_plain _ _ _ (by kernel_rfl)] at h
  obtain ⟨ps, hv, _⟩ := h
  obtain ⟨_, _, _, _, _, q1, _, _, _, _, hv, _⟩ := hv
  obtain ⟨g3, t3, cs3, f3, p3, q3, hg3, ht3, hv3, hd3, _, _⟩ := hv
  refine ⟨?_, ?_⟩
  · obtain rfl := Option.some.inj (gSpace.symm.trans hg3)
    obtain rfl := Option.some.inj (tSpace.symm.trans ht3)
    unfold Lib.TabIs
    rw [spaceData] at hd3
    rw [hv3, ← Lib.cells_of_tab Tryd.underlying116 Tryd.underlying5 (by kernel_rfl) (by kernel_rfl) hd3]
  · exact cell_of_shapedOpen_int (P := Tryd.prog) (g := 2) (t := 3) (zero := #[.int .i64 0]) hs (of_decide_eq_true (by kernel_rfl)) (by kernel_rfl) rfl (by kernel_rfl) (by kernel_rfl) Tryd.underlying3
theorem cells_tok : Tryd.prog.cellsOf 61 = 3 := by kernel_rfl
theorem cells_byte : Tryd.prog.cellsOf 5 = 1 := by kernel_rfl
theorem cells_int64 : Tryd.prog.cellsOf 2 = 1 := by kernel_rfl
theorem cells_str : Tryd.prog.cellsOf 9 = 1 := by kernel_rfl
section
variable {H : Type} {enc : TypeId × Value → H} {w : World} {base : Nat}
set_option maxRecDepth 100000 in
theorem tok_of_trod {fuel : Nat} {cs : List Value} {y : DataW H × List MemPlace} (h : DataW.trod enc Tryd.prog w base (fun _ => true) true fuel 61 cs = some y) : ∃ t : S61, cs = [.int .u8 t.f0, .string t.f1, .int .i64 t.f2] := by
  obtain ⟨xs, n, rfl, rfl, hlen, hsz, hall⟩ := DataW.trod_struct Tryd.underlying61 h
  rw [cells_tok] at hlen
  match cs, hlen with
  | [v0, v1, v2], _ =>
  match xs, hsz with
  | [y0, y1, y2], _ =>
  have e0 : DataW.trod enc Tryd.prog w base (fun _ => true) true n 5 (([v0, v1, v2].drop 0).take (Tryd.prog.cellsOf 5)) = some y0 := hall 0 _ rfl
  have e1 : DataW.trod enc Tryd.prog w base (fun _ => true) true n 9 (([v0, v1, v2].drop 1).take (Tryd.prog.cellsOf 9)) = some y1 := hall 1 _ rfl
  have e2 : DataW.trod enc Tryd.prog w base (fun _ => true) true n 2 (([v0, v1, v2].drop 2).take (Tryd.prog.cellsOf 2)) = some y2 := hall 2 _ rfl
  rw [cells_byte] at e0
  rw [cells_str] at e1
  rw [cells_int64] at e2
  obtain ⟨o, h0, rfl, hw0⟩ := DataW.trod_int Tryd.underlying5 e0
  obtain ⟨s, h1, rfl, hs⟩ := DataW.trod_string Tryd.underlying9 e1
  obtain ⟨n2, h2, rfl, hw2⟩ := DataW.trod_int Tryd.underlying2 e2
  obtain rfl : v0 = .int .u8 o := by simpa using h0
  obtain rfl : v1 = .string s := by simpa using h1
  obtain rfl : v2 = .int .i64 n2 := by simpa using h2
  exact ⟨⟨o, s, n2⟩, rfl⟩
end
end Go.Proofs.YtjeofffddbibeaaDoor.PLaid
end
