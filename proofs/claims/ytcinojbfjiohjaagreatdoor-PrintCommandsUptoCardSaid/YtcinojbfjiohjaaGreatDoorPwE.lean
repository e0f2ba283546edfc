/-
  Part 5 of what the row stands on, put together by a program: PPrintTellsx1, PPr3, PrR0, PrR, ParS, PrC0, PrC, PrM, DatE, DatD, PLx9, DatK, PLx10, LxN, LxU, NameR, PLx11, PLx12, LxO, PLxE, PLxS, LxI, LxV, LxX, LxM, PPr4, PPr5, PPr6, PPr9, PPr10m, PPr11, PPr12, SameZ, PPr13, PPr14, PtP, ExprT, PtQ, PtS, PtR0, PtR, PtC.
-/
import Derived.IntWalk
import Derived.Test.YtcinojbfjiohjaaGreatDoorPwD
section
namespace Go.Proofs.YtcinojbfjiohjaaGreatDoor.PPrintTells
open Go.RowKit Go.Proofs.YtcinojbfjiohjaaGreatDoorW.PrintWords Go.Proofs.YtcinojbfjiohjaaGreatDoorW.PrintLast Go.Proofs.YtcinojbfjiohjaaGreatDoorW.PrintMore
attribute [local go_sem] max2_int min2_int max_two min_two max_three min_three max_four min_four   -- for this text's walks alone
set_option linter.unusedVariables false
set_option linter.unusedSimpArgs false
theorem eqA40 (d : Nat) (w : World) (x0 y0 : Int) (x1 y1 : Int) (x2 y2 : Bool) (x3 y3 : Bool) :
    (Op.equalIn (d + 2) 40 (.agg #[.int .i64 x0, .int .i64 x1, .bool x2, .bool x3]) (.agg #[.int .i64 y0, .int .i64 y1, .bool y2, .bool y3])).run Tryz.prog w = .ok (x0 == y0 && (x1 == y1 && (x2 == y2 && (x3 == y3)))) w := by
  refine eqA_of Tryz.underlying40 (by kernel_rfl) ?_
  refine eqf_cons (by rfl) (by go_simp; rfl) (by go_simp; rfl) (by go_simp) ?_
  refine eqf_cons (by rfl) (by go_simp; rfl) (by go_simp; rfl) (by go_simp) ?_
  refine eqf_cons (by rfl) (by go_simp; rfl) (by go_simp; rfl) (by go_simp) ?_
  exact eqf_last (by rfl) (by go_simp; rfl) (by go_simp; rfl) (by go_simp)
end Go.Proofs.YtcinojbfjiohjaaGreatDoor.PPrintTells
end

section
namespace Go.Proofs.YtcinojbfjiohjaaGreatDoor.PPrintTells
open Go.RowKit Go.Proofs.YtcinojbfjiohjaaGreatDoorW.PrintWords Go.Proofs.YtcinojbfjiohjaaGreatDoorW.PrintLast Go.Proofs.YtcinojbfjiohjaaGreatDoorW.PrintMore
attribute [local go_sem] max2_int min2_int max_two min_two max_three min_three max_four min_four   -- for this text's walks alone
set_option linter.unusedVariables false
set_option linter.unusedSimpArgs false
attribute [local go_sem high] eqA40
def print_scoped.f (a0_0 : Int) (a0_1 : Int) (a0_2 : Bool) (a0_3 : Bool) (a1 : Bool) : Option (Bool) := if a1 = true then (if a0_2 = true then (if a0_3 = true then (some true) else (some (a0_1 == 0))) else (if a0_0 = 0 then (if a0_3 = true then (some true) else (some (a0_1 == 0))) else (some false))) else (some (a0_0 == 0 && (a0_1 == 0 && (!a0_2 && (!a0_3)))))
set_option maxHeartbeats 8000000 in
set_option maxRecDepth 100000 in
theorem print_scoped.calls (a0_0 : Int) (a0_1 : Int) (a0_2 : Bool) (a0_3 : Bool) (a1 : Bool) (r : Bool) (w : World) (h : print_scoped.f a0_0 a0_1 a0_2 a0_3 a1 = some r) :
    Calls Tryz.prog 55 #[.agg #[.int .i64 a0_0, .int .i64 a0_1, .bool a0_2, .bool a0_3], .bool a1] w fun e w' => e = .returned (.bool r) ∧ Below w.heap.size w w' := by
  have hu40 := Tryz.underlying40
  have HB := Aside0.mk (Below.refl w.heap.size w)
  have H : (if a1 = true then (if a0_2 = true then (if a0_3 = true then (some true) else (some (a0_1 == 0))) else (if a0_0 = 0 then (if a0_3 = true then (some true) else (some (a0_1 == 0))) else (some false))) else (some (a0_0 == 0 && (a0_1 == 0 && (!a0_2 && (!a0_3)))))) = some r := h
  clear h
  by_cases c3 : a1 = true
  · subst c3
    have H1 : (if a0_2 = true then (if a0_3 = true then (some true) else (some (a0_1 == 0))) else (if a0_0 = 0 then (if a0_3 = true then (some true) else (some (a0_1 == 0))) else (some false))) = some r := by rw [if_pos rfl] at H; exact H
    clear H
    have H := H1
    clear H1
    by_cases c4 : a0_2 = true
    · subst c4
      have H1 : (if a0_3 = true then (some true) else (some (a0_1 == 0))) = some r := by rw [if_pos rfl] at H; exact H
      clear H
      have H := H1
      clear H1
      by_cases c5 : a0_3 = true
      · subst c5
        have H1 : (some true) = some r := by rw [if_pos rfl] at H; exact H
        clear H
        have H := H1
        clear H1
        obtain rfl := Option.some.inj H
        go_enter Tryz.func55, Tryz.ntmps55
        go_wp2_with (first | ((with_reducible refine gate_dst (N := 2) rfl ?_); refine box_event ?hg (N := 2) ?hd (cs := #[.int .i64 a0_0, .int .i64 a0_1, .bool true, .bool true]) (t := 40) ?hr ?_; (case hd => rfl); (case hg => rfl); (case hr => first | (go_simp; done) | (go_simp; rfl)); intro gb128 hg w6 hbox hb; have n0_ := Aside0.mk (below_step (by repeat (first | (with_reducible first | exact HB.out | apply below_alloc | apply pw_below_drewN | apply below_drew1) | exact HB.out)) hb); have n1_ := Aside0.mk (hbox); have n2_ := Aside0.mk ((by rw [hg]; exact (below_size (by repeat (first | (with_reducible first | exact HB.out | apply below_alloc | apply pw_below_drewN | apply below_drew1) | exact HB.out))) : w.heap.size ≤ gb128)); have n3_ := Aside0.mk ((by rw [hg]; exact (below_size (by repeat (first | (with_reducible first | exact HB.out | apply below_alloc | apply pw_below_drewN | apply below_drew1) | exact HB.out))) : w.heap.size ≤ gb128)); clear HB; have HB := n0_; have BK128 := n1_; have GW128 := n2_; have GE128 := n3_; clear n0_ n1_ n2_ n3_; clear hb hbox hg; have hcz7_0 : w6.cell? ⟨gb128, 0, none⟩ = some (.int .i64 a0_0) := (blk_cell BK128.out 0).trans rfl; have hcz7_1 : w6.cell? ⟨gb128, 1, none⟩ = some (.int .i64 a0_1) := (blk_cell BK128.out 1).trans rfl; have hcz7_2 : w6.cell? ⟨gb128, 2, none⟩ = some (.bool true) := (blk_cell BK128.out 2).trans rfl; have hcz7_3 : w6.cell? ⟨gb128, 3, none⟩ = some (.bool true) := (blk_cell BK128.out 3).trans rfl; have hfz7_0 := blk_frozen BK128.out 0; have hfz7_1 := blk_frozen BK128.out 1; have hfz7_2 := blk_frozen BK128.out 2; have hfz7_3 := blk_frozen BK128.out 3))
        go_ret
        exact ⟨by first | rfl | (simp [errW_none, errW_some] <;> rfl) | (simp [*, errW_none, errW_some] <;> rfl), by repeat (first | (with_reducible first | exact HB.out | apply below_alloc | apply pw_below_drewN | apply below_drew1 | refine below_set ?_ GE128.out) | exact HB.out)⟩
      · replace c5 := Bool.eq_false_iff.mpr c5
        subst c5
        have H1 : (some (a0_1 == 0)) = some r := by rw [if_neg (show ¬ (false = true) by decide)] at H; exact H
        clear H
        have H := H1
        clear H1
        obtain rfl := Option.some.inj H
        go_enter Tryz.func55, Tryz.ntmps55
        go_wp2_with (first | ((with_reducible refine gate_dst (N := 2) rfl ?_); refine box_event ?hg (N := 2) ?hd (cs := #[.int .i64 a0_0, .int .i64 a0_1, .bool true, .bool false]) (t := 40) ?hr ?_; (case hd => rfl); (case hg => rfl); (case hr => first | (go_simp; done) | (go_simp; rfl)); intro gb128 hg w8 hbox hb; have n0_ := Aside0.mk (below_step (by repeat (first | (with_reducible first | exact HB.out | apply below_alloc | apply pw_below_drewN | apply below_drew1) | exact HB.out)) hb); have n1_ := Aside0.mk (hbox); have n2_ := Aside0.mk ((by rw [hg]; exact (below_size (by repeat (first | (with_reducible first | exact HB.out | apply below_alloc | apply pw_below_drewN | apply below_drew1) | exact HB.out))) : w.heap.size ≤ gb128)); have n3_ := Aside0.mk ((by rw [hg]; exact (below_size (by repeat (first | (with_reducible first | exact HB.out | apply below_alloc | apply pw_below_drewN | apply below_drew1) | exact HB.out))) : w.heap.size ≤ gb128)); clear HB; have HB := n0_; have BK128 := n1_; have GW128 := n2_; have GE128 := n3_; clear n0_ n1_ n2_ n3_; clear hb hbox hg; have hcz9_0 : w8.cell? ⟨gb128, 0, none⟩ = some (.int .i64 a0_0) := (blk_cell BK128.out 0).trans rfl; have hcz9_1 : w8.cell? ⟨gb128, 1, none⟩ = some (.int .i64 a0_1) := (blk_cell BK128.out 1).trans rfl; have hcz9_2 : w8.cell? ⟨gb128, 2, none⟩ = some (.bool true) := (blk_cell BK128.out 2).trans rfl; have hcz9_3 : w8.cell? ⟨gb128, 3, none⟩ = some (.bool false) := (blk_cell BK128.out 3).trans rfl; have hfz9_0 := blk_frozen BK128.out 0; have hfz9_1 := blk_frozen BK128.out 1; have hfz9_2 := blk_frozen BK128.out 2; have hfz9_3 := blk_frozen BK128.out 3))
        go_ret
        exact ⟨by first | rfl | (simp [errW_none, errW_some] <;> rfl) | (simp [*, errW_none, errW_some] <;> rfl), by repeat (first | (with_reducible first | exact HB.out | apply below_alloc | apply pw_below_drewN | apply below_drew1 | refine below_set ?_ GE128.out) | exact HB.out)⟩
    · replace c4 := Bool.eq_false_iff.mpr c4
      subst c4
      have H1 : (if a0_0 = 0 then (if a0_3 = true then (some true) else (some (a0_1 == 0))) else (some false)) = some r := by rw [if_neg (show ¬ (false = true) by decide)] at H; exact H
      clear H
      have H := H1
      clear H1
      by_cases c10 : a0_0 = 0
      · rw [if_pos c10] at H
        have c10b0 : (a0_0 == 0) = true := beq_iff_eq.mpr c10
        have c10b1 : (a0_0 != 0) = false := bne_eq_false_iff_eq.mpr c10
        clear c10
        by_cases c11 : a0_3 = true
        · subst c11
          have H1 : (some true) = some r := by rw [if_pos rfl] at H; exact H
          clear H
          have H := H1
          clear H1
          obtain rfl := Option.some.inj H
          go_enter Tryz.func55, Tryz.ntmps55
          go_wp2_with (first | ((with_reducible refine gate_dst (N := 2) rfl ?_); refine box_event ?hg (N := 2) ?hd (cs := #[.int .i64 a0_0, .int .i64 a0_1, .bool false, .bool true]) (t := 40) ?hr ?_; (case hd => rfl); (case hg => rfl); (case hr => first | (go_simp; done) | (go_simp; rfl)); intro gb128 hg w12 hbox hb; have n0_ := Aside0.mk (below_step (by repeat (first | (with_reducible first | exact HB.out | apply below_alloc | apply pw_below_drewN | apply below_drew1) | exact HB.out)) hb); have n1_ := Aside0.mk (hbox); have n2_ := Aside0.mk ((by rw [hg]; exact (below_size (by repeat (first | (with_reducible first | exact HB.out | apply below_alloc | apply pw_below_drewN | apply below_drew1) | exact HB.out))) : w.heap.size ≤ gb128)); have n3_ := Aside0.mk ((by rw [hg]; exact (below_size (by repeat (first | (with_reducible first | exact HB.out | apply below_alloc | apply pw_below_drewN | apply below_drew1) | exact HB.out))) : w.heap.size ≤ gb128)); clear HB; have HB := n0_; have BK128 := n1_; have GW128 := n2_; have GE128 := n3_; clear n0_ n1_ n2_ n3_; clear hb hbox hg; have hcz13_0 : w12.cell? ⟨gb128, 0, none⟩ = some (.int .i64 a0_0) := (blk_cell BK128.out 0).trans rfl; have hcz13_1 : w12.cell? ⟨gb128, 1, none⟩ = some (.int .i64 a0_1) := (blk_cell BK128.out 1).trans rfl; have hcz13_2 : w12.cell? ⟨gb128, 2, none⟩ = some (.bool false) := (blk_cell BK128.out 2).trans rfl; have hcz13_3 : w12.cell? ⟨gb128, 3, none⟩ = some (.bool true) := (blk_cell BK128.out 3).trans rfl; have hfz13_0 := blk_frozen BK128.out 0; have hfz13_1 := blk_frozen BK128.out 1; have hfz13_2 := blk_frozen BK128.out 2; have hfz13_3 := blk_frozen BK128.out 3))
          go_ret
          exact ⟨by first | rfl | (simp [errW_none, errW_some] <;> rfl) | (simp [*, errW_none, errW_some] <;> rfl), by repeat (first | (with_reducible first | exact HB.out | apply below_alloc | apply pw_below_drewN | apply below_drew1 | refine below_set ?_ GE128.out) | exact HB.out)⟩
        · replace c11 := Bool.eq_false_iff.mpr c11
          subst c11
          have H1 : (some (a0_1 == 0)) = some r := by rw [if_neg (show ¬ (false = true) by decide)] at H; exact H
          clear H
          have H := H1
          clear H1
          obtain rfl := Option.some.inj H
          go_enter Tryz.func55, Tryz.ntmps55
          go_wp2_with (first | ((with_reducible refine gate_dst (N := 2) rfl ?_); refine box_event ?hg (N := 2) ?hd (cs := #[.int .i64 a0_0, .int .i64 a0_1, .bool false, .bool false]) (t := 40) ?hr ?_; (case hd => rfl); (case hg => rfl); (case hr => first | (go_simp; done) | (go_simp; rfl)); intro gb128 hg w14 hbox hb; have n0_ := Aside0.mk (below_step (by repeat (first | (with_reducible first | exact HB.out | apply below_alloc | apply pw_below_drewN | apply below_drew1) | exact HB.out)) hb); have n1_ := Aside0.mk (hbox); have n2_ := Aside0.mk ((by rw [hg]; exact (below_size (by repeat (first | (with_reducible first | exact HB.out | apply below_alloc | apply pw_below_drewN | apply below_drew1) | exact HB.out))) : w.heap.size ≤ gb128)); have n3_ := Aside0.mk ((by rw [hg]; exact (below_size (by repeat (first | (with_reducible first | exact HB.out | apply below_alloc | apply pw_below_drewN | apply below_drew1) | exact HB.out))) : w.heap.size ≤ gb128)); clear HB; have HB := n0_; have BK128 := n1_; have GW128 := n2_; have GE128 := n3_; clear n0_ n1_ n2_ n3_; clear hb hbox hg; have hcz15_0 : w14.cell? ⟨gb128, 0, none⟩ = some (.int .i64 a0_0) := (blk_cell BK128.out 0).trans rfl; have hcz15_1 : w14.cell? ⟨gb128, 1, none⟩ = some (.int .i64 a0_1) := (blk_cell BK128.out 1).trans rfl; have hcz15_2 : w14.cell? ⟨gb128, 2, none⟩ = some (.bool false) := (blk_cell BK128.out 2).trans rfl; have hcz15_3 : w14.cell? ⟨gb128, 3, none⟩ = some (.bool false) := (blk_cell BK128.out 3).trans rfl; have hfz15_0 := blk_frozen BK128.out 0; have hfz15_1 := blk_frozen BK128.out 1; have hfz15_2 := blk_frozen BK128.out 2; have hfz15_3 := blk_frozen BK128.out 3))
          go_ret
          exact ⟨by first | rfl | (simp [errW_none, errW_some] <;> rfl) | (simp [*, errW_none, errW_some] <;> rfl), by repeat (first | (with_reducible first | exact HB.out | apply below_alloc | apply pw_below_drewN | apply below_drew1 | refine below_set ?_ GE128.out) | exact HB.out)⟩
      · rw [if_neg c10] at H
        have c10b0 : (a0_0 == 0) = false := beq_eq_false_iff_ne.mpr c10
        have c10b1 : (a0_0 != 0) = true := bne_iff_ne.mpr c10
        obtain rfl := Option.some.inj H
        go_enter Tryz.func55, Tryz.ntmps55
        go_wp2_with (first | ((with_reducible refine gate_dst (N := 2) rfl ?_); refine box_event ?hg (N := 2) ?hd (cs := #[.int .i64 a0_0, .int .i64 a0_1, .bool false, .bool a0_3]) (t := 40) ?hr ?_; (case hd => rfl); (case hg => rfl); (case hr => first | (go_simp; done) | (go_simp; rfl)); intro gb128 hg w16 hbox hb; have n0_ := Aside0.mk (below_step (by repeat (first | (with_reducible first | exact HB.out | apply below_alloc | apply pw_below_drewN | apply below_drew1) | exact HB.out)) hb); have n1_ := Aside0.mk (hbox); have n2_ := Aside0.mk ((by rw [hg]; exact (below_size (by repeat (first | (with_reducible first | exact HB.out | apply below_alloc | apply pw_below_drewN | apply below_drew1) | exact HB.out))) : w.heap.size ≤ gb128)); have n3_ := Aside0.mk ((by rw [hg]; exact (below_size (by repeat (first | (with_reducible first | exact HB.out | apply below_alloc | apply pw_below_drewN | apply below_drew1) | exact HB.out))) : w.heap.size ≤ gb128)); clear HB; have HB := n0_; have BK128 := n1_; have GW128 := n2_; have GE128 := n3_; clear n0_ n1_ n2_ n3_; clear hb hbox hg; have hcz17_0 : w16.cell? ⟨gb128, 0, none⟩ = some (.int .i64 a0_0) := (blk_cell BK128.out 0).trans rfl; have hcz17_1 : w16.cell? ⟨gb128, 1, none⟩ = some (.int .i64 a0_1) := (blk_cell BK128.out 1).trans rfl; have hcz17_2 : w16.cell? ⟨gb128, 2, none⟩ = some (.bool false) := (blk_cell BK128.out 2).trans rfl; have hcz17_3 : w16.cell? ⟨gb128, 3, none⟩ = some (.bool a0_3) := (blk_cell BK128.out 3).trans rfl; have hfz17_0 := blk_frozen BK128.out 0; have hfz17_1 := blk_frozen BK128.out 1; have hfz17_2 := blk_frozen BK128.out 2; have hfz17_3 := blk_frozen BK128.out 3))
        go_ret
        exact ⟨by first | rfl | (simp [errW_none, errW_some] <;> rfl) | (simp [*, errW_none, errW_some] <;> rfl), by repeat (first | (with_reducible first | exact HB.out | apply below_alloc | apply pw_below_drewN | apply below_drew1 | refine below_set ?_ GE128.out) | exact HB.out)⟩
  · replace c3 := Bool.eq_false_iff.mpr c3
    subst c3
    have H1 : (some (a0_0 == 0 && (a0_1 == 0 && (!a0_2 && (!a0_3))))) = some r := by rw [if_neg (show ¬ (false = true) by decide)] at H; exact H
    clear H
    have H := H1
    clear H1
    obtain rfl := Option.some.inj H
    go_enter Tryz.func55, Tryz.ntmps55
    go_wp2_with (first | ((with_reducible refine gate_dst (N := 2) rfl ?_); refine box_event ?hg (N := 2) ?hd (cs := #[.int .i64 a0_0, .int .i64 a0_1, .bool a0_2, .bool a0_3]) (t := 40) ?hr ?_; (case hd => rfl); (case hg => rfl); (case hr => first | (go_simp; done) | (go_simp; rfl)); intro gb128 hg w18 hbox hb; have n0_ := Aside0.mk (below_step (by repeat (first | (with_reducible first | exact HB.out | apply below_alloc | apply pw_below_drewN | apply below_drew1) | exact HB.out)) hb); have n1_ := Aside0.mk (hbox); have n2_ := Aside0.mk ((by rw [hg]; exact (below_size (by repeat (first | (with_reducible first | exact HB.out | apply below_alloc | apply pw_below_drewN | apply below_drew1) | exact HB.out))) : w.heap.size ≤ gb128)); have n3_ := Aside0.mk ((by rw [hg]; exact (below_size (by repeat (first | (with_reducible first | exact HB.out | apply below_alloc | apply pw_below_drewN | apply below_drew1) | exact HB.out))) : w.heap.size ≤ gb128)); clear HB; have HB := n0_; have BK128 := n1_; have GW128 := n2_; have GE128 := n3_; clear n0_ n1_ n2_ n3_; clear hb hbox hg; have hcz19_0 : w18.cell? ⟨gb128, 0, none⟩ = some (.int .i64 a0_0) := (blk_cell BK128.out 0).trans rfl; have hcz19_1 : w18.cell? ⟨gb128, 1, none⟩ = some (.int .i64 a0_1) := (blk_cell BK128.out 1).trans rfl; have hcz19_2 : w18.cell? ⟨gb128, 2, none⟩ = some (.bool a0_2) := (blk_cell BK128.out 2).trans rfl; have hcz19_3 : w18.cell? ⟨gb128, 3, none⟩ = some (.bool a0_3) := (blk_cell BK128.out 3).trans rfl; have hfz19_0 := blk_frozen BK128.out 0; have hfz19_1 := blk_frozen BK128.out 1; have hfz19_2 := blk_frozen BK128.out 2; have hfz19_3 := blk_frozen BK128.out 3))
    go_ret
    exact ⟨by first | rfl | (simp [errW_none, errW_some] <;> rfl) | (simp [*, errW_none, errW_some] <;> rfl), by repeat (first | (with_reducible first | exact HB.out | apply below_alloc | apply pw_below_drewN | apply below_drew1 | refine below_set ?_ GE128.out) | exact HB.out)⟩
def print_bare.f (a0_0 : Int) (a0_1 : ByteArray) (l0_2 : List Int) (l0_3 : List (S25)) : Option (Bool) := if a0_0 = 0 then (if a0_1.toList = ([] : List UInt8) then (some ((wrap64 ((l0_2.length : Int) + (l0_3.length : Int))) == 0)) else (some false)) else (some false)
set_option maxHeartbeats 8000000 in
set_option maxRecDepth 100000 in
theorem print_bare.calls (a0_0 : Int) (a0_1 : ByteArray) (A0_2 : Option Addr) (c0_2 : Nat) (l0_2 : List Int) (A0_3 : Option Addr) (c0_3 : Nat) (l0_3 : List (S25)) (r : Bool) (w : World) (hr0_2 : Kd.C (Kd.int .i64) w A0_2 l0_2.length l0_2) (hc0_2 : l0_2.length ≤ c0_2) (hr0_3 : Kd.C k25 w A0_3 l0_3.length l0_3) (hc0_3 : l0_3.length ≤ c0_3) (h : print_bare.f a0_0 a0_1 l0_2 l0_3 = some r) :
    Calls Tryz.prog 57 #[.agg #[.int .u8 a0_0, .string a0_1, .slice A0_2 l0_2.length c0_2, .slice A0_3 l0_3.length c0_3]] w fun e w' => e = .returned (.bool r) ∧ Below w.heap.size w w' := by
  have hu25 := Tryz.underlying25
  have HR0_2 := Aside0.mk hr0_2
  have HC0_2 := Aside0.mk hc0_2
  clear hr0_2 hc0_2
  have HR0_3 := Aside0.mk hr0_3
  have HC0_3 := Aside0.mk hc0_3
  clear hr0_3 hc0_3
  have HB := Aside0.mk (Below.refl w.heap.size w)
  have H : (if a0_0 = 0 then (if a0_1.toList = ([] : List UInt8) then (some ((wrap64 ((l0_2.length : Int) + (l0_3.length : Int))) == 0)) else (some false)) else (some false)) = some r := h
  clear h
  by_cases c2 : a0_0 = 0
  · rw [if_pos c2] at H
    have c2b0 : (a0_0 == 0) = true := beq_iff_eq.mpr c2
    have c2b1 : (a0_0 != 0) = false := bne_eq_false_iff_eq.mpr c2
    clear c2
    by_cases c3 : a0_1.toList = ([] : List UInt8)
    · rw [if_pos c3] at H
      have c3b0 : (a0_1.toList == ([] : List UInt8)) = true := beq_iff_eq.mpr c3
      have c3b1 : (a0_1.toList != ([] : List UInt8)) = false := bne_eq_false_iff_eq.mpr c3
      have c3e2 : a0_1.toList.isEmpty = true := List.isEmpty_iff.2 c3
      have c3e3 : (!a0_1.toList.isEmpty) = false := by rw [c3e2]; rfl
      clear c3
      obtain rfl := Option.some.inj H
      go_enter Tryz.func57, Tryz.ntmps57
      go_wp2_with (first | ((with_reducible refine gate_dst (N := 1) rfl ?_); (try (refine gate_guard (by rfl) ?_; dsimp only)); refine box_event ?hg (N := 1) ?hd (cs := #[.int .u8 a0_0, .string a0_1, .slice A0_2 l0_2.length c0_2, .slice A0_3 l0_3.length c0_3]) (t := 25) ?hr ?_; (case hd => rfl); (case hg => rfl); (case hr => first | (go_simp; done) | (go_simp; rfl)); intro gb129 hg w4 hbox hb; have n0_ := Aside0.mk (below_step (by repeat (first | (with_reducible first | exact HB.out | apply below_alloc | apply pw_below_drewN | apply below_drew1) | exact HB.out)) hb); have n1_ := Aside0.mk (hbox); have n2_ := Aside0.mk ((by rw [hg]; exact (below_size (by repeat (first | (with_reducible first | exact HB.out | apply below_alloc | apply pw_below_drewN | apply below_drew1) | exact HB.out))) : w.heap.size ≤ gb129)); have n3_ := Aside0.mk ((by rw [hg]; exact (below_size (by repeat (first | (with_reducible first | exact HB.out | apply below_alloc | apply pw_below_drewN | apply below_drew1) | exact HB.out))) : w.heap.size ≤ gb129)); clear HB; have HB := n0_; have BK129 := n1_; have GW129 := n2_; have GE129 := n3_; clear n0_ n1_ n2_ n3_; clear hb hbox hg; have hcz5_0 : w4.cell? ⟨gb129, 0, none⟩ = some (.int .u8 a0_0) := (blk_cell BK129.out 0).trans rfl; have hcz5_1 : w4.cell? ⟨gb129, 1, none⟩ = some (.string a0_1) := (blk_cell BK129.out 1).trans rfl; have hcz5_2 : w4.cell? ⟨gb129, 2, none⟩ = some (.slice A0_2 l0_2.length c0_2) := (blk_cell BK129.out 2).trans rfl; have hcz5_3 : w4.cell? ⟨gb129, 3, none⟩ = some (.slice A0_3 l0_3.length c0_3) := (blk_cell BK129.out 3).trans rfl; have hfz5_0 := blk_frozen BK129.out 0; have hfz5_1 := blk_frozen BK129.out 1; have hfz5_2 := blk_frozen BK129.out 2; have hfz5_3 := blk_frozen BK129.out 3))
      go_ret
      exact ⟨by first | rfl | (simp [errW_none, errW_some] <;> rfl) | (simp [*, errW_none, errW_some] <;> rfl), by repeat (first | (with_reducible first | exact HB.out | apply below_alloc | apply pw_below_drewN | apply below_drew1 | refine below_set ?_ GE129.out) | exact HB.out)⟩
    · rw [if_neg c3] at H
      have c3b0 : (a0_1.toList == ([] : List UInt8)) = false := beq_eq_false_iff_ne.mpr c3
      have c3b1 : (a0_1.toList != ([] : List UInt8)) = true := bne_iff_ne.mpr c3
      have c3e2 : a0_1.toList.isEmpty = false := by rw [Bool.eq_false_iff]; exact fun h => c3 (List.isEmpty_iff.1 h)
      have c3e3 : (!a0_1.toList.isEmpty) = true := by rw [c3e2]; rfl
      obtain rfl := Option.some.inj H
      go_enter Tryz.func57, Tryz.ntmps57
      go_wp2_with (first | ((with_reducible refine gate_dst (N := 1) rfl ?_); (try (refine gate_guard (by rfl) ?_; dsimp only)); refine box_event ?hg (N := 1) ?hd (cs := #[.int .u8 a0_0, .string a0_1, .slice A0_2 l0_2.length c0_2, .slice A0_3 l0_3.length c0_3]) (t := 25) ?hr ?_; (case hd => rfl); (case hg => rfl); (case hr => first | (go_simp; done) | (go_simp; rfl)); intro gb129 hg w6 hbox hb; have n0_ := Aside0.mk (below_step (by repeat (first | (with_reducible first | exact HB.out | apply below_alloc | apply pw_below_drewN | apply below_drew1) | exact HB.out)) hb); have n1_ := Aside0.mk (hbox); have n2_ := Aside0.mk ((by rw [hg]; exact (below_size (by repeat (first | (with_reducible first | exact HB.out | apply below_alloc | apply pw_below_drewN | apply below_drew1) | exact HB.out))) : w.heap.size ≤ gb129)); have n3_ := Aside0.mk ((by rw [hg]; exact (below_size (by repeat (first | (with_reducible first | exact HB.out | apply below_alloc | apply pw_below_drewN | apply below_drew1) | exact HB.out))) : w.heap.size ≤ gb129)); clear HB; have HB := n0_; have BK129 := n1_; have GW129 := n2_; have GE129 := n3_; clear n0_ n1_ n2_ n3_; clear hb hbox hg; have hcz7_0 : w6.cell? ⟨gb129, 0, none⟩ = some (.int .u8 a0_0) := (blk_cell BK129.out 0).trans rfl; have hcz7_1 : w6.cell? ⟨gb129, 1, none⟩ = some (.string a0_1) := (blk_cell BK129.out 1).trans rfl; have hcz7_2 : w6.cell? ⟨gb129, 2, none⟩ = some (.slice A0_2 l0_2.length c0_2) := (blk_cell BK129.out 2).trans rfl; have hcz7_3 : w6.cell? ⟨gb129, 3, none⟩ = some (.slice A0_3 l0_3.length c0_3) := (blk_cell BK129.out 3).trans rfl; have hfz7_0 := blk_frozen BK129.out 0; have hfz7_1 := blk_frozen BK129.out 1; have hfz7_2 := blk_frozen BK129.out 2; have hfz7_3 := blk_frozen BK129.out 3))
      go_ret
      exact ⟨by first | rfl | (simp [errW_none, errW_some] <;> rfl) | (simp [*, errW_none, errW_some] <;> rfl), by repeat (first | (with_reducible first | exact HB.out | apply below_alloc | apply pw_below_drewN | apply below_drew1 | refine below_set ?_ GE129.out) | exact HB.out)⟩
  · rw [if_neg c2] at H
    have c2b0 : (a0_0 == 0) = false := beq_eq_false_iff_ne.mpr c2
    have c2b1 : (a0_0 != 0) = true := bne_iff_ne.mpr c2
    obtain rfl := Option.some.inj H
    go_enter Tryz.func57, Tryz.ntmps57
    go_wp2_with (first | ((with_reducible refine gate_dst (N := 1) rfl ?_); (try (refine gate_guard (by rfl) ?_; dsimp only)); refine box_event ?hg (N := 1) ?hd (cs := #[.int .u8 a0_0, .string a0_1, .slice A0_2 l0_2.length c0_2, .slice A0_3 l0_3.length c0_3]) (t := 25) ?hr ?_; (case hd => rfl); (case hg => rfl); (case hr => first | (go_simp; done) | (go_simp; rfl)); intro gb129 hg w8 hbox hb; have n0_ := Aside0.mk (below_step (by repeat (first | (with_reducible first | exact HB.out | apply below_alloc | apply pw_below_drewN | apply below_drew1) | exact HB.out)) hb); have n1_ := Aside0.mk (hbox); have n2_ := Aside0.mk ((by rw [hg]; exact (below_size (by repeat (first | (with_reducible first | exact HB.out | apply below_alloc | apply pw_below_drewN | apply below_drew1) | exact HB.out))) : w.heap.size ≤ gb129)); have n3_ := Aside0.mk ((by rw [hg]; exact (below_size (by repeat (first | (with_reducible first | exact HB.out | apply below_alloc | apply pw_below_drewN | apply below_drew1) | exact HB.out))) : w.heap.size ≤ gb129)); clear HB; have HB := n0_; have BK129 := n1_; have GW129 := n2_; have GE129 := n3_; clear n0_ n1_ n2_ n3_; clear hb hbox hg; have hcz9_0 : w8.cell? ⟨gb129, 0, none⟩ = some (.int .u8 a0_0) := (blk_cell BK129.out 0).trans rfl; have hcz9_1 : w8.cell? ⟨gb129, 1, none⟩ = some (.string a0_1) := (blk_cell BK129.out 1).trans rfl; have hcz9_2 : w8.cell? ⟨gb129, 2, none⟩ = some (.slice A0_2 l0_2.length c0_2) := (blk_cell BK129.out 2).trans rfl; have hcz9_3 : w8.cell? ⟨gb129, 3, none⟩ = some (.slice A0_3 l0_3.length c0_3) := (blk_cell BK129.out 3).trans rfl; have hfz9_0 := blk_frozen BK129.out 0; have hfz9_1 := blk_frozen BK129.out 1; have hfz9_2 := blk_frozen BK129.out 2; have hfz9_3 := blk_frozen BK129.out 3))
    go_ret
    exact ⟨by first | rfl | (simp [errW_none, errW_some] <;> rfl) | (simp [*, errW_none, errW_some] <;> rfl), by repeat (first | (with_reducible first | exact HB.out | apply below_alloc | apply pw_below_drewN | apply below_drew1 | refine below_set ?_ GE129.out) | exact HB.out)⟩
end Go.Proofs.YtcinojbfjiohjaaGreatDoor.PPrintTells
end

section
namespace Go.Proofs.YtcinojbfjiohjaaGreatDoor.Pr
open Go Go.RowKit Go.Proofs.YtcinojbfjiohjaaGreatDoor.PPrintTells Go.Proofs.YtcinojbfjiohjaaGreatDoor.Ex Go.Proofs.YtcinojbfjiohjaaGreatDoorW.PrintWords Go.Proofs.YtcinojbfjiohjaaGreatDoorW.PrintLast Go.Proofs.YtcinojbfjiohjaaGreatDoorW.PrintMore
open Go.Proofs.YtcinojbfjiohjaaGreatDoor.Pa (opsL shapeF Shape_calls)
set_option linter.unusedVariables false
set_option linter.unusedSimpArgs false
structure Cmd where
  wd : ByteArray
  names : List ByteArray
  nums : List Int
  lo : Int
  hi : Int
  hl : Bool
  hh : Bool
  x : X
abbrev kS : Kd ByteArray := Kd.string
abbrev CT : TypeId := 42
abbrev cmA (c : Cmd) (A1 : Option Addr) (c1 : Nat) (A2 : Option Addr) (c2 : Nat) (A3 : Option Addr) (c3 : Nat) (A4 : Option Addr) (c4 : Nat) : Array Value :=
  #[.string c.wd, .slice A1 c.names.length c1, .slice A2 c.nums.length c2, .int .i64 c.lo, .int .i64 c.hi, .bool c.hl, .bool c.hh, .int .u8 c.x.f0, .string c.x.f1, .slice A3 c.x.f2.length c3, .slice A4 c.x.f3.length c4]
structure HasC (w : World) (c : Cmd) (A1 : Option Addr) (c1 : Nat) (A2 : Option Addr) (c2 : Nat) (A3 : Option Addr) (c3 : Nat) (A4 : Option Addr) (c4 : Nat) : Prop where
  n1 : c.names.length ≤ c1
  C1 : kS.C w A1 c.names.length c.names
  n2 : c.nums.length ≤ c2
  C2 : kI.C w A2 c.nums.length c.nums
  has : Has w c.x A3 c3 A4 c4
  szs : ∀ s ∈ c.names, s.size ≤ 140737488351232
  ints : ∀ n ∈ c.nums, -9223372036854775808 ≤ n ∧ n ≤ 9223372036854775807
  lo64 : -9223372036854775808 ≤ c.lo ∧ c.lo ≤ 9223372036854775807
  hi64 : -9223372036854775808 ≤ c.hi ∧ c.hi ≤ 9223372036854775807
theorem HasC.below {w w' : World} {c : Cmd} {A1 : Option Addr} {c1 : Nat} {A2 : Option Addr} {c2 : Nat} {A3 : Option Addr} {c3 : Nat} {A4 : Option Addr} {c4 : Nat} (h : HasC w c A1 c1 A2 c2 A3 c3 A4 c4) (hb : Below w.heap.size w w') : HasC w' c A1 c1 A2 c2 A3 c3 A4 c4 :=
  ⟨h.n1, Kd.C_below h.C1 hb, h.n2, Kd.C_below h.C2 hb, h.has.below hb, h.szs, h.ints, h.lo64, h.hi64⟩
def cntC (s : ByteArray) (b : UInt8) : Int := Lib.countByte s.data.toList b
def hasC (s : ByteArray) (b : UInt8) : Bool := decide (0 ≤ Lib.indexByte s.data.toList b)
def scopedB (lo hi : Int) (hl hh r : Bool) : Bool := if r = true then (hl || lo == 0) && (hh || hi == 0) else lo == 0 && (hi == 0 && (!hl && !hh))
theorem scoped_f (lo hi : Int) (hl hh r : Bool) : print_scoped.f lo hi hl hh r = some (scopedB lo hi hl hh r) := by
  unfold print_scoped.f scopedB
  cases r <;> cases hl <;> cases hh <;> simp
  all_goals (try (by_cases h : lo = 0 <;> simp [h]))
def bareB (x : X) : Bool := x.f0 == 0 && (x.f1.toList.isEmpty && (x.f2.isEmpty && x.f3.isEmpty))
theorem bare_f (x : X) (h2 : x.f2.length ≤ 4611686018427387903) (h3 : x.f3.length ≤ 4611686018427387903) : print_bare.f x.f0 x.f1 x.f2 x.f3 = some (bareB x) := by
  unfold print_bare.f bareB
  by_cases h0 : x.f0 = 0
  · rw [if_pos h0, beq_iff_eq.2 h0, Bool.true_and]
    by_cases h1 : x.f1.toList = []
    · rw [if_pos h1, h1, w64 (by omega) (by omega)]
      congr 1
      cases x.f2 with
      | nil =>
        cases x.f3 with
        | nil => rfl
        | cons y ys => simp; omega
      | cons n ns => simp; omega
    · rw [if_neg h1]
      cases hl : x.f1.toList with
      | nil => exact absurd hl h1
      | cons _ _ => rfl
  · rw [if_neg h0]
    rw [beq_eq_false_iff_ne.2 h0, Bool.false_and]
def rightC (c : Cmd) : Bool :=
  (shapeF c.wd).2 && (decide (cntC (shapeF c.wd).1 110 = c.names.length) && (decide (cntC (shapeF c.wd).1 105 = c.nums.length) && (scopedB c.lo c.hi c.hl c.hh (hasC (shapeF c.wd).1 114) &&
    (c.names.all nameB && (if hasC (shapeF c.wd).1 101 = true then RightB c.x else bareB c.x)))))
theorem right_name (s : ByteArray) : RightB ⟨0, s, [], []⟩ = nameB s := by
  unfold RightB
  rw [allR_eq, dep_eq, cnt_eq, depL_nil, cntL_nil, allRL_nil]
  unfold rightB
  have h1 : numsOf 0 = 0 := by decide
  have h2 : argsOf 0 = 0 := by decide
  simp [h1, h2]
theorem has_name (w : World) (s : ByteArray) (hs : s.size ≤ 140737488351232) : Has w ⟨0, s, [], []⟩ none 0 none 0 :=
  ⟨by rw [Wf_eq]; exact ⟨⟨Int.le_refl 0, show (0 : Int) ≤ 255 by decide⟩, hs, by simp, by rw [WfL]; trivial⟩, Nat.le_refl _, Kd.C_nil _ _, Nat.le_refl _, Kd.C_nil _ _⟩
end Go.Proofs.YtcinojbfjiohjaaGreatDoor.Pr
end

section
namespace Go.Proofs.YtcinojbfjiohjaaGreatDoor.Pr
open Go Go.RowKit Go.Proofs.YtcinojbfjiohjaaGreatDoor.PPrintTells Go.Proofs.YtcinojbfjiohjaaGreatDoor.Ex Go.Proofs.YtcinojbfjiohjaaGreatDoorW.PrintWords Go.Proofs.YtcinojbfjiohjaaGreatDoorW.PrintLast Go.Proofs.YtcinojbfjiohjaaGreatDoorW.PrintMore
open Go.Proofs.YtcinojbfjiohjaaGreatDoor.Pa (opsL shapeF Shape_calls)
set_option linter.unusedVariables false
set_option linter.unusedSimpArgs false
theorem str_at {w : World} {A : Option Addr} {X : List ByteArray} (h : kS.C w A X.length X) (i : Nat) (hi : i < X.length) : ∃ ad, A = some ad ∧ w.cell? (ad.add i) = some (.string X[i]) := by
  obtain ⟨ad, c, hA, hl, hK, hc⟩ := Kd.C_get h e8 (i : Int) (by omega) (by omega)
  have e : X.getD (i : Int).toNat e8 = X[i] := by
    rw [Int.toNat_natCast, List.getD_eq_getElem?_getD, List.getElem?_eq_getElem hi]
    rfl
  rw [e] at hK
  have hc0 : c = [.string X[i]] := hK
  subst hc0
  have h1 := hc 0 _ rfl
  rw [Int.toNat_natCast] at h1
  refine ⟨ad, hA, ?_⟩
  have e2 : i * kS.sz + 0 = i := by show i * 1 + 0 = i; omega
  rw [e2] at h1
  exact h1
theorem all_snoc (l : List ByteArray) (k : Nat) (hk : k < l.length) : (l.take (k + 1)).all nameB = ((l.take k).all nameB && nameB l[k]) := by
  rw [List.take_succ_eq_append_getElem hk, List.all_append]
  simp
theorem all_not {l : List ByteArray} {k : Nat} (hk : k < l.length) (h : nameB l[k] = false) : l.all nameB = false := by
  cases ha : l.all nameB with
  | false => rfl
  | true =>
    rw [List.all_eq_true] at ha
    rw [ha _ (List.getElem_mem hk)] at h
    cases h
abbrev cmO (wd : ByteArray) (A1 : Option Addr) (N c1 : Nat) (A2 : Option Addr) (M c2 : Nat) (lo hi : Int) (hl hh : Bool) (o : Int) (nm : ByteArray) (A3 : Option Addr) (n3 c3 : Nat) (A4 : Option Addr) (n4 c4 : Nat) : Obj :=
  .cells #[.string wd, .slice A1 N c1, .slice A2 M c2, .int .i64 lo, .int .i64 hi, .bool hl, .bool hh, .int .u8 o, .string nm, .slice A3 n3 c3, .slice A4 n4 c4] CT
set_option maxHeartbeats 32000000 in
set_option maxRecDepth 100000 in
theorem RightC_calls (c : Cmd) (A1 : Option Addr) (c1 : Nat) (A2 : Option Addr) (c2 : Nat) (A3 : Option Addr) (c3 : Nat) (A4 : Option Addr) (c4 : Nat) (w : World) (hC : Pa.Cal w) (h : HasC w c A1 c1 A2 c2 A3 c3 A4 c4) (hcn : cnt c.x ≤ 1099511627776) (hx2 : c.x.f2.length ≤ 4611686018427387903) (hx3 : c.x.f3.length ≤ 4611686018427387903) :
    Calls Tryz.prog 18 #[.agg (cmA c A1 c1 A2 c2 A3 c3 A4 c4)] w fun e w' => e = .returned (.bool (rightC c)) ∧ Below w.heap.size w w' := by
  obtain ⟨wd, NS, ns, lo, hi, hl, hh, x⟩ := c
  dsimp only at hcn hx2 hx3
  have hrc : rightC ⟨wd, NS, ns, lo, hi, hl, hh, x⟩ = ((shapeF wd).2 && (decide (cntC (shapeF wd).1 110 = NS.length) && (decide (cntC (shapeF wd).1 105 = ns.length) && (scopedB lo hi hl hh (hasC (shapeF wd).1 114) && (NS.all nameB && (if hasC (shapeF wd).1 101 = true then RightB x else bareB x)))))) := rfl
  have hm1 : NS.length ≤ 9223372036854775807 := Kd.C_max h.C1
  have H1 := Aside0.mk h.C1
  have HX := Aside0.mk h.has
  have HZ := Aside0.mk h.szs
  have HC := Aside0.mk hC
  obtain ⟨N, hN⟩ : ∃ N, N = NS.length := ⟨_, rfl⟩
  obtain ⟨M, hM⟩ : ∃ M, M = ns.length := ⟨_, rfl⟩
  have BF := Aside0.mk (bare_f x hx2 hx3)
  have CXR := fun W (hW : Below w.heap.size w W) => Aside0.mk (show Calls Tryz.prog 13 #[.agg #[.int .u8 x.f0, .string x.f1, .slice A3 x.f2.length c3, .slice A4 x.f3.length c4]] W fun e w' => e = .returned (.bool (RightB x)) ∧ Below W.heap.size W w' from Right_calls x A3 c3 A4 c4 W (HX.out.below hW) hcn)
  have CXB := fun W (hW : Below w.heap.size w W) => Aside0.mk (print_bare.calls x.f0 x.f1 A3 c3 x.f2 A4 c4 x.f3 _ W (HX.out.below hW).C2 (HX.out.below hW).l2 (HX.out.below hW).C3 (HX.out.below hW).l3 BF.out)
  obtain ⟨o, ho⟩ : ∃ o, o = x.f0 := ⟨_, rfl⟩
  obtain ⟨nm, hnm⟩ : ∃ nm, nm = x.f1 := ⟨_, rfl⟩
  obtain ⟨n3, hn3⟩ : ∃ n3, n3 = x.f2.length := ⟨_, rfl⟩
  obtain ⟨n4, hn4⟩ : ∃ n4, n4 = x.f3.length := ⟨_, rfl⟩
  unfold cmA
  dsimp only
  rw [← ho, ← hnm, ← hn3, ← hn4] at CXR CXB
  rw [hrc, ← hN, ← hM, ← ho, ← hnm, ← hn3, ← hn4]
  rw [← hN] at hm1
  have hk1 : (w.alloc (cmO wd A1 N c1 A2 M c2 lo hi hl hh o nm A3 n3 c3 A4 n4 c4)).heap[w.heap.size]? = some (cmO wd A1 N c1 A2 M c2 lo hi hl hh o nm A3 n3 c3 A4 n4 c4) := blk_new w _
  have HB1 := Aside0.mk (show Below w.heap.size w (w.alloc (cmO wd A1 N c1 A2 M c2 lo hi hl hh o nm A3 n3 c3 A4 n4 c4)) from below_alloc (Below.refl _ _) _)
  have hq0 : (w.alloc (cmO wd A1 N c1 A2 M c2 lo hi hl hh o nm A3 n3 c3 A4 n4 c4)).cell? ⟨w.heap.size, 0, none⟩ = some (.string wd) := (blk_cell hk1 0).trans rfl
  have CSH := Aside0.mk (Shape_calls wd _ (HC.out.l HB1.out))
  obtain ⟨sh, is, hsh⟩ : ∃ sh is, shapeF wd = (sh, is) := ⟨_, _, rfl⟩
  rw [hsh] at CSH ⊢
  dsimp only at CSH ⊢
  have CN := fun W => Tryz.strings_Count_one sh 110 W
  have CI := fun W => Tryz.strings_Count_one sh 105 W
  have CR := fun W => Tryz.strings_Contains_one sh 114 W
  have CE := fun W => Tryz.strings_Contains_one sh 101 W
  obtain ⟨cn, hcn1⟩ : ∃ cn, cn = Lib.countByte sh.data.toList 110 := ⟨_, rfl⟩
  obtain ⟨ci, hci1⟩ : ∃ ci, ci = Lib.countByte sh.data.toList 105 := ⟨_, rfl⟩
  obtain ⟨cr, hcr1⟩ : ∃ cr, cr = hasC sh 114 := ⟨_, rfl⟩
  obtain ⟨ce, hce1⟩ : ∃ ce, ce = hasC sh 101 := ⟨_, rfl⟩
  have e1 : cntC sh 110 = (cn : Int) := by unfold cntC; rw [hcn1]
  have e2 : cntC sh 105 = (ci : Int) := by unfold cntC; rw [hci1]
  rw [e1, e2, ← hcr1, ← hce1]
  rw [← hcn1] at CN
  rw [← hci1] at CI
  rw [show decide (0 ≤ Lib.indexByte sh.data.toList 114) = cr from hcr1.symm] at CR
  rw [show decide (0 ≤ Lib.indexByte sh.data.toList 101) = ce from hce1.symm] at CE
  have CSC := fun W => print_scoped.calls lo hi hl hh cr _ W (scoped_f lo hi hl hh cr)
  obtain ⟨sc, hsc⟩ : ∃ sc, sc = scopedB lo hi hl hh cr := ⟨_, rfl⟩
  rw [← hsc] at CSC ⊢
  obtain ⟨fin, hfin⟩ : ∃ fin, fin = (if ce = true then RightB x else bareB x) := ⟨_, rfl⟩
  rw [← hfin]
  have HFI := Aside0.mk hfin
  have HN := Aside0.mk hN
  clear hfin hrc h hC hsh hcn1 hci1 hcr1 hce1 e1 e2 hsc ho hnm hn3 hn4 hN hM hcn hx2 hx3
  go_enter Tryz.func18, Tryz.ntmps18
  go_wp2_with fail
  (with_reducible refine CSH.out.mono ?_)
  rintro e w2 ⟨rfl, hb2⟩
  have hk2 := blk_below hk1 hb2
  have HB2 := Aside0.mk (below_then HB1.out HB1.out.size hb2)
  have hk3 : w2.drew.heap[w.heap.size]? = some (cmO wd A1 N c1 A2 M c2 lo hi hl hh o nm A3 n3 c3 A4 n4 c4) := hk2
  have HB3 := Aside0.mk (show Below w.heap.size w w2.drew from HB2.out.drew)
  clear hb2 CSH hq0 hk1 hk2 HB1
  cases is
  · go_wp2_with fail
    refine start_ (n := 26) (S := fun w' => w'.cell? ⟨w.heap.size, 1, none⟩ = some (.slice A1 N c1) ∧ w'.cell? ⟨w.heap.size, 2, none⟩ = some (.slice A2 M c2) ∧ w'.cell? ⟨w.heap.size, 3, none⟩ = some (.int .i64 lo) ∧ w'.cell? ⟨w.heap.size, 4, none⟩ = some (.int .i64 hi) ∧ w'.cell? ⟨w.heap.size, 5, none⟩ = some (.bool hl) ∧ w'.cell? ⟨w.heap.size, 6, none⟩ = some (.bool hh)) (ds := []) #[false, false, false, false, false, false, false, false, false, false, false, false, false, false, false, false, false, false, false, false, false, false, false, false, false, false] (by kernel_rfl) rfl rfl ⟨(blk_cell hk3 1).trans rfl, (blk_cell hk3 2).trans rfl, (blk_cell hk3 3).trans rfl, (blk_cell hk3 4).trans rfl, (blk_cell hk3 5).trans rfl, (blk_cell hk3 6).trans rfl⟩ (fun hHeld => ?_)
    refine pure_ (i := 0) (N := some 13) (v := ?_) (a' := ?_) #[true, false, false, false, false, false, false, false, false, false, false, false, false, false, false, false, false, false, false, false, false, false, false, false, false, false] rfl rfl (by kernel_rfl) (fun _ _ _ h => h) (Or.inl ⟨by rfl, ?_⟩) ?_ ?_
    rotate_left
    · intro w'
      go_simp
      with_reducible rfl
    rotate_left
    · simp only [Act.put, List.setIfInBounds_toArray, List.set_cons_zero, List.set_cons_succ, i64_w, i32_w]
      rfl
    refine pure_ (i := 1) (N := some 14) (v := ?_) (a' := ?_) #[true, true, false, false, false, false, false, false, false, false, false, false, false, false, false, false, false, false, false, false, false, false, false, false, false, false] rfl rfl (by kernel_rfl) (fun _ _ _ h => h) (Or.inl ⟨by rfl, ?_⟩) ?_ ?_
    rotate_left
    · intro w'
      go_simp
      with_reducible rfl
    rotate_left
    · simp only [Act.put, List.setIfInBounds_toArray, List.set_cons_zero, List.set_cons_succ, i64_w, i32_w]
      rfl
    refine pure_ (i := 2) (N := some 15) (v := ?_) (a' := ?_) #[true, true, true, false, false, false, false, false, false, false, false, false, false, false, false, false, false, false, false, false, false, false, false, false, false, false] rfl rfl (by kernel_rfl) (fun _ _ _ h => h) (Or.inl ⟨by rfl, ?_⟩) ?_ ?_
    rotate_left
    · intro w'
      go_simp
      with_reducible rfl
    rotate_left
    · simp only [Act.put, List.setIfInBounds_toArray, List.set_cons_zero, List.set_cons_succ, i64_w, i32_w]
      rfl
    refine pure_ (i := 3) (N := some 16) (v := undef) (a' := ?_) #[true, true, true, true, false, false, false, false, false, false, false, false, false, false, false, false, false, false, false, false, false, false, false, false, false, false] rfl rfl (by kernel_rfl) (fun _ _ _ h => h) (Or.inr ⟨by rfl, rfl⟩) ?_ ?_
    rotate_left
    · simp only [Act.put, List.setIfInBounds_toArray, List.set_cons_zero, List.set_cons_succ, i64_w, i32_w]
      rfl
    refine pure_ (i := 4) (N := some 17) (v := undef) (a' := ?_) #[true, true, true, true, true, false, false, false, false, false, false, false, false, false, false, false, false, false, false, false, false, false, false, false, false, false] rfl rfl (by kernel_rfl) (fun _ _ _ h => h) (Or.inr ⟨by rfl, rfl⟩) ?_ ?_
    rotate_left
    · simp only [Act.put, List.setIfInBounds_toArray, List.set_cons_zero, List.set_cons_succ, i64_w, i32_w]
      rfl
    refine pure_ (i := 5) (N := some 18) (v := undef) (a' := ?_) #[true, true, true, true, true, true, false, false, false, false, false, false, false, false, false, false, false, false, false, false, false, false, false, false, false, false] rfl rfl (by kernel_rfl) (fun _ _ _ h => h) (Or.inr ⟨by rfl, rfl⟩) ?_ ?_
    rotate_left
    · simp only [Act.put, List.setIfInBounds_toArray, List.set_cons_zero, List.set_cons_succ, i64_w, i32_w]
      rfl
    refine pure_ (i := 6) (N := some 19) (v := undef) (a' := ?_) #[true, true, true, true, true, true, true, false, false, false, false, false, false, false, false, false, false, false, false, false, false, false, false, false, false, false] rfl rfl (by kernel_rfl) (fun _ _ _ h => h) (Or.inr ⟨by rfl, rfl⟩) ?_ ?_
    rotate_left
    · simp only [Act.put, List.setIfInBounds_toArray, List.set_cons_zero, List.set_cons_succ, i64_w, i32_w]
      rfl
    refine pure_ (i := 7) (N := some 20) (v := undef) (a' := ?_) #[true, true, true, true, true, true, true, true, false, false, false, false, false, false, false, false, false, false, false, false, false, false, false, false, false, false] rfl rfl (by kernel_rfl) (fun _ _ _ h => h) (Or.inr ⟨by rfl, rfl⟩) ?_ ?_
    rotate_left
    · simp only [Act.put, List.setIfInBounds_toArray, List.set_cons_zero, List.set_cons_succ, i64_w, i32_w]
      rfl
    refine pure_ (i := 8) (N := some 21) (v := undef) (a' := ?_) #[true, true, true, true, true, true, true, true, true, false, false, false, false, false, false, false, false, false, false, false, false, false, false, false, false, false] rfl rfl (by kernel_rfl) (fun _ _ _ h => h) (Or.inr ⟨by rfl, rfl⟩) ?_ ?_
    rotate_left
    · simp only [Act.put, List.setIfInBounds_toArray, List.set_cons_zero, List.set_cons_succ, i64_w, i32_w]
      rfl
    refine pure_ (i := 9) (N := some 22) (v := ?_) (a' := ?_) #[true, true, true, true, true, true, true, true, true, true, false, false, false, false, false, false, false, false, false, false, false, false, false, false, false, false] rfl rfl (by kernel_rfl) (fun _ _ _ h => h) (Or.inl ⟨by rfl, ?_⟩) ?_ ?_
    rotate_left
    · intro w'
      go_simp
      with_reducible rfl
    rotate_left
    · simp only [Act.put, List.setIfInBounds_toArray, List.set_cons_zero, List.set_cons_succ, i64_w, i32_w]
      rfl
    refine pure_ (i := 10) (N := some 23) (v := ?_) (a' := ?_) #[true, true, true, true, true, true, true, true, true, true, true, false, false, false, false, false, false, false, false, false, false, false, false, false, false, false] rfl rfl (by kernel_rfl) (fun _ _ _ h => h) (Or.inl ⟨by rfl, ?_⟩) ?_ ?_
    rotate_left
    · intro w'
      go_simp
      with_reducible rfl
    rotate_left
    · simp only [Act.put, List.setIfInBounds_toArray, List.set_cons_zero, List.set_cons_succ, i64_w, i32_w]
      rfl
    refine pure_ (i := 11) (N := some 24) (v := undef) (a' := ?_) #[true, true, true, true, true, true, true, true, true, true, true, true, false, false, false, false, false, false, false, false, false, false, false, false, false, false] rfl rfl (by kernel_rfl) (fun _ _ _ h => h) (Or.inr ⟨by rfl, rfl⟩) ?_ ?_
    rotate_left
    · simp only [Act.put, List.setIfInBounds_toArray, List.set_cons_zero, List.set_cons_succ, i64_w, i32_w]
      rfl
    refine pure_ (i := 12) (N := some 25) (v := undef) (a' := ?_) #[true, true, true, true, true, true, true, true, true, true, true, true, true, false, false, false, false, false, false, false, false, false, false, false, false, false] rfl rfl (by kernel_rfl) (fun _ _ _ h => h) (Or.inr ⟨by rfl, rfl⟩) ?_ ?_
    rotate_left
    · simp only [Act.put, List.setIfInBounds_toArray, List.set_cons_zero, List.set_cons_succ, i64_w, i32_w]
      rfl
    refine pure_ (i := 13) (N := some 26) (v := undef) (a' := ?_) #[true, true, true, true, true, true, true, true, true, true, true, true, true, true, false, false, false, false, false, false, false, false, false, false, false, false] rfl rfl (by kernel_rfl) (fun _ _ _ h => h) (Or.inr ⟨by rfl, rfl⟩) ?_ ?_
    rotate_left
    · simp only [Act.put, List.setIfInBounds_toArray, List.set_cons_zero, List.set_cons_succ, i64_w, i32_w]
      rfl
    refine pure_ (i := 14) (N := some 27) (v := undef) (a' := ?_) #[true, true, true, true, true, true, true, true, true, true, true, true, true, true, true, false, false, false, false, false, false, false, false, false, false, false] rfl rfl (by kernel_rfl) (fun _ _ _ h => h) (Or.inr ⟨by rfl, rfl⟩) ?_ ?_
    rotate_left
    · simp only [Act.put, List.setIfInBounds_toArray, List.set_cons_zero, List.set_cons_succ, i64_w, i32_w]
      rfl
    refine pure_ (i := 15) (N := some 28) (v := undef) (a' := ?_) #[true, true, true, true, true, true, true, true, true, true, true, true, true, true, true, true, false, false, false, false, false, false, false, false, false, false] rfl rfl (by kernel_rfl) (fun _ _ _ h => h) (Or.inr ⟨by rfl, rfl⟩) ?_ ?_
    rotate_left
    · simp only [Act.put, List.setIfInBounds_toArray, List.set_cons_zero, List.set_cons_succ, i64_w, i32_w]
      rfl
    refine pure_ (i := 16) (N := some 29) (v := undef) (a' := ?_) #[true, true, true, true, true, true, true, true, true, true, true, true, true, true, true, true, true, false, false, false, false, false, false, false, false, false] rfl rfl (by kernel_rfl) (fun _ _ _ h => h) (Or.inr ⟨by rfl, rfl⟩) ?_ ?_
    rotate_left
    · simp only [Act.put, List.setIfInBounds_toArray, List.set_cons_zero, List.set_cons_succ, i64_w, i32_w]
      rfl
    refine pure_ (i := 17) (N := some 30) (v := ?_) (a' := ?_) #[true, true, true, true, true, true, true, true, true, true, true, true, true, true, true, true, true, true, false, false, false, false, false, false, false, false] rfl rfl (by kernel_rfl) (fun _ _ _ h => h) (Or.inl ⟨by rfl, ?_⟩) ?_ ?_
    rotate_left
    · intro w'
      go_simp
      with_reducible rfl
    rotate_left
    · simp only [Act.put, List.setIfInBounds_toArray, List.set_cons_zero, List.set_cons_succ, i64_w, i32_w]
      rfl
    refine pure_ (i := 18) (N := some 31) (v := ?_) (a' := ?_) #[true, true, true, true, true, true, true, true, true, true, true, true, true, true, true, true, true, true, true, false, false, false, false, false, false, false] rfl rfl (by kernel_rfl) (fun _ _ _ h => h) (Or.inl ⟨by rfl, ?_⟩) ?_ ?_
    rotate_left
    · intro w'
      go_simp
      with_reducible rfl
    rotate_left
    · simp only [Act.put, List.setIfInBounds_toArray, List.set_cons_zero, List.set_cons_succ, i64_w, i32_w]
      rfl
    refine pure_ (i := 19) (N := some 32) (v := undef) (a' := ?_) #[true, true, true, true, true, true, true, true, true, true, true, true, true, true, true, true, true, true, true, true, false, false, false, false, false, false] rfl rfl (by kernel_rfl) (fun _ _ _ h => h) (Or.inr ⟨by rfl, rfl⟩) ?_ ?_
    rotate_left
    · simp only [Act.put, List.setIfInBounds_toArray, List.set_cons_zero, List.set_cons_succ, i64_w, i32_w]
      rfl
    refine pure_ (i := 20) (N := some 33) (v := undef) (a' := ?_) #[true, true, true, true, true, true, true, true, true, true, true, true, true, true, true, true, true, true, true, true, true, false, false, false, false, false] rfl rfl (by kernel_rfl) (fun _ _ _ h => h) (Or.inr ⟨by rfl, rfl⟩) ?_ ?_
    rotate_left
    · simp only [Act.put, List.setIfInBounds_toArray, List.set_cons_zero, List.set_cons_succ, i64_w, i32_w]
      rfl
    refine pure_ (i := 21) (N := some 34) (v := undef) (a' := ?_) #[true, true, true, true, true, true, true, true, true, true, true, true, true, true, true, true, true, true, true, true, true, true, false, false, false, false] rfl rfl (by kernel_rfl) (fun _ _ _ h => h) (Or.inr ⟨by rfl, rfl⟩) ?_ ?_
    rotate_left
    · simp only [Act.put, List.setIfInBounds_toArray, List.set_cons_zero, List.set_cons_succ, i64_w, i32_w]
      rfl
    refine pure_ (i := 22) (N := some 35) (v := undef) (a' := ?_) #[true, true, true, true, true, true, true, true, true, true, true, true, true, true, true, true, true, true, true, true, true, true, true, false, false, false] rfl rfl (by kernel_rfl) (fun _ _ _ h => h) (Or.inr ⟨by rfl, rfl⟩) ?_ ?_
    rotate_left
    · simp only [Act.put, List.setIfInBounds_toArray, List.set_cons_zero, List.set_cons_succ, i64_w, i32_w]
      rfl
    refine pure_ (i := 23) (N := some 36) (v := undef) (a' := ?_) #[true, true, true, true, true, true, true, true, true, true, true, true, true, true, true, true, true, true, true, true, true, true, true, true, false, false] rfl rfl (by kernel_rfl) (fun _ _ _ h => h) (Or.inr ⟨by rfl, rfl⟩) ?_ ?_
    rotate_left
    · simp only [Act.put, List.setIfInBounds_toArray, List.set_cons_zero, List.set_cons_succ, i64_w, i32_w]
      rfl
    refine pure_ (i := 24) (N := some 37) (v := undef) (a' := ?_) #[true, true, true, true, true, true, true, true, true, true, true, true, true, true, true, true, true, true, true, true, true, true, true, true, true, false] rfl rfl (by kernel_rfl) (fun _ _ _ h => h) (Or.inr ⟨by rfl, rfl⟩) ?_ ?_
    rotate_left
    · simp only [Act.put, List.setIfInBounds_toArray, List.set_cons_zero, List.set_cons_succ, i64_w, i32_w]
      rfl
    refine pure_ (i := 25) (N := some 38) (v := ?_) (a' := ?_) #[true, true, true, true, true, true, true, true, true, true, true, true, true, true, true, true, true, true, true, true, true, true, true, true, true, true] rfl rfl (by kernel_rfl) (fun _ _ _ h => h) (Or.inl ⟨by rfl, ?_⟩) ?_ ?_
    rotate_left
    · intro w'
      go_simp
      with_reducible rfl
    rotate_left
    · simp only [Act.put, List.setIfInBounds_toArray, List.set_cons_zero, List.set_cons_succ, i64_w, i32_w]
      rfl
    refine done_ (by kernel_rfl) ?_
    go_wp2
    all_goals (go_ret; exact ⟨rfl, HB3.out⟩)
  by_cases h1 : cn = N
  case neg =>
    have hne : ((cn : Int) == (N : Int)) = false := beq_eq_false_iff_ne.2 (by omega)
    have hne2 : ((cn : Int) != (N : Int)) = true := by rw [bne, hne]; rfl
    have hd : decide ((cn : Int) = (N : Int)) = false := decide_eq_false (by omega)
    have HRS := Aside0.mk hd
    clear h1 hd
    go_wp2_with fail
    refine start_ (n := 26) (S := fun w' => w'.cell? ⟨w.heap.size, 1, none⟩ = some (.slice A1 N c1) ∧ w'.cell? ⟨w.heap.size, 2, none⟩ = some (.slice A2 M c2) ∧ w'.cell? ⟨w.heap.size, 3, none⟩ = some (.int .i64 lo) ∧ w'.cell? ⟨w.heap.size, 4, none⟩ = some (.int .i64 hi) ∧ w'.cell? ⟨w.heap.size, 5, none⟩ = some (.bool hl) ∧ w'.cell? ⟨w.heap.size, 6, none⟩ = some (.bool hh)) (ds := []) #[false, false, false, false, false, false, false, false, false, false, false, false, false, false, false, false, false, false, false, false, false, false, false, false, false, false] (by kernel_rfl) rfl rfl ⟨(blk_cell hk3 1).trans rfl, (blk_cell hk3 2).trans rfl, (blk_cell hk3 3).trans rfl, (blk_cell hk3 4).trans rfl, (blk_cell hk3 5).trans rfl, (blk_cell hk3 6).trans rfl⟩ (fun hHeld => ?_)
    refine pure_ (i := 0) (N := some 13) (v := ?_) (a' := ?_) #[true, false, false, false, false, false, false, false, false, false, false, false, false, false, false, false, false, false, false, false, false, false, false, false, false, false] rfl rfl (by kernel_rfl) (fun _ _ _ h => h) (Or.inl ⟨by rfl, ?_⟩) ?_ ?_
    rotate_left
    · intro w'
      go_simp
      with_reducible rfl
    rotate_left
    · simp only [Act.put, List.setIfInBounds_toArray, List.set_cons_zero, List.set_cons_succ, i64_w, i32_w]
      rfl
    refine pure_ (i := 1) (N := some 14) (v := ?_) (a' := ?_) #[true, true, false, false, false, false, false, false, false, false, false, false, false, false, false, false, false, false, false, false, false, false, false, false, false, false] rfl rfl (by kernel_rfl) (fun _ _ _ h => h) (Or.inl ⟨by rfl, ?_⟩) ?_ ?_
    rotate_left
    · intro w'
      go_simp
      with_reducible rfl
    rotate_left
    · simp only [Act.put, List.setIfInBounds_toArray, List.set_cons_zero, List.set_cons_succ, i64_w, i32_w]
      rfl
    refine pure_ (i := 2) (N := some 15) (v := ?_) (a' := ?_) #[true, true, true, false, false, false, false, false, false, false, false, false, false, false, false, false, false, false, false, false, false, false, false, false, false, false] rfl rfl (by kernel_rfl) (fun _ _ _ h => h) (Or.inl ⟨by rfl, ?_⟩) ?_ ?_
    rotate_left
    · intro w'
      go_simp
      with_reducible rfl
    rotate_left
    · simp only [Act.put, List.setIfInBounds_toArray, List.set_cons_zero, List.set_cons_succ, i64_w, i32_w]
      rfl
    refine pure_ (i := 3) (N := some 16) (v := ?_) (a' := ?_) #[true, true, true, true, false, false, false, false, false, false, false, false, false, false, false, false, false, false, false, false, false, false, false, false, false, false] rfl rfl (by kernel_rfl) (fun _ _ _ h => h) (Or.inl ⟨by rfl, ?_⟩) ?_ ?_
    rotate_left
    · intro w'
      go_simp
      with_reducible rfl
    rotate_left
    · simp only [Act.put, List.setIfInBounds_toArray, List.set_cons_zero, List.set_cons_succ, i64_w, i32_w]
      rfl
    refine pure_ (i := 5) (N := some 18) (v := ?_) (a' := ?_) #[true, true, true, true, false, true, false, false, false, false, false, false, false, false, false, false, false, false, false, false, false, false, false, false, false, false] rfl rfl (by kernel_rfl) (fun _ _ _ h => h) (Or.inl ⟨by rfl, ?_⟩) ?_ ?_
    rotate_left
    · intro w'
      go_simp
      with_reducible rfl
    rotate_left
    · simp only [Act.put, List.setIfInBounds_toArray, List.set_cons_zero, List.set_cons_succ, i64_w, i32_w]
      rfl
    refine take_ (i := 6) (N := some 19) (v := ?_) (a' := ?_) #[true, true, true, true, false, true, true, false, false, false, false, false, false, false, false, false, false, false, false, false, false, false, false, false, false, false] rfl rfl (by kernel_rfl) (fun _ _ _ h => h) (Or.inl ⟨by rfl, ?_⟩) hHeld ?_ ?_
    rotate_left
    · rintro w' ⟨s0, s1, s2, s3, s4, s5⟩
      go_simp
      with_reducible rfl
    rotate_left
    · simp only [Act.put, List.setIfInBounds_toArray, List.set_cons_zero, List.set_cons_succ, i64_w, i32_w]
      rfl
    refine pure_ (i := 7) (N := some 20) (v := ?_) (a' := ?_) #[true, true, true, true, false, true, true, true, false, false, false, false, false, false, false, false, false, false, false, false, false, false, false, false, false, false] rfl rfl (by kernel_rfl) (fun _ _ _ h => h) (Or.inl ⟨by rfl, ?_⟩) ?_ ?_
    rotate_left
    · intro w'
      go_simp
      with_reducible rfl
    rotate_left
    · simp only [Act.put, List.setIfInBounds_toArray, List.set_cons_zero, List.set_cons_succ, i64_w, i32_w]
      rfl
    refine one_ (i := 4) (N := some 17) #[true, true, true, true, true, true, true, true, false, false, false, false, false, false, false, false, false, false, false, false, false, false, false, false, false, false] rfl rfl (by kernel_rfl) (by decide) (fun K hK => ?_)
    refine goes_ Tryz.func54 (by kernel_rfl) rfl #[.string sh, .string ⟨#[110]⟩] (by rfl) rfl rfl (by simp only [List.map_toArray, List.map_cons, List.map_nil]; rfl) ?_
    with_reducible refine (CN _).mono ?_
    rintro e w4 ⟨rfl, hw4⟩
    refine ⟨_, rfl, ?_⟩
    subst hw4
    refine hK.out _ _ ⟨(blk_cell hk3 1).trans rfl, (blk_cell hk3 2).trans rfl, (blk_cell hk3 3).trans rfl, (blk_cell hk3 4).trans rfl, (blk_cell hk3 5).trans rfl, (blk_cell hk3 6).trans rfl⟩ (fun hHeld => ?_)
    clear hK K
    refine norm_ (a' := ?_) ?_ ?_
    rotate_left
    · show Act.put _ (some 17) _ = _
      simp only [Act.put, List.setIfInBounds_toArray, List.set_cons_zero, List.set_cons_succ, i64_w, i32_w]
      rfl
    refine pure_ (i := 8) (N := some 21) (v := ?_) (a' := ?_) #[true, true, true, true, true, true, true, true, true, false, false, false, false, false, false, false, false, false, false, false, false, false, false, false, false, false] rfl rfl (by kernel_rfl) (fun _ _ _ h => h) (Or.inl ⟨by rfl, ?_⟩) ?_ ?_
    rotate_left
    · intro w'
      go_simp
      with_reducible rfl
    rotate_left
    · simp only [Act.put, List.setIfInBounds_toArray, List.set_cons_zero, List.set_cons_succ, i64_w, i32_w]
      rfl
    refine pure_ (i := 9) (N := some 22) (v := ?_) (a' := ?_) #[true, true, true, true, true, true, true, true, true, true, false, false, false, false, false, false, false, false, false, false, false, false, false, false, false, false] rfl rfl (by kernel_rfl) (fun _ _ _ h => h) (Or.inl ⟨by rfl, ?_⟩) ?_ ?_
    rotate_left
    · intro w'
      go_simp
      with_reducible rfl
    rotate_left
    · simp only [Act.put, List.setIfInBounds_toArray, List.set_cons_zero, List.set_cons_succ, i64_w, i32_w]
      rfl
    refine pure_ (i := 10) (N := some 23) (v := ?_) (a' := ?_) #[true, true, true, true, true, true, true, true, true, true, true, false, false, false, false, false, false, false, false, false, false, false, false, false, false, false] rfl rfl (by kernel_rfl) (fun _ _ _ h => h) (Or.inl ⟨by rfl, ?_⟩) ?_ ?_
    rotate_left
    · intro w'
      go_simp
      with_reducible rfl
    rotate_left
    · simp only [Act.put, List.setIfInBounds_toArray, List.set_cons_zero, List.set_cons_succ, i64_w, i32_w]
      rfl
    refine pure_ (i := 11) (N := some 24) (v := undef) (a' := ?_) #[true, true, true, true, true, true, true, true, true, true, true, true, false, false, false, false, false, false, false, false, false, false, false, false, false, false] rfl rfl (by kernel_rfl) (fun _ _ _ h => h) (Or.inr ⟨by rfl, rfl⟩) ?_ ?_
    rotate_left
    · simp only [Act.put, List.setIfInBounds_toArray, List.set_cons_zero, List.set_cons_succ, i64_w, i32_w]
      rfl
    refine pure_ (i := 12) (N := some 25) (v := undef) (a' := ?_) #[true, true, true, true, true, true, true, true, true, true, true, true, true, false, false, false, false, false, false, false, false, false, false, false, false, false] rfl rfl (by kernel_rfl) (fun _ _ _ h => h) (Or.inr ⟨by rfl, rfl⟩) ?_ ?_
    rotate_left
    · simp only [Act.put, List.setIfInBounds_toArray, List.set_cons_zero, List.set_cons_succ, i64_w, i32_w]
      rfl
    refine pure_ (i := 13) (N := some 26) (v := undef) (a' := ?_) #[true, true, true, true, true, true, true, true, true, true, true, true, true, true, false, false, false, false, false, false, false, false, false, false, false, false] rfl rfl (by kernel_rfl) (fun _ _ _ h => h) (Or.inr ⟨by rfl, rfl⟩) ?_ ?_
    rotate_left
    · simp only [Act.put, List.setIfInBounds_toArray, List.set_cons_zero, List.set_cons_succ, i64_w, i32_w]
      rfl
    refine pure_ (i := 14) (N := some 27) (v := undef) (a' := ?_) #[true, true, true, true, true, true, true, true, true, true, true, true, true, true, true, false, false, false, false, false, false, false, false, false, false, false] rfl rfl (by kernel_rfl) (fun _ _ _ h => h) (Or.inr ⟨by rfl, rfl⟩) ?_ ?_
    rotate_left
    · simp only [Act.put, List.setIfInBounds_toArray, List.set_cons_zero, List.set_cons_succ, i64_w, i32_w]
      rfl
    refine pure_ (i := 15) (N := some 28) (v := undef) (a' := ?_) #[true, true, true, true, true, true, true, true, true, true, true, true, true, true, true, true, false, false, false, false, false, false, false, false, false, false] rfl rfl (by kernel_rfl) (fun _ _ _ h => h) (Or.inr ⟨by rfl, rfl⟩) ?_ ?_
    rotate_left
    · simp only [Act.put, List.setIfInBounds_toArray, List.set_cons_zero, List.set_cons_succ, i64_w, i32_w]
      rfl
    refine pure_ (i := 16) (N := some 29) (v := undef) (a' := ?_) #[true, true, true, true, true, true, true, true, true, true, true, true, true, true, true, true, true, false, false, false, false, false, false, false, false, false] rfl rfl (by kernel_rfl) (fun _ _ _ h => h) (Or.inr ⟨by rfl, rfl⟩) ?_ ?_
    rotate_left
    · simp only [Act.put, List.setIfInBounds_toArray, List.set_cons_zero, List.set_cons_succ, i64_w, i32_w]
      rfl
    refine pure_ (i := 17) (N := some 30) (v := ?_) (a' := ?_) #[true, true, true, true, true, true, true, true, true, true, true, true, true, true, true, true, true, true, false, false, false, false, false, false, false, false] rfl rfl (by kernel_rfl) (fun _ _ _ h => h) (Or.inl ⟨by rfl, ?_⟩) ?_ ?_
    rotate_left
    · intro w'
      go_simp
      with_reducible rfl
    rotate_left
    · simp only [Act.put, List.setIfInBounds_toArray, List.set_cons_zero, List.set_cons_succ, i64_w, i32_w]
      rfl
    refine pure_ (i := 18) (N := some 31) (v := ?_) (a' := ?_) #[true, true, true, true, true, true, true, true, true, true, true, true, true, true, true, true, true, true, true, false, false, false, false, false, false, false] rfl rfl (by kernel_rfl) (fun _ _ _ h => h) (Or.inl ⟨by rfl, ?_⟩) ?_ ?_
    rotate_left
    · intro w'
      go_simp
      with_reducible rfl
    rotate_left
    · simp only [Act.put, List.setIfInBounds_toArray, List.set_cons_zero, List.set_cons_succ, i64_w, i32_w]
      rfl
    refine pure_ (i := 19) (N := some 32) (v := undef) (a' := ?_) #[true, true, true, true, true, true, true, true, true, true, true, true, true, true, true, true, true, true, true, true, false, false, false, false, false, false] rfl rfl (by kernel_rfl) (fun _ _ _ h => h) (Or.inr ⟨by rfl, rfl⟩) ?_ ?_
    rotate_left
    · simp only [Act.put, List.setIfInBounds_toArray, List.set_cons_zero, List.set_cons_succ, i64_w, i32_w]
      rfl
    refine pure_ (i := 20) (N := some 33) (v := undef) (a' := ?_) #[true, true, true, true, true, true, true, true, true, true, true, true, true, true, true, true, true, true, true, true, true, false, false, false, false, false] rfl rfl (by kernel_rfl) (fun _ _ _ h => h) (Or.inr ⟨by rfl, rfl⟩) ?_ ?_
    rotate_left
    · simp only [Act.put, List.setIfInBounds_toArray, List.set_cons_zero, List.set_cons_succ, i64_w, i32_w]
      rfl
    refine pure_ (i := 21) (N := some 34) (v := undef) (a' := ?_) #[true, true, true, true, true, true, true, true, true, true, true, true, true, true, true, true, true, true, true, true, true, true, false, false, false, false] rfl rfl (by kernel_rfl) (fun _ _ _ h => h) (Or.inr ⟨by rfl, rfl⟩) ?_ ?_
    rotate_left
    · simp only [Act.put, List.setIfInBounds_toArray, List.set_cons_zero, List.set_cons_succ, i64_w, i32_w]
      rfl
    refine pure_ (i := 22) (N := some 35) (v := undef) (a' := ?_) #[true, true, true, true, true, true, true, true, true, true, true, true, true, true, true, true, true, true, true, true, true, true, true, false, false, false] rfl rfl (by kernel_rfl) (fun _ _ _ h => h) (Or.inr ⟨by rfl, rfl⟩) ?_ ?_
    rotate_left
    · simp only [Act.put, List.setIfInBounds_toArray, List.set_cons_zero, List.set_cons_succ, i64_w, i32_w]
      rfl
    refine pure_ (i := 23) (N := some 36) (v := undef) (a' := ?_) #[true, true, true, true, true, true, true, true, true, true, true, true, true, true, true, true, true, true, true, true, true, true, true, true, false, false] rfl rfl (by kernel_rfl) (fun _ _ _ h => h) (Or.inr ⟨by rfl, rfl⟩) ?_ ?_
    rotate_left
    · simp only [Act.put, List.setIfInBounds_toArray, List.set_cons_zero, List.set_cons_succ, i64_w, i32_w]
      rfl
    refine pure_ (i := 24) (N := some 37) (v := undef) (a' := ?_) #[true, true, true, true, true, true, true, true, true, true, true, true, true, true, true, true, true, true, true, true, true, true, true, true, true, false] rfl rfl (by kernel_rfl) (fun _ _ _ h => h) (Or.inr ⟨by rfl, rfl⟩) ?_ ?_
    rotate_left
    · simp only [Act.put, List.setIfInBounds_toArray, List.set_cons_zero, List.set_cons_succ, i64_w, i32_w]
      rfl
    refine pure_ (i := 25) (N := some 38) (v := ?_) (a' := ?_) #[true, true, true, true, true, true, true, true, true, true, true, true, true, true, true, true, true, true, true, true, true, true, true, true, true, true] rfl rfl (by kernel_rfl) (fun _ _ _ h => h) (Or.inl ⟨by rfl, ?_⟩) ?_ ?_
    rotate_left
    · intro w'
      go_simp
      with_reducible rfl
    rotate_left
    · simp only [Act.put, List.setIfInBounds_toArray, List.set_cons_zero, List.set_cons_succ, i64_w, i32_w]
      rfl
    refine done_ (by kernel_rfl) ?_
    go_wp2
    all_goals (go_ret; exact ⟨by first | rfl | (rw [HRS.out]; rfl), HB3.out⟩)
  have he1 : ((cn : Int) == (N : Int)) = true := beq_iff_eq.2 (by omega)
  have hn1 : ((cn : Int) != (N : Int)) = false := by rw [bne, he1]; rfl
  have hd1 : decide ((cn : Int) = (N : Int)) = true := decide_eq_true (by omega)
  have HD1 := Aside0.mk hd1
  clear h1 hd1
  by_cases h2 : ci = M
  case neg =>
    have hne : ((ci : Int) == (M : Int)) = false := beq_eq_false_iff_ne.2 (by omega)
    have hne2 : ((ci : Int) != (M : Int)) = true := by rw [bne, hne]; rfl
    have hd : decide ((ci : Int) = (M : Int)) = false := decide_eq_false (by omega)
    have HRS := Aside0.mk hd
    clear h2 hd
    go_wp2_with fail
    refine start_ (n := 26) (S := fun w' => w'.cell? ⟨w.heap.size, 1, none⟩ = some (.slice A1 N c1) ∧ w'.cell? ⟨w.heap.size, 2, none⟩ = some (.slice A2 M c2) ∧ w'.cell? ⟨w.heap.size, 3, none⟩ = some (.int .i64 lo) ∧ w'.cell? ⟨w.heap.size, 4, none⟩ = some (.int .i64 hi) ∧ w'.cell? ⟨w.heap.size, 5, none⟩ = some (.bool hl) ∧ w'.cell? ⟨w.heap.size, 6, none⟩ = some (.bool hh)) (ds := []) #[false, false, false, false, false, false, false, false, false, false, false, false, false, false, false, false, false, false, false, false, false, false, false, false, false, false] (by kernel_rfl) rfl rfl ⟨(blk_cell hk3 1).trans rfl, (blk_cell hk3 2).trans rfl, (blk_cell hk3 3).trans rfl, (blk_cell hk3 4).trans rfl, (blk_cell hk3 5).trans rfl, (blk_cell hk3 6).trans rfl⟩ (fun hHeld => ?_)
    refine pure_ (i := 0) (N := some 13) (v := ?_) (a' := ?_) #[true, false, false, false, false, false, false, false, false, false, false, false, false, false, false, false, false, false, false, false, false, false, false, false, false, false] rfl rfl (by kernel_rfl) (fun _ _ _ h => h) (Or.inl ⟨by rfl, ?_⟩) ?_ ?_
    rotate_left
    · intro w'
      go_simp
      with_reducible rfl
    rotate_left
    · simp only [Act.put, List.setIfInBounds_toArray, List.set_cons_zero, List.set_cons_succ, i64_w, i32_w]
      rfl
    refine pure_ (i := 1) (N := some 14) (v := ?_) (a' := ?_) #[true, true, false, false, false, false, false, false, false, false, false, false, false, false, false, false, false, false, false, false, false, false, false, false, false, false] rfl rfl (by kernel_rfl) (fun _ _ _ h => h) (Or.inl ⟨by rfl, ?_⟩) ?_ ?_
    rotate_left
    · intro w'
      go_simp
      with_reducible rfl
    rotate_left
    · simp only [Act.put, List.setIfInBounds_toArray, List.set_cons_zero, List.set_cons_succ, i64_w, i32_w]
      rfl
    refine pure_ (i := 2) (N := some 15) (v := ?_) (a' := ?_) #[true, true, true, false, false, false, false, false, false, false, false, false, false, false, false, false, false, false, false, false, false, false, false, false, false, false] rfl rfl (by kernel_rfl) (fun _ _ _ h => h) (Or.inl ⟨by rfl, ?_⟩) ?_ ?_
    rotate_left
    · intro w'
      go_simp
      with_reducible rfl
    rotate_left
    · simp only [Act.put, List.setIfInBounds_toArray, List.set_cons_zero, List.set_cons_succ, i64_w, i32_w]
      rfl
    refine pure_ (i := 3) (N := some 16) (v := ?_) (a' := ?_) #[true, true, true, true, false, false, false, false, false, false, false, false, false, false, false, false, false, false, false, false, false, false, false, false, false, false] rfl rfl (by kernel_rfl) (fun _ _ _ h => h) (Or.inl ⟨by rfl, ?_⟩) ?_ ?_
    rotate_left
    · intro w'
      go_simp
      with_reducible rfl
    rotate_left
    · simp only [Act.put, List.setIfInBounds_toArray, List.set_cons_zero, List.set_cons_succ, i64_w, i32_w]
      rfl
    refine pure_ (i := 5) (N := some 18) (v := ?_) (a' := ?_) #[true, true, true, true, false, true, false, false, false, false, false, false, false, false, false, false, false, false, false, false, false, false, false, false, false, false] rfl rfl (by kernel_rfl) (fun _ _ _ h => h) (Or.inl ⟨by rfl, ?_⟩) ?_ ?_
    rotate_left
    · intro w'
      go_simp
      with_reducible rfl
    rotate_left
    · simp only [Act.put, List.setIfInBounds_toArray, List.set_cons_zero, List.set_cons_succ, i64_w, i32_w]
      rfl
    refine take_ (i := 6) (N := some 19) (v := ?_) (a' := ?_) #[true, true, true, true, false, true, true, false, false, false, false, false, false, false, false, false, false, false, false, false, false, false, false, false, false, false] rfl rfl (by kernel_rfl) (fun _ _ _ h => h) (Or.inl ⟨by rfl, ?_⟩) hHeld ?_ ?_
    rotate_left
    · rintro w' ⟨s0, s1, s2, s3, s4, s5⟩
      go_simp
      with_reducible rfl
    rotate_left
    · simp only [Act.put, List.setIfInBounds_toArray, List.set_cons_zero, List.set_cons_succ, i64_w, i32_w]
      rfl
    refine pure_ (i := 7) (N := some 20) (v := ?_) (a' := ?_) #[true, true, true, true, false, true, true, true, false, false, false, false, false, false, false, false, false, false, false, false, false, false, false, false, false, false] rfl rfl (by kernel_rfl) (fun _ _ _ h => h) (Or.inl ⟨by rfl, ?_⟩) ?_ ?_
    rotate_left
    · intro w'
      go_simp
      with_reducible rfl
    rotate_left
    · simp only [Act.put, List.setIfInBounds_toArray, List.set_cons_zero, List.set_cons_succ, i64_w, i32_w]
      rfl
    refine one_ (i := 4) (N := some 17) #[true, true, true, true, true, true, true, true, false, false, false, false, false, false, false, false, false, false, false, false, false, false, false, false, false, false] rfl rfl (by kernel_rfl) (by decide) (fun K hK => ?_)
    refine goes_ Tryz.func54 (by kernel_rfl) rfl #[.string sh, .string ⟨#[110]⟩] (by rfl) rfl rfl (by simp only [List.map_toArray, List.map_cons, List.map_nil]; rfl) ?_
    with_reducible refine (CN _).mono ?_
    rintro e w4 ⟨rfl, hw4⟩
    refine ⟨_, rfl, ?_⟩
    subst hw4
    refine hK.out _ _ ⟨(blk_cell hk3 1).trans rfl, (blk_cell hk3 2).trans rfl, (blk_cell hk3 3).trans rfl, (blk_cell hk3 4).trans rfl, (blk_cell hk3 5).trans rfl, (blk_cell hk3 6).trans rfl⟩ (fun hHeld => ?_)
    clear hK K
    refine norm_ (a' := ?_) ?_ ?_
    rotate_left
    · show Act.put _ (some 17) _ = _
      simp only [Act.put, List.setIfInBounds_toArray, List.set_cons_zero, List.set_cons_succ, i64_w, i32_w]
      rfl
    refine pure_ (i := 8) (N := some 21) (v := ?_) (a' := ?_) #[true, true, true, true, true, true, true, true, true, false, false, false, false, false, false, false, false, false, false, false, false, false, false, false, false, false] rfl rfl (by kernel_rfl) (fun _ _ _ h => h) (Or.inl ⟨by rfl, ?_⟩) ?_ ?_
    rotate_left
    · intro w'
      go_simp
      with_reducible rfl
    rotate_left
    · simp only [Act.put, List.setIfInBounds_toArray, List.set_cons_zero, List.set_cons_succ, i64_w, i32_w]
      rfl
    refine pure_ (i := 9) (N := some 22) (v := ?_) (a' := ?_) #[true, true, true, true, true, true, true, true, true, true, false, false, false, false, false, false, false, false, false, false, false, false, false, false, false, false] rfl rfl (by kernel_rfl) (fun _ _ _ h => h) (Or.inl ⟨by rfl, ?_⟩) ?_ ?_
    rotate_left
    · intro w'
      go_simp
      with_reducible rfl
    rotate_left
    · simp only [Act.put, List.setIfInBounds_toArray, List.set_cons_zero, List.set_cons_succ, i64_w, i32_w]
      rfl
    refine pure_ (i := 10) (N := some 23) (v := ?_) (a' := ?_) #[true, true, true, true, true, true, true, true, true, true, true, false, false, false, false, false, false, false, false, false, false, false, false, false, false, false] rfl rfl (by kernel_rfl) (fun _ _ _ h => h) (Or.inl ⟨by rfl, ?_⟩) ?_ ?_
    rotate_left
    · intro w'
      go_simp
      with_reducible rfl
    rotate_left
    · simp only [Act.put, List.setIfInBounds_toArray, List.set_cons_zero, List.set_cons_succ, i64_w, i32_w]
      rfl
    refine pure_ (i := 11) (N := some 24) (v := ?_) (a' := ?_) #[true, true, true, true, true, true, true, true, true, true, true, true, false, false, false, false, false, false, false, false, false, false, false, false, false, false] rfl rfl (by kernel_rfl) (fun _ _ _ h => h) (Or.inl ⟨by rfl, ?_⟩) ?_ ?_
    rotate_left
    · intro w'
      go_simp
      with_reducible rfl
    rotate_left
    · simp only [Act.put, List.setIfInBounds_toArray, List.set_cons_zero, List.set_cons_succ, i64_w, i32_w]
      rfl
    refine pure_ (i := 13) (N := some 26) (v := ?_) (a' := ?_) #[true, true, true, true, true, true, true, true, true, true, true, true, false, true, false, false, false, false, false, false, false, false, false, false, false, false] rfl rfl (by kernel_rfl) (fun _ _ _ h => h) (Or.inl ⟨by rfl, ?_⟩) ?_ ?_
    rotate_left
    · intro w'
      go_simp
      with_reducible rfl
    rotate_left
    · simp only [Act.put, List.setIfInBounds_toArray, List.set_cons_zero, List.set_cons_succ, i64_w, i32_w]
      rfl
    refine take_ (i := 14) (N := some 27) (v := ?_) (a' := ?_) #[true, true, true, true, true, true, true, true, true, true, true, true, false, true, true, false, false, false, false, false, false, false, false, false, false, false] rfl rfl (by kernel_rfl) (fun _ _ _ h => h) (Or.inl ⟨by rfl, ?_⟩) hHeld ?_ ?_
    rotate_left
    · rintro w' ⟨s0, s1, s2, s3, s4, s5⟩
      go_simp
      with_reducible rfl
    rotate_left
    · simp only [Act.put, List.setIfInBounds_toArray, List.set_cons_zero, List.set_cons_succ, i64_w, i32_w]
      rfl
    refine pure_ (i := 15) (N := some 28) (v := ?_) (a' := ?_) #[true, true, true, true, true, true, true, true, true, true, true, true, false, true, true, true, false, false, false, false, false, false, false, false, false, false] rfl rfl (by kernel_rfl) (fun _ _ _ h => h) (Or.inl ⟨by rfl, ?_⟩) ?_ ?_
    rotate_left
    · intro w'
      go_simp
      with_reducible rfl
    rotate_left
    · simp only [Act.put, List.setIfInBounds_toArray, List.set_cons_zero, List.set_cons_succ, i64_w, i32_w]
      rfl
    refine one_ (i := 12) (N := some 25) #[true, true, true, true, true, true, true, true, true, true, true, true, true, true, true, true, false, false, false, false, false, false, false, false, false, false] rfl rfl (by kernel_rfl) (by decide) (fun K hK => ?_)
    refine goes_ Tryz.func54 (by kernel_rfl) rfl #[.string sh, .string ⟨#[105]⟩] (by rfl) rfl rfl (by simp only [List.map_toArray, List.map_cons, List.map_nil]; rfl) ?_
    with_reducible refine (CI _).mono ?_
    rintro e w5 ⟨rfl, hw5⟩
    refine ⟨_, rfl, ?_⟩
    subst hw5
    refine hK.out _ _ ⟨(blk_cell hk3 1).trans rfl, (blk_cell hk3 2).trans rfl, (blk_cell hk3 3).trans rfl, (blk_cell hk3 4).trans rfl, (blk_cell hk3 5).trans rfl, (blk_cell hk3 6).trans rfl⟩ (fun hHeld => ?_)
    clear hK K
    refine norm_ (a' := ?_) ?_ ?_
    rotate_left
    · show Act.put _ (some 25) _ = _
      simp only [Act.put, List.setIfInBounds_toArray, List.set_cons_zero, List.set_cons_succ, i64_w, i32_w]
      rfl
    refine pure_ (i := 16) (N := some 29) (v := ?_) (a' := ?_) #[true, true, true, true, true, true, true, true, true, true, true, true, true, true, true, true, true, false, false, false, false, false, false, false, false, false] rfl rfl (by kernel_rfl) (fun _ _ _ h => h) (Or.inl ⟨by rfl, ?_⟩) ?_ ?_
    rotate_left
    · intro w'
      go_simp
      with_reducible rfl
    rotate_left
    · simp only [Act.put, List.setIfInBounds_toArray, List.set_cons_zero, List.set_cons_succ, i64_w, i32_w]
      rfl
    refine pure_ (i := 17) (N := some 30) (v := ?_) (a' := ?_) #[true, true, true, true, true, true, true, true, true, true, true, true, true, true, true, true, true, true, false, false, false, false, false, false, false, false] rfl rfl (by kernel_rfl) (fun _ _ _ h => h) (Or.inl ⟨by rfl, ?_⟩) ?_ ?_
    rotate_left
    · intro w'
      go_simp
      with_reducible rfl
    rotate_left
    · simp only [Act.put, List.setIfInBounds_toArray, List.set_cons_zero, List.set_cons_succ, i64_w, i32_w]
      rfl
    refine pure_ (i := 18) (N := some 31) (v := ?_) (a' := ?_) #[true, true, true, true, true, true, true, true, true, true, true, true, true, true, true, true, true, true, true, false, false, false, false, false, false, false] rfl rfl (by kernel_rfl) (fun _ _ _ h => h) (Or.inl ⟨by rfl, ?_⟩) ?_ ?_
    rotate_left
    · intro w'
      go_simp
      with_reducible rfl
    rotate_left
    · simp only [Act.put, List.setIfInBounds_toArray, List.set_cons_zero, List.set_cons_succ, i64_w, i32_w]
      rfl
    refine pure_ (i := 19) (N := some 32) (v := undef) (a' := ?_) #[true, true, true, true, true, true, true, true, true, true, true, true, true, true, true, true, true, true, true, true, false, false, false, false, false, false] rfl rfl (by kernel_rfl) (fun _ _ _ h => h) (Or.inr ⟨by rfl, rfl⟩) ?_ ?_
    rotate_left
    · simp only [Act.put, List.setIfInBounds_toArray, List.set_cons_zero, List.set_cons_succ, i64_w, i32_w]
      rfl
    refine pure_ (i := 20) (N := some 33) (v := undef) (a' := ?_) #[true, true, true, true, true, true, true, true, true, true, true, true, true, true, true, true, true, true, true, true, true, false, false, false, false, false] rfl rfl (by kernel_rfl) (fun _ _ _ h => h) (Or.inr ⟨by rfl, rfl⟩) ?_ ?_
    rotate_left
    · simp only [Act.put, List.setIfInBounds_toArray, List.set_cons_zero, List.set_cons_succ, i64_w, i32_w]
      rfl
    refine pure_ (i := 21) (N := some 34) (v := undef) (a' := ?_) #[true, true, true, true, true, true, true, true, true, true, true, true, true, true, true, true, true, true, true, true, true, true, false, false, false, false] rfl rfl (by kernel_rfl) (fun _ _ _ h => h) (Or.inr ⟨by rfl, rfl⟩) ?_ ?_
    rotate_left
    · simp only [Act.put, List.setIfInBounds_toArray, List.set_cons_zero, List.set_cons_succ, i64_w, i32_w]
      rfl
    refine pure_ (i := 22) (N := some 35) (v := undef) (a' := ?_) #[true, true, true, true, true, true, true, true, true, true, true, true, true, true, true, true, true, true, true, true, true, true, true, false, false, false] rfl rfl (by kernel_rfl) (fun _ _ _ h => h) (Or.inr ⟨by rfl, rfl⟩) ?_ ?_
    rotate_left
    · simp only [Act.put, List.setIfInBounds_toArray, List.set_cons_zero, List.set_cons_succ, i64_w, i32_w]
      rfl
    refine pure_ (i := 23) (N := some 36) (v := undef) (a' := ?_) #[true, true, true, true, true, true, true, true, true, true, true, true, true, true, true, true, true, true, true, true, true, true, true, true, false, false] rfl rfl (by kernel_rfl) (fun _ _ _ h => h) (Or.inr ⟨by rfl, rfl⟩) ?_ ?_
    rotate_left
    · simp only [Act.put, List.setIfInBounds_toArray, List.set_cons_zero, List.set_cons_succ, i64_w, i32_w]
      rfl
    refine pure_ (i := 24) (N := some 37) (v := undef) (a' := ?_) #[true, true, true, true, true, true, true, true, true, true, true, true, true, true, true, true, true, true, true, true, true, true, true, true, true, false] rfl rfl (by kernel_rfl) (fun _ _ _ h => h) (Or.inr ⟨by rfl, rfl⟩) ?_ ?_
    rotate_left
    · simp only [Act.put, List.setIfInBounds_toArray, List.set_cons_zero, List.set_cons_succ, i64_w, i32_w]
      rfl
    refine pure_ (i := 25) (N := some 38) (v := ?_) (a' := ?_) #[true, true, true, true, true, true, true, true, true, true, true, true, true, true, true, true, true, true, true, true, true, true, true, true, true, true] rfl rfl (by kernel_rfl) (fun _ _ _ h => h) (Or.inl ⟨by rfl, ?_⟩) ?_ ?_
    rotate_left
    · intro w'
      go_simp
      with_reducible rfl
    rotate_left
    · simp only [Act.put, List.setIfInBounds_toArray, List.set_cons_zero, List.set_cons_succ, i64_w, i32_w]
      rfl
    refine done_ (by kernel_rfl) ?_
    go_wp2
    all_goals (go_ret; exact ⟨by first | rfl | (rw [HD1.out, HRS.out]; rfl), HB3.out⟩)
  have he2 : ((ci : Int) == (M : Int)) = true := beq_iff_eq.2 (by omega)
  have hn2 : ((ci : Int) != (M : Int)) = false := by rw [bne, he2]; rfl
  have hd2 : decide ((ci : Int) = (M : Int)) = true := decide_eq_true (by omega)
  have HD2 := Aside0.mk hd2
  clear h2 hd2
  go_wp2_with fail
  refine start_ (n := 26) (S := fun w' => w'.cell? ⟨w.heap.size, 1, none⟩ = some (.slice A1 N c1) ∧ w'.cell? ⟨w.heap.size, 2, none⟩ = some (.slice A2 M c2) ∧ w'.cell? ⟨w.heap.size, 3, none⟩ = some (.int .i64 lo) ∧ w'.cell? ⟨w.heap.size, 4, none⟩ = some (.int .i64 hi) ∧ w'.cell? ⟨w.heap.size, 5, none⟩ = some (.bool hl) ∧ w'.cell? ⟨w.heap.size, 6, none⟩ = some (.bool hh)) (ds := []) #[false, false, false, false, false, false, false, false, false, false, false, false, false, false, false, false, false, false, false, false, false, false, false, false, false, false] (by kernel_rfl) rfl rfl ⟨(blk_cell hk3 1).trans rfl, (blk_cell hk3 2).trans rfl, (blk_cell hk3 3).trans rfl, (blk_cell hk3 4).trans rfl, (blk_cell hk3 5).trans rfl, (blk_cell hk3 6).trans rfl⟩ (fun hHeld => ?_)
  refine pure_ (i := 0) (N := some 13) (v := ?_) (a' := ?_) #[true, false, false, false, false, false, false, false, false, false, false, false, false, false, false, false, false, false, false, false, false, false, false, false, false, false] rfl rfl (by kernel_rfl) (fun _ _ _ h => h) (Or.inl ⟨by rfl, ?_⟩) ?_ ?_
  rotate_left
  · intro w'
    go_simp
    with_reducible rfl
  rotate_left
  · simp only [Act.put, List.setIfInBounds_toArray, List.set_cons_zero, List.set_cons_succ, i64_w, i32_w]
    rfl
  refine pure_ (i := 1) (N := some 14) (v := ?_) (a' := ?_) #[true, true, false, false, false, false, false, false, false, false, false, false, false, false, false, false, false, false, false, false, false, false, false, false, false, false] rfl rfl (by kernel_rfl) (fun _ _ _ h => h) (Or.inl ⟨by rfl, ?_⟩) ?_ ?_
  rotate_left
  · intro w'
    go_simp
    with_reducible rfl
  rotate_left
  · simp only [Act.put, List.setIfInBounds_toArray, List.set_cons_zero, List.set_cons_succ, i64_w, i32_w]
    rfl
  refine pure_ (i := 2) (N := some 15) (v := ?_) (a' := ?_) #[true, true, true, false, false, false, false, false, false, false, false, false, false, false, false, false, false, false, false, false, false, false, false, false, false, false] rfl rfl (by kernel_rfl) (fun _ _ _ h => h) (Or.inl ⟨by rfl, ?_⟩) ?_ ?_
  rotate_left
  · intro w'
    go_simp
    with_reducible rfl
  rotate_left
  · simp only [Act.put, List.setIfInBounds_toArray, List.set_cons_zero, List.set_cons_succ, i64_w, i32_w]
    rfl
  refine pure_ (i := 3) (N := some 16) (v := ?_) (a' := ?_) #[true, true, true, true, false, false, false, false, false, false, false, false, false, false, false, false, false, false, false, false, false, false, false, false, false, false] rfl rfl (by kernel_rfl) (fun _ _ _ h => h) (Or.inl ⟨by rfl, ?_⟩) ?_ ?_
  rotate_left
  · intro w'
    go_simp
    with_reducible rfl
  rotate_left
  · simp only [Act.put, List.setIfInBounds_toArray, List.set_cons_zero, List.set_cons_succ, i64_w, i32_w]
    rfl
  refine pure_ (i := 5) (N := some 18) (v := ?_) (a' := ?_) #[true, true, true, true, false, true, false, false, false, false, false, false, false, false, false, false, false, false, false, false, false, false, false, false, false, false] rfl rfl (by kernel_rfl) (fun _ _ _ h => h) (Or.inl ⟨by rfl, ?_⟩) ?_ ?_
  rotate_left
  · intro w'
    go_simp
    with_reducible rfl
  rotate_left
  · simp only [Act.put, List.setIfInBounds_toArray, List.set_cons_zero, List.set_cons_succ, i64_w, i32_w]
    rfl
  refine take_ (i := 6) (N := some 19) (v := ?_) (a' := ?_) #[true, true, true, true, false, true, true, false, false, false, false, false, false, false, false, false, false, false, false, false, false, false, false, false, false, false] rfl rfl (by kernel_rfl) (fun _ _ _ h => h) (Or.inl ⟨by rfl, ?_⟩) hHeld ?_ ?_
  rotate_left
  · rintro w' ⟨s0, s1, s2, s3, s4, s5⟩
    go_simp
    with_reducible rfl
  rotate_left
  · simp only [Act.put, List.setIfInBounds_toArray, List.set_cons_zero, List.set_cons_succ, i64_w, i32_w]
    rfl
  refine pure_ (i := 7) (N := some 20) (v := ?_) (a' := ?_) #[true, true, true, true, false, true, true, true, false, false, false, false, false, false, false, false, false, false, false, false, false, false, false, false, false, false] rfl rfl (by kernel_rfl) (fun _ _ _ h => h) (Or.inl ⟨by rfl, ?_⟩) ?_ ?_
  rotate_left
  · intro w'
    go_simp
    with_reducible rfl
  rotate_left
  · simp only [Act.put, List.setIfInBounds_toArray, List.set_cons_zero, List.set_cons_succ, i64_w, i32_w]
    rfl
  refine one_ (i := 4) (N := some 17) #[true, true, true, true, true, true, true, true, false, false, false, false, false, false, false, false, false, false, false, false, false, false, false, false, false, false] rfl rfl (by kernel_rfl) (by decide) (fun K hK => ?_)
  refine goes_ Tryz.func54 (by kernel_rfl) rfl #[.string sh, .string ⟨#[110]⟩] (by rfl) rfl rfl (by simp only [List.map_toArray, List.map_cons, List.map_nil]; rfl) ?_
  with_reducible refine (CN _).mono ?_
  rintro e w4 ⟨rfl, hw4⟩
  refine ⟨_, rfl, ?_⟩
  subst hw4
  refine hK.out _ _ ⟨(blk_cell hk3 1).trans rfl, (blk_cell hk3 2).trans rfl, (blk_cell hk3 3).trans rfl, (blk_cell hk3 4).trans rfl, (blk_cell hk3 5).trans rfl, (blk_cell hk3 6).trans rfl⟩ (fun hHeld => ?_)
  clear hK K
  refine norm_ (a' := ?_) ?_ ?_
  rotate_left
  · show Act.put _ (some 17) _ = _
    simp only [Act.put, List.setIfInBounds_toArray, List.set_cons_zero, List.set_cons_succ, i64_w, i32_w]
    rfl
  refine pure_ (i := 8) (N := some 21) (v := ?_) (a' := ?_) #[true, true, true, true, true, true, true, true, true, false, false, false, false, false, false, false, false, false, false, false, false, false, false, false, false, false] rfl rfl (by kernel_rfl) (fun _ _ _ h => h) (Or.inl ⟨by rfl, ?_⟩) ?_ ?_
  rotate_left
  · intro w'
    go_simp
    with_reducible rfl
  rotate_left
  · simp only [Act.put, List.setIfInBounds_toArray, List.set_cons_zero, List.set_cons_succ, i64_w, i32_w]
    rfl
  refine pure_ (i := 9) (N := some 22) (v := ?_) (a' := ?_) #[true, true, true, true, true, true, true, true, true, true, false, false, false, false, false, false, false, false, false, false, false, false, false, false, false, false] rfl rfl (by kernel_rfl) (fun _ _ _ h => h) (Or.inl ⟨by rfl, ?_⟩) ?_ ?_
  rotate_left
  · intro w'
    go_simp
    with_reducible rfl
  rotate_left
  · simp only [Act.put, List.setIfInBounds_toArray, List.set_cons_zero, List.set_cons_succ, i64_w, i32_w]
    rfl
  refine pure_ (i := 10) (N := some 23) (v := ?_) (a' := ?_) #[true, true, true, true, true, true, true, true, true, true, true, false, false, false, false, false, false, false, false, false, false, false, false, false, false, false] rfl rfl (by kernel_rfl) (fun _ _ _ h => h) (Or.inl ⟨by rfl, ?_⟩) ?_ ?_
  rotate_left
  · intro w'
    go_simp
    with_reducible rfl
  rotate_left
  · simp only [Act.put, List.setIfInBounds_toArray, List.set_cons_zero, List.set_cons_succ, i64_w, i32_w]
    rfl
  refine pure_ (i := 11) (N := some 24) (v := ?_) (a' := ?_) #[true, true, true, true, true, true, true, true, true, true, true, true, false, false, false, false, false, false, false, false, false, false, false, false, false, false] rfl rfl (by kernel_rfl) (fun _ _ _ h => h) (Or.inl ⟨by rfl, ?_⟩) ?_ ?_
  rotate_left
  · intro w'
    go_simp
    with_reducible rfl
  rotate_left
  · simp only [Act.put, List.setIfInBounds_toArray, List.set_cons_zero, List.set_cons_succ, i64_w, i32_w]
    rfl
  refine pure_ (i := 13) (N := some 26) (v := ?_) (a' := ?_) #[true, true, true, true, true, true, true, true, true, true, true, true, false, true, false, false, false, false, false, false, false, false, false, false, false, false] rfl rfl (by kernel_rfl) (fun _ _ _ h => h) (Or.inl ⟨by rfl, ?_⟩) ?_ ?_
  rotate_left
  · intro w'
    go_simp
    with_reducible rfl
  rotate_left
  · simp only [Act.put, List.setIfInBounds_toArray, List.set_cons_zero, List.set_cons_succ, i64_w, i32_w]
    rfl
  refine take_ (i := 14) (N := some 27) (v := ?_) (a' := ?_) #[true, true, true, true, true, true, true, true, true, true, true, true, false, true, true, false, false, false, false, false, false, false, false, false, false, false] rfl rfl (by kernel_rfl) (fun _ _ _ h => h) (Or.inl ⟨by rfl, ?_⟩) hHeld ?_ ?_
  rotate_left
  · rintro w' ⟨s0, s1, s2, s3, s4, s5⟩
    go_simp
    with_reducible rfl
  rotate_left
  · simp only [Act.put, List.setIfInBounds_toArray, List.set_cons_zero, List.set_cons_succ, i64_w, i32_w]
    rfl
  refine pure_ (i := 15) (N := some 28) (v := ?_) (a' := ?_) #[true, true, true, true, true, true, true, true, true, true, true, true, false, true, true, true, false, false, false, false, false, false, false, false, false, false] rfl rfl (by kernel_rfl) (fun _ _ _ h => h) (Or.inl ⟨by rfl, ?_⟩) ?_ ?_
  rotate_left
  · intro w'
    go_simp
    with_reducible rfl
  rotate_left
  · simp only [Act.put, List.setIfInBounds_toArray, List.set_cons_zero, List.set_cons_succ, i64_w, i32_w]
    rfl
  refine one_ (i := 12) (N := some 25) #[true, true, true, true, true, true, true, true, true, true, true, true, true, true, true, true, false, false, false, false, false, false, false, false, false, false] rfl rfl (by kernel_rfl) (by decide) (fun K hK => ?_)
  refine goes_ Tryz.func54 (by kernel_rfl) rfl #[.string sh, .string ⟨#[105]⟩] (by rfl) rfl rfl (by simp only [List.map_toArray, List.map_cons, List.map_nil]; rfl) ?_
  with_reducible refine (CI _).mono ?_
  rintro e w5 ⟨rfl, hw5⟩
  refine ⟨_, rfl, ?_⟩
  subst hw5
  refine hK.out _ _ ⟨(blk_cell hk3 1).trans rfl, (blk_cell hk3 2).trans rfl, (blk_cell hk3 3).trans rfl, (blk_cell hk3 4).trans rfl, (blk_cell hk3 5).trans rfl, (blk_cell hk3 6).trans rfl⟩ (fun hHeld => ?_)
  clear hK K
  refine norm_ (a' := ?_) ?_ ?_
  rotate_left
  · show Act.put _ (some 25) _ = _
    simp only [Act.put, List.setIfInBounds_toArray, List.set_cons_zero, List.set_cons_succ, i64_w, i32_w]
    rfl
  refine pure_ (i := 16) (N := some 29) (v := ?_) (a' := ?_) #[true, true, true, true, true, true, true, true, true, true, true, true, true, true, true, true, true, false, false, false, false, false, false, false, false, false] rfl rfl (by kernel_rfl) (fun _ _ _ h => h) (Or.inl ⟨by rfl, ?_⟩) ?_ ?_
  rotate_left
  · intro w'
    go_simp
    with_reducible rfl
  rotate_left
  · simp only [Act.put, List.setIfInBounds_toArray, List.set_cons_zero, List.set_cons_succ, i64_w, i32_w]
    rfl
  refine pure_ (i := 17) (N := some 30) (v := ?_) (a' := ?_) #[true, true, true, true, true, true, true, true, true, true, true, true, true, true, true, true, true, true, false, false, false, false, false, false, false, false] rfl rfl (by kernel_rfl) (fun _ _ _ h => h) (Or.inl ⟨by rfl, ?_⟩) ?_ ?_
  rotate_left
  · intro w'
    go_simp
    with_reducible rfl
  rotate_left
  · simp only [Act.put, List.setIfInBounds_toArray, List.set_cons_zero, List.set_cons_succ, i64_w, i32_w]
    rfl
  refine pure_ (i := 18) (N := some 31) (v := ?_) (a' := ?_) #[true, true, true, true, true, true, true, true, true, true, true, true, true, true, true, true, true, true, true, false, false, false, false, false, false, false] rfl rfl (by kernel_rfl) (fun _ _ _ h => h) (Or.inl ⟨by rfl, ?_⟩) ?_ ?_
  rotate_left
  · intro w'
    go_simp
    with_reducible rfl
  rotate_left
  · simp only [Act.put, List.setIfInBounds_toArray, List.set_cons_zero, List.set_cons_succ, i64_w, i32_w]
    rfl
  refine pure_ (i := 19) (N := some 32) (v := ?_) (a' := ?_) #[true, true, true, true, true, true, true, true, true, true, true, true, true, true, true, true, true, true, true, true, false, false, false, false, false, false] rfl rfl (by kernel_rfl) (fun _ _ _ h => h) (Or.inl ⟨by rfl, ?_⟩) ?_ ?_
  rotate_left
  · intro w'
    go_simp
    with_reducible rfl
  rotate_left
  · simp only [Act.put, List.setIfInBounds_toArray, List.set_cons_zero, List.set_cons_succ, i64_w, i32_w]
    rfl
  refine pure_ (i := 21) (N := some 34) (v := ?_) (a' := ?_) #[true, true, true, true, true, true, true, true, true, true, true, true, true, true, true, true, true, true, true, true, false, true, false, false, false, false] rfl rfl (by kernel_rfl) (fun _ _ _ h => h) (Or.inl ⟨by rfl, ?_⟩) ?_ ?_
  rotate_left
  · intro w'
    go_simp
    with_reducible rfl
  rotate_left
  · simp only [Act.put, List.setIfInBounds_toArray, List.set_cons_zero, List.set_cons_succ, i64_w, i32_w]
    rfl
  refine take_ (i := 20) (N := some 33) (v := ?_) (a' := ?_) #[true, true, true, true, true, true, true, true, true, true, true, true, true, true, true, true, true, true, true, true, true, true, false, false, false, false] rfl rfl (by kernel_rfl) (fun _ _ _ h => h) (Or.inl ⟨by rfl, ?_⟩) hHeld ?_ ?_
  rotate_left
  · rintro w' ⟨s0, s1, s2, s3, s4, s5⟩
    go_simp
    with_reducible rfl
  rotate_left
  · simp only [Act.put, List.setIfInBounds_toArray, List.set_cons_zero, List.set_cons_succ, i64_w, i32_w]
    rfl
  refine one_ (i := 22) (N := some 35) #[true, true, true, true, true, true, true, true, true, true, true, true, true, true, true, true, true, true, true, true, true, true, true, false, false, false] rfl rfl (by kernel_rfl) (by decide) (fun K hK => ?_)
  refine goes_ Tryz.func56 (by kernel_rfl) rfl #[.string sh, .string ⟨#[114]⟩] (by rfl) rfl rfl (by simp only [List.map_toArray, List.map_cons, List.map_nil]; rfl) ?_
  with_reducible refine (CR _).mono ?_
  rintro e w6 ⟨rfl, hw6⟩
  refine ⟨_, rfl, ?_⟩
  subst hw6
  refine hK.out _ _ ⟨(blk_cell hk3 1).trans rfl, (blk_cell hk3 2).trans rfl, (blk_cell hk3 3).trans rfl, (blk_cell hk3 4).trans rfl, (blk_cell hk3 5).trans rfl, (blk_cell hk3 6).trans rfl⟩ (fun hHeld => ?_)
  clear hK K
  refine norm_ (a' := ?_) ?_ ?_
  rotate_left
  · show Act.put _ (some 35) _ = _
    simp only [Act.put, List.setIfInBounds_toArray, List.set_cons_zero, List.set_cons_succ, i64_w, i32_w]
    rfl
  refine one_ (i := 23) (N := some 36) #[true, true, true, true, true, true, true, true, true, true, true, true, true, true, true, true, true, true, true, true, true, true, true, true, false, false] rfl rfl (by kernel_rfl) (by decide) (fun K hK => ?_)
  refine goes_ Tryz.func55 (by kernel_rfl) rfl #[.agg #[.int .i64 lo, .int .i64 hi, .bool hl, .bool hh], .bool cr] (by rfl) rfl rfl (by simp only [List.map_toArray, List.map_cons, List.map_nil]; rfl) ?_
  with_reducible refine (CSC _).mono ?_
  rintro e w7 ⟨rfl, hb7⟩
  refine ⟨_, rfl, ?_⟩
  have hk7 := blk_below hk3 hb7
  have HB7 := Aside0.mk (below_then HB3.out HB3.out.size hb7)
  refine hK.out _ _ ⟨(blk_cell hk7 1).trans rfl, (blk_cell hk7 2).trans rfl, (blk_cell hk7 3).trans rfl, (blk_cell hk7 4).trans rfl, (blk_cell hk7 5).trans rfl, (blk_cell hk7 6).trans rfl⟩ (fun hHeld => ?_)
  clear hK K
  refine norm_ (a' := ?_) ?_ ?_
  rotate_left
  · show Act.put _ (some 36) _ = _
    simp only [Act.put, List.setIfInBounds_toArray, List.set_cons_zero, List.set_cons_succ, i64_w, i32_w]
    rfl
  refine pure_ (i := 24) (N := some 37) (v := ?_) (a' := ?_) #[true, true, true, true, true, true, true, true, true, true, true, true, true, true, true, true, true, true, true, true, true, true, true, true, true, false] rfl rfl (by kernel_rfl) (fun _ _ _ h => h) (Or.inl ⟨by rfl, ?_⟩) ?_ ?_
  rotate_left
  · intro w'
    go_simp
    with_reducible rfl
  rotate_left
  · simp only [Act.put, List.setIfInBounds_toArray, List.set_cons_zero, List.set_cons_succ, i64_w, i32_w]
    rfl
  refine pure_ (i := 25) (N := some 38) (v := ?_) (a' := ?_) #[true, true, true, true, true, true, true, true, true, true, true, true, true, true, true, true, true, true, true, true, true, true, true, true, true, true] rfl rfl (by kernel_rfl) (fun _ _ _ h => h) (Or.inl ⟨by rfl, ?_⟩) ?_ ?_
  rotate_left
  · intro w'
    go_simp
    with_reducible rfl
  rotate_left
  · simp only [Act.put, List.setIfInBounds_toArray, List.set_cons_zero, List.set_cons_succ, i64_w, i32_w]
    rfl
  refine done_ (by kernel_rfl) ?_
  cases sc
  · go_wp2
    all_goals (go_ret; exact ⟨by first | rfl | (rw [HD1.out, HD2.out]; rfl), HB7.out⟩)
  simp only [Bool.not_true]
  have q1 : w7.cell? ⟨w.heap.size, 1, none⟩ = some (.slice A1 N c1) := (blk_cell hk7 1).trans rfl
  have HK7 := Aside0.mk hk7
  clear hk7 hk3 hHeld
  go_wp2_with fail
  go_loopw [42] (fun i wr => ∃ k : Nat, k ≤ N ∧ i = .int .i64 (k : Int) ∧ (NS.take k).all nameB = true ∧ Below w7.heap.size w7 wr) (fun i _ => N - (intOf i).toNat)
  case atStart => exact ⟨0, Nat.zero_le _, rfl, by rw [List.take_zero]; rfl, Below.refl _ _⟩
  case round =>
    obtain ⟨k, hk, rfl, hall, hbr⟩ := hrel
    have HALL := Aside0.mk hall
    have HBR := Aside0.mk (below_then HB7.out HB7.out.size hbr)
    have HBW := Aside0.mk hbr
    clear hall hbr
    by_cases hkn : k < N
    · have i1 : (k : Int) < (N : Int) := by omega
      have i2 : decide ((k : Int) < (N : Int)) = true := decide_eq_true i1
      obtain ⟨ad, rfl, hx⟩ := str_at H1.out k (by rw [← HN.out]; exact hkn)
      have hx := (HBR.out.cell (World.block_lt_of_cell? w _ hx)).trans hx
      have hsn := all_snoc NS k (by rw [← HN.out]; exact hkn)
      have hno : nameB (NS[k]'(by rw [← HN.out]; exact hkn)) = false → NS.all nameB = false := fun h => all_not (by rw [← HN.out]; exact hkn) h
      have hzz := HZ.out (NS[k]'(by rw [← HN.out]; exact hkn)) (List.getElem_mem _)
      obtain ⟨s, hs⟩ : ∃ s, s = NS[k]'(by rw [← HN.out]; exact hkn) := ⟨_, rfl⟩
      rw [← hs] at hx hsn hno hzz
      have CNM := Aside0.mk (show Calls Tryz.prog 13 #[.agg #[.int .u8 0, .string s, .slice none 0 0, .slice none 0 0]] wr fun e w' => e = .returned (.bool (nameB s)) ∧ Below wr.heap.size wr w' from by
        have h := Right_calls ⟨0, s, [], []⟩ none 0 none 0 wr (has_name wr s hzz) (by rw [cnt_eq, cntL_nil]; omega)
        rw [right_name] at h
        exact h)
      generalize nameB s = r at *
      have HSN := Aside0.mk hsn
      have HNO := Aside0.mk hno
      clear hs hsn hno hzz
      cases r
      · go_wp2_with fail
        (with_reducible refine CNM.out.mono ?_)
        rintro e w8 ⟨rfl, hb8⟩
        have HF := Aside0.mk (below_then HBR.out HBR.out.size hb8)
        go_wp2
        go_ret
        exact ⟨by first | rfl | (rw [HD1.out, HD2.out, HNO.out (by trivial)]; rfl), HF.out⟩
      · go_wp2_with fail
        (with_reducible refine CNM.out.mono ?_)
        rintro e w8 ⟨rfl, hb8⟩
        have HBW := Aside0.mk (below_then HBW.out HBW.out.size hb8)
        clear hb8 CNM hx
        go_wp2_with fail
        go_roundw
        case rel => exact ⟨k + 1, by omega, by go_num, by rw [HSN.out, HALL.out]; rfl, HBW.out⟩
        case measure => simp [intOf]; omega
    · have hk' : k = N := by omega
      have i1 : ¬ (k : Int) < (N : Int) := by omega
      have i2 : decide ((k : Int) < (N : Int)) = false := decide_eq_false i1
      have hall : NS.all nameB = true := by
        have h := HALL.out
        rwa [hk', HN.out, List.take_length] at h
      have HAL := Aside0.mk hall
      clear hall hk'
      have hkr := blk_below HK7.out HBW.out
      have q7 : wr.cell? ⟨w.heap.size, 7, none⟩ = some (.int .u8 o) := (blk_cell hkr 7).trans rfl
      have q8 : wr.cell? ⟨w.heap.size, 8, none⟩ = some (.string nm) := (blk_cell hkr 8).trans rfl
      have q9 : wr.cell? ⟨w.heap.size, 9, none⟩ = some (.slice A3 n3 c3) := (blk_cell hkr 9).trans rfl
      have q10 : wr.cell? ⟨w.heap.size, 10, none⟩ = some (.slice A4 n4 c4) := (blk_cell hkr 10).trans rfl
      clear hkr
      go_wp2_with fail
      (with_reducible refine (CE _).mono ?_)
      rintro e w9 ⟨rfl, hw9⟩
      subst hw9
      cases ce
      · have CB := Aside0.mk (CXB w9 HBR.out).out
        obtain ⟨rb, hrb⟩ : ∃ rb, rb = bareB x := ⟨_, rfl⟩
        rw [← hrb] at CB
        have HRB := Aside0.mk hrb
        clear hrb
        go_wp2_with fail
        (with_reducible refine CB.out.mono ?_)
        rintro e w10 ⟨rfl, hb10⟩
        have HF := Aside0.mk (below_then HBR.out HBR.out.size hb10)
        go_wp2
        go_ret
        exact ⟨by first | rfl | (rw [HD1.out, HD2.out, HAL.out, HFI.out, HRB.out]; rfl), HF.out⟩
      · have CB := Aside0.mk (CXR w9 HBR.out).out
        obtain ⟨rb, hrb⟩ : ∃ rb, rb = RightB x := ⟨_, rfl⟩
        rw [← hrb] at CB
        have HRB := Aside0.mk hrb
        clear hrb
        go_wp2_with fail
        (with_reducible refine CB.out.mono ?_)
        rintro e w10 ⟨rfl, hb10⟩
        have HF := Aside0.mk (below_then HBR.out HBR.out.size hb10)
        go_wp2
        go_ret
        exact ⟨by first | rfl | (rw [HD1.out, HD2.out, HAL.out, HFI.out, HRB.out]; rfl), HF.out⟩
end Go.Proofs.YtcinojbfjiohjaaGreatDoor.Pr
end

section
namespace Go.Proofs.YtcinojbfjiohjaaGreatDoor.Pa
open Go Go.RowKit Go.Proofs.YtcinojbfjiohjaaGreatDoor.PPrintTells Go.Proofs.YtcinojbfjiohjaaGreatDoor.Ex Go.Proofs.YtcinojbfjiohjaaGreatDoorW.PrintWords Go.Proofs.YtcinojbfjiohjaaGreatDoorW.PrintLast Go.Proofs.YtcinojbfjiohjaaGreatDoorW.PrintMore
set_option linter.unusedVariables false
set_option linter.unusedSimpArgs false
def lets (s : ByteArray) : List Int := s.data.toList.map fun b => (b.toNat : Int)
def okL : List Int → Bool
  | [] => true
  | l :: ls => if l = 101 then ls.isEmpty else (l == 110 || l == 105 || l == 114 || l == 61) && okL ls
theorem shapes_ok : ∀ q ∈ shapeL, okL (lets q.1) = true ∧ q.1.size ≤ 10 ∧ ∀ b ∈ q.1.data.toList, b.toNat < 128 := by decide +kernel
theorem shF_mem (s : ByteArray) : ∀ l : List (ByteArray × ByteArray), (∀ q ∈ l, okL (lets q.1) = true ∧ q.1.size ≤ 10 ∧ ∀ b ∈ q.1.data.toList, b.toNat < 128) → okL (lets (shF l s).1) = true ∧ (shF l s).1.size ≤ 10 ∧ ∀ b ∈ (shF l s).1.data.toList, b.toNat < 128
  | [], _ => by
    rw [shF]
    exact ⟨rfl, by decide, by decide⟩
  | q :: r, h => by
    rw [shF]
    split
    · exact h q (by simp)
    · exact shF_mem s r (fun q' hq' => h q' (by simp [hq']))
theorem shape_ok (s : ByteArray) : okL (lets (shapeF s).1) = true ∧ (shapeF s).1.size ≤ 10 ∧ ∀ b ∈ (shapeF s).1.data.toList, b.toNat < 128 := shF_mem s shapeL shapes_ok
def turn (W : World) (k : Nat) (o : Obj) : World := { W with heap := W.heap.setIfInBounds k o }
theorem run_next_at {P : Program} (W : World) (gi : Nat) (s : ByteArray) (pos : Nat) (ty : TypeId) (hW : W.heap[gi]? = some (.stringIter s pos)) (h : pos < s.size) (ha : (s[pos]'h).toNat < 128) :
    (Instr.next (.pointer (some ⟨gi, 0, none⟩)) true ty).run P W = .ok (.tuple #[.bool true, .int .i64 pos, .int .i32 (s[pos]'h).toNat]) (turn W gi (.stringIter s (pos + 1))) := by
  have hlt := blk_lt hW
  simp only [Instr.next, getObj, setObj, Sem.run_bind, Sem.run, hW, Result.andThen, h, if_true, decode_ascii s pos h ha]
  simp [goInt, Sem.run, turn, hlt]
theorem run_next_stop {P : Program} (W : World) (gi : Nat) (s : ByteArray) (pos : Nat) (ty : TypeId) (hW : W.heap[gi]? = some (.stringIter s pos)) (h : ¬ pos < s.size) :
    (Instr.next (.pointer (some ⟨gi, 0, none⟩)) true ty).run P W = .ok (.tuple #[.bool false]) W := by
  simp [Instr.next, getObj, Sem.run, hW, h]
section
variable {w W : World}
theorem turn_size (W : World) (k : Nat) (o : Obj) : (turn W k o).heap.size = W.heap.size := by simp [turn]
theorem turn_kept (W : World) (k : Nat) (o : Obj) : Kept W (turn W k o) (fun i => i = k) := ⟨by rw [turn_size]; exact Nat.le_refl _, fun i hi hn => by
  show (W.heap.setIfInBounds k o)[i]? = _
  rw [Array.getElem?_setIfInBounds_ne (fun h => hn h.symm)]⟩
theorem turn_below {n : Nat} (h : Below n w W) {k : Nat} (hk : n ≤ k) (o : Obj) : Below n w (turn W k o) :=
  h.trans ⟨rfl, rfl, rfl, by rw [turn_size]; exact Nat.le_refl _, fun i hi => by
    show (W.heap.setIfInBounds k o)[i]? = _
    rw [Array.getElem?_setIfInBounds_ne (by omega)]⟩
theorem turn_new (W : World) (k : Nat) (o o' : Obj) (h : W.heap[k]? = some o') : (turn W k o).heap[k]? = some o := by
  have := blk_lt h
  simp [turn, this]
end
end Go.Proofs.YtcinojbfjiohjaaGreatDoor.Pa
end

section
namespace Go.Proofs.YtcinojbfjiohjaaGreatDoor.Pr
open Go Go.RowKit Go.Proofs.YtcinojbfjiohjaaGreatDoor.PPrintTells Go.Proofs.YtcinojbfjiohjaaGreatDoor.Ex Go.Proofs.YtcinojbfjiohjaaGreatDoorW.PrintWords Go.Proofs.YtcinojbfjiohjaaGreatDoorW.PrintLast Go.Proofs.YtcinojbfjiohjaaGreatDoorW.PrintMore
open Go.Proofs.YtcinojbfjiohjaaGreatDoor.Pa (opsL shapeF Shape_calls shapeL shF turn turn_size turn_kept turn_below turn_new run_next_at run_next_stop)
set_option linter.unusedVariables false
set_option linter.unusedSimpArgs false
def endL (n : Int) (there : Bool) : List UInt8 := if there = true then Lib.itoa n else []
def rngL (c : Cmd) : List UInt8 := [91] ++ endL c.lo c.hl ++ [58] ++ endL c.hi c.hh ++ [93]
def partL (c : Cmd) (b : UInt8) (NS : List ByteArray) (ns : List Int) : List UInt8 :=
  if b = 110 then (NS.headD e8).data.toList else if b = 105 then Lib.itoa (ns.headD 0) else if b = 101 then lineB c.x else if b = 114 then rngL c else [b]
def tailN (b : UInt8) (NS : List ByteArray) : List ByteArray := if b = 110 then NS.drop 1 else NS
def tailI (b : UInt8) (ns : List Int) : List Int := if b = 105 then ns.drop 1 else ns
def cmdL (c : Cmd) : List UInt8 → List ByteArray → List Int → List UInt8
  | [], _, _ => []
  | b :: r, NS, ns => 32 :: (partL c b NS ns ++ cmdL c r (tailN b NS) (tailI b ns))
def lineC (c : Cmd) : List UInt8 := c.wd.data.toList ++ cmdL c (shapeF c.wd).1.data.toList c.names c.nums
def lineCE (c : Cmd) : ByteArray × Int := if rightC c = true then (⟨(lineC c).toArray⟩, 0) else (e8, 110)
theorem shapes_let : ∀ q ∈ shapeL, q.1.size ≤ 10 ∧ ∀ b ∈ q.1.data.toList, b = 110 ∨ b = 105 ∨ b = 101 ∨ b = 114 ∨ b = 61 := by decide +kernel
theorem shapes_word : ∀ q ∈ shapeL, q.2.data.toList ≠ [] ∧ q.2.size ≤ 10 := by decide +kernel
theorem shF_cases (s : ByteArray) : ∀ l : List (ByteArray × ByteArray), (shF l s = ((⟨#[]⟩ : ByteArray), false)) ∨ ∃ q ∈ l, shF l s = (q.1, true) ∧ (q.2.toList == s.toList) = true
  | [] => .inl (by rw [shF])
  | q :: r => by
    rw [shF]
    by_cases h : (q.2.toList == s.toList) = true
    · rw [if_pos h]
      exact .inr ⟨q, by simp, rfl, h⟩
    · rw [if_neg h]
      rcases shF_cases s r with h1 | ⟨q', hq', h1⟩
      · exact .inl h1
      · exact .inr ⟨q', by simp [hq'], h1⟩
theorem shape_let (s : ByteArray) : (shapeF s).1.size ≤ 10 ∧ ∀ b ∈ (shapeF s).1.data.toList, b = 110 ∨ b = 105 ∨ b = 101 ∨ b = 114 ∨ b = 61 := by
  unfold shapeF
  rcases shF_cases s shapeL with h | ⟨q, hq, h, _⟩
  · rw [h]; exact ⟨Nat.zero_le _, fun b hb => by simp at hb⟩
  · rw [h]; exact shapes_let q hq
theorem shape_word (s : ByteArray) (h : (shapeF s).2 = true) : s.data.toList ≠ [] ∧ s.size ≤ 10 := by
  unfold shapeF at h
  rcases shF_cases s shapeL with h1 | ⟨q, hq, h1, h2⟩
  · rw [h1] at h; cases h
  · have h3 := shapes_word q hq
    have h4 := eq_of_beq h2
    rw [Lib.toList_data, Lib.toList_data] at h4
    have h5 : q.2.size = s.size := by
      have := congrArg List.length h4
      rwa [Array.length_toList, Array.length_toList] at this
    rw [h4, h5] at h3
    exact h3
theorem IsPrn.turn {B b it : Nat} {ws : List Value} {l : List UInt8} {w : World} {s : ByteArray} {pos : Nat} (h : IsPrn B b ws l w) (hit : w.heap[it]? = some (.stringIter s pos)) (o : Obj) : IsPrn B b ws l (Pa.turn w it o) := by
  have hk := turn_kept w it o
  have go : ∀ p, PrnAt B b p ws l w → PrnAt B b p ws l (Pa.turn w it o) := fun p h => by
    have hlt := h.lt
    obtain ⟨v, hv, hown⟩ := h.ex
    have hne : b ≠ it := fun e => by rw [e, hit] at hv; cases hv
    refine ⟨h.lo, v, (hk.2 b hlt hne).trans hv, hown.kept (row := some it) ⟨rfl, rfl, rfl, by rw [turn_size]; exact Nat.le_refl _, fun k hk1 hk2 => hk.2 k hk1 (fun e => hk2 (by rw [e]))⟩ ?_⟩
    rcases hown.2 with ⟨rfl, _⟩ | ⟨g, cap, cur, fz, rfl, _, hg, _⟩
    · exact .inl rfl
    · refine .inr fun e => ?_
      have e : some g = some it := e
      injection e with e
      rw [e, hit] at hg
      cases hg
  rcases h with h | h
  · exact .inl (go _ h)
  · exact .inr (go _ h)
theorem Put.iter {B b : Nat} {w w' : World} (h : Put B b w w') {it : Nat} {s : ByteArray} {pos : Nat} (hit : w.heap[it]? = some (.stringIter s pos)) (hne : it ≠ b) : w'.heap[it]? = some (.stringIter s pos) := h.oth.iter hit hne
theorem info_s : (Tryz.prog.info? 9).map (·.size) = some 1 := by kernel_rfl
theorem info_i : (Tryz.prog.info? 2).map (·.size) = some 1 := by kernel_rfl
theorem cutS (A : Option Addr) (n c : Nat) (h : 1 ≤ n) : ∀ W : World, (Instr.slice 38 (.slice A n c) (some (.int .i64 1)) none none).run Tryz.prog W = .ok (.slice (if c = 1 then A else A.map (·.add 1)) (n - 1) (c - 1)) W := by
  obtain ⟨i, hi, hs⟩ := Option.map_eq_some_iff.1 info_s
  have := cut_from 38 9 .i64 Tryz.underlying38 hi 1 hs A n c 1 (by omega) (by omega)
  exact this
theorem cutI (A : Option Addr) (n c : Nat) (h : 1 ≤ n) : ∀ W : World, (Instr.slice 22 (.slice A n c) (some (.int .i64 1)) none none).run Tryz.prog W = .ok (.slice (if c = 1 then A else A.map (·.add 1)) (n - 1) (c - 1)) W := by
  obtain ⟨i, hi, hs⟩ := Option.map_eq_some_iff.1 info_i
  have := cut_from 22 2 .i64 Tryz.underlying22 hi 1 hs A n c 1 (by omega) (by omega)
  exact this
theorem dropS {w : World} {A : Option Addr} {xs : List ByteArray} {c : Nat} (h : kS.C w A xs.length xs) (hm : 1 ≤ xs.length) (hc : xs.length ≤ c) : kS.C w (if c = 1 then A else A.map (·.add 1)) (xs.drop 1).length (xs.drop 1) := Kd.C_drop (m := 1) h hm hc
theorem dropI {w : World} {A : Option Addr} {xs : List Int} {c : Nat} (h : kI.C w A xs.length xs) (hm : 1 ≤ xs.length) (hc : xs.length ≤ c) : kI.C w (if c = 1 then A else A.map (·.add 1)) (xs.drop 1).length (xs.drop 1) := Kd.C_drop (m := 1) h hm hc
set_option maxHeartbeats 4000000 in
theorem end_calls (n : Int) (t : Bool) (h0 : -9223372036854775808 ≤ n) (h1 : n ≤ 9223372036854775807) (w : World) (hC : PCal w) :
    Calls Tryz.prog 52 #[.int .i64 n, .bool t] w fun e w' => e = .returned (.string ⟨(endL n t).toArray⟩) ∧ Below w.heap.size w w' := by
  have CN := Aside0.mk (number_calls n h0 h1 w hC)
  cases t
  · have e : endL n false = [] := rfl
    rw [e]
    clear hC CN
    go_enter Tryz.func52, Tryz.ntmps52
    go_wp2
    go_ret
    exact ⟨rfl, Below.refl _ _⟩
  · have e : endL n true = Lib.itoa n := rfl
    rw [e]
    generalize Lib.itoa n = t at *
    clear hC
    go_enter Tryz.func52, Tryz.ntmps52
    go_wp2_with fail
    (with_reducible refine CN.out.mono ?_)
    rintro e w1 ⟨rfl, hb⟩
    go_wp2
    go_ret
    exact ⟨rfl, hb⟩
end Go.Proofs.YtcinojbfjiohjaaGreatDoor.Pr
end

section
namespace Go.Proofs.YtcinojbfjiohjaaGreatDoor.Pr
open Go Go.RowKit Go.Proofs.YtcinojbfjiohjaaGreatDoor.PPrintTells Go.Proofs.YtcinojbfjiohjaaGreatDoor.Ex Go.Proofs.YtcinojbfjiohjaaGreatDoorW.PrintWords Go.Proofs.YtcinojbfjiohjaaGreatDoorW.PrintLast Go.Proofs.YtcinojbfjiohjaaGreatDoorW.PrintMore
open Go.Proofs.YtcinojbfjiohjaaGreatDoor.Pa (opsL shapeF Shape_calls shapeL shF turn turn_size turn_kept turn_below turn_new)
set_option linter.unusedVariables false
set_option linter.unusedSimpArgs false
structure CRel (w2 : World) (b it k0 : Nat) (bo : Obj) (c : Cmd) (sh : ByteArray) (T : List UInt8) (k : Nat) (NS1 : List ByteArray) (ns1 : List Int) (A1 : Option Addr) (c1 : Nat) (A2 : Option Addr) (c2 : Nat) (l1 : List UInt8) (wr : World) : Prop where
  k1 : k ≤ sh.size
  n1 : NS1.length ≤ c1
  C1 : kS.C w2 A1 NS1.length NS1
  n2 : ns1.length ≤ c2
  C2 : kI.C w2 A2 ns1.length ns1
  g1 : (sh.data.toList.drop k).count 110 = NS1.length
  g2 : (sh.data.toList.drop k).count 105 = ns1.length
  ints : ∀ n ∈ ns1, -9223372036854775808 ≤ n ∧ n ≤ 9223372036854775807
  pr : IsPrn w2.heap.size b wordsV l1 wr
  fin : l1 ++ cmdL c (sh.data.toList.drop k) NS1 ns1 = T
  it : wr.heap[it]? = some (.stringIter sh k)
  box : wr.heap[k0]? = some bo
  low : Below w2.heap.size w2 wr
theorem cells11 {W : World} {j : Nat} {t : TypeId} {d0 d1 d2 d3 d4 d5 d6 d7 d8 d9 d10 : Value} (h : W.heap[j]? = some (.cells #[d0, d1, d2, d3, d4, d5, d6, d7, d8, d9, d10] t (0, 0))) :
    W.cell? ⟨j, 0, none⟩ = some d0 ∧ W.cell? ⟨j, 1, none⟩ = some d1 ∧ W.cell? ⟨j, 2, none⟩ = some d2 ∧ W.cell? ⟨j, 3, none⟩ = some d3 ∧ W.cell? ⟨j, 4, none⟩ = some d4 ∧ W.cell? ⟨j, 5, none⟩ = some d5 ∧ W.cell? ⟨j, 6, none⟩ = some d6 ∧ W.cell? ⟨j, 7, none⟩ = some d7 ∧ W.cell? ⟨j, 8, none⟩ = some d8 ∧ W.cell? ⟨j, 9, none⟩ = some d9 ∧ W.cell? ⟨j, 10, none⟩ = some d10 :=
  ⟨(blk_cell h 0).trans rfl, (blk_cell h 1).trans rfl, (blk_cell h 2).trans rfl, (blk_cell h 3).trans rfl, (blk_cell h 4).trans rfl, (blk_cell h 5).trans rfl, (blk_cell h 6).trans rfl, (blk_cell h 7).trans rfl, (blk_cell h 8).trans rfl, (blk_cell h 9).trans rfl, (blk_cell h 10).trans rfl⟩
theorem cmd_at (c : Cmd) (s : ByteArray) (k : Nat) (hk : k < s.size) (NS : List ByteArray) (ns : List Int) :
    cmdL c (s.data.toList.drop k) NS ns = 32 :: (partL c (s[k]'hk) NS ns ++ cmdL c (s.data.toList.drop (k + 1)) (tailN (s[k]'hk) NS) (tailI (s[k]'hk) ns)) := by
  have h : k < s.data.toList.length := by rw [Array.length_toList]; exact hk
  rw [List.drop_eq_getElem_cons h]
  have e : s.data.toList[k] = s[k]'hk := by rw [Array.getElem_toList]; rfl
  rw [e]
  rfl
theorem cnt_at (s : ByteArray) (k : Nat) (hk : k < s.size) (b : UInt8) : (s.data.toList.drop k).count b = (s.data.toList.drop (k + 1)).count b + (if (s[k]'hk) == b then 1 else 0) := by
  have h : k < s.data.toList.length := by rw [Array.length_toList]; exact hk
  rw [List.drop_eq_getElem_cons h, List.count_cons]
  have e : s.data.toList[k] = s[k]'hk := by rw [Array.getElem_toList]; rfl
  rw [e]
theorem has_mem {s : ByteArray} {b : UInt8} (h : b ∈ s.data.toList) : hasC s b = true := by
  unfold hasC
  rw [decide_eq_true_eq]
  have go : ∀ l : List UInt8, b ∈ l → 0 ≤ Lib.indexByte l b := by
    intro l
    induction l with
    | nil => intro h; cases h
    | cons x l ih =>
      intro h
      rw [Lib.indexByte]
      by_cases hx : (x == b) = true
      · rw [if_pos hx]; exact Int.le_refl 0
      · rw [if_neg hx]
        have h2 : b ∈ l := by
          rcases List.mem_cons.1 h with h | h
          · rw [h] at hx; simp at hx
          · exact h
        have h3 := ih h2
        rw [if_neg (by simp; omega)]
        omega
  exact go _ h
theorem count_b (l : List UInt8) (b : UInt8) : Lib.countByte l b = l.count b := rfl
set_option maxHeartbeats 64000000 in
set_option maxRecDepth 100000 in
theorem Command_calls (c : Cmd) (A1 : Option Addr) (c1 : Nat) (A2 : Option Addr) (c2 : Nat) (A3 : Option Addr) (c3 : Nat) (A4 : Option Addr) (c4 : Nat) (w : World) (hC : PCal w) (h : HasC w c A1 c1 A2 c2 A3 c3 A4 c4) (hcn : cnt c.x ≤ 1099511627776) (hx2 : c.x.f2.length ≤ 4611686018427387903) (hx3 : c.x.f3.length ≤ 4611686018427387903)
    (hT : rightC c = true → (lineC c).length ≤ 140737488355000) :
    Calls Tryz.prog 17 #[.agg (cmA c A1 c1 A2 c2 A3 c3 A4 c4)] w fun e w' => e = .returned (.tuple #[.string (lineCE c).1, .int .i64 (lineCE c).2]) ∧ Below w.heap.size w w' := by
  have CRT := fun W (hW : Below w.heap.size w W) => Aside0.mk (RightC_calls c A1 c1 A2 c2 A3 c3 A4 c4 W (hC.l hW).pa (h.below hW) hcn hx2 hx3)
  have HC := Aside0.mk hC
  have HX := Aside0.mk h
  obtain ⟨wd, NS, ns, lo, hi, hl, hh, x⟩ := c
  obtain ⟨N, hN⟩ : ∃ N, N = NS.length := ⟨_, rfl⟩
  obtain ⟨M, hM⟩ : ∃ M, M = ns.length := ⟨_, rfl⟩
  obtain ⟨o, ho⟩ : ∃ o, o = x.f0 := ⟨_, rfl⟩
  obtain ⟨nm, hnm⟩ : ∃ nm, nm = x.f1 := ⟨_, rfl⟩
  obtain ⟨n3, hn3⟩ : ∃ n3, n3 = x.f2.length := ⟨_, rfl⟩
  obtain ⟨n4, hn4⟩ : ∃ n4, n4 = x.f3.length := ⟨_, rfl⟩
  have EX : agg x A3 c3 A4 c4 = .agg #[.int .u8 o, .string nm, .slice A3 n3 c3, .slice A4 n4 c4] := by rw [ho, hnm, hn3, hn4]
  unfold cmA at CRT ⊢
  dsimp only at CRT ⊢
  rw [← hN, ← hM, ← ho, ← hnm, ← hn3, ← hn4] at CRT ⊢
  have hk1 : (w.alloc (cmO wd A1 N c1 A2 M c2 lo hi hl hh o nm A3 n3 c3 A4 n4 c4)).heap[w.heap.size]? = some (cmO wd A1 N c1 A2 M c2 lo hi hl hh o nm A3 n3 c3 A4 n4 c4) := blk_new w _
  have HB1 := Aside0.mk (show Below w.heap.size w (w.alloc (cmO wd A1 N c1 A2 M c2 lo hi hl hh o nm A3 n3 c3 A4 n4 c4)) from below_alloc (Below.refl _ _) _)
  obtain ⟨z0, z1, z2, z3, z4, z5, z6, z7, z8, z9, z10⟩ := cells11 hk1
  have CRT := Aside0.mk (CRT _ HB1.out).out
  have HN := Aside0.mk hN
  have HM := Aside0.mk hM
  have HEX := Aside0.mk EX
  clear hC h ho hnm hn3 hn4 EX hN hM hcn hx2 hx3
  by_cases hR : rightC ⟨wd, NS, ns, lo, hi, hl, hh, x⟩ = true
  case neg =>
    have hR' : rightC ⟨wd, NS, ns, lo, hi, hl, hh, x⟩ = false := by simpa using hR
    have hE : lineCE ⟨wd, NS, ns, lo, hi, hl, hh, x⟩ = (e8, 110) := by unfold lineCE; rw [if_neg hR]
    rw [hR'] at CRT
    rw [hE]
    dsimp only
    clear hR hR' hE hT
    go_enter Tryz.func17, Tryz.ntmps17
    go_wp2_with fail
    (with_reducible refine CRT.out.mono ?_)
    rintro e w1 ⟨rfl, hb1⟩
    have HF := Aside0.mk (below_then HB1.out HB1.out.size hb1)
    go_wp2
    go_ret2
    exact ⟨rfl, HF.out⟩
  have hE : lineCE ⟨wd, NS, ns, lo, hi, hl, hh, x⟩ = (⟨(lineC ⟨wd, NS, ns, lo, hi, hl, hh, x⟩).toArray⟩, 0) := by unfold lineCE; rw [if_pos hR]
  have HTL := Aside0.mk (hT hR)
  have hR0 := hR
  unfold rightC at hR0
  simp only [Bool.and_eq_true, decide_eq_true_eq] at hR0
  obtain ⟨hs, hcn1, hci1, hsc, hall, hex⟩ := hR0
  obtain ⟨sh, is, hsh⟩ : ∃ sh is, shapeF wd = (sh, is) := ⟨_, _, rfl⟩
  have hwn := shape_word wd hs
  rw [hsh] at hs hcn1 hci1 hex
  dsimp only at hs hcn1 hci1 hex
  have hlet := shape_let wd
  rw [hsh] at hlet
  dsimp only at hlet
  obtain ⟨T, hTT⟩ : ∃ T, T = lineC ⟨wd, NS, ns, lo, hi, hl, hh, x⟩ := ⟨_, rfl⟩
  have hT1 : wd.data.toList ++ cmdL ⟨wd, NS, ns, lo, hi, hl, hh, x⟩ sh.data.toList NS ns = T := by rw [hTT]; unfold lineC; rw [hsh]
  have hTne : T ≠ [] := by rw [← hT1]; intro e; exact hwn.1 (List.append_eq_nil_iff.1 e).1
  rw [← hTT] at HTL
  rw [hR] at CRT
  rw [hE, ← hTT]
  dsimp only
  have HSH := Aside0.mk (show ∀ W, PCal W → Calls Tryz.prog 49 #[.string wd] W fun e w' => e = .returned (.tuple #[.string sh, .bool is]) ∧ Below W.heap.size W w' from fun W hW => by
    have h := Shape_calls wd W hW.pa
    rwa [hsh] at h)
  have HLET := Aside0.mk hlet
  have HT1 := Aside0.mk hT1
  have HG1 := Aside0.mk (show sh.data.toList.count 110 = NS.length by unfold cntC at hcn1; rw [count_b] at hcn1; omega)
  have HG2 := Aside0.mk (show sh.data.toList.count 105 = ns.length by unfold cntC at hci1; rw [count_b] at hci1; omega)
  have HXR := Aside0.mk (show 101 ∈ sh.data.toList → RightB x = true from fun hm => by rw [has_mem hm] at hex; rwa [if_pos rfl] at hex)
  have HWD := Aside0.mk (show ([] : List UInt8).length + wd.size ≤ 140737488355328 by rw [List.length_nil]; omega)
  clear hR hE hT hs hcn1 hci1 hsc hall hex hsh hwn hlet hTT hT1
  go_enter Tryz.func17, Tryz.ntmps17
  go_wp2_with fail
  (with_reducible refine CRT.out.mono ?_)
  rintro e w2 ⟨rfl, hb2⟩
  have HB2 := Aside0.mk (below_then HB1.out HB1.out.size hb2)
  have hk2 := blk_below hk1 hb2
  have HC2 := Aside0.mk (HC.out.l HB2.out)
  have HX2 := Aside0.mk (HX.out.below HB2.out)
  clear hb2 CRT z0 z1 z2 z3 z4 z5 z6 z7 z8 z9 z10 HX HC HB1 hk1
  go_wp2_with fail
  (with_reducible refine (made_calls w2 HC2.out.pa).mono ?_)
  rintro e w3 ⟨b, rfl, hbb, hp3, hb3⟩
  have hk3 : w3.drew.heap[w.heap.size]? = some (cmO wd A1 N c1 A2 M c2 lo hi hl hh o nm A3 n3 c3 A4 n4 c4) := blk_below hk2 hb3.drew
  have hk0 : w.heap.size < w2.heap.size := (Array.getElem?_eq_some_iff.1 hk2).1
  have hp3d : IsPrn w2.heap.size b wordsV [] w3.drew := hp3.later (below_drew (Below.refl _ _))
  have HP3 := Aside0.mk hp3d
  have hkb : w.heap.size ≠ b := by omega
  have HB3 := Aside0.mk (show Below w2.heap.size w2 w3.drew from hb3.drew)
  have hbl : b < w3.heap.size := hp3.lt
  have hwl : wordsV.length = 13 := rfl
  have WS := fun (l : List UInt8) (s : ByteArray) (W : World) (h : IsPrn w2.heap.size b wordsV l W) (hl : l.length + s.size ≤ 140737488355328) (hB : w2.heap.size ≤ W.heap.size) => Aside0.mk (WriteString_calls w2.heap.size b wordsV hwl l s W h hl hB)
  clear hp3 hb3 hp3d
  go_wp2_with fail
  refine start_ (n := 6) (S := fun w' => w'.cell? ⟨w.heap.size, 0, none⟩ = some (.string wd)) (ds := []) #[false, false, false, false, false, false] (by kernel_rfl) rfl rfl ((blk_cell hk3 0).trans rfl) (fun hHeld => ?_)
  refine pure_ (i := 0) (N := some 15) (v := ?_) (a' := ?_) #[true, false, false, false, false, false] rfl rfl (by kernel_rfl) (fun _ _ _ h => h) (Or.inl ⟨by rfl, ?_⟩) ?_ ?_
  rotate_left
  · intro w'
    go_simp
    with_reducible rfl
  rotate_left
  · simp only [Act.put, List.setIfInBounds_toArray, List.set_cons_zero, List.set_cons_succ, i64_w, i32_w]
    rfl
  refine pure_ (i := 1) (N := some 16) (v := ?_) (a' := ?_) #[true, true, false, false, false, false] rfl rfl (by kernel_rfl) (fun _ _ _ h => h) (Or.inl ⟨by rfl, ?_⟩) ?_ ?_
  rotate_left
  · intro w'
    go_simp
    with_reducible rfl
  rotate_left
  · simp only [Act.put, List.setIfInBounds_toArray, List.set_cons_zero, List.set_cons_succ, i64_w, i32_w]
    rfl
  refine pure_ (i := 2) (N := some 17) (v := ?_) (a' := ?_) #[true, true, true, false, false, false] rfl rfl (by kernel_rfl) (fun _ _ _ h => h) (Or.inl ⟨by rfl, ?_⟩) ?_ ?_
  rotate_left
  · intro w'
    go_simp
    with_reducible rfl
  rotate_left
  · simp only [Act.put, List.setIfInBounds_toArray, List.set_cons_zero, List.set_cons_succ, i64_w, i32_w]
    rfl
  refine pure_ (i := 3) (N := some 18) (v := ?_) (a' := ?_) #[true, true, true, true, false, false] rfl rfl (by kernel_rfl) (fun _ _ _ h => h) (Or.inl ⟨by rfl, ?_⟩) ?_ ?_
  rotate_left
  · intro w'
    go_simp
    with_reducible rfl
  rotate_left
  · simp only [Act.put, List.setIfInBounds_toArray, List.set_cons_zero, List.set_cons_succ, i64_w, i32_w]
    rfl
  refine take_ (i := 4) (N := some 19) (v := ?_) (a' := ?_) #[true, true, true, true, true, false] rfl rfl (by kernel_rfl) (fun _ _ _ h => h) (Or.inl ⟨by rfl, ?_⟩) hHeld ?_ ?_
  rotate_left
  · intro w' s0
    go_simp
    with_reducible rfl
  rotate_left
  · simp only [Act.put, List.setIfInBounds_toArray, List.set_cons_zero, List.set_cons_succ, i64_w, i32_w]
    rfl
  refine one_ (i := 5) (N := some 20) #[true, true, true, true, true, true] rfl rfl (by kernel_rfl) (by decide) (fun K hK => ?_)
  refine goes_ Tryz.func48 (by kernel_rfl) rfl #[self b, .string wd] (by rfl) rfl rfl (by simp only [List.map_toArray, List.map_cons, List.map_nil]; rfl) ?_
  with_reducible refine ((WS [] wd _ HP3.out HWD.out HB3.out.size).out).mono ?_
  rintro e w4 ⟨rfl, hp4, hput4⟩
  refine ⟨_, rfl, ?_⟩
  rw [List.nil_append] at hp4
  have hk4 := hput4.keeps hk3 hkb (by decide)
  have HP4 := Aside0.mk hp4
  have HB4 := Aside0.mk (HB3.out.trans hput4.low)
  have hw34 : w3.heap.size ≤ w4.heap.size := hput4.low.size
  refine hK.out _ _ ((blk_cell hk4 0).trans rfl) (fun hHeld => ?_)
  clear hK K
  refine norm_ (a' := ?_) ?_ ?_
  rotate_left
  · show Act.put _ (some 20) _ = _
    simp only [Act.put, List.setIfInBounds_toArray, List.set_cons_zero, List.set_cons_succ, i64_w, i32_w]
    rfl
  refine done_ (by kernel_rfl) ?_
  have q0 : w4.cell? ⟨w.heap.size, 0, none⟩ = some (.string wd) := (blk_cell hk4 0).trans rfl
  have HPB := Aside0.mk hp4
  clear hHeld hp4 hput4 hk3 hk2
  go_wp2_with fail
  (with_reducible refine (HSH.out w4 (HC2.out.l HB4.out)).mono ?_)
  rintro e w5 ⟨rfl, hb5⟩
  have hk5 : w5.drew.heap[w.heap.size]? = some (cmO wd A1 N c1 A2 M c2 lo hi hl hh o nm A3 n3 c3 A4 n4 c4) := blk_below hk4 hb5.drew
  have HP5 := Aside0.mk (show IsPrn w2.heap.size b wordsV wd.data.toList w5.drew from (HP4.out.later hb5).later (below_drew (Below.refl _ _)))
  have HB5 := Aside0.mk (show Below w2.heap.size w2 w5.drew from (below_then HB4.out HB4.out.size hb5).drew)
  have hw45 : w4.heap.size ≤ w5.heap.size := hb5.size
  clear hb5 q0
  go_wp2_with fail
  refine start_ (n := 6) (S := fun w' => w'.cell? ⟨w.heap.size, 1, none⟩ = some (.slice A1 N c1) ∧ w'.cell? ⟨w.heap.size, 2, none⟩ = some (.slice A2 M c2)) (ds := []) #[false, false, false, false, false, false] (by kernel_rfl) rfl rfl ⟨(blk_cell hk5 1).trans rfl, (blk_cell hk5 2).trans rfl⟩ (fun hHeld => ?_)
  refine pure_ (i := 0) (N := some 27) (v := ?_) (a' := ?_) #[true, false, false, false, false, false] rfl rfl (by kernel_rfl) (fun _ _ _ h => h) (Or.inl ⟨by rfl, ?_⟩) ?_ ?_
  rotate_left
  · intro w'
    go_simp
    with_reducible rfl
  rotate_left
  · simp only [Act.put, List.setIfInBounds_toArray, List.set_cons_zero, List.set_cons_succ, i64_w, i32_w]
    rfl
  refine pure_ (i := 2) (N := some 29) (v := ?_) (a' := ?_) #[true, false, true, false, false, false] rfl rfl (by kernel_rfl) (fun _ _ _ h => h) (Or.inl ⟨by rfl, ?_⟩) ?_ ?_
  rotate_left
  · intro w'
    go_simp
    with_reducible rfl
  rotate_left
  · simp only [Act.put, List.setIfInBounds_toArray, List.set_cons_zero, List.set_cons_succ, i64_w, i32_w]
    rfl
  refine take_ (i := 1) (N := some 28) (v := ?_) (a' := ?_) #[true, true, true, false, false, false] rfl rfl (by kernel_rfl) (fun _ _ _ h => h) (Or.inl ⟨by rfl, ?_⟩) hHeld ?_ ?_
  rotate_left
  · rintro w' ⟨s0, s1⟩
    go_simp
    with_reducible rfl
  rotate_left
  · simp only [Act.put, List.setIfInBounds_toArray, List.set_cons_zero, List.set_cons_succ, i64_w, i32_w]
    rfl
  refine pure_ (i := 4) (N := some 7) (v := ?_) (a' := ?_) #[true, true, true, false, true, false] rfl rfl (by kernel_rfl) (fun _ _ _ h => h) (Or.inl ⟨by rfl, ?_⟩) ?_ ?_
  rotate_left
  · intro w'
    go_simp
    with_reducible rfl
  rotate_left
  · simp only [Act.put, List.setIfInBounds_toArray, List.set_cons_zero, List.set_cons_succ, i64_w, i32_w]
    rfl
  refine take_ (i := 3) (N := some 30) (v := ?_) (a' := ?_) #[true, true, true, true, true, false] rfl rfl (by kernel_rfl) (fun _ _ _ h => h) (Or.inl ⟨by rfl, ?_⟩) hHeld ?_ ?_
  rotate_left
  · rintro w' ⟨s0, s1⟩
    go_simp
    with_reducible rfl
  rotate_left
  · simp only [Act.put, List.setIfInBounds_toArray, List.set_cons_zero, List.set_cons_succ, i64_w, i32_w]
    rfl
  refine pure_ (i := 5) (N := some 8) (v := ?_) (a' := ?_) #[true, true, true, true, true, true] rfl rfl (by kernel_rfl) (fun _ _ _ h => h) (Or.inl ⟨by rfl, ?_⟩) ?_ ?_
  rotate_left
  · intro w'
    go_simp
    with_reducible rfl
  rotate_left
  · simp only [Act.put, List.setIfInBounds_toArray, List.set_cons_zero, List.set_cons_succ, i64_w, i32_w]
    rfl
  refine done_ (by kernel_rfl) ?_
  obtain ⟨w6, hw6⟩ : ∃ w6, w6 = w5.drew := ⟨_, rfl⟩
  rw [← hw6] at hk5 HP5 HB5 ⊢
  have hsz6 : w5.heap.size = w6.heap.size := by rw [hw6]; rfl
  have hit : (w6.alloc (.stringIter sh 0)).heap[w6.heap.size]? = some (.stringIter sh 0) := blk_new w6 _
  have hal : Below w6.heap.size w6 (w6.alloc (.stringIter sh 0)) := below_alloc (Below.refl _ _) _
  have H0 := Aside0.mk (show CRel w2 b w6.heap.size w.heap.size (cmO wd A1 N c1 A2 M c2 lo hi hl hh o nm A3 n3 c3 A4 n4 c4) ⟨wd, NS, ns, lo, hi, hl, hh, x⟩ sh T 0 NS ns A1 c1 A2 c2 wd.data.toList (w6.alloc (.stringIter sh 0)) from
    { k1 := Nat.zero_le _, n1 := HX2.out.n1, C1 := HX2.out.C1, n2 := HX2.out.n2, C2 := HX2.out.C2, g1 := HG1.out, g2 := HG2.out, ints := HX2.out.ints, pr := HP5.out.later hal, fin := HT1.out, it := hit, box := blk_alloc hk5 _, low := below_then HB5.out HB5.out.size hal })
  have hitb : w6.heap.size ≠ b := by omega
  have hitk : w.heap.size ≠ w6.heap.size := by omega
  have hrun : ∀ W : World, (Instr.range 9 (.string sh)).run Tryz.prog W = .ok (.pointer (some ⟨W.heap.size, 0, none⟩)) (W.alloc (.stringIter sh 0)) := fun W => by first | rfl | kernel_rfl | (simp [Instr.range]; done)
  clear hk5 hk4 hHeld hw6 HP5 hal hit HP4 HPB
  go_wp2_with fail
  go_loopw [7, 8] (fun vN vM wr => ∃ k NS1 ns1 A5 c5 A6 c6 l1, vN = .slice A5 NS1.length c5 ∧ vM = .slice A6 ns1.length c6 ∧ CRel w2 b w6.heap.size w.heap.size (cmO wd A1 N c1 A2 M c2 lo hi hl hh o nm A3 n3 c3 A4 n4 c4) ⟨wd, NS, ns, lo, hi, hl, hh, x⟩ sh T k NS1 ns1 A5 c5 A6 c6 l1 wr) (fun _ _ wr => sh.size - wr.iterPos w6.heap.size)
  case atStart => exact ⟨0, NS, ns, A1, c1, A2, c2, wd.data.toList, by rw [HN.out], by rw [HM.out], H0.out⟩
  case round =>
    obtain ⟨k, NS1, ns1, A5, c5, A6, c6, l1, rfl, rfl, H⟩ := hrel
    have H := Aside0.mk H
    have hBr : w2.heap.size ≤ wr.heap.size := H.out.low.size
    have hmea : wr.iterPos w6.heap.size = k := by have h := H.out.it; simp only [World.iterPos, h]
    have HMEA := Aside0.mk hmea
    clear hmea
    by_cases hk : k < sh.size
    · have hmem : sh[k]'hk ∈ sh.data.toList := Array.getElem_mem_toList (xs := sh.data) hk
      have hfin := H.out.fin
      rw [cmd_at _ sh k hk] at hfin
      have hc1 := cnt_at sh k hk 110
      have hc2 := cnt_at sh k hk 105
      rw [H.out.g1] at hc1
      rw [H.out.g2] at hc2
      have hit1 := turn_new wr w6.heap.size (.stringIter sh (k + 1)) _ H.out.it
      have hpr1 := H.out.pr.turn H.out.it (.stringIter sh (k + 1))
      have hbx1 : (turn wr w6.heap.size (.stringIter sh (k + 1))).heap[w.heap.size]? = some (cmO wd A1 N c1 A2 M c2 lo hi hl hh o nm A3 n3 c3 A4 n4 c4) := ((turn_kept wr w6.heap.size (.stringIter sh (k + 1))).2 _ (Array.getElem?_eq_some_iff.1 H.out.box).1 (fun e => hitk e)).trans H.out.box
      have hlow1 : Below w2.heap.size w2 (turn wr w6.heap.size (.stringIter sh (k + 1))) := turn_below H.out.low (by omega) _
      have hTl := HTL.out
      have hl1 : l1.length + 1 ≤ 140737488355328 := by
        have h := congrArg List.length hfin
        simp only [List.length_append, List.length_cons] at h
        omega
      have WB := Aside0.mk (show Calls Tryz.prog 50 #[self b, .int .u8 32] (turn wr w6.heap.size (.stringIter sh (k + 1))) fun e w' => e = .returned .nilIface ∧ IsPrn w2.heap.size b wordsV (l1 ++ [32]) w' ∧ Put w2.heap.size b (turn wr w6.heap.size (.stringIter sh (k + 1))) w' from WriteByte_calls w2.heap.size b wordsV hwl l1 32 _ hpr1 hl1 hlow1.size)
      have HIT1 := Aside0.mk hit1
      have HBX1 := Aside0.mk hbx1
      have HLW1 := Aside0.mk hlow1
      have hnx0 := fun ty => Pa.run_next_at (P := Tryz.prog) wr w6.heap.size sh k ty H.out.it hk
      clear hit1 hpr1 hbx1 hlow1 hl1
      rcases HLET.out.2 _ hmem with e | e | e | e | e
      · rw [e] at hfin hc1 hc2 hmem
        have hnx : ∀ ty, (Instr.next (.pointer (some ⟨w6.heap.size, 0, none⟩)) true ty).run Tryz.prog wr = .ok (.tuple #[.bool true, .int .i64 k, .int .i32 110]) (turn wr w6.heap.size (.stringIter sh (k + 1))) := fun ty => by
          have h := hnx0 ty (by rw [e]; decide)
          rw [e] at h
          exact h
        have HFIN := Aside0.mk hfin
        have HC1 := Aside0.mk hc1
        have HC2b := Aside0.mk hc2
        have HK := Aside0.mk hk
        have HMM := Aside0.mk hmem
        clear hnx0 e hfin hc1 hc2 hmem
        have h5 : 1 ≤ NS1.length := by have := HC1.out; simp at this; omega
        obtain ⟨ad, hA5, hx⟩ := str_at H.out.C1 0 h5
        subst hA5
        rw [show ad.add 0 = ad from Addr.add_zero' ad] at hx
        obtain ⟨s0, hs0⟩ : ∃ s0, s0 = NS1[0] := ⟨_, rfl⟩
        rw [← hs0] at hx
        have hhd : NS1.headD e8 = s0 := by rw [hs0]; cases NS1 with
          | nil => simp at h5
          | cons y ys => rfl
        have hadl := World.block_lt_of_cell? w2 _ hx
        have hcut := cutS (some ad) NS1.length c5 h5
        have hdr := dropS H.out.C1 h5 H.out.n1
        obtain ⟨A5n, hA5n⟩ : ∃ A5n, A5n = (if c5 = 1 then some ad else (some ad).map (·.add 1)) := ⟨_, rfl⟩
        rw [← hA5n] at hcut hdr
        have hlen5 : (NS1.drop 1).length = NS1.length - 1 := List.length_drop
        have hn5c : NS1.length - 1 ≤ c5 - 1 := by have := H.out.n1; omega
        have hcc1 : (sh.data.toList.drop (k + 1)).count 110 = (NS1.drop 1).length := by have := HC1.out; simp at this; omega
        have hcc2 : (sh.data.toList.drop (k + 1)).count 105 = ns1.length := by have := HC2b.out; simp at this; exact this.symm
        have hlb : (l1 ++ [32]).length + s0.size ≤ 140737488355328 := by
          have h := congrArg List.length HFIN.out
          simp only [List.length_append, List.length_cons, partL, if_true, hhd, Array.length_toList] at h
          have e1 : s0.data.size = s0.size := rfl
          simp only [List.length_append, List.length_singleton]
          omega
        rw [hlen5] at hdr
        have HDR := Aside0.mk hdr
        have HHD := Aside0.mk hhd
        have HL5 := Aside0.mk hlen5
        have HLB := Aside0.mk hlb
        have HG1n := Aside0.mk hcc1
        have HG2n := Aside0.mk hcc2
        have HX0 := Aside0.mk hx
        have HRN1 := Aside0.mk H.out.n2
        obtain ⟨n5, hn5⟩ : ∃ n5, n5 = NS1.length := ⟨_, rfl⟩
        rw [← hn5] at h5 hcut hn5c ⊢
        have HN5 := Aside0.mk hn5
        have i7 : 0 < n5 := h5
        have i8 : decide (0 < n5) = true := decide_eq_true i7
        have i5 : (0 : Int) < (n5 : Int) := by omega
        have i6 : decide ((0 : Int) < (n5 : Int)) = true := decide_eq_true i5
        clear hs0 hhd hA5n hdr hlen5 hcc1 hcc2 hlb hx hn5
        go_wp2_with fail
        (with_reducible refine WB.out.mono ?_)
        rintro e wa ⟨rfl, hpa, hputa⟩
        have HPA := Aside0.mk hpa
        have hita := hputa.iter HIT1.out hitb
        have hboxa := hputa.keeps HBX1.out hkb (by decide)
        have HITA := Aside0.mk hita
        have HBXA := Aside0.mk hboxa
        have HLWA := Aside0.mk (HLW1.out.trans hputa.low)
        clear hpa hputa WB hnx hita hboxa
        have had : wa.drew.cell? ad = some (.string s0) := (HLWA.out.drew.cell hadl).trans HX0.out
        have HPAD := Aside0.mk (show IsPrn w2.heap.size b wordsV (l1 ++ [32]) wa.drew from HPA.out.later (below_drew (Below.refl _ _)))
        have PAD := Aside0.mk (show Put w2.heap.size b wa wa.drew from (Put.refl w2.heap.size b wa).later HLWA.out.size (below_drew (Below.refl _ _)))
        have hBa : w2.heap.size ≤ wa.drew.heap.size := HLWA.out.size
        go_wp2_with fail
        refine start_ (n := 7) (S := fun w' => w'.cell? ad = some (.string s0)) (ds := []) #[false, false, false, false, false, false, false] (by kernel_rfl) rfl rfl (had) (fun hHeld => ?_)
        refine pure_ (i := 0) (N := some 48) (v := ?_) (a' := ?_) #[true, false, false, false, false, false, false] rfl rfl (by kernel_rfl) (fun _ _ _ h => h) (Or.inl ⟨by rfl, ?_⟩) ?_ ?_
        rotate_left
        · intro w'
          go_simp
          with_reducible rfl
        rotate_left
        · simp only [Act.put, List.setIfInBounds_toArray, List.set_cons_zero, List.set_cons_succ, i64_w, i32_w]
          rfl
        refine pure_ (i := 1) (N := some 49) (v := ?_) (a' := ?_) #[true, true, false, false, false, false, false] rfl rfl (by kernel_rfl) (fun _ _ _ h => h) (Or.inl ⟨by rfl, ?_⟩) ?_ ?_
        rotate_left
        · intro w'
          go_simp
          with_reducible rfl
        rotate_left
        · simp only [Act.put, List.setIfInBounds_toArray, List.set_cons_zero, List.set_cons_succ, i64_w, i32_w]
          rfl
        refine pure_ (i := 2) (N := some 50) (v := ?_) (a' := ?_) #[true, true, true, false, false, false, false] rfl rfl (by kernel_rfl) (fun _ _ _ h => h) (Or.inl ⟨by rfl, ?_⟩) ?_ ?_
        rotate_left
        · intro w'
          go_simp
          with_reducible rfl
        rotate_left
        · simp only [Act.put, List.setIfInBounds_toArray, List.set_cons_zero, List.set_cons_succ, i64_w, i32_w]
          rfl
        refine pure_ (i := 3) (N := some 51) (v := ?_) (a' := ?_) #[true, true, true, true, false, false, false] rfl rfl (by kernel_rfl) (fun _ _ _ h => h) (Or.inl ⟨by rfl, ?_⟩) ?_ ?_
        rotate_left
        · intro w'
          go_simp
          with_reducible rfl
        rotate_left
        · simp only [Act.put, List.setIfInBounds_toArray, List.set_cons_zero, List.set_cons_succ, i64_w, i32_w]
          rfl
        refine pure_ (i := 4) (N := some 52) (v := ?_) (a' := ?_) #[true, true, true, true, true, false, false] rfl rfl (by kernel_rfl) (fun _ _ _ h => h) (Or.inl ⟨by rfl, ?_⟩) ?_ ?_
        rotate_left
        · intro w'
          go_simp
          with_reducible rfl
        rotate_left
        · simp only [Act.put, List.setIfInBounds_toArray, List.set_cons_zero, List.set_cons_succ, i64_w, i32_w]
          rfl
        refine take_ (i := 5) (N := some 53) (v := ?_) (a' := ?_) #[true, true, true, true, true, true, false] rfl rfl (by kernel_rfl) (fun _ _ _ h => h) (Or.inl ⟨by rfl, ?_⟩) hHeld ?_ ?_
        rotate_left
        · intro w' s0
          go_simp
          with_reducible rfl
        rotate_left
        · simp only [Act.put, List.setIfInBounds_toArray, List.set_cons_zero, List.set_cons_succ, i64_w, i32_w]
          rfl
        refine one_ (i := 6) (N := some 54) #[true, true, true, true, true, true, true] rfl rfl (by kernel_rfl) (by decide) (fun K hK => ?_)
        refine goes_ Tryz.func48 (by kernel_rfl) rfl #[self b, .string s0] (by rfl) rfl rfl (by simp only [List.map_toArray, List.map_cons, List.map_nil]; rfl) ?_
        with_reducible refine ((WS (l1 ++ [32]) s0 _ HPAD.out HLB.out hBa).out).mono ?_
        rintro e wz ⟨rfl, hpz, hputz⟩
        refine ⟨_, rfl, ?_⟩
        have hcz := (hputz.low.cell hadl).trans had
        refine hK.out _ _ (hcz) (fun hHeld => ?_)
        clear hK K
        refine norm_ (a' := ?_) ?_ ?_
        rotate_left
        · show Act.put _ (some 54) _ = _
          simp only [Act.put, List.setIfInBounds_toArray, List.set_cons_zero, List.set_cons_succ, i64_w, i32_w]
          rfl
        refine done_ (by kernel_rfl) ?_
        have PZ := Aside0.mk (PAD.out.trans hputz)
        have HPZ := Aside0.mk hpz
        clear hHeld hpz hputz hcz
        have hitz := PZ.out.iter HITA.out hitb
        have hmea2 : wz.iterPos w6.heap.size = k + 1 := by simp only [World.iterPos, hitz]
        have HITZ := Aside0.mk hitz
        have HME2 := Aside0.mk hmea2
        have HBXZ := Aside0.mk (PZ.out.keeps HBXA.out hkb (by decide))
        clear hitz hmea2
        go_wp2_with fail
        go_roundw
        case rel =>
          refine ⟨k + 1, NS1.drop 1, ns1, A5n, c5 - 1, A6, c6, l1 ++ [32] ++ s0.data.toList, by rw [HL5.out, ← HN5.out], rfl, ?_⟩
          exact { k1 := HK.out, n1 := by rw [HL5.out, ← HN5.out]; exact hn5c, C1 := by rw [HL5.out]; exact HDR.out, n2 := H.out.n2, C2 := H.out.C2, g1 := HG1n.out, g2 := HG2n.out, ints := H.out.ints, pr := HPZ.out, fin := by rw [← HFIN.out]; have hh9 := HHD.out; simp at hh9; simp [partL, tailN, tailI, List.append_assoc, hh9], it := HITZ.out, box := HBXZ.out, low := HLWA.out.trans PZ.out.low }
        case measure => rw [HMEA.out, HME2.out]; have := HK.out; omega
      · rw [e] at hfin hc1 hc2 hmem
        have hnx : ∀ ty, (Instr.next (.pointer (some ⟨w6.heap.size, 0, none⟩)) true ty).run Tryz.prog wr = .ok (.tuple #[.bool true, .int .i64 k, .int .i32 105]) (turn wr w6.heap.size (.stringIter sh (k + 1))) := fun ty => by
          have h := hnx0 ty (by rw [e]; decide)
          rw [e] at h
          exact h
        have HFIN := Aside0.mk hfin
        have HC1 := Aside0.mk hc1
        have HC2b := Aside0.mk hc2
        have HK := Aside0.mk hk
        have HMM := Aside0.mk hmem
        clear hnx0 e hfin hc1 hc2 hmem
        have h5 : 1 ≤ ns1.length := by have := HC2b.out; simp at this; omega
        obtain ⟨ad, hA6, hx⟩ := num_at H.out.C2 0 h5
        subst hA6
        rw [show ad.add 0 = ad from Addr.add_zero' ad] at hx
        have hn0r := H.out.ints _ (List.getElem_mem h5)
        obtain ⟨n0, hn0⟩ : ∃ n0, n0 = ns1[0] := ⟨_, rfl⟩
        rw [← hn0] at hx hn0r
        have hhd : ns1.headD 0 = n0 := by rw [hn0]; cases ns1 with
          | nil => simp at h5
          | cons y ys => rfl
        have hadl := World.block_lt_of_cell? w2 _ hx
        have hcut := cutI (some ad) ns1.length c6 h5
        have hdr := dropI H.out.C2 h5 H.out.n2
        obtain ⟨A6n, hA6n⟩ : ∃ A6n, A6n = (if c6 = 1 then some ad else (some ad).map (·.add 1)) := ⟨_, rfl⟩
        rw [← hA6n] at hcut hdr
        have hlen5 : (ns1.drop 1).length = ns1.length - 1 := List.length_drop
        have hn5c : ns1.length - 1 ≤ c6 - 1 := by have := H.out.n2; omega
        have hcc1 : (sh.data.toList.drop (k + 1)).count 110 = NS1.length := by have := HC1.out; simp at this; exact this.symm
        have hcc2 : (sh.data.toList.drop (k + 1)).count 105 = (ns1.drop 1).length := by have := HC2b.out; simp at this; omega
        have hlb : (l1 ++ [32]).length + (Lib.itoa n0).length ≤ 140737488355328 := by
          have h := congrArg List.length HFIN.out
          simp [partL, hn0] at h
          have e0 : (Lib.itoa n0).length ≤ 21 := itoa_len n0 hn0r.1 hn0r.2
          simp only [List.length_append, List.length_singleton]
          omega
        have CN := fun W (hW : PCal W) => Aside0.mk (number_calls n0 hn0r.1 hn0r.2 W hW)
        obtain ⟨t0, ht0⟩ : ∃ t0 : ByteArray, t0 = ⟨(Lib.itoa n0).toArray⟩ := ⟨_, rfl⟩
        rw [← ht0] at CN
        have htl : t0.data.toList = Lib.itoa n0 := by rw [ht0]
        have hts : t0.size = (Lib.itoa n0).length := by rw [ht0]; exact List.size_toArray
        rw [← hts] at hlb
        rw [hlen5] at hdr
        have HDR := Aside0.mk hdr
        have HHD := Aside0.mk hhd
        have HL5 := Aside0.mk hlen5
        have HLB := Aside0.mk hlb
        have HTL0 := Aside0.mk htl
        have HG1n := Aside0.mk hcc1
        have HG2n := Aside0.mk hcc2
        have HX0 := Aside0.mk hx
        have HINT := Aside0.mk (show ∀ n ∈ ns1.drop 1, -9223372036854775808 ≤ n ∧ n ≤ 9223372036854775807 from fun n hn => H.out.ints n (List.mem_of_mem_drop hn))
        obtain ⟨n5, hn5⟩ : ∃ n5, n5 = ns1.length := ⟨_, rfl⟩
        rw [← hn5] at h5 hcut hn5c ⊢
        have HN5 := Aside0.mk hn5
        have i7 : 0 < n5 := h5
        have i8 : decide (0 < n5) = true := decide_eq_true i7
        have i5 : (0 : Int) < (n5 : Int) := by omega
        have i6 : decide ((0 : Int) < (n5 : Int)) = true := decide_eq_true i5
        clear hn0 hhd hA6n hdr hlen5 hcc1 hcc2 hlb hx hn5 ht0 htl hts hn0r
        go_wp2_with fail
        (with_reducible refine WB.out.mono ?_)
        rintro e wa ⟨rfl, hpa, hputa⟩
        have HPA := Aside0.mk hpa
        have hita := hputa.iter HIT1.out hitb
        have hboxa := hputa.keeps HBX1.out hkb (by decide)
        have HITA := Aside0.mk hita
        have HBXA := Aside0.mk hboxa
        have HLWA := Aside0.mk (HLW1.out.trans hputa.low)
        clear hpa hputa WB hnx hita hboxa
        have had : wa.drew.cell? ad = some (.int .i64 n0) := (HLWA.out.drew.cell hadl).trans HX0.out
        have HPAD := Aside0.mk (show IsPrn w2.heap.size b wordsV (l1 ++ [32]) wa.drew from HPA.out.later (below_drew (Below.refl _ _)))
        have PAD := Aside0.mk (show Put w2.heap.size b wa wa.drew from (Put.refl w2.heap.size b wa).later HLWA.out.size (below_drew (Below.refl _ _)))
        have hBa : w2.heap.size ≤ wa.drew.heap.size := HLWA.out.size
        have HCA := Aside0.mk (show PCal wa.drew from HC2.out.l HLWA.out.drew)
        go_wp2_with fail
        refine start_ (n := 8) (S := fun w' => w'.cell? ad = some (.int .i64 n0)) (ds := []) #[false, false, false, false, false, false, false, false] (by kernel_rfl) rfl rfl (had) (fun hHeld => ?_)
        refine pure_ (i := 0) (N := some 59) (v := ?_) (a' := ?_) #[true, false, false, false, false, false, false, false] rfl rfl (by kernel_rfl) (fun _ _ _ h => h) (Or.inl ⟨by rfl, ?_⟩) ?_ ?_
        rotate_left
        · intro w'
          go_simp
          with_reducible rfl
        rotate_left
        · simp only [Act.put, List.setIfInBounds_toArray, List.set_cons_zero, List.set_cons_succ, i64_w, i32_w]
          rfl
        refine pure_ (i := 1) (N := some 60) (v := ?_) (a' := ?_) #[true, true, false, false, false, false, false, false] rfl rfl (by kernel_rfl) (fun _ _ _ h => h) (Or.inl ⟨by rfl, ?_⟩) ?_ ?_
        rotate_left
        · intro w'
          go_simp
          with_reducible rfl
        rotate_left
        · simp only [Act.put, List.setIfInBounds_toArray, List.set_cons_zero, List.set_cons_succ, i64_w, i32_w]
          rfl
        refine pure_ (i := 2) (N := some 61) (v := ?_) (a' := ?_) #[true, true, true, false, false, false, false, false] rfl rfl (by kernel_rfl) (fun _ _ _ h => h) (Or.inl ⟨by rfl, ?_⟩) ?_ ?_
        rotate_left
        · intro w'
          go_simp
          with_reducible rfl
        rotate_left
        · simp only [Act.put, List.setIfInBounds_toArray, List.set_cons_zero, List.set_cons_succ, i64_w, i32_w]
          rfl
        refine pure_ (i := 3) (N := some 62) (v := ?_) (a' := ?_) #[true, true, true, true, false, false, false, false] rfl rfl (by kernel_rfl) (fun _ _ _ h => h) (Or.inl ⟨by rfl, ?_⟩) ?_ ?_
        rotate_left
        · intro w'
          go_simp
          with_reducible rfl
        rotate_left
        · simp only [Act.put, List.setIfInBounds_toArray, List.set_cons_zero, List.set_cons_succ, i64_w, i32_w]
          rfl
        refine pure_ (i := 4) (N := some 63) (v := ?_) (a' := ?_) #[true, true, true, true, true, false, false, false] rfl rfl (by kernel_rfl) (fun _ _ _ h => h) (Or.inl ⟨by rfl, ?_⟩) ?_ ?_
        rotate_left
        · intro w'
          go_simp
          with_reducible rfl
        rotate_left
        · simp only [Act.put, List.setIfInBounds_toArray, List.set_cons_zero, List.set_cons_succ, i64_w, i32_w]
          rfl
        refine take_ (i := 5) (N := some 64) (v := ?_) (a' := ?_) #[true, true, true, true, true, true, false, false] rfl rfl (by kernel_rfl) (fun _ _ _ h => h) (Or.inl ⟨by rfl, ?_⟩) hHeld ?_ ?_
        rotate_left
        · intro w' s0
          go_simp
          with_reducible rfl
        rotate_left
        · simp only [Act.put, List.setIfInBounds_toArray, List.set_cons_zero, List.set_cons_succ, i64_w, i32_w]
          rfl
        refine one_ (i := 6) (N := some 65) #[true, true, true, true, true, true, true, false] rfl rfl (by kernel_rfl) (by decide) (fun K hK => ?_)
        refine goes_ Tryz.func51 (by kernel_rfl) rfl #[.int .i64 n0] (by rfl) rfl rfl (by simp only [List.map_toArray, List.map_cons, List.map_nil]; rfl) ?_
        with_reducible refine ((CN _ HCA.out).out).mono ?_
        rintro e wb ⟨rfl, hbb1⟩
        refine ⟨_, rfl, ?_⟩
        have hcb := (hbb1.cell (World.block_lt_of_cell? _ _ had)).trans had
        have HPB1 := Aside0.mk (HPAD.out.later hbb1)
        have PNB := Aside0.mk (PAD.out.later hBa hbb1)
        have hBb := Nat.le_trans hBa hbb1.size
        refine hK.out _ _ (hcb) (fun hHeld => ?_)
        clear hK K
        refine norm_ (a' := ?_) ?_ ?_
        rotate_left
        · show Act.put _ (some 65) _ = _
          simp only [Act.put, List.setIfInBounds_toArray, List.set_cons_zero, List.set_cons_succ, i64_w, i32_w]
          rfl
        refine one_ (i := 7) (N := some 66) #[true, true, true, true, true, true, true, true] rfl rfl (by kernel_rfl) (by decide) (fun K hK => ?_)
        refine goes_ Tryz.func48 (by kernel_rfl) rfl #[self b, .string t0] (by rfl) rfl rfl (by simp only [List.map_toArray, List.map_cons, List.map_nil]; rfl) ?_
        with_reducible refine ((WS (l1 ++ [32]) t0 _ HPB1.out HLB.out hBb).out).mono ?_
        rintro e wz ⟨rfl, hpz, hputz⟩
        refine ⟨_, rfl, ?_⟩
        have hcz := (hputz.low.cell hadl).trans hcb
        refine hK.out _ _ (hcz) (fun hHeld => ?_)
        clear hK K
        refine norm_ (a' := ?_) ?_ ?_
        rotate_left
        · show Act.put _ (some 66) _ = _
          simp only [Act.put, List.setIfInBounds_toArray, List.set_cons_zero, List.set_cons_succ, i64_w, i32_w]
          rfl
        refine done_ (by kernel_rfl) ?_
        have PZ := Aside0.mk (PNB.out.trans hputz)
        have HPZ := Aside0.mk (show IsPrn w2.heap.size b wordsV (l1 ++ [32] ++ Lib.itoa n0) wz by rw [← HTL0.out]; exact hpz)
        clear hHeld hpz hputz hcz
        have hitz := PZ.out.iter HITA.out hitb
        have hmea2 : wz.iterPos w6.heap.size = k + 1 := by simp only [World.iterPos, hitz]
        have HITZ := Aside0.mk hitz
        have HME2 := Aside0.mk hmea2
        have HBXZ := Aside0.mk (PZ.out.keeps HBXA.out hkb (by decide))
        clear hitz hmea2
        go_wp2_with fail
        go_roundw
        case rel =>
          refine ⟨k + 1, NS1, ns1.drop 1, A5, c5, A6n, c6 - 1, l1 ++ [32] ++ Lib.itoa n0, rfl, by rw [HL5.out, ← HN5.out], ?_⟩
          exact { k1 := HK.out, n1 := H.out.n1, C1 := H.out.C1, n2 := by rw [HL5.out, ← HN5.out]; exact hn5c, C2 := by rw [HL5.out]; exact HDR.out, g1 := HG1n.out, g2 := HG2n.out, ints := HINT.out, pr := HPZ.out, fin := by rw [← HFIN.out]; have hh9 := HHD.out; simp at hh9; simp [partL, tailN, tailI, List.append_assoc, hh9], it := HITZ.out, box := HBXZ.out, low := HLWA.out.trans PZ.out.low }
        case measure => rw [HMEA.out, HME2.out]; have := HK.out; omega
      · rw [e] at hfin hc1 hc2 hmem
        have hnx : ∀ ty, (Instr.next (.pointer (some ⟨w6.heap.size, 0, none⟩)) true ty).run Tryz.prog wr = .ok (.tuple #[.bool true, .int .i64 k, .int .i32 101]) (turn wr w6.heap.size (.stringIter sh (k + 1))) := fun ty => by
          have h := hnx0 ty (by rw [e]; decide)
          rw [e] at h
          exact h
        have HFIN := Aside0.mk hfin
        have HC1 := Aside0.mk hc1
        have HC2b := Aside0.mk hc2
        have HK := Aside0.mk hk
        have HMM := Aside0.mk hmem
        clear hnx0 e hfin hc1 hc2 hmem
        have hRx := HXR.out HMM.out
        obtain ⟨hAx, hcx⟩ := right_all hRx
        have hlb : (l1 ++ [32]).length + (lineB x).length ≤ 140737488355000 := by
          have h := congrArg List.length HFIN.out
          simp [partL] at h
          simp only [List.length_append, List.length_singleton]
          omega
        have CE := fun W (h2 : Below w2.heap.size w2 W) (h3 : IsPrn w2.heap.size b wordsV (l1 ++ [32]) W) => Aside0.mk (expr_calls w2 HC2.out b (cnt x) x (Nat.le_refl _) hAx A3 c3 A4 c4 (l1 ++ [32]) W HX2.out.has h2 h3 hlb)
        rw [HEX.out] at CE
        have HSM1 := Aside0.mk (show (sh.data.toList.drop (k + 1)).count 110 = NS1.length by have := HC1.out; simp at this; exact this.symm)
        have HSM2 := Aside0.mk (show (sh.data.toList.drop (k + 1)).count 105 = ns1.length by have := HC2b.out; simp at this; exact this.symm)
        clear hRx hAx hcx hlb
        go_wp2_with fail
        (with_reducible refine WB.out.mono ?_)
        rintro e wa ⟨rfl, hpa, hputa⟩
        have HPA := Aside0.mk hpa
        have hita := hputa.iter HIT1.out hitb
        have hboxa := hputa.keeps HBX1.out hkb (by decide)
        have HITA := Aside0.mk hita
        have HBXA := Aside0.mk hboxa
        have HLWA := Aside0.mk (HLW1.out.trans hputa.low)
        clear hpa hputa WB hnx hita hboxa
        have q7 : wa.cell? ⟨w.heap.size, 7, none⟩ = some (.int .u8 o) := (blk_cell HBXA.out 7).trans rfl
        have q8 : wa.cell? ⟨w.heap.size, 8, none⟩ = some (.string nm) := (blk_cell HBXA.out 8).trans rfl
        have q9 : wa.cell? ⟨w.heap.size, 9, none⟩ = some (.slice A3 n3 c3) := (blk_cell HBXA.out 9).trans rfl
        have q10 : wa.cell? ⟨w.heap.size, 10, none⟩ = some (.slice A4 n4 c4) := (blk_cell HBXA.out 10).trans rfl
        have CEa := Aside0.mk (CE wa HLWA.out HPA.out).out
        go_wp2_with fail
        (with_reducible refine CEa.out.mono ?_)
        rintro e wz ⟨rfl, hpz, hputz⟩
        have PZ := Aside0.mk hputz
        have HPZ := Aside0.mk hpz
        clear hpz hputz CE CEa q7 q8 q9 q10
        have hitz := PZ.out.iter HITA.out hitb
        have hmea2 : wz.iterPos w6.heap.size = k + 1 := by simp only [World.iterPos, hitz]
        have HITZ := Aside0.mk hitz
        have HME2 := Aside0.mk hmea2
        have HBXZ := Aside0.mk (PZ.out.keeps HBXA.out hkb (by decide))
        clear hitz hmea2
        go_wp2_with fail
        go_roundw
        case rel =>
          refine ⟨k + 1, NS1, ns1, A5, c5, A6, c6, l1 ++ [32] ++ lineB x, rfl, rfl, ?_⟩
          exact { k1 := HK.out, n1 := H.out.n1, C1 := H.out.C1, n2 := H.out.n2, C2 := H.out.C2, g1 := HSM1.out, g2 := HSM2.out, ints := H.out.ints, pr := HPZ.out, fin := by rw [← HFIN.out]; simp [partL, tailN, tailI, List.append_assoc], it := HITZ.out, box := HBXZ.out, low := HLWA.out.trans PZ.out.low }
        case measure => rw [HMEA.out, HME2.out]; have := HK.out; omega
      · rw [e] at hfin hc1 hc2 hmem
        have hnx : ∀ ty, (Instr.next (.pointer (some ⟨w6.heap.size, 0, none⟩)) true ty).run Tryz.prog wr = .ok (.tuple #[.bool true, .int .i64 k, .int .i32 114]) (turn wr w6.heap.size (.stringIter sh (k + 1))) := fun ty => by
          have h := hnx0 ty (by rw [e]; decide)
          rw [e] at h
          exact h
        have HFIN := Aside0.mk hfin
        have HC1 := Aside0.mk hc1
        have HC2b := Aside0.mk hc2
        have HK := Aside0.mk hk
        have HMM := Aside0.mk hmem
        clear hnx0 e hfin hc1 hc2 hmem
        have hloR := HX2.out.lo64
        have hhiR := HX2.out.hi64
        have CL := fun W (hW : PCal W) => Aside0.mk (end_calls lo hl hloR.1 hloR.2 W hW)
        have CH := fun W (hW : PCal W) => Aside0.mk (end_calls hi hh hhiR.1 hhiR.2 W hW)
        have hel : (endL lo hl).length ≤ 21 := by unfold endL; split; exact itoa_len lo hloR.1 hloR.2; exact Nat.zero_le _
        have heh : (endL hi hh).length ≤ 21 := by unfold endL; split; exact itoa_len hi hhiR.1 hhiR.2; exact Nat.zero_le _
        obtain ⟨t1, ht1⟩ : ∃ t1 : ByteArray, t1 = ⟨(endL lo hl).toArray⟩ := ⟨_, rfl⟩
        obtain ⟨t2, ht2⟩ : ∃ t2 : ByteArray, t2 = ⟨(endL hi hh).toArray⟩ := ⟨_, rfl⟩
        rw [← ht1] at CL
        rw [← ht2] at CH
        have hd1 : t1.data.toList = endL lo hl := by rw [ht1]
        have hd2 : t2.data.toList = endL hi hh := by rw [ht2]
        have hz1 : t1.size ≤ 21 := by rw [ht1]; exact (show (endL lo hl).toArray.size ≤ 21 by rw [List.size_toArray]; exact hel)
        have hz2 : t2.size ≤ 21 := by rw [ht2]; exact (show (endL hi hh).toArray.size ≤ 21 by rw [List.size_toArray]; exact heh)
        have hlb : l1.length + 1 + 200 ≤ 140737488355328 := by
          have h := congrArg List.length HFIN.out
          simp at h
          omega
        obtain ⟨RT, hRT⟩ : ∃ RT : ByteArray, RT = (⟨#[91]⟩ : ByteArray) ++ t1 ++ ⟨#[58]⟩ ++ t2 ++ ⟨#[93]⟩ := ⟨_, rfl⟩
        have hRd : RT.data.toList = rngL ⟨wd, NS, ns, lo, hi, hl, hh, x⟩ := by
          rw [hRT]
          unfold rngL
          simp [hd1, hd2]
        have hRz : (l1 ++ [32]).length + RT.size ≤ 140737488355328 := by
          rw [hRT]
          simp only [ByteArray.size_append, List.length_append, List.length_singleton]
          have e1 : (⟨#[91]⟩ : ByteArray).size = 1 := rfl
          have e2 : (⟨#[58]⟩ : ByteArray).size = 1 := rfl
          have e3 : (⟨#[93]⟩ : ByteArray).size = 1 := rfl
          omega
        have k1 : (9223372036854775807 < 1 + t1.size) = False := eq_false (by omega)
        have k2 : (9223372036854775807 < 1 + t1.size + 1) = False := eq_false (by omega)
        have k3 : (9223372036854775807 < 1 + t1.size + 1 + t2.size) = False := eq_false (by omega)
        have k4 : (9223372036854775807 < 1 + t1.size + 1 + t2.size + 1) = False := eq_false (by omega)
        have m1 : ¬ (9223372036854775807 < 1 + t1.size) := by omega
        have m2 : ¬ (9223372036854775807 < 1 + t1.size + 1) := by omega
        have m3 : ¬ (9223372036854775807 < 1 + t1.size + 1 + t2.size) := by omega
        have m4 : ¬ (9223372036854775807 < 1 + t1.size + 1 + t2.size + 1) := by omega
        have HRT := Aside0.mk hRT
        have HRD := Aside0.mk hRd
        have HRZ := Aside0.mk hRz
        have HSM1 := Aside0.mk (show (sh.data.toList.drop (k + 1)).count 110 = NS1.length by have := HC1.out; simp at this; exact this.symm)
        have HSM2 := Aside0.mk (show (sh.data.toList.drop (k + 1)).count 105 = ns1.length by have := HC2b.out; simp at this; exact this.symm)
        clear hloR hhiR hel heh ht1 ht2 hd1 hd2 hlb hRT hRd hRz hz1 hz2
        go_wp2_with fail
        (with_reducible refine WB.out.mono ?_)
        rintro e wa ⟨rfl, hpa, hputa⟩
        have HPA := Aside0.mk hpa
        have hita := hputa.iter HIT1.out hitb
        have hboxa := hputa.keeps HBX1.out hkb (by decide)
        have HITA := Aside0.mk hita
        have HBXA := Aside0.mk hboxa
        have HLWA := Aside0.mk (HLW1.out.trans hputa.low)
        clear hpa hputa WB hnx hita hboxa
        have hbd : wa.drew.heap[w.heap.size]? = some (cmO wd A1 N c1 A2 M c2 lo hi hl hh o nm A3 n3 c3 A4 n4 c4) := HBXA.out
        have HPAD := Aside0.mk (show IsPrn w2.heap.size b wordsV (l1 ++ [32]) wa.drew from HPA.out.later (below_drew (Below.refl _ _)))
        have PAD := Aside0.mk (show Put w2.heap.size b wa wa.drew from (Put.refl w2.heap.size b wa).later HLWA.out.size (below_drew (Below.refl _ _)))
        have hBa : w2.heap.size ≤ wa.drew.heap.size := HLWA.out.size
        have HCA := Aside0.mk (show PCal wa.drew from HC2.out.l HLWA.out.drew)
        go_wp2_with fail
        refine start_ (n := 22) (S := fun w' => w'.cell? ⟨w.heap.size, 3, none⟩ = some (.int .i64 lo) ∧ w'.cell? ⟨w.heap.size, 4, none⟩ = some (.int .i64 hi) ∧ w'.cell? ⟨w.heap.size, 5, none⟩ = some (.bool hl) ∧ w'.cell? ⟨w.heap.size, 6, none⟩ = some (.bool hh)) (ds := []) #[false, false, false, false, false, false, false, false, false, false, false, false, false, false, false, false, false, false, false, false, false, false] (by kernel_rfl) rfl rfl ⟨(blk_cell hbd 3).trans rfl, (blk_cell hbd 4).trans rfl, (blk_cell hbd 5).trans rfl, (blk_cell hbd 6).trans rfl⟩ (fun hHeld => ?_)
        refine pure_ (i := 0) (N := some 77) (v := ?_) (a' := ?_) #[true, false, false, false, false, false, false, false, false, false, false, false, false, false, false, false, false, false, false, false, false, false] rfl rfl (by kernel_rfl) (fun _ _ _ h => h) (Or.inl ⟨by rfl, ?_⟩) ?_ ?_
        rotate_left
        · intro w'
          go_simp
          with_reducible rfl
        rotate_left
        · simp only [Act.put, List.setIfInBounds_toArray, List.set_cons_zero, List.set_cons_succ, i64_w, i32_w]
          rfl
        refine pure_ (i := 1) (N := some 78) (v := ?_) (a' := ?_) #[true, true, false, false, false, false, false, false, false, false, false, false, false, false, false, false, false, false, false, false, false, false] rfl rfl (by kernel_rfl) (fun _ _ _ h => h) (Or.inl ⟨by rfl, ?_⟩) ?_ ?_
        rotate_left
        · intro w'
          go_simp
          with_reducible rfl
        rotate_left
        · simp only [Act.put, List.setIfInBounds_toArray, List.set_cons_zero, List.set_cons_succ, i64_w, i32_w]
          rfl
        refine pure_ (i := 2) (N := some 79) (v := ?_) (a' := ?_) #[true, true, true, false, false, false, false, false, false, false, false, false, false, false, false, false, false, false, false, false, false, false] rfl rfl (by kernel_rfl) (fun _ _ _ h => h) (Or.inl ⟨by rfl, ?_⟩) ?_ ?_
        rotate_left
        · intro w'
          go_simp
          with_reducible rfl
        rotate_left
        · simp only [Act.put, List.setIfInBounds_toArray, List.set_cons_zero, List.set_cons_succ, i64_w, i32_w]
          rfl
        refine pure_ (i := 3) (N := some 80) (v := ?_) (a' := ?_) #[true, true, true, true, false, false, false, false, false, false, false, false, false, false, false, false, false, false, false, false, false, false] rfl rfl (by kernel_rfl) (fun _ _ _ h => h) (Or.inl ⟨by rfl, ?_⟩) ?_ ?_
        rotate_left
        · intro w'
          go_simp
          with_reducible rfl
        rotate_left
        · simp only [Act.put, List.setIfInBounds_toArray, List.set_cons_zero, List.set_cons_succ, i64_w, i32_w]
          rfl
        refine pure_ (i := 4) (N := some 81) (v := ?_) (a' := ?_) #[true, true, true, true, true, false, false, false, false, false, false, false, false, false, false, false, false, false, false, false, false, false] rfl rfl (by kernel_rfl) (fun _ _ _ h => h) (Or.inl ⟨by rfl, ?_⟩) ?_ ?_
        rotate_left
        · intro w'
          go_simp
          with_reducible rfl
        rotate_left
        · simp only [Act.put, List.setIfInBounds_toArray, List.set_cons_zero, List.set_cons_succ, i64_w, i32_w]
          rfl
        refine pure_ (i := 6) (N := some 83) (v := ?_) (a' := ?_) #[true, true, true, true, true, false, true, false, false, false, false, false, false, false, false, false, false, false, false, false, false, false] rfl rfl (by kernel_rfl) (fun _ _ _ h => h) (Or.inl ⟨by rfl, ?_⟩) ?_ ?_
        rotate_left
        · intro w'
          go_simp
          with_reducible rfl
        rotate_left
        · simp only [Act.put, List.setIfInBounds_toArray, List.set_cons_zero, List.set_cons_succ, i64_w, i32_w]
          rfl
        refine pure_ (i := 7) (N := some 84) (v := ?_) (a' := ?_) #[true, true, true, true, true, false, true, true, false, false, false, false, false, false, false, false, false, false, false, false, false, false] rfl rfl (by kernel_rfl) (fun _ _ _ h => h) (Or.inl ⟨by rfl, ?_⟩) ?_ ?_
        rotate_left
        · intro w'
          go_simp
          with_reducible rfl
        rotate_left
        · simp only [Act.put, List.setIfInBounds_toArray, List.set_cons_zero, List.set_cons_succ, i64_w, i32_w]
          rfl
        refine pure_ (i := 12) (N := some 89) (v := ?_) (a' := ?_) #[true, true, true, true, true, false, true, true, false, false, false, false, true, false, false, false, false, false, false, false, false, false] rfl rfl (by kernel_rfl) (fun _ _ _ h => h) (Or.inl ⟨by rfl, ?_⟩) ?_ ?_
        rotate_left
        · intro w'
          go_simp
          with_reducible rfl
        rotate_left
        · simp only [Act.put, List.setIfInBounds_toArray, List.set_cons_zero, List.set_cons_succ, i64_w, i32_w]
          rfl
        refine pure_ (i := 13) (N := some 90) (v := ?_) (a' := ?_) #[true, true, true, true, true, false, true, true, false, false, false, false, true, true, false, false, false, false, false, false, false, false] rfl rfl (by kernel_rfl) (fun _ _ _ h => h) (Or.inl ⟨by rfl, ?_⟩) ?_ ?_
        rotate_left
        · intro w'
          go_simp
          with_reducible rfl
        rotate_left
        · simp only [Act.put, List.setIfInBounds_toArray, List.set_cons_zero, List.set_cons_succ, i64_w, i32_w]
          rfl
        refine pure_ (i := 15) (N := some 92) (v := ?_) (a' := ?_) #[true, true, true, true, true, false, true, true, false, false, false, false, true, true, false, true, false, false, false, false, false, false] rfl rfl (by kernel_rfl) (fun _ _ _ h => h) (Or.inl ⟨by rfl, ?_⟩) ?_ ?_
        rotate_left
        · intro w'
          go_simp
          with_reducible rfl
        rotate_left
        · simp only [Act.put, List.setIfInBounds_toArray, List.set_cons_zero, List.set_cons_succ, i64_w, i32_w]
          rfl
        refine pure_ (i := 16) (N := some 93) (v := ?_) (a' := ?_) #[true, true, true, true, true, false, true, true, false, false, false, false, true, true, false, true, true, false, false, false, false, false] rfl rfl (by kernel_rfl) (fun _ _ _ h => h) (Or.inl ⟨by rfl, ?_⟩) ?_ ?_
        rotate_left
        · intro w'
          go_simp
          with_reducible rfl
        rotate_left
        · simp only [Act.put, List.setIfInBounds_toArray, List.set_cons_zero, List.set_cons_succ, i64_w, i32_w]
          rfl
        refine take_ (i := 5) (N := some 82) (v := ?_) (a' := ?_) #[true, true, true, true, true, true, true, true, false, false, false, false, true, true, false, true, true, false, false, false, false, false] rfl rfl (by kernel_rfl) (fun _ _ _ h => h) (Or.inl ⟨by rfl, ?_⟩) hHeld ?_ ?_
        rotate_left
        · rintro w' ⟨s0, s1, s2, s3⟩
          go_simp
          with_reducible rfl
        rotate_left
        · simp only [Act.put, List.setIfInBounds_toArray, List.set_cons_zero, List.set_cons_succ, i64_w, i32_w]
          rfl
        refine take_ (i := 8) (N := some 85) (v := ?_) (a' := ?_) #[true, true, true, true, true, true, true, true, true, false, false, false, true, true, false, true, true, false, false, false, false, false] rfl rfl (by kernel_rfl) (fun _ _ _ h => h) (Or.inl ⟨by rfl, ?_⟩) hHeld ?_ ?_
        rotate_left
        · rintro w' ⟨s0, s1, s2, s3⟩
          go_simp
          with_reducible rfl
        rotate_left
        · simp only [Act.put, List.setIfInBounds_toArray, List.set_cons_zero, List.set_cons_succ, i64_w, i32_w]
          rfl
        refine take_ (i := 14) (N := some 91) (v := ?_) (a' := ?_) #[true, true, true, true, true, true, true, true, true, false, false, false, true, true, true, true, true, false, false, false, false, false] rfl rfl (by kernel_rfl) (fun _ _ _ h => h) (Or.inl ⟨by rfl, ?_⟩) hHeld ?_ ?_
        rotate_left
        · rintro w' ⟨s0, s1, s2, s3⟩
          go_simp
          with_reducible rfl
        rotate_left
        · simp only [Act.put, List.setIfInBounds_toArray, List.set_cons_zero, List.set_cons_succ, i64_w, i32_w]
          rfl
        refine take_ (i := 17) (N := some 94) (v := ?_) (a' := ?_) #[true, true, true, true, true, true, true, true, true, false, false, false, true, true, true, true, true, true, false, false, false, false] rfl rfl (by kernel_rfl) (fun _ _ _ h => h) (Or.inl ⟨by rfl, ?_⟩) hHeld ?_ ?_
        rotate_left
        · rintro w' ⟨s0, s1, s2, s3⟩
          go_simp
          with_reducible rfl
        rotate_left
        · simp only [Act.put, List.setIfInBounds_toArray, List.set_cons_zero, List.set_cons_succ, i64_w, i32_w]
          rfl
        refine one_ (i := 9) (N := some 86) #[true, true, true, true, true, true, true, true, true, true, false, false, true, true, true, true, true, true, false, false, false, false] rfl rfl (by kernel_rfl) (by decide) (fun K hK => ?_)
        refine goes_ Tryz.func52 (by kernel_rfl) rfl #[.int .i64 lo, .bool hl] (by rfl) rfl rfl (by simp only [List.map_toArray, List.map_cons, List.map_nil]; rfl) ?_
        with_reducible refine ((CL _ HCA.out).out).mono ?_
        rintro e wb ⟨rfl, hbb1⟩
        refine ⟨_, rfl, ?_⟩
        have hbe := blk_below hbd hbb1
        have HPB1 := Aside0.mk (HPAD.out.later hbb1)
        have PNB := Aside0.mk (PAD.out.later hBa hbb1)
        have hBb := Nat.le_trans hBa hbb1.size
        have HCB := Aside0.mk (HCA.out.l hbb1)
        refine hK.out _ _ ⟨(blk_cell hbe 3).trans rfl, (blk_cell hbe 4).trans rfl, (blk_cell hbe 5).trans rfl, (blk_cell hbe 6).trans rfl⟩ (fun hHeld => ?_)
        clear hK K
        refine norm_ (a' := ?_) ?_ ?_
        rotate_left
        · show Act.put _ (some 86) _ = _
          simp only [Act.put, List.setIfInBounds_toArray, List.set_cons_zero, List.set_cons_succ, i64_w, i32_w]
          rfl
        refine pure_ (i := 10) (N := some 87) (v := ?_) (a' := ?_) #[true, true, true, true, true, true, true, true, true, true, true, false, true, true, true, true, true, true, false, false, false, false] rfl rfl (by kernel_rfl) (fun _ _ _ h => h) (Or.inl ⟨by rfl, ?_⟩) ?_ ?_
        rotate_left
        · intro w'
          go_simp
          with_reducible rfl
        rotate_left
        · simp only [Act.put, List.setIfInBounds_toArray, List.set_cons_zero, List.set_cons_succ, i64_w, i32_w]
          rfl
        refine pure_ (i := 11) (N := some 88) (v := ?_) (a' := ?_) #[true, true, true, true, true, true, true, true, true, true, true, true, true, true, true, true, true, true, false, false, false, false] rfl rfl (by kernel_rfl) (fun _ _ _ h => h) (Or.inl ⟨by rfl, ?_⟩) ?_ ?_
        rotate_left
        · intro w'
          go_simp
          with_reducible rfl
        rotate_left
        · simp only [Act.put, List.setIfInBounds_toArray, List.set_cons_zero, List.set_cons_succ, i64_w, i32_w]
          rfl
        refine one_ (i := 18) (N := some 95) #[true, true, true, true, true, true, true, true, true, true, true, true, true, true, true, true, true, true, true, false, false, false] rfl rfl (by kernel_rfl) (by decide) (fun K hK => ?_)
        refine goes_ Tryz.func52 (by kernel_rfl) rfl #[.int .i64 hi, .bool hh] (by rfl) rfl rfl (by simp only [List.map_toArray, List.map_cons, List.map_nil]; rfl) ?_
        with_reducible refine ((CH _ HCB.out).out).mono ?_
        rintro e wc ⟨rfl, hbc1⟩
        refine ⟨_, rfl, ?_⟩
        have hbf := blk_below hbe hbc1
        have HPC1 := Aside0.mk (HPB1.out.later hbc1)
        have PNC := Aside0.mk (PNB.out.later hBb hbc1)
        have hBc := Nat.le_trans hBb hbc1.size
        refine hK.out _ _ ⟨(blk_cell hbf 3).trans rfl, (blk_cell hbf 4).trans rfl, (blk_cell hbf 5).trans rfl, (blk_cell hbf 6).trans rfl⟩ (fun hHeld => ?_)
        clear hK K
        refine norm_ (a' := ?_) ?_ ?_
        rotate_left
        · show Act.put _ (some 95) _ = _
          simp only [Act.put, List.setIfInBounds_toArray, List.set_cons_zero, List.set_cons_succ, i64_w, i32_w]
          rfl
        refine pure_ (i := 19) (N := some 96) (v := ?_) (a' := ?_) #[true, true, true, true, true, true, true, true, true, true, true, true, true, true, true, true, true, true, true, true, false, false] rfl rfl (by kernel_rfl) (fun _ _ _ h => h) (Or.inl ⟨by rfl, ?_⟩) ?_ ?_
        rotate_left
        · intro w'
          go_simp
          with_reducible rfl
        rotate_left
        · simp only [Act.put, List.setIfInBounds_toArray, List.set_cons_zero, List.set_cons_succ, i64_w, i32_w]
          rfl
        refine pure_ (i := 20) (N := some 97) (v := ?_) (a' := ?_) #[true, true, true, true, true, true, true, true, true, true, true, true, true, true, true, true, true, true, true, true, true, false] rfl rfl (by kernel_rfl) (fun _ _ _ h => h) (Or.inl ⟨by rfl, ?_⟩) ?_ ?_
        rotate_left
        · intro w'
          go_simp
          with_reducible rfl
        rotate_left
        · simp only [Act.put, List.setIfInBounds_toArray, List.set_cons_zero, List.set_cons_succ, i64_w, i32_w]
          rfl
        refine one_ (i := 21) (N := some 98) #[true, true, true, true, true, true, true, true, true, true, true, true, true, true, true, true, true, true, true, true, true, true] rfl rfl (by kernel_rfl) (by decide) (fun K hK => ?_)
        refine goes_ Tryz.func48 (by kernel_rfl) rfl #[self b, .string ((⟨#[91]⟩ : ByteArray) ++ t1 ++ ⟨#[58]⟩ ++ t2 ++ ⟨#[93]⟩)] (by rfl) rfl rfl (by simp only [List.map_toArray, List.map_cons, List.map_nil]; rfl) ?_
        with_reducible refine ((show _ from HRT.out ▸ (WS (l1 ++ [32]) RT _ HPC1.out HRZ.out hBc).out)).mono ?_
        rintro e wz ⟨rfl, hpz, hputz⟩
        refine ⟨_, rfl, ?_⟩
        have hbg := hputz.keeps hbf hkb (by decide)
        refine hK.out _ _ ⟨(blk_cell hbg 3).trans rfl, (blk_cell hbg 4).trans rfl, (blk_cell hbg 5).trans rfl, (blk_cell hbg 6).trans rfl⟩ (fun hHeld => ?_)
        clear hK K
        refine norm_ (a' := ?_) ?_ ?_
        rotate_left
        · show Act.put _ (some 98) _ = _
          simp only [Act.put, List.setIfInBounds_toArray, List.set_cons_zero, List.set_cons_succ, i64_w, i32_w]
          rfl
        refine done_ (by kernel_rfl) ?_
        have PZ := Aside0.mk (PNC.out.trans hputz)
        have HPZ := Aside0.mk (show IsPrn w2.heap.size b wordsV (l1 ++ [32] ++ rngL ⟨wd, NS, ns, lo, hi, hl, hh, x⟩) wz by rw [← HRD.out, HRT.out]; exact hpz)
        clear hHeld hpz hputz
        have hitz := PZ.out.iter HITA.out hitb
        have hmea2 : wz.iterPos w6.heap.size = k + 1 := by simp only [World.iterPos, hitz]
        have HITZ := Aside0.mk hitz
        have HME2 := Aside0.mk hmea2
        have HBXZ := Aside0.mk (PZ.out.keeps HBXA.out hkb (by decide))
        clear hitz hmea2
        go_wp2_with fail
        go_roundw
        case rel =>
          refine ⟨k + 1, NS1, ns1, A5, c5, A6, c6, l1 ++ [32] ++ rngL ⟨wd, NS, ns, lo, hi, hl, hh, x⟩, rfl, rfl, ?_⟩
          exact { k1 := HK.out, n1 := H.out.n1, C1 := H.out.C1, n2 := H.out.n2, C2 := H.out.C2, g1 := HSM1.out, g2 := HSM2.out, ints := H.out.ints, pr := HPZ.out, fin := by rw [← HFIN.out]; simp [partL, tailN, tailI, List.append_assoc], it := HITZ.out, box := HBXZ.out, low := HLWA.out.trans PZ.out.low }
        case measure => rw [HMEA.out, HME2.out]; have := HK.out; omega
      · rw [e] at hfin hc1 hc2 hmem
        have hnx : ∀ ty, (Instr.next (.pointer (some ⟨w6.heap.size, 0, none⟩)) true ty).run Tryz.prog wr = .ok (.tuple #[.bool true, .int .i64 k, .int .i32 61]) (turn wr w6.heap.size (.stringIter sh (k + 1))) := fun ty => by
          have h := hnx0 ty (by rw [e]; decide)
          rw [e] at h
          exact h
        have HFIN := Aside0.mk hfin
        have HC1 := Aside0.mk hc1
        have HC2b := Aside0.mk hc2
        have HK := Aside0.mk hk
        have HMM := Aside0.mk hmem
        clear hnx0 e hfin hc1 hc2 hmem
        have hlb : (l1 ++ [32]).length + 4 ≤ 140737488355328 := by
          have h := congrArg List.length HFIN.out
          simp at h
          simp only [List.length_append, List.length_singleton]
          omega
        have WR := fun W (h3 : IsPrn w2.heap.size b wordsV (l1 ++ [32]) W) (hB : w2.heap.size ≤ W.heap.size) => Aside0.mk (show Calls Tryz.prog 53 #[self b, .int .i32 61] W fun e w' => (∃ v, e = .returned v) ∧ IsPrn w2.heap.size b wordsV (l1 ++ [32] ++ [61]) w' ∧ Put w2.heap.size b W w' from WriteRune_calls w2.heap.size b wordsV hwl (l1 ++ [32]) 61 (by decide) W h3 hlb hB)
        have HSM1 := Aside0.mk (show (sh.data.toList.drop (k + 1)).count 110 = NS1.length by have := HC1.out; simp at this; exact this.symm)
        have HSM2 := Aside0.mk (show (sh.data.toList.drop (k + 1)).count 105 = ns1.length by have := HC2b.out; simp at this; exact this.symm)
        clear hlb
        go_wp2_with fail
        (with_reducible refine WB.out.mono ?_)
        rintro e wa ⟨rfl, hpa, hputa⟩
        have HPA := Aside0.mk hpa
        have hita := hputa.iter HIT1.out hitb
        have hboxa := hputa.keeps HBX1.out hkb (by decide)
        have HITA := Aside0.mk hita
        have HBXA := Aside0.mk hboxa
        have HLWA := Aside0.mk (HLW1.out.trans hputa.low)
        clear hpa hputa WB hnx hita hboxa
        have WRa := Aside0.mk (WR wa HPA.out HLWA.out.size).out
        go_wp2_with fail
        (with_reducible refine WRa.out.mono ?_)
        rintro e wz ⟨⟨v0, rfl⟩, hpz, hputz⟩
        have PZ := Aside0.mk hputz
        have HPZ := Aside0.mk hpz
        clear hpz hputz WR WRa
        have hitz := PZ.out.iter HITA.out hitb
        have hmea2 : wz.iterPos w6.heap.size = k + 1 := by simp only [World.iterPos, hitz]
        have HITZ := Aside0.mk hitz
        have HME2 := Aside0.mk hmea2
        have HBXZ := Aside0.mk (PZ.out.keeps HBXA.out hkb (by decide))
        clear hitz hmea2
        go_wp2_with fail
        go_roundw
        case rel =>
          refine ⟨k + 1, NS1, ns1, A5, c5, A6, c6, l1 ++ [32] ++ [61], rfl, rfl, ?_⟩
          exact { k1 := HK.out, n1 := H.out.n1, C1 := H.out.C1, n2 := H.out.n2, C2 := H.out.C2, g1 := HSM1.out, g2 := HSM2.out, ints := H.out.ints, pr := HPZ.out, fin := by rw [← HFIN.out]; simp [partL, tailN, tailI, List.append_assoc], it := HITZ.out, box := HBXZ.out, low := HLWA.out.trans PZ.out.low }
        case measure => rw [HMEA.out, HME2.out]; have := HK.out; omega
    · have hks : k = sh.size := by have := H.out.k1; omega
      have hnx := fun ty => Pa.run_next_stop (P := Tryz.prog) wr w6.heap.size sh k ty H.out.it hk
      have hfin := H.out.fin
      rw [show sh.data.toList.drop k = [] from List.drop_of_length_le (by rw [Array.length_toList, hks]; exact Nat.le_refl _)] at hfin
      have hlt : l1 = T := by rw [← hfin]; simp [cmdL]
      have HST := Aside0.mk (String_calls w2.heap.size b wordsV T wr (hlt ▸ H.out.pr) hTne)
      have HLW := Aside0.mk H.out.low
      clear hks hfin hlt H
      go_wp2_with fail
      (with_reducible refine HST.out.mono ?_)
      rintro e wz ⟨rfl, hbz⟩
      have HF := Aside0.mk (below_then HB2.out HB2.out.size (HLW.out.trans hbz))
      go_wp2
      go_ret2
      exact ⟨rfl, HF.out⟩
end Go.Proofs.YtcinojbfjiohjaaGreatDoor.Pr
end

section
namespace Go.Proofs.YtcinojbfjiohjaaGreatDoor.Pr
open Go Go.RowKit Go.Proofs.YtcinojbfjiohjaaGreatDoor.PPrintTells Go.Proofs.YtcinojbfjiohjaaGreatDoor.Ex Go.Proofs.YtcinojbfjiohjaaGreatDoorW.PrintWords Go.Proofs.YtcinojbfjiohjaaGreatDoorW.PrintLast Go.Proofs.YtcinojbfjiohjaaGreatDoorW.PrintMore
open Go.Proofs.YtcinojbfjiohjaaGreatDoor.Pa (opsL shapeF)
set_option linter.unusedVariables false
set_option linter.unusedSimpArgs false
set_option maxHeartbeats 1000000 in
theorem Made_calls (o : Int) (A2 : Option Addr) (n2 c2 : Nat) (A3 : Option Addr) (n3 c3 : Nat) (w : World) :
    Calls Tryz.prog 35 #[.int .u8 o, .slice A2 n2 c2, .slice A3 n3 c3] w fun e w' => e = .returned (.agg #[.int .u8 o, .string e8, .slice A2 n2 c2, .slice A3 n3 c3]) ∧ Below w.heap.size w w' := by
  go_enter Tryz.func35, Tryz.ntmps35
  go_wp2
  exact bodyPost_ret (v := .agg #[.int .u8 o, .string e8, .slice A2 n2 c2, .slice A3 n3 c3]) (by simp [results, Tryz.results35, go_sem]) rfl ⟨rfl, by repeat (first | exact Below.refl _ _ | refine below_alloc ?_ _)⟩
set_option maxHeartbeats 1000000 in
theorem Named_calls (s : ByteArray) (w : World) :
    Calls Tryz.prog 36 #[.string s] w fun e w' => e = .returned (.agg #[.int .u8 0, .string s, .slice none 0 0, .slice none 0 0]) ∧ Below w.heap.size w w' := by
  go_enter Tryz.func36, Tryz.ntmps36
  go_wp2
  exact bodyPost_ret (v := .agg #[.int .u8 0, .string s, .slice none 0 0, .slice none 0 0]) (by simp [results, Tryz.results36, go_sem]) rfl ⟨rfl, by repeat (first | exact Below.refl _ _ | refine below_alloc ?_ _)⟩
theorem C_one {w : World} {b : Nat} {x : X} {A2 : Option Addr} {c2 : Nat} {A3 : Option Addr} {c3 : Nat} (h : Has w x A2 c2 A3 c3)
    (q0 : w.cell? ⟨b, 0, none⟩ = some (.int .u8 x.f0)) (q1 : w.cell? ⟨b, 1, none⟩ = some (.string x.f1)) (q2 : w.cell? ⟨b, 2, none⟩ = some (.slice A2 x.f2.length c2)) (q3 : w.cell? ⟨b, 3, none⟩ = some (.slice A3 x.f3.length c3)) :
    kX.C w (some ⟨b, 0, none⟩) 1 [x] := by
  refine ⟨rfl, by decide, fun _ => ⟨⟨b, 0, none⟩, rfl, ?_⟩⟩
  intro j p hj
  match j, hj with
  | 0, hj =>
    obtain rfl : x = p := by simpa using hj
    refine ⟨[.int .u8 x.f0, .string x.f1, .slice A2 x.f2.length c2, .slice A3 x.f3.length c3], rfl, k25_mk w x h.l2 h.C2 h.l3 h.C3, ?_⟩
    intro i u hu
    match i, hu with
    | 0, hu => cases hu; simpa [Addr.add] using q0
    | 1, hu => cases hu; simpa [Addr.add] using q1
    | 2, hu => cases hu; simpa [Addr.add] using q2
    | 3, hu => cases hu; simpa [Addr.add] using q3
theorem CI_one {w : World} {b : Nat} {n : Int} (q : w.cell? ⟨b, 0, none⟩ = some (.int .i64 n)) : kI.C w (some ⟨b, 0, none⟩) 1 [n] := by
  refine ⟨rfl, by decide, fun _ => ⟨⟨b, 0, none⟩, rfl, ?_⟩⟩
  intro j p hj
  match j, hj with
  | 0, hj =>
    obtain rfl : n = p := by simpa using hj
    refine ⟨[.int .i64 n], rfl, rfl, ?_⟩
    intro i u hu
    match i, hu with
    | 0, hu => cases hu; simpa [Addr.add] using q
theorem CS_one {w : World} {b : Nat} {t : ByteArray} (q : w.cell? ⟨b, 0, none⟩ = some (.string t)) : kS.C w (some ⟨b, 0, none⟩) 1 [t] := by
  refine ⟨rfl, by decide, fun _ => ⟨⟨b, 0, none⟩, rfl, ?_⟩⟩
  intro j p hj
  match j, hj with
  | 0, hj =>
    obtain rfl : t = p := by simpa using hj
    refine ⟨[.string t], rfl, rfl, ?_⟩
    intro i u hu
    match i, hu with
    | 0, hu => cases hu; simpa [Addr.add] using q
theorem CS_three {w : World} {b : Nat} {s t u : ByteArray} (q0 : w.cell? ⟨b, 0, none⟩ = some (.string s)) (q1 : w.cell? ⟨b, 1, none⟩ = some (.string t)) (q2 : w.cell? ⟨b, 2, none⟩ = some (.string u)) : kS.C w (some ⟨b, 0, none⟩) 3 [s, t, u] := by
  refine ⟨rfl, by decide, fun _ => ⟨⟨b, 0, none⟩, rfl, ?_⟩⟩
  intro j p hj
  match j, hj with
  | 0, hj =>
    obtain rfl : s = p := by simpa using hj
    refine ⟨[.string s], rfl, rfl, ?_⟩
    intro i v hu
    match i, hu with
    | 0, hu => cases hu; simpa [Addr.add] using q0
  | 1, hj =>
    obtain rfl : t = p := by simpa using hj
    refine ⟨[.string t], rfl, rfl, ?_⟩
    intro i v hu
    match i, hu with
    | 0, hu => cases hu; simpa [Addr.add, show kS.sz = 1 from rfl] using q1
  | 2, hj =>
    obtain rfl : u = p := by simpa using hj
    refine ⟨[.string u], rfl, rfl, ?_⟩
    intro i v hu
    match i, hu with
    | 0, hu => cases hu; simpa [Addr.add, show kS.sz = 1 from rfl] using q2
abbrev DAY : ByteArray := ⟨#[100, 97, 121]⟩
abbrev zX : X := ⟨0, e8, [], []⟩
abbrev tDay : X := ⟨0, DAY, [], []⟩
abbrev tThree : X := ⟨1, e8, [3], [tDay]⟩
abbrev BOU : ByteArray := ⟨#[98, 111, 117, 110, 100]⟩
abbrev DEF : ByteArray := ⟨#[100, 101, 102, 105, 110, 101]⟩
abbrev NET : ByteArray := ⟨#[110, 101, 116]⟩
abbrev SHO : ByteArray := ⟨#[115, 104, 111, 119]⟩
abbrev cBou : Cmd := ⟨BOU, [⟨#[120]⟩, ⟨#[121]⟩, DAY], [], 1, 0, true, false, zX⟩
abbrev cDef : Cmd := ⟨DEF, [⟨#[97]⟩], [], 0, 0, false, false, tThree⟩
abbrev cNet : Cmd := ⟨NET, [], [], 0, 0, false, false, zX⟩
abbrev cSho : Cmd := ⟨SHO, [], [], 0, 0, false, false, zX⟩
theorem ex0 : lineE tThree = (⟨#[103, 114, 111, 117, 112, 40, 51, 44, 32, 100, 97, 121, 41]⟩, 0) := by kernel_rfl
theorem ex1 : lineCE cBou = (⟨#[98, 111, 117, 110, 100, 32, 120, 32, 121, 32, 100, 97, 121, 32, 91, 49, 58, 93]⟩, 0) := by kernel_rfl
theorem ex2 : lineCE cDef = (⟨#[100, 101, 102, 105, 110, 101, 32, 97, 32, 61, 32, 103, 114, 111, 117, 112, 40, 51, 44, 32, 100, 97, 121, 41]⟩, 0) := by kernel_rfl
theorem ex3 : lineCE cNet = (⟨#[110, 101, 116]⟩, 0) := by kernel_rfl
theorem ex4 : lineCE cSho = (e8, 110) := by kernel_rfl
theorem le1 : (lineC cBou).length ≤ 140737488355000 := by decide +kernel
theorem le2 : (lineC cDef).length ≤ 140737488355000 := by decide +kernel
theorem le3 : (lineC cNet).length ≤ 140737488355000 := by decide +kernel
theorem le4 : (lineC cSho).length ≤ 140737488355000 := by decide +kernel
theorem wf_z : Wf zX := by rw [Wf_eq]; exact ⟨⟨by decide, by decide⟩, by decide, by simp, by rw [WfL]; trivial⟩
theorem wf_day : Wf tDay := by rw [Wf_eq]; exact ⟨⟨by decide, by decide⟩, by decide, by simp, by rw [WfL]; trivial⟩
theorem wf_three : Wf tThree := by
  rw [Wf_eq]
  exact ⟨⟨by decide, by decide⟩, by decide, by simp, WfL_of (fun y hy => by rw [List.mem_singleton] at hy; subst hy; exact wf_day)⟩
theorem has_z (w : World) : Has w zX none 0 none 0 := ⟨wf_z, Nat.le_refl _, Kd.C_nil _ _, Nat.le_refl _, Kd.C_nil _ _⟩
theorem has_day (w : World) : Has w tDay none 0 none 0 := ⟨wf_day, Nat.le_refl _, Kd.C_nil _ _, Nat.le_refl _, Kd.C_nil _ _⟩
theorem cnt_three : cnt tThree ≤ 1099511627776 := by decide +kernel
theorem cnt_z : cnt zX ≤ 1099511627776 := by decide +kernel
theorem z64 : -9223372036854775808 ≤ (0 : Int) ∧ (0 : Int) ≤ 9223372036854775807 := by decide
theorem hasC_plain (w : World) (s : ByteArray) : HasC w ⟨s, [], [], 0, 0, false, false, zX⟩ none 0 none 0 none 0 none 0 :=
  { n1 := Nat.le_refl _, C1 := Kd.C_nil _ _, n2 := Nat.le_refl _, C2 := Kd.C_nil _ _, has := has_z w, szs := by simp, ints := by simp, lo64 := z64, hi64 := z64 }
abbrev dayO : Obj := .cells #[.int .u8 0, .string DAY, .slice none 0 0, .slice none 0 0] 25
set_option maxHeartbeats 16000000 in
set_option maxRecDepth 100000 in
theorem awake_calls (w : World) (hC : PCal w) : Calls Tryz.prog 11 #[] w fun e w' => e = .returned (.bool true) ∧ Below w.heap.size w w' := by
  have HC := Aside0.mk hC
  have hi0 : (w.alloc (.cells #[.int .i64 3] 2)).heap[w.heap.size]? = some (.cells #[.int .i64 3] 2) := blk_new w _
  have HB0 := Aside0.mk (show Below w.heap.size w (w.alloc (.cells #[.int .i64 3] 2)) from below_alloc (Below.refl _ _) _)
  clear hC
  go_enter Tryz.func11, Tryz.ntmps11
  go_wp2_with fail
  (with_reducible refine (Named_calls _ _).mono ?_)
  rintro e w1 ⟨rfl, b1⟩
  have HB1 := Aside0.mk (below_then HB0.out HB0.out.size b1)
  have hi1 := blk_below hi0 b1
  clear b1 hi0
  have hd2 : (w1.alloc dayO).heap[w1.heap.size]? = some dayO := blk_new w1 _
  have hi2 : (w1.alloc dayO).heap[w.heap.size]? = some (.cells #[.int .i64 3] 2) := blk_alloc hi1 _
  have HB2 := Aside0.mk (below_alloc HB1.out dayO)
  go_wp2_with fail
  (with_reducible refine (Made_calls _ _ _ _ _ _ _ _).mono ?_)
  rintro e w3 ⟨rfl, b3⟩
  have HB3 := Aside0.mk (below_then HB2.out HB2.out.size b3)
  have hd3 := blk_below hd2 b3
  have hi3 := blk_below hi2 b3
  have H3 := Aside0.mk (show Has w3 tThree (some ⟨w.heap.size, 0, none⟩) 1 (some ⟨w1.heap.size, 0, none⟩) 1 from
    ⟨wf_three, Nat.le_refl 1, CI_one ((blk_cell hi3 0).trans rfl), Nat.le_refl 1, C_one (x := tDay) (has_day w3) ((blk_cell hd3 0).trans rfl) ((blk_cell hd3 1).trans rfl) ((blk_cell hd3 2).trans rfl) ((blk_cell hd3 3).trans rfl)⟩)
  clear b3 hd2 hi2 hd3 hi3 hi1
  have hal : Below w3.heap.size w3 (w3.alloc (.cells #[.int .u8 1, .string e8, .slice (some ⟨w.heap.size, 0, none⟩) 1 1, .slice (some ⟨w1.heap.size, 0, none⟩) 1 1] 25)) := below_alloc (Below.refl _ _) _
  have hb3 : (w3.alloc (.cells #[.int .u8 1, .string e8, .slice (some ⟨w.heap.size, 0, none⟩) 1 1, .slice (some ⟨w1.heap.size, 0, none⟩) 1 1] 25)).heap[w3.heap.size]? = some (.cells #[.int .u8 1, .string e8, .slice (some ⟨w.heap.size, 0, none⟩) 1 1, .slice (some ⟨w1.heap.size, 0, none⟩) 1 1] 25) := blk_new w3 _
  have HB4 := Aside0.mk (below_then HB3.out HB3.out.size hal)
  have H4 := Aside0.mk (H3.out.below hal)
  have CE := Aside0.mk (show Calls Tryz.prog 12 #[.agg #[.int .u8 1, .string e8, .slice (some ⟨w.heap.size, 0, none⟩) 1 1, .slice (some ⟨w1.heap.size, 0, none⟩) 1 1]] (w3.alloc (.cells #[.int .u8 1, .string e8, .slice (some ⟨w.heap.size, 0, none⟩) 1 1, .slice (some ⟨w1.heap.size, 0, none⟩) 1 1] 25)) fun e w' => e = .returned (.tuple #[.string ⟨#[103, 114, 111, 117, 112, 40, 51, 44, 32, 100, 97, 121, 41]⟩, .int .i64 0]) ∧ Below (w3.alloc (.cells #[.int .u8 1, .string e8, .slice (some ⟨w.heap.size, 0, none⟩) 1 1, .slice (some ⟨w1.heap.size, 0, none⟩) 1 1] 25)).heap.size (w3.alloc (.cells #[.int .u8 1, .string e8, .slice (some ⟨w.heap.size, 0, none⟩) 1 1, .slice (some ⟨w1.heap.size, 0, none⟩) 1 1] 25)) w' from by
    have h := Expr_calls tThree _ 1 _ 1 (w3.alloc (.cells #[.int .u8 1, .string e8, .slice (some ⟨w.heap.size, 0, none⟩) 1 1, .slice (some ⟨w1.heap.size, 0, none⟩) 1 1] 25)) (HC.out.l HB4.out) H4.out cnt_three
    rw [ex0] at h
    exact h)
  clear H3 hal
  go_wp2_with fail
  (with_reducible refine CE.out.mono ?_)
  rintro e w5 ⟨rfl, b5⟩
  have HB5 := Aside0.mk (below_then HB4.out HB4.out.size b5)
  have H5 := Aside0.mk (H4.out.below b5)
  have hb5 := blk_below hb3 b5
  clear b5 CE H4 hb3
  have hn6 : (w5.alloc (.cells #[.string ⟨#[120]⟩, .string ⟨#[121]⟩, .string DAY] 9)).heap[w5.heap.size]? = some (.cells #[.string ⟨#[120]⟩, .string ⟨#[121]⟩, .string DAY] 9) := blk_new w5 _
  have hal : Below w5.heap.size w5 (w5.alloc (.cells #[.string ⟨#[120]⟩, .string ⟨#[121]⟩, .string DAY] 9)) := below_alloc (Below.refl _ _) _
  have HB6 := Aside0.mk (below_then HB5.out HB5.out.size hal)
  have H6 := Aside0.mk (H5.out.below hal)
  have hb6 := blk_below hb5 hal
  have CB := Aside0.mk (show Calls Tryz.prog 17 #[.agg #[.string BOU, .slice (some ⟨w5.heap.size, 0, none⟩) 3 3, .slice none 0 0, .int .i64 1, .int .i64 0, .bool true, .bool false, .int .u8 0, .string e8, .slice none 0 0, .slice none 0 0]] (w5.alloc (.cells #[.string ⟨#[120]⟩, .string ⟨#[121]⟩, .string DAY] 9)) fun e w' => e = .returned (.tuple #[.string ⟨#[98, 111, 117, 110, 100, 32, 120, 32, 121, 32, 100, 97, 121, 32, 91, 49, 58, 93]⟩, .int .i64 0]) ∧ Below (w5.alloc (.cells #[.string ⟨#[120]⟩, .string ⟨#[121]⟩, .string DAY] 9)).heap.size (w5.alloc (.cells #[.string ⟨#[120]⟩, .string ⟨#[121]⟩, .string DAY] 9)) w' from by
    have hh : HasC (w5.alloc (.cells #[.string ⟨#[120]⟩, .string ⟨#[121]⟩, .string DAY] 9)) cBou (some ⟨w5.heap.size, 0, none⟩) 3 none 0 none 0 none 0 :=
      { n1 := Nat.le_refl _, C1 := CS_three ((blk_cell hn6 0).trans rfl) ((blk_cell hn6 1).trans rfl) ((blk_cell hn6 2).trans rfl), n2 := Nat.le_refl _, C2 := Kd.C_nil _ _, has := has_z _, szs := by decide, ints := by simp, lo64 := (show -9223372036854775808 ≤ (1 : Int) ∧ (1 : Int) ≤ 9223372036854775807 by decide), hi64 := z64 }
    have h := Command_calls cBou _ 3 _ 0 _ 0 _ 0 _ (HC.out.l HB6.out) hh cnt_z (by decide) (by decide) (fun _ => le1)
    rw [ex1] at h
    exact h)
  clear hn6 hal hb5 H5
  go_wp2_with fail
  (with_reducible refine CB.out.mono ?_)
  rintro e w7 ⟨rfl, b7⟩
  have HB7 := Aside0.mk (below_then HB6.out HB6.out.size b7)
  have H7 := Aside0.mk (H6.out.below b7)
  have hb7 := blk_below hb6 b7
  clear b7 CB H6 hb6
  have hn8 : (w7.alloc (.cells #[.string ⟨#[97]⟩] 9)).heap[w7.heap.size]? = some (.cells #[.string ⟨#[97]⟩] 9) := blk_new w7 _
  have hal : Below w7.heap.size w7 (w7.alloc (.cells #[.string ⟨#[97]⟩] 9)) := below_alloc (Below.refl _ _) _
  have HB8 := Aside0.mk (below_then HB7.out HB7.out.size hal)
  have H8 := Aside0.mk (H7.out.below hal)
  have hb8 := blk_below hb7 hal
  obtain ⟨z0, z1, z2, z3⟩ := cells4 hb8
  obtain ⟨y0, y1, y2, y3⟩ := cells4 hb7
  have CD := Aside0.mk (show Calls Tryz.prog 17 #[.agg #[.string DEF, .slice (some ⟨w7.heap.size, 0, none⟩) 1 1, .slice none 0 0, .int .i64 0, .int .i64 0, .bool false, .bool false, .int .u8 1, .string e8, .slice (some ⟨w.heap.size, 0, none⟩) 1 1, .slice (some ⟨w1.heap.size, 0, none⟩) 1 1]] (w7.alloc (.cells #[.string ⟨#[97]⟩] 9)) fun e w' => e = .returned (.tuple #[.string ⟨#[100, 101, 102, 105, 110, 101, 32, 97, 32, 61, 32, 103, 114, 111, 117, 112, 40, 51, 44, 32, 100, 97, 121, 41]⟩, .int .i64 0]) ∧ Below (w7.alloc (.cells #[.string ⟨#[97]⟩] 9)).heap.size (w7.alloc (.cells #[.string ⟨#[97]⟩] 9)) w' from by
    have hh : HasC (w7.alloc (.cells #[.string ⟨#[97]⟩] 9)) cDef (some ⟨w7.heap.size, 0, none⟩) 1 none 0 (some ⟨w.heap.size, 0, none⟩) 1 (some ⟨w1.heap.size, 0, none⟩) 1 :=
      { n1 := Nat.le_refl _, C1 := CS_one ((blk_cell hn8 0).trans rfl), n2 := Nat.le_refl _, C2 := Kd.C_nil _ _, has := H8.out, szs := by decide, ints := by simp, lo64 := z64, hi64 := z64 }
    have h := Command_calls cDef _ 1 _ 0 _ 1 _ 1 _ (HC.out.l HB8.out) hh cnt_three (by decide) (by decide) (fun _ => le2)
    rw [ex2] at h
    exact h)
  clear hn8 hal hb8 H7 H8
  go_wp2_with fail
  (with_reducible refine CD.out.mono ?_)
  rintro e w9 ⟨rfl, b9⟩
  have HB9 := Aside0.mk (below_then HB8.out HB8.out.size b9)
  have CN := Aside0.mk (show Calls Tryz.prog 17 #[.agg #[.string NET, .slice none 0 0, .slice none 0 0, .int .i64 0, .int .i64 0, .bool false, .bool false, .int .u8 0, .string e8, .slice none 0 0, .slice none 0 0]] w9 fun e w' => e = .returned (.tuple #[.string ⟨#[110, 101, 116]⟩, .int .i64 0]) ∧ Below w9.heap.size w9 w' from by
    have h := Command_calls cNet _ 0 _ 0 _ 0 _ 0 w9 (HC.out.l HB9.out) (hasC_plain w9 NET) cnt_z (by decide) (by decide) (fun _ => le3)
    rw [ex3] at h
    exact h)
  clear b9 CD z0 z1 z2 z3 y0 y1 y2 y3 hb7
  go_wp2_with fail
  (with_reducible refine CN.out.mono ?_)
  rintro e w10 ⟨rfl, b10⟩
  have HB10 := Aside0.mk (below_then HB9.out HB9.out.size b10)
  have CS := Aside0.mk (show Calls Tryz.prog 17 #[.agg #[.string SHO, .slice none 0 0, .slice none 0 0, .int .i64 0, .int .i64 0, .bool false, .bool false, .int .u8 0, .string e8, .slice none 0 0, .slice none 0 0]] w10 fun e w' => e = .returned (.tuple #[.string e8, .int .i64 110]) ∧ Below w10.heap.size w10 w' from by
    have h := Command_calls cSho _ 0 _ 0 _ 0 _ 0 w10 (HC.out.l HB10.out) (hasC_plain w10 SHO) cnt_z (by decide) (by decide) (fun _ => le4)
    rw [ex4] at h
    exact h)
  clear b10 CN
  go_wp2_with fail
  (with_reducible refine CS.out.mono ?_)
  rintro e w11 ⟨rfl, b11⟩
  have HF := Aside0.mk (below_then HB10.out HB10.out.size b11)
  clear b11 CS
  go_wp2
  go_ret
  exact ⟨rfl, HF.out⟩
end Go.Proofs.YtcinojbfjiohjaaGreatDoor.Pr
end

section
namespace Go.Proofs.YtcinojbfjiohjaaGreatDoor.Civ
open Go Go.RowKit Go.Proofs.YtcinojbfjiohjaaGreatDoor.PPrintTells Go.Proofs.YtcinojbfjiohjaaGreatDoorW.PrintWords Go.Proofs.YtcinojbfjiohjaaGreatDoorW.PrintLast Go.Proofs.YtcinojbfjiohjaaGreatDoorW.PrintMore
set_option linter.unusedVariables false
set_option linter.unusedSimpArgs false
end Go.Proofs.YtcinojbfjiohjaaGreatDoor.Civ
end

section
namespace Go.Proofs.YtcinojbfjiohjaaGreatDoor.Civ
open Go Go.RowKit Go.Proofs.YtcinojbfjiohjaaGreatDoor.PPrintTells Go.Proofs.YtcinojbfjiohjaaGreatDoorW.PrintWords Go.Proofs.YtcinojbfjiohjaaGreatDoorW.PrintLast Go.Proofs.YtcinojbfjiohjaaGreatDoorW.PrintMore Go.Proofs.YtcinojbfjiohjaaGreatDoor.Ex
set_option linter.unusedVariables false
set_option linter.unusedSimpArgs false
end Go.Proofs.YtcinojbfjiohjaaGreatDoor.Civ
end

section
namespace Go.Proofs.YtcinojbfjiohjaaGreatDoor.PPrintTells
open Go.RowKit Go.Proofs.YtcinojbfjiohjaaGreatDoorW.PrintWords Go.Proofs.YtcinojbfjiohjaaGreatDoorW.PrintLast Go.Proofs.YtcinojbfjiohjaaGreatDoorW.PrintMore
attribute [local go_sem] max2_int min2_int max_two min_two max_three min_three max_four min_four   -- for this text's walks alone
set_option linter.unusedVariables false
set_option linter.unusedSimpArgs false
end Go.Proofs.YtcinojbfjiohjaaGreatDoor.PPrintTells
end

section
namespace Go.Proofs.YtcinojbfjiohjaaGreatDoor.Civ
open Go Go.RowKit Go.Proofs.YtcinojbfjiohjaaGreatDoor.PPrintTells Go.Proofs.YtcinojbfjiohjaaGreatDoorW.PrintWords Go.Proofs.YtcinojbfjiohjaaGreatDoorW.PrintLast Go.Proofs.YtcinojbfjiohjaaGreatDoorW.PrintMore Go.Proofs.YtcinojbfjiohjaaGreatDoor.Ex
set_option linter.unusedVariables false
set_option linter.unusedSimpArgs false
end Go.Proofs.YtcinojbfjiohjaaGreatDoor.Civ
end

section
namespace Go.Proofs.YtcinojbfjiohjaaGreatDoor.PPrintTells
open Go.RowKit Go.Proofs.YtcinojbfjiohjaaGreatDoorW.PrintWords Go.Proofs.YtcinojbfjiohjaaGreatDoorW.PrintLast Go.Proofs.YtcinojbfjiohjaaGreatDoorW.PrintMore
attribute [local go_sem] max2_int min2_int max_two min_two max_three min_three max_four min_four   -- for this text's walks alone
set_option linter.unusedVariables false
set_option linter.unusedSimpArgs false
end Go.Proofs.YtcinojbfjiohjaaGreatDoor.PPrintTells
end

section
namespace Go.Proofs.YtcinojbfjiohjaaGreatDoor.Lx
open Go Go.RowKit Go.Proofs.YtcinojbfjiohjaaGreatDoor.PPrintTells Go.Proofs.YtcinojbfjiohjaaGreatDoor.Ex Go.Proofs.YtcinojbfjiohjaaGreatDoor.Civ Go.Proofs.YtcinojbfjiohjaaGreatDoorW.PrintWords Go.Proofs.YtcinojbfjiohjaaGreatDoorW.PrintLast Go.Proofs.YtcinojbfjiohjaaGreatDoorW.PrintMore
set_option linter.unusedVariables false
set_option linter.unusedSimpArgs false
end Go.Proofs.YtcinojbfjiohjaaGreatDoor.Lx
end

section
namespace Go.Proofs.YtcinojbfjiohjaaGreatDoor.Lx
open Go Go.RowKit Go.Proofs.YtcinojbfjiohjaaGreatDoor.PPrintTells Go.Proofs.YtcinojbfjiohjaaGreatDoor.Ex Go.Proofs.YtcinojbfjiohjaaGreatDoor.Civ
set_option linter.unusedVariables false
set_option linter.unusedSimpArgs false
theorem span_self (p : UInt8 → Bool) (l : List UInt8) : spanN p (l.take (spanN p l)) = spanN p l := span_cut p l _ (Nat.le_refl _)
theorem toB_size (l : List UInt8) : (toB l).size = l.length := by
  show l.toArray.size = _
  rw [List.size_toArray]
theorem z_64 : (-9223372036854775808 : Int) ≤ 0 ∧ (0 : Int) ≤ 9223372036854775807 := by decide
theorem in_64 {n : Int} (hn : In n) : -9223372036854775808 ≤ n ∧ n ≤ 9223372036854775807 := by
  unfold In at hn
  omega
theorem next_right {b : UInt8} {l : List UInt8} (h : (nextL (b :: l)).2.2 = true) (hs : l.length < 9223372036854775807) : rightT (nextL (b :: l)).1 = true ∧ TokW (nextL (b :: l)).1 := by
  by_cases hm : markB b = true
  · have hn : nextL (b :: l) = (⟨4, toB [b], 0⟩, 1, true) := by show (if markB b = true then _ else _) = _; rw [if_pos hm]
    rw [hn]
    refine ⟨?_, ⟨z_64.1, z_64.2, by rw [toB_size, List.length_singleton]; omega⟩⟩
    show (decide ((0 : Int) = 0) && decide ((toB [b]).size = 1) && (toB [b]).data.toList.all markB) = true
    rw [toB_size, toB_list, List.all_cons, hm]
    rfl
  · rw [nextL_else hm] at h ⊢
    by_cases h64 : b.toNat = 64
    · rw [if_pos h64] at h ⊢
      dsimp only at h ⊢
      obtain ⟨T, hT⟩ : ∃ T, T = l.take (spanN dashB l) := ⟨_, rfl⟩
      rw [← hT] at h ⊢
      have h0 : (readF (toB T)).2 = 0 := of_decide_eq_true h
      obtain ⟨n, e, hd⟩ : ∃ n e, readF (toB T) = (n, e) := ⟨_, _, rfl⟩
      rw [hd] at h0 ⊢
      obtain rfl : e = 0 := h0
      have hn := (read_form hd).1
      refine ⟨?_, ⟨(in_64 hn).1, (in_64 hn).2, Nat.zero_le _⟩⟩
      show (decide ((textF n).2 = 0) && nil8.toList.isEmpty) = true
      have ht : (textF n).2 = 0 := by unfold textF; rw [if_pos hn]
      rw [ht, Lib.toList_data]
      rfl
    · rw [if_neg h64] at h ⊢
      by_cases hd : b.toNat = 45 ∨ digitB b = true
      · rw [if_pos hd] at h ⊢
        dsimp only at h ⊢
        obtain ⟨T, hT⟩ : ∃ T, T = b :: l.take (spanN letterB l) := ⟨_, rfl⟩
        rw [← hT] at h ⊢
        unfold numT at h ⊢
        cases hp : Lib.parseIntB 64 T with
        | ok v =>
          have hv := Lib.parseIntB_bounds hp
          refine ⟨?_, ⟨?_, ?_, Nat.zero_le _⟩⟩
          · show nil8.toList.isEmpty = true
            rw [Lib.toList_data]
            rfl
          · show -9223372036854775808 ≤ v
            omega
          · show v ≤ 9223372036854775807
            omega
        | _ => rw [hp] at h; cases h
      · rw [if_neg hd] at h ⊢
        dsimp only at h ⊢
        have hle := span_le letterB (b :: l)
        have hsf := span_self letterB (b :: l)
        have hlen : ((b :: l).take (spanN letterB (b :: l))).length = spanN letterB (b :: l) := by rw [List.length_take]; omega
        obtain ⟨T, hT⟩ : ∃ T, T = (b :: l).take (spanN letterB (b :: l)) := ⟨_, rfl⟩
        rw [← hT] at h hsf hlen ⊢
        rw [List.length_cons] at hle
        refine ⟨?_, ⟨z_64.1, z_64.2, by rw [toB_size]; omega⟩⟩
        show (namedL (toB T).data.toList && decide ((0 : Int) = 0) && decide (spanN letterB (toB T).data.toList = (toB T).size)) = true
        rw [toB_list, toB_size, h, hsf, hlen]
        simp
theorem lex_right (n : Nat) : ∀ l : List UInt8, l.length ≤ n → l.length < 9223372036854775807 → ∀ t ∈ (lexL l).1, rightT t = true ∧ TokW t := by
  have hcons : ∀ (u : List Tok) (k : Nat) (r : List Tok × Int) (t : Tok), t ∈ (consE u k r).1 → t ∈ u ∨ t ∈ r.1 := fun u k r t h => by
    unfold consE at h
    split at h
    · exact List.mem_append.1 h
    · cases h
  induction n with
  | zero =>
    intro l h _ t ht
    obtain rfl : l = [] := List.eq_nil_of_length_eq_zero (by omega)
    rw [lexL_nil] at ht
    cases ht
  | succ n ih =>
    intro l h hs t ht
    cases l with
    | nil => rw [lexL_nil] at ht; cases ht
    | cons b l =>
      rw [List.length_cons] at h hs
      rw [lexL_cons] at ht
      split at ht
      · rcases hcons _ _ _ _ ht with h1 | h1
        · cases h1
        · exact ih l (by omega) (by omega) t h1
      · split at ht
        · rename_i hok
          rcases hcons _ _ _ _ ht with h1 | h1
          · rw [List.mem_singleton] at h1
            rw [h1]
            exact next_right hok (by omega)
          · exact ih (l.drop _) (by rw [List.length_drop]; omega) (by rw [List.length_drop]; omega) t h1
        · cases ht
end Go.Proofs.YtcinojbfjiohjaaGreatDoor.Lx
end

section
namespace Go.Proofs.YtcinojbfjiohjaaGreatDoor.Ex
open Go Go.RowKit Go.Proofs.YtcinojbfjiohjaaGreatDoor.PPrintTells Go.Proofs.YtcinojbfjiohjaaGreatDoorW.PrintWords Go.Proofs.YtcinojbfjiohjaaGreatDoorW.PrintLast Go.Proofs.YtcinojbfjiohjaaGreatDoorW.PrintMore
open Go.Proofs.YtcinojbfjiohjaaGreatDoor.Civ (w64)
set_option linter.unusedVariables false
set_option linter.unusedSimpArgs false
end Go.Proofs.YtcinojbfjiohjaaGreatDoor.Ex
end

section
namespace Go.Proofs.YtcinojbfjiohjaaGreatDoor.PPrintTells
open Go.RowKit Go.Proofs.YtcinojbfjiohjaaGreatDoorW.PrintWords Go.Proofs.YtcinojbfjiohjaaGreatDoorW.PrintLast Go.Proofs.YtcinojbfjiohjaaGreatDoorW.PrintMore
attribute [local go_sem] max2_int min2_int max_two min_two max_three min_three max_four min_four   -- for this text's walks alone
set_option linter.unusedVariables false
set_option linter.unusedSimpArgs false
end Go.Proofs.YtcinojbfjiohjaaGreatDoor.PPrintTells
end

section
namespace Go.Proofs.YtcinojbfjiohjaaGreatDoor.PPrintTells
open Go.RowKit Go.Proofs.YtcinojbfjiohjaaGreatDoorW.PrintWords Go.Proofs.YtcinojbfjiohjaaGreatDoorW.PrintLast Go.Proofs.YtcinojbfjiohjaaGreatDoorW.PrintMore
attribute [local go_sem] max2_int min2_int max_two min_two max_three min_three max_four min_four   -- for this text's walks alone
set_option linter.unusedVariables false
set_option linter.unusedSimpArgs false
end Go.Proofs.YtcinojbfjiohjaaGreatDoor.PPrintTells
end

section
namespace Go.Proofs.YtcinojbfjiohjaaGreatDoor.Lx
open Go Go.RowKit Go.Proofs.YtcinojbfjiohjaaGreatDoor.PPrintTells Go.Proofs.YtcinojbfjiohjaaGreatDoor.Ex Go.Proofs.YtcinojbfjiohjaaGreatDoor.Civ Go.Proofs.YtcinojbfjiohjaaGreatDoorW.PrintWords Go.Proofs.YtcinojbfjiohjaaGreatDoorW.PrintLast Go.Proofs.YtcinojbfjiohjaaGreatDoorW.PrintMore
set_option linter.unusedVariables false
set_option linter.unusedSimpArgs false
end Go.Proofs.YtcinojbfjiohjaaGreatDoor.Lx
end

section
namespace Go.Proofs.YtcinojbfjiohjaaGreatDoor.PPrintTells
open Go.RowKit Go.Proofs.YtcinojbfjiohjaaGreatDoorW.PrintWords Go.Proofs.YtcinojbfjiohjaaGreatDoorW.PrintLast Go.Proofs.YtcinojbfjiohjaaGreatDoorW.PrintMore
attribute [local go_sem] max2_int min2_int max_two min_two max_three min_three max_four min_four   -- for this text's walks alone
set_option linter.unusedVariables false
set_option linter.unusedSimpArgs false
theorem eqA51 (d : Nat) (w : World) (x0 y0 : Int) (x1 y1 : ByteArray) (x2 y2 : Int) :
    (Op.equalIn (d + 2) 51 (.agg #[.int .u8 x0, .string x1, .int .i64 x2]) (.agg #[.int .u8 y0, .string y1, .int .i64 y2])).run Tryz.prog w = .ok (x0 == y0 && (x1.toList == y1.toList && (x2 == y2))) w := by
  refine eqA_of Tryz.underlying51 (by kernel_rfl) ?_
  refine eqf_cons (by rfl) (by go_simp; rfl) (by go_simp; rfl) (by go_simp) ?_
  refine eqf_cons (by rfl) (by go_simp; rfl) (by go_simp; rfl) (by go_simp) ?_
  exact eqf_last (by rfl) (by go_simp; rfl) (by go_simp; rfl) (by go_simp)
end Go.Proofs.YtcinojbfjiohjaaGreatDoor.PPrintTells
end

section
namespace Go.Proofs.YtcinojbfjiohjaaGreatDoor.PPrintTells
open Go.RowKit Go.Proofs.YtcinojbfjiohjaaGreatDoorW.PrintWords Go.Proofs.YtcinojbfjiohjaaGreatDoorW.PrintLast Go.Proofs.YtcinojbfjiohjaaGreatDoorW.PrintMore
attribute [local go_sem] max2_int min2_int max_two min_two max_three min_three max_four min_four   -- for this text's walks alone
set_option linter.unusedVariables false
set_option linter.unusedSimpArgs false
attribute [local go_sem high] eqA51
end Go.Proofs.YtcinojbfjiohjaaGreatDoor.PPrintTells
end

section
namespace Go.Proofs.YtcinojbfjiohjaaGreatDoor.Lx
open Go Go.RowKit Go.Proofs.YtcinojbfjiohjaaGreatDoor.PPrintTells Go.Proofs.YtcinojbfjiohjaaGreatDoor.Ex Go.Proofs.YtcinojbfjiohjaaGreatDoor.Civ Go.Proofs.YtcinojbfjiohjaaGreatDoorW.PrintWords Go.Proofs.YtcinojbfjiohjaaGreatDoorW.PrintLast Go.Proofs.YtcinojbfjiohjaaGreatDoorW.PrintMore
set_option linter.unusedVariables false
set_option linter.unusedSimpArgs false
theorem Words_to (s : ByteArray) (L : List Tok) (k : Int) (n : Nat) (hn : L.length = n) (he : lexL s.data.toList = (L, k)) (hs : s.size < 4294967281) (w : World) (hC : LCal w) :
    Calls Tryz.prog 14 #[.string s] w fun e w' => ∃ B d, e = .returned (.tuple #[.slice B n d, .int .i64 k]) ∧ Kd.C kTk w' B n L ∧ n ≤ d ∧ Lt w w' := by
  refine (Words_calls s hs w hC).mono ?_
  rintro e w' ⟨v, rfl, ho, hl⟩
  rw [he] at ho
  obtain ⟨B, d, rfl, hd, hCC⟩ := Kd.R_reads ho
  dsimp only at hd hCC hn ⊢
  rw [hn] at hd hCC
  exact ⟨B, d, by rw [he, hn], hCC, hd, hl⟩
end Go.Proofs.YtcinojbfjiohjaaGreatDoor.Lx
end

section
namespace Go.Proofs.YtcinojbfjiohjaaGreatDoor.Lx
open Go Go.RowKit Go.Proofs.YtcinojbfjiohjaaGreatDoor.PPrintTells Go.Proofs.YtcinojbfjiohjaaGreatDoor.Ex Go.Proofs.YtcinojbfjiohjaaGreatDoor.Civ Go.Proofs.YtcinojbfjiohjaaGreatDoorW.PrintWords Go.Proofs.YtcinojbfjiohjaaGreatDoorW.PrintLast Go.Proofs.YtcinojbfjiohjaaGreatDoorW.PrintMore
set_option linter.unusedVariables false
set_option linter.unusedSimpArgs false
end Go.Proofs.YtcinojbfjiohjaaGreatDoor.Lx
end

section
namespace Go.Proofs.YtcinojbfjiohjaaGreatDoor.Lx
open Go Go.RowKit Go.Proofs.YtcinojbfjiohjaaGreatDoor.PPrintTells Go.Proofs.YtcinojbfjiohjaaGreatDoor.Ex Go.Proofs.YtcinojbfjiohjaaGreatDoor.Civ Go.Proofs.YtcinojbfjiohjaaGreatDoorW.PrintWords Go.Proofs.YtcinojbfjiohjaaGreatDoorW.PrintLast Go.Proofs.YtcinojbfjiohjaaGreatDoorW.PrintMore
set_option linter.unusedVariables false
set_option linter.unusedSimpArgs false
theorem take_set_one : ∀ (xs : List Tok) (i : Nat) (t : Tok), i < xs.length → (xs.set i t).take (i + 1) = xs.take i ++ [t]
  | [], i, t, h => absurd h (Nat.not_lt_zero _)
  | x :: xs, 0, t, h => by simp
  | x :: xs, i + 1, t, h => by
    rw [List.length_cons] at h
    rw [List.set_cons_succ, List.take_succ_cons, List.take_succ_cons, take_set_one xs i t (by omega)]
    rfl
theorem drop_set_far (xs : List Tok) (i j : Nat) (t : Tok) (h : i < j) : (xs.set i t).drop j = xs.drop j := by
  apply List.ext_getElem?
  intro k
  rw [List.getElem?_drop, List.getElem?_drop, List.getElem?_set_ne (by omega)]
theorem filt_succ (L : List Tok) (j : Nat) (h : j < L.length) : (L.take (j + 1)).filter rightT = (L.take j).filter rightT ++ (if rightT L[j] = true then [L[j]] else []) := by
  rw [List.take_add_one, List.getElem?_eq_getElem h, List.filter_append]
  congr 1
  by_cases hr : rightT L[j] = true
  · rw [if_pos hr]; simp [hr]
  · rw [if_neg hr]; simp [hr]
structure DelAt (w0 : World) (g N cap : Nat) (L : List Tok) (i j : Nat) (W : World) (xs : List Tok) : Prop where
  row : Kd.R kTk TT W w0.heap.size (fun _ => True) (.slice (some ⟨g, 0, none⟩) N cap) xs
  len : xs.length = N
  hij : i < j
  hj : j ≤ N
  pre : xs.take i = (L.take j).filter rightT
  post : xs.drop j = L.drop j
  lt : Lt w0 W
theorem DelAt.below {w0 W W2 : World} {g N cap i j : Nat} {L xs : List Tok} (h : DelAt w0 g N cap L i j W xs) (hl : Lt W W2) : DelAt w0 g N cap L i j W2 xs := ⟨Kd.R_below h.row hl.out, h.len, h.hij, h.hj, h.pre, h.post, h.lt.trans hl⟩
theorem DelAt.skip {w0 W : World} {g N cap i j : Nat} {L xs : List Tok} (h : DelAt w0 g N cap L i j W xs) (hL : L.length = N) (hjN : j < N) (hr : rightT (L[j]'(by omega)) = false) : DelAt w0 g N cap L i (j + 1) W xs :=
  ⟨h.row, h.len, by have := h.hij; omega, hjN, by rw [filt_succ L j (by omega), if_neg (by rw [hr]; decide), List.append_nil]; exact h.pre, by rw [List.drop_add_one_eq_tail_drop, List.drop_add_one_eq_tail_drop, h.post], h.lt⟩
theorem DelAt.put {w0 W W2 : World} {g N cap i j : Nat} {L xs : List Tok} (h : DelAt w0 g N cap L i j W xs) (hL : L.length = N) (hjN : j < N) (hr : rightT (L[j]'(by omega)) = true)
    (hrow : Kd.R kTk TT W2 w0.heap.size (fun _ => True) (.slice (some ⟨g, 0, none⟩) N cap) (xs.set i (L[j]'(by omega)))) (hl : Lt w0 W2) : DelAt w0 g N cap L (i + 1) (j + 1) W2 (xs.set i (L[j]'(by omega))) :=
  ⟨hrow, by rw [List.length_set]; exact h.len, by have := h.hij; omega, hjN, by rw [take_set_one _ _ _ (by have := h.len; have := h.hij; omega), filt_succ L j (by omega), if_pos hr, h.pre],
    by rw [drop_set_far _ _ _ _ (by have := h.hij; omega), List.drop_add_one_eq_tail_drop, List.drop_add_one_eq_tail_drop, h.post], hl⟩
end Go.Proofs.YtcinojbfjiohjaaGreatDoor.Lx
end

section
namespace Go.Proofs.YtcinojbfjiohjaaGreatDoor.Lx
open Go Go.RowKit Go.Proofs.YtcinojbfjiohjaaGreatDoor.PPrintTells Go.Proofs.YtcinojbfjiohjaaGreatDoor.Ex Go.Proofs.YtcinojbfjiohjaaGreatDoor.Civ Go.Proofs.YtcinojbfjiohjaaGreatDoorW.PrintWords Go.Proofs.YtcinojbfjiohjaaGreatDoorW.PrintLast Go.Proofs.YtcinojbfjiohjaaGreatDoorW.PrintMore
set_option linter.unusedVariables false
set_option linter.unusedSimpArgs false
end Go.Proofs.YtcinojbfjiohjaaGreatDoor.Lx
end

section
namespace Go.Proofs.YtcinojbfjiohjaaGreatDoor.PPrintTells
open Go.RowKit Go.Proofs.YtcinojbfjiohjaaGreatDoorW.PrintWords Go.Proofs.YtcinojbfjiohjaaGreatDoorW.PrintLast Go.Proofs.YtcinojbfjiohjaaGreatDoorW.PrintMore
attribute [local go_sem] max2_int min2_int max_two min_two max_three min_three max_four min_four   -- for this text's walks alone
set_option linter.unusedVariables false
set_option linter.unusedSimpArgs false
end Go.Proofs.YtcinojbfjiohjaaGreatDoor.PPrintTells
end

section
namespace Go.Proofs.YtcinojbfjiohjaaGreatDoor.PPrintTells
open Go.RowKit Go.Proofs.YtcinojbfjiohjaaGreatDoorW.PrintWords Go.Proofs.YtcinojbfjiohjaaGreatDoorW.PrintLast Go.Proofs.YtcinojbfjiohjaaGreatDoorW.PrintMore
attribute [local go_sem] max2_int min2_int max_two min_two max_three min_three max_four min_four   -- for this text's walks alone
set_option linter.unusedVariables false
set_option linter.unusedSimpArgs false
end Go.Proofs.YtcinojbfjiohjaaGreatDoor.PPrintTells
end

section
namespace Go.Proofs.YtcinojbfjiohjaaGreatDoor.PPrintTells
open Go.RowKit Go.Proofs.YtcinojbfjiohjaaGreatDoorW.PrintWords Go.Proofs.YtcinojbfjiohjaaGreatDoorW.PrintLast Go.Proofs.YtcinojbfjiohjaaGreatDoorW.PrintMore
attribute [local go_sem] max2_int min2_int max_two min_two max_three min_three max_four min_four   -- for this text's walks alone
set_option linter.unusedVariables false
set_option linter.unusedSimpArgs false
end Go.Proofs.YtcinojbfjiohjaaGreatDoor.PPrintTells
end

section
namespace Go.Proofs.YtcinojbfjiohjaaGreatDoor.PPrintTells
open Go.RowKit Go.Proofs.YtcinojbfjiohjaaGreatDoorW.PrintWords Go.Proofs.YtcinojbfjiohjaaGreatDoorW.PrintLast Go.Proofs.YtcinojbfjiohjaaGreatDoorW.PrintMore
attribute [local go_sem] max2_int min2_int max_two min_two max_three min_three max_four min_four   -- for this text's walks alone
set_option linter.unusedVariables false
set_option linter.unusedSimpArgs false
end Go.Proofs.YtcinojbfjiohjaaGreatDoor.PPrintTells
end

section
namespace Go.Proofs.YtcinojbfjiohjaaGreatDoor.PPrintTells
open Go.RowKit Go.Proofs.YtcinojbfjiohjaaGreatDoorW.PrintWords Go.Proofs.YtcinojbfjiohjaaGreatDoorW.PrintLast Go.Proofs.YtcinojbfjiohjaaGreatDoorW.PrintMore
attribute [local go_sem] max2_int min2_int max_two min_two max_three min_three max_four min_four   -- for this text's walks alone
set_option linter.unusedVariables false
set_option linter.unusedSimpArgs false
end Go.Proofs.YtcinojbfjiohjaaGreatDoor.PPrintTells
end

section
namespace Go.Proofs.YtcinojbfjiohjaaGreatDoor.PPrintTells
open Go.RowKit Go.Proofs.YtcinojbfjiohjaaGreatDoorW.PrintWords Go.Proofs.YtcinojbfjiohjaaGreatDoorW.PrintLast Go.Proofs.YtcinojbfjiohjaaGreatDoorW.PrintMore
attribute [local go_sem] max2_int min2_int max_two min_two max_three min_three max_four min_four   -- for this text's walks alone
set_option linter.unusedVariables false
set_option linter.unusedSimpArgs false
end Go.Proofs.YtcinojbfjiohjaaGreatDoor.PPrintTells
end

section
namespace Go.Proofs.YtcinojbfjiohjaaGreatDoor.PPrintTells
open Go.RowKit Go.Proofs.YtcinojbfjiohjaaGreatDoorW.PrintWords Go.Proofs.YtcinojbfjiohjaaGreatDoorW.PrintLast Go.Proofs.YtcinojbfjiohjaaGreatDoorW.PrintMore
attribute [local go_sem] max2_int min2_int max_two min_two max_three min_three max_four min_four   -- for this text's walks alone
set_option linter.unusedVariables false
set_option linter.unusedSimpArgs false
end Go.Proofs.YtcinojbfjiohjaaGreatDoor.PPrintTells
end

section
namespace Go.Proofs.YtcinojbfjiohjaaGreatDoor.PPrintTells
open Go Go.RowKit Go.Proofs.YtcinojbfjiohjaaGreatDoorW.PrintWords Go.Proofs.YtcinojbfjiohjaaGreatDoorW.PrintLast Go.Proofs.YtcinojbfjiohjaaGreatDoorW.PrintMore
set_option linter.unusedVariables false
set_option linter.unusedSimpArgs false
end Go.Proofs.YtcinojbfjiohjaaGreatDoor.PPrintTells
end

section
namespace Go.Proofs.YtcinojbfjiohjaaGreatDoor.PPrintTells
open Go.RowKit Go.Proofs.YtcinojbfjiohjaaGreatDoorW.PrintWords Go.Proofs.YtcinojbfjiohjaaGreatDoorW.PrintLast Go.Proofs.YtcinojbfjiohjaaGreatDoorW.PrintMore
attribute [local go_sem] max2_int min2_int max_two min_two max_three min_three max_four min_four   -- for this text's walks alone
set_option linter.unusedVariables false
set_option linter.unusedSimpArgs false
attribute [local go_sem high] eqA40
end Go.Proofs.YtcinojbfjiohjaaGreatDoor.PPrintTells
end

section
namespace Go.Proofs.YtcinojbfjiohjaaGreatDoor.PPrintTells
open Go.RowKit Go.Proofs.YtcinojbfjiohjaaGreatDoorW.PrintWords Go.Proofs.YtcinojbfjiohjaaGreatDoorW.PrintLast Go.Proofs.YtcinojbfjiohjaaGreatDoorW.PrintMore
attribute [local go_sem] max2_int min2_int max_two min_two max_three min_three max_four min_four   -- for this text's walks alone
set_option linter.unusedVariables false
set_option linter.unusedSimpArgs false
end Go.Proofs.YtcinojbfjiohjaaGreatDoor.PPrintTells
end

section
namespace Go.Proofs.YtcinojbfjiohjaaGreatDoor.Pr
open Go Go.RowKit Go.Proofs.YtcinojbfjiohjaaGreatDoor.PPrintTells Go.Proofs.YtcinojbfjiohjaaGreatDoor.Ex Go.Proofs.YtcinojbfjiohjaaGreatDoorW.PrintWords Go.Proofs.YtcinojbfjiohjaaGreatDoorW.PrintLast Go.Proofs.YtcinojbfjiohjaaGreatDoorW.PrintMore
open Go.Proofs.YtcinojbfjiohjaaGreatDoor.Pa (opsL shapeF shapeL shF)
set_option linter.unusedVariables false
set_option linter.unusedSimpArgs false
end Go.Proofs.YtcinojbfjiohjaaGreatDoor.Pr
end

section
namespace Go.Proofs.YtcinojbfjiohjaaGreatDoor.Ex
open Go Go.RowKit Go.Proofs.YtcinojbfjiohjaaGreatDoor.PPrintTells Go.Proofs.YtcinojbfjiohjaaGreatDoorW.PrintWords Go.Proofs.YtcinojbfjiohjaaGreatDoorW.PrintLast Go.Proofs.YtcinojbfjiohjaaGreatDoorW.PrintMore
set_option linter.unusedVariables false
set_option linter.unusedSimpArgs false
end Go.Proofs.YtcinojbfjiohjaaGreatDoor.Ex
end

section
namespace Go.Proofs.YtcinojbfjiohjaaGreatDoor.Pr
open Go Go.RowKit Go.Proofs.YtcinojbfjiohjaaGreatDoor.PPrintTells Go.Proofs.YtcinojbfjiohjaaGreatDoor.Ex Go.Proofs.YtcinojbfjiohjaaGreatDoorW.PrintWords Go.Proofs.YtcinojbfjiohjaaGreatDoorW.PrintLast Go.Proofs.YtcinojbfjiohjaaGreatDoorW.PrintMore
open Go.Proofs.YtcinojbfjiohjaaGreatDoor.Pa (opsL shapeF shapeL shF)
set_option linter.unusedVariables false
set_option linter.unusedSimpArgs false
end Go.Proofs.YtcinojbfjiohjaaGreatDoor.Pr
end

section
namespace Go.Proofs.YtcinojbfjiohjaaGreatDoor.Pr
open Go Go.RowKit Go.Proofs.YtcinojbfjiohjaaGreatDoor.PPrintTells Go.Proofs.YtcinojbfjiohjaaGreatDoor.Ex Go.Proofs.YtcinojbfjiohjaaGreatDoorW.PrintWords Go.Proofs.YtcinojbfjiohjaaGreatDoorW.PrintLast Go.Proofs.YtcinojbfjiohjaaGreatDoorW.PrintMore
open Go.Proofs.YtcinojbfjiohjaaGreatDoor.Pa (opsL shapeF shapeL shF)
set_option linter.unusedVariables false
set_option linter.unusedSimpArgs false
end Go.Proofs.YtcinojbfjiohjaaGreatDoor.Pr
end

section
namespace Go.Proofs.YtcinojbfjiohjaaGreatDoor.Pr
open Go Go.RowKit Go.Proofs.YtcinojbfjiohjaaGreatDoor.PPrintTells Go.Proofs.YtcinojbfjiohjaaGreatDoor.Ex Go.Proofs.YtcinojbfjiohjaaGreatDoorW.PrintWords Go.Proofs.YtcinojbfjiohjaaGreatDoorW.PrintLast Go.Proofs.YtcinojbfjiohjaaGreatDoorW.PrintMore
open Go.Proofs.YtcinojbfjiohjaaGreatDoor.Pa (opsL shapeF shapeL shF)
set_option linter.unusedVariables false
set_option linter.unusedSimpArgs false
abbrev nil8 : ByteArray := ⟨#[]⟩
end Go.Proofs.YtcinojbfjiohjaaGreatDoor.Pr
end

section
namespace Go.Proofs.YtcinojbfjiohjaaGreatDoor.Pr
open Go Go.RowKit Go.Proofs.YtcinojbfjiohjaaGreatDoor.PPrintTells Go.Proofs.YtcinojbfjiohjaaGreatDoor.Ex Go.Proofs.YtcinojbfjiohjaaGreatDoorW.PrintWords Go.Proofs.YtcinojbfjiohjaaGreatDoorW.PrintLast Go.Proofs.YtcinojbfjiohjaaGreatDoorW.PrintMore
open Go.Proofs.YtcinojbfjiohjaaGreatDoor.Pa (opsL shapeF shapeL shF)
set_option linter.unusedVariables false
set_option linter.unusedSimpArgs false
end Go.Proofs.YtcinojbfjiohjaaGreatDoor.Pr
end

section
namespace Go.Proofs.YtcinojbfjiohjaaGreatDoor.Pr
open Go Go.RowKit Go.Proofs.YtcinojbfjiohjaaGreatDoor.PPrintTells Go.Proofs.YtcinojbfjiohjaaGreatDoor.Ex Go.Proofs.YtcinojbfjiohjaaGreatDoorW.PrintWords Go.Proofs.YtcinojbfjiohjaaGreatDoorW.PrintLast Go.Proofs.YtcinojbfjiohjaaGreatDoorW.PrintMore
open Go.Proofs.YtcinojbfjiohjaaGreatDoor.Pa (opsL shapeF shapeL shF)
set_option linter.unusedVariables false
set_option linter.unusedSimpArgs false
theorem name_len {s : ByteArray} (h : nameB s = true) : s.data.toList.length ≤ 100 := by
  unfold nameB at h
  cases hl : s.data.toList with
  | nil => simp
  | cons b l =>
    rw [hl] at h
    unfold nameL at h
    simp only [Bool.and_eq_true, decide_eq_true_eq] at h
    rw [List.length_cons]
    omega
structure Ints (c : Cmd) : Prop where
  ints : ∀ n ∈ c.nums, -9223372036854775808 ≤ n ∧ n ≤ 9223372036854775807
  lo64 : -9223372036854775808 ≤ c.lo ∧ c.lo ≤ 9223372036854775807
  hi64 : -9223372036854775808 ≤ c.hi ∧ c.hi ≤ 9223372036854775807
theorem head_int {ns : List Int} (h : ∀ n ∈ ns, -9223372036854775808 ≤ n ∧ n ≤ 9223372036854775807) : -9223372036854775808 ≤ ns.headD 0 ∧ ns.headD 0 ≤ 9223372036854775807 := by
  cases ns with
  | nil => exact ⟨by decide, by decide⟩
  | cons n ns => exact h n (by simp)
theorem end_len (n : Int) (t : Bool) (h : -9223372036854775808 ≤ n ∧ n ≤ 9223372036854775807) : (endL n t).length ≤ 21 := by
  have := itoa_len n h.1 h.2
  cases t
  · exact Nat.zero_le _
  · exact this
theorem part_len (c : Cmd) (hI : Ints c) (b : UInt8) (NS : List ByteArray) (ns : List Int) (hn : ∀ s ∈ NS, nameB s = true) (hi : ∀ n ∈ ns, -9223372036854775808 ≤ n ∧ n ≤ 9223372036854775807) (hx : b = 101 → (lineB c.x).length ≤ 200000) :
    (partL c b NS ns).length ≤ 200000 := by
  unfold partL
  split
  · cases NS with
    | nil => exact Nat.zero_le _
    | cons s NS => have := name_len (hn s (by simp)); show s.data.toList.length ≤ _; omega
  · split
    · have h := head_int hi
      have := itoa_len _ h.1 h.2
      omega
    · split
      · rename_i h; exact hx h
      · split
        · have h1 := end_len c.lo c.hl hI.lo64
          have h2 := end_len c.hi c.hh hI.hi64
          unfold rngL
          simp only [List.length_append, List.length_singleton]
          omega
        · simp
theorem cmdL_len (c : Cmd) (hI : Ints c) : ∀ (l : List UInt8) (NS : List ByteArray) (ns : List Int), (∀ s ∈ NS, nameB s = true) → (∀ n ∈ ns, -9223372036854775808 ≤ n ∧ n ≤ 9223372036854775807) → (101 ∈ l → (lineB c.x).length ≤ 200000) →
    (cmdL c l NS ns).length ≤ 200001 * l.length
  | [], _, _, _, _, _ => Nat.zero_le _
  | b :: l, NS, ns, hn, hi, hx => by
    have h1 := part_len c hI b NS ns hn hi (fun h => hx (by simp [h]))
    have h2 := cmdL_len c hI l (tailN b NS) (tailI b ns)
      (fun s hs => by unfold tailN at hs; split at hs <;> first | exact hn s (List.mem_of_mem_drop hs) | exact hn s hs)
      (fun n hs => by unfold tailI at hs; split at hs <;> first | exact hi n (List.mem_of_mem_drop hs) | exact hi n hs) (fun h => hx (by simp [h]))
    rw [cmdL, List.length_cons, List.length_append, List.length_cons]
    omega
theorem right_parts {c : Cmd} (h : rightC c = true) : (shapeF c.wd).2 = true ∧ (((shapeF c.wd).1.data.toList.count 110 : Nat) : Int) = c.names.length ∧ (((shapeF c.wd).1.data.toList.count 105 : Nat) : Int) = c.nums.length ∧ c.names.all nameB = true ∧ (101 ∈ (shapeF c.wd).1.data.toList → RightB c.x = true) := by
  unfold rightC cntC hasC Lib.countByte at h
  simp only [Bool.and_eq_true, decide_eq_true_eq] at h
  obtain ⟨h1, h2, h3, h4, h5, h6⟩ := h
  refine ⟨h1, h2, h3, h5, fun hm => ?_⟩
  rw [if_pos ((decide_eq_true_iff).1 (by rw [← Lib.contains_iff_indexByte]; exact List.contains_iff_mem.2 hm))] at h6
  exact h6
theorem lineC_len {c : Cmd} (hI : Ints c) (hwf : Wf c.x) (h : rightC c = true) : (lineC c).length ≤ 3000000 := by
  obtain ⟨h1, h2, h3, h4, h5⟩ := right_parts h
  obtain ⟨hs, hlet⟩ := shape_let c.wd
  have hsz : (shapeF c.wd).1.size = (shapeF c.wd).1.data.toList.length := by simp
  have hw := (shape_word c.wd h1).2
  have hwz : c.wd.size = c.wd.data.toList.length := by simp
  have := cmdL_len c hI (shapeF c.wd).1.data.toList c.names c.nums (fun s hs => List.all_eq_true.1 h4 s hs) hI.ints (fun hm => by
    obtain ⟨hA, hc⟩ := right_all (h5 hm)
    have := line_le c.x hwf hA
    omega)
  unfold lineC
  rw [List.length_append]
  omega
end Go.Proofs.YtcinojbfjiohjaaGreatDoor.Pr
end
