/-
  Part 6 of what the row stands on, put together by a program: PPr10m, PPr11, PPr12, SameZ, PPr13.
-/
import Derived.Test.YtcinojbfjiohjaaGreatDoorPqE
section
namespace Go.Proofs.YtcinojbfjiohjaaGreatDoor.PPrintTells
open Go.RowKit Go.Proofs.YtcinojbfjiohjaaGreatDoorW.PrintWords Go.Proofs.YtcinojbfjiohjaaGreatDoorW.PrintLast Go.Proofs.YtcinojbfjiohjaaGreatDoorW.PrintMore
attribute [local go_sem] max2_int min2_int max_two min_two max_three min_three max_four min_four   -- for this text's walks alone
set_option linter.unusedVariables false
set_option linter.unusedSimpArgs false
theorem more_ {P : Program} {ops : Array Oper} {Q : Exit → Act → World → Prop} {md : Region.Mode} {S S2 : World → Prop} {ds : List Nat} (hS : ∀ w, S2 w → S w) :
    ∀ (fuel : Nat) (l : Array Bool) (a : Act) (w : World), S2 w → wpAnyLast P md ops Q S2 [] fuel l a w → wpAnyLast P md ops Q S ds fuel l a w
  | 0, _, _, _, _, h => h
  | fuel + 1, _, _, _, h2, h => ⟨h.1, fun i hi => wpOp_mono (fun a' w' h' => ⟨fun _ _ => hS _ (h'.1 (by simp) h2), more_ hS fuel _ a' w' (h'.1 (by simp) h2) h'.2⟩) (h.2 i hi)⟩
mutual
def epactref12_line.l0 : Nat → ByteArray → Int → Int → ByteArray → List Int → List (S25) → Option (ByteArray)
  | 0, _, _, _, _, _, _ => none
  | k + 1, x3, x4, x310000, x310001, x310002, x310003 => if x4 < (wrap64 ((x310002.length : Int) + (x310003.length : Int))) then (if x4 > 0 then (if x3.size + 2 ≤ 9223372036854775807 then (epactref12_line.j1 k (x3 ++ (⟨#[44, 32]⟩ : ByteArray)) x4 x310000 x310001 x310002 x310003) else (none)) else (epactref12_line.j1 k x3 x4 x310000 x310001 x310002 x310003)) else (if x3.size + 1 ≤ 9223372036854775807 then (some (x3 ++ (⟨#[41]⟩ : ByteArray))) else (none))
def epactref12_line.j1 : Nat → ByteArray → Int → Int → ByteArray → List Int → List (S25) → Option (ByteArray)
  | 0, _, _, _, _, _, _ => none
  | k + 1, x3, x4, x310000, x310001, x310002, x310003 => if x4 < (x310002.length : Int) then (if 0 ≤ x4 then ((epactref12_number.f k (rd x310002 x4)).bind fun t315 => (if x3.size + t315.size ≤ 9223372036854775807 then (epactref12_line.l0 k (x3 ++ t315) (wrap64 (x4 + 1)) x310000 x310001 x310002 x310003) else (none))) else (none)) else (if 0 ≤ (wrap64 (x4 - (x310002.length : Int))) then (if (wrap64 (x4 - (x310002.length : Int))) < (x310003.length : Int) then ((epactref12_line.f k ((rd_T25 x310003 (wrap64 (x4 - (x310002.length : Int)))).f0) ((rd_T25 x310003 (wrap64 (x4 - (x310002.length : Int)))).f1) ((rd_T25 x310003 (wrap64 (x4 - (x310002.length : Int)))).f2) ((rd_T25 x310003 (wrap64 (x4 - (x310002.length : Int)))).f3)).bind fun t317 => (if x3.size + t317.size ≤ 9223372036854775807 then (epactref12_line.l0 k (x3 ++ t317) (wrap64 (x4 + 1)) x310000 x310001 x310002 x310003) else (none))) else (none)) else (none))
def epactref12_line.f : Nat → Int → ByteArray → List Int → List (S25) → Option (ByteArray)
  | 0, _, _, _, _ => none
  | k + 1, a0_0, a0_1, l0_2, l0_3 => if a0_0 = 0 then (some a0_1) else ((epactref11_Ops.f).bind fun t310 => (if 0 ≤ a0_0 then (if a0_0 < (t310.length : Int) then (if (rdOf ByteArray.empty t310 a0_0).size + 1 ≤ 9223372036854775807 then (epactref12_line.l0 k ((rdOf ByteArray.empty t310 a0_0) ++ (⟨#[40]⟩ : ByteArray)) 0 a0_0 a0_1 l0_2 l0_3) else (none)) else (none)) else (none)))
end
set_option maxHeartbeats 8000000 in
set_option maxRecDepth 100000 in
theorem epactref12_line.calls (k : Nat) : ∀ (a0_0 : Int) (a0_1 : ByteArray) (A0_2 : Option Addr) (c0_2 : Nat) (l0_2 : List Int) (A0_3 : Option Addr) (c0_3 : Nat) (l0_3 : List (S25)) (r : ByteArray) (w : World) (hr0_2 : Kd.C (Kd.int .i64) w A0_2 l0_2.length l0_2) (hc0_2 : l0_2.length ≤ c0_2) (hr0_3 : Kd.C k25 w A0_3 l0_3.length l0_3) (hc0_3 : l0_3.length ≤ c0_3) (h : epactref12_line.f k a0_0 a0_1 l0_2 l0_3 = some r),
    Calls Tryz.prog 60 #[.agg #[.int .u8 a0_0, .string a0_1, .slice A0_2 l0_2.length c0_2, .slice A0_3 l0_3.length c0_3]] w fun e w' => e = .returned (.string r) ∧ Below w.heap.size w w' := by
  induction k using Nat.strongRecOn with
  | _ k ih =>
  intro a0_0 a0_1 A0_2 c0_2 l0_2 A0_3 c0_3 l0_3 r w hr0_2 hc0_2 hr0_3 hc0_3 h
  cases k with
  | zero => exact absurd h (by simp [epactref12_line.f])
  | succ k =>
  simp only [epactref12_line.f] at h
  have hu25 := Tryz.underlying25
  have HR0_2 := Aside0.mk hr0_2
  have HC0_2 := Aside0.mk hc0_2
  clear hr0_2 hc0_2
  have HR0_3 := Aside0.mk hr0_3
  have HC0_3 := Aside0.mk hc0_3
  clear hr0_3 hc0_3
  have HB := Aside0.mk (Below.refl w.heap.size w)
  have H : (if a0_0 = 0 then (some a0_1) else ((epactref11_Ops.f).bind fun t310 => (if 0 ≤ a0_0 then (if a0_0 < (t310.length : Int) then (if (rdOf ByteArray.empty t310 a0_0).size + 1 ≤ 9223372036854775807 then (epactref12_line.l0 k ((rdOf ByteArray.empty t310 a0_0) ++ (⟨#[40]⟩ : ByteArray)) 0 a0_0 a0_1 l0_2 l0_3) else (none)) else (none)) else (none)))) = some r := h
  clear h
  by_cases c2 : a0_0 = 0
  · rw [if_pos c2] at H
    have c2b0 : (a0_0 == 0) = true := beq_iff_eq.mpr c2
    have c2b1 : (a0_0 != 0) = false := bne_eq_false_iff_eq.mpr c2
    clear c2
    obtain rfl := Option.some.inj H
    go_enter Tryz.func60, Tryz.ntmps60
    go_wp2_with (first | ((with_reducible refine gate_dst (N := 1) rfl ?_); refine box_event ?hg (N := 1) ?hd (cs := #[.int .u8 a0_0, .string a0_1, .slice A0_2 l0_2.length c0_2, .slice A0_3 l0_3.length c0_3]) (t := 25) ?hr ?_; (case hd => rfl); (case hg => rfl); (case hr => first | (go_simp; done) | (go_simp; rfl)); intro gb309 hg w3 hbox hb; have n0_ := Aside0.mk (below_step (by repeat (first | (with_reducible first | exact HB.out | apply below_alloc | apply pw_below_drewN | apply below_drew1) | exact HB.out)) hb); have n1_ := Aside0.mk (hbox); have n2_ := Aside0.mk ((by rw [hg]; exact (below_size (by repeat (first | (with_reducible first | exact HB.out | apply below_alloc | apply pw_below_drewN | apply below_drew1) | exact HB.out))) : w.heap.size ≤ gb309)); have n3_ := Aside0.mk ((by rw [hg]; exact (below_size (by repeat (first | (with_reducible first | exact HB.out | apply below_alloc | apply pw_below_drewN | apply below_drew1) | exact HB.out))) : w.heap.size ≤ gb309)); clear HB; have HB := n0_; have BK309 := n1_; have GW309 := n2_; have GE309 := n3_; clear n0_ n1_ n2_ n3_; clear hb hbox hg; have hcz4_0 : w3.cell? ⟨gb309, 0, none⟩ = some (.int .u8 a0_0) := (blk_cell BK309.out 0).trans rfl; have hcz4_1 : w3.cell? ⟨gb309, 1, none⟩ = some (.string a0_1) := (blk_cell BK309.out 1).trans rfl; have hcz4_2 : w3.cell? ⟨gb309, 2, none⟩ = some (.slice A0_2 l0_2.length c0_2) := (blk_cell BK309.out 2).trans rfl; have hcz4_3 : w3.cell? ⟨gb309, 3, none⟩ = some (.slice A0_3 l0_3.length c0_3) := (blk_cell BK309.out 3).trans rfl; have hfz4_0 := blk_frozen BK309.out 0; have hfz4_1 := blk_frozen BK309.out 1; have hfz4_2 := blk_frozen BK309.out 2; have hfz4_3 := blk_frozen BK309.out 3))
    go_ret
    exact ⟨by first | rfl | (simp [errW_none, errW_some] <;> rfl) | (simp [*, errW_none, errW_some] <;> rfl), by repeat (first | (with_reducible first | exact HB.out | apply below_alloc | apply pw_below_drewN | apply below_drew1 | refine below_set ?_ GE309.out) | exact HB.out)⟩
  · rw [if_neg c2] at H
    have c2b0 : (a0_0 == 0) = false := beq_eq_false_iff_ne.mpr c2
    have c2b1 : (a0_0 != 0) = true := bne_iff_ne.mpr c2
    replace H := Option.bind_eq_some_iff.mp H
    obtain ⟨t310, A50, H⟩ := H
    replace H : (if 0 ≤ a0_0 then (if a0_0 < (t310.length : Int) then (if (rdOf ByteArray.empty t310 a0_0).size + 1 ≤ 9223372036854775807 then (epactref12_line.l0 k ((rdOf ByteArray.empty t310 a0_0) ++ (⟨#[40]⟩ : ByteArray)) 0 a0_0 a0_1 l0_2 l0_3) else (none)) else (none)) else (none)) = some r := H
    have A5 := Aside0.mk A50
    clear A50
    by_cases c6 : 0 ≤ a0_0
    · rw [if_pos c6] at H
      have c6b0 : decide (0 ≤ a0_0) = true := decide_eq_true c6
      clear c6
      by_cases c7 : a0_0 < (t310.length : Int)
      · rw [if_pos c7] at H
        have c7b0 : decide (a0_0 < (t310.length : Int)) = true := decide_eq_true c7
        clear c7
        by_cases c8 : (rdOf ByteArray.empty t310 a0_0).size + 1 ≤ 9223372036854775807
        · rw [if_pos c8] at H
          have c8b0 := eq_true c8
          have c8b1 : decide ((rdOf ByteArray.empty t310 a0_0).size + 1 ≤ 9223372036854775807) = true := decide_eq_true c8
          try have c8b2 : (9223372036854775807 < (rdOf ByteArray.empty t310 a0_0).size + 1) = False := eq_false (Nat.not_lt.2 c8)
          have H' := Aside0.mk H
          clear H
          go_enter Tryz.func60, Tryz.ntmps60
          try go_wp2_with (first | ((with_reducible refine gate_dst (N := 1) rfl ?_); refine box_event ?hg (N := 1) ?hd (cs := #[.int .u8 a0_0, .string a0_1, .slice A0_2 l0_2.length c0_2, .slice A0_3 l0_3.length c0_3]) (t := 25) ?hr ?_; (case hd => rfl); (case hg => rfl); (case hr => first | (go_simp; done) | (go_simp; rfl)); intro gb309 hg w9 hbox hb; have n0_ := Aside0.mk (below_step (by repeat (first | (with_reducible first | exact HB.out | apply below_alloc | apply pw_below_drewN | apply below_drew1) | exact HB.out)) hb); have n1_ := Aside0.mk (hbox); have n2_ := Aside0.mk ((by rw [hg]; exact (below_size (by repeat (first | (with_reducible first | exact HB.out | apply below_alloc | apply pw_below_drewN | apply below_drew1) | exact HB.out))) : w.heap.size ≤ gb309)); have n3_ := Aside0.mk ((by rw [hg]; exact (below_size (by repeat (first | (with_reducible first | exact HB.out | apply below_alloc | apply pw_below_drewN | apply below_drew1) | exact HB.out))) : w.heap.size ≤ gb309)); clear HB; have HB := n0_; have BK309 := n1_; have GW309 := n2_; have GE309 := n3_; clear n0_ n1_ n2_ n3_; clear hb hbox hg; have hcz10_0 : w9.cell? ⟨gb309, 0, none⟩ = some (.int .u8 a0_0) := (blk_cell BK309.out 0).trans rfl; have hcz10_1 : w9.cell? ⟨gb309, 1, none⟩ = some (.string a0_1) := (blk_cell BK309.out 1).trans rfl; have hcz10_2 : w9.cell? ⟨gb309, 2, none⟩ = some (.slice A0_2 l0_2.length c0_2) := (blk_cell BK309.out 2).trans rfl; have hcz10_3 : w9.cell? ⟨gb309, 3, none⟩ = some (.slice A0_3 l0_3.length c0_3) := (blk_cell BK309.out 3).trans rfl; have hfz10_0 := blk_frozen BK309.out 0; have hfz10_1 := blk_frozen BK309.out 1; have hfz10_2 := blk_frozen BK309.out 2; have hfz10_3 := blk_frozen BK309.out 3))
          have n0_ := Aside0.mk (blk_drew BK309.out)
          have n1_ := Aside0.mk (below_drew1 HB.out)
          clear BK309
          clear HB
          have BK309 := n0_
          have HB := n1_
          clear n0_ n1_
          refine start_ (n := 7) (S := fun w' => w'.cell? ⟨gb309, 0, none⟩ = some (.int .u8 a0_0) ∧ w'.cell? ⟨gb309, 1, none⟩ = some (.string a0_1) ∧ w'.cell? ⟨gb309, 2, none⟩ = some (.slice A0_2 l0_2.length c0_2) ∧ w'.cell? ⟨gb309, 3, none⟩ = some (.slice A0_3 l0_3.length c0_3)) (ds := []) #[false, false, false, false, false, false, false] (by kernel_rfl) rfl rfl ⟨(blk_cell BK309.out 0).trans rfl, (blk_cell BK309.out 1).trans rfl, (blk_cell BK309.out 2).trans rfl, (blk_cell BK309.out 3).trans rfl⟩ (fun hHeld => ?_)
          generalize w9.drew = w11 at BK309 HB hHeld ⊢
          refine pure_ (i := 1) (N := some 11) (v := ?_) (a' := ?_) #[false, true, false, false, false, false, false] rfl rfl (by kernel_rfl) (fun _ _ _ h => h) (Or.inl ⟨by rfl, ?_⟩) ?_ ?_
          rotate_left
          · intro w'
            go_simp
            with_reducible rfl
          rotate_left
          · simp only [Act.put, List.setIfInBounds_toArray, List.set_cons_zero, List.set_cons_succ, i64_w, i32_w]
            rfl
          refine take_ (i := 2) (N := some 12) (v := ?_) (a' := ?_) #[false, true, true, false, false, false, false] rfl rfl (by kernel_rfl) (fun _ _ _ h => h) (Or.inl ⟨by rfl, ?_⟩) hHeld ?_ ?_
          rotate_left
          · rintro w' ⟨s0, s1, s2, s3⟩
            go_simp
            with_reducible rfl
          rotate_left
          · simp only [Act.put, List.setIfInBounds_toArray, List.set_cons_zero, List.set_cons_succ, i64_w, i32_w]
            rfl
          refine one_ (i := 0) (N := some 10) #[true, true, true, false, false, false, false] rfl rfl (by kernel_rfl) (by decide) (fun K hK => ?_)
          refine goes_ Tryz.func109 (by kernel_rfl) rfl #[] (by rfl) rfl rfl (by (try simp only [List.map_toArray, List.map_cons, List.map_nil]); first | done | rfl | (simp only [List.length_drop, List.length_take]; rfl)) ?_
          with_reducible refine (epactref11_Ops.calls  t310 _ A5.out).mono ?_
          rintro e w12 ⟨v311, rfl, ho0, hb⟩
          refine ⟨_, rfl, ?_⟩
          have n0_ := Aside0.mk (Kd.R_lower ho0 (below_size (by repeat (first | (with_reducible first | exact HB.out | apply below_alloc | apply pw_below_drewN | apply below_drew1 | refine below_set ?_ GE309.out) | exact HB.out))))
          have n1_ := Aside0.mk (blk_below (g := gb309) (o := .cells #[.int .u8 a0_0, .string a0_1, .slice A0_2 l0_2.length c0_2, .slice A0_3 l0_3.length c0_3] 25 (0, 0)) (by (with_reducible repeat (first | refine blk_drewN ?_ _ | refine blk_drew ?_ | refine blk_alloc ?_ _)); exact BK309.out) hb)
          have n2_ := Aside0.mk (below_step (by repeat (first | (with_reducible first | exact HB.out | apply below_alloc | apply pw_below_drewN | apply below_drew1 | refine below_set ?_ GE309.out) | exact HB.out)) hb)
          clear BK309
          clear HB
          have HO312 := n0_
          have BK309 := n1_
          have HB := n2_
          clear n0_ n1_ n2_
          (try clear hb)
          (try clear hb2)
          (try clear hk)
          (try clear hi)
          (try clear ho0)
          obtain ⟨Ao13, co13, eo13⟩ := Kd.R_slice HO312.out
          (first | subst eo13 | (injection eo13 with f1_ f2_ f3_; have f4_ := f1_.symm; have f5_ := f3_.symm; clear f1_ f2_ f3_; subst f4_; subst f5_))
          have p313 : 0 ≤ (a0_0 : Int) := of_decide_eq_true (by first | (with_reducible assumption) | assumption)
          have q313 : a0_0 < (t310.length : Int) := of_decide_eq_true (by first | (with_reducible assumption) | assumption)
          obtain ⟨ad313, e313, hx313_0⟩ := Kd.at_string (Kd.R_reads' HO312.out).2.2 a0_0 p313 q313
          cases e313
          replace p313 := eq_true p313
          replace q313 := eq_true q313
          refine hK.out _ _ ⟨(blk_cell BK309.out 0).trans rfl, (blk_cell BK309.out 1).trans rfl, (blk_cell BK309.out 2).trans rfl, (blk_cell BK309.out 3).trans rfl⟩ (fun hHeld0 => ?_)
          clear hK K
          refine norm_ (a' := ?_) ?_ ?_
          rotate_left
          · show Act.put _ (some 10) _ = _
            simp only [Act.put, List.setIfInBounds_toArray, List.set_cons_zero, List.set_cons_succ, i64_w, i32_w]
            rfl
          refine more_ (S2 := fun w' => w'.cell? ⟨gb309, 0, none⟩ = some (.int .u8 a0_0) ∧ w'.cell? ⟨gb309, 1, none⟩ = some (.string a0_1) ∧ w'.cell? ⟨gb309, 2, none⟩ = some (.slice A0_2 l0_2.length c0_2) ∧ w'.cell? ⟨gb309, 3, none⟩ = some (.slice A0_3 l0_3.length c0_3) ∧ w'.cell? (ad313.add (a0_0).toNat) = some (.string (rdOf ByteArray.empty t310 a0_0))) (fun _ h => ⟨h.1, h.2.1, h.2.2.1, h.2.2.2.1⟩) _ _ _ _ ⟨hHeld0.1, hHeld0.2.1, hHeld0.2.2.1, hHeld0.2.2.2, hx313_0⟩ ?_
          have hHeld : _ ∧ _ ∧ _ ∧ _ ∧ _ := ⟨hHeld0.1, hHeld0.2.1, hHeld0.2.2.1, hHeld0.2.2.2, hx313_0⟩
          refine pure_ (i := 3) (N := some 13) (v := ?_) (a' := ?_) #[true, true, true, true, false, false, false] rfl rfl (by kernel_rfl) (fun _ _ _ h => h) (Or.inl ⟨by rfl, ?_⟩) ?_ ?_
          rotate_left
          · intro w'
            go_simp
            with_reducible rfl
          rotate_left
          · simp only [Act.put, List.setIfInBounds_toArray, List.set_cons_zero, List.set_cons_succ, i64_w, i32_w]
            rfl
          refine take_ (i := 4) (N := some 14) (v := ?_) (a' := ?_) #[true, true, true, true, true, false, false] rfl rfl (by kernel_rfl) (fun _ _ _ h => h) (Or.inl ⟨by rfl, ?_⟩) hHeld ?_ ?_
          rotate_left
          · rintro w' ⟨s0, s1, s2, s3, s4⟩
            go_simp
            with_reducible rfl
          rotate_left
          · simp only [Act.put, List.setIfInBounds_toArray, List.set_cons_zero, List.set_cons_succ, i64_w, i32_w]
            rfl
          refine pure_ (i := 5) (N := some 15) (v := ?_) (a' := ?_) #[true, true, true, true, true, true, false] rfl rfl (by kernel_rfl) (fun _ _ _ h => h) (Or.inl ⟨by rfl, ?_⟩) ?_ ?_
          rotate_left
          · intro w'
            go_simp
            with_reducible rfl
          rotate_left
          · simp only [Act.put, List.setIfInBounds_toArray, List.set_cons_zero, List.set_cons_succ, i64_w, i32_w]
            rfl
          refine pure_ (i := 6) (N := some 3) (v := ?_) (a' := ?_) #[true, true, true, true, true, true, true] rfl rfl (by kernel_rfl) (fun _ _ _ h => h) (Or.inl ⟨by rfl, ?_⟩) ?_ ?_
          rotate_left
          · intro w'
            go_simp
            with_reducible rfl
          rotate_left
          · simp only [Act.put, List.setIfInBounds_toArray, List.set_cons_zero, List.set_cons_succ, i64_w, i32_w]
            rfl
          refine done_ (by kernel_rfl) ?_
          try go_wp2
          go_loopg [3, 4] k (fun kq v3 v4 w' => ∃ (x3_1 : ByteArray) (x4_1 : Int), v3 = .string x3_1 ∧ v4 = .int .i64 x4_1 ∧ Aside0 (epactref12_line.l0 kq x3_1 x4_1 a0_0 a0_1 l0_2 l0_3 = some r) ∧ Aside0 (kq ≤ k) ∧ Aside0 (w'.heap[gb309]? = some (.cells #[.int .u8 a0_0, .string a0_1, (.slice A0_2 l0_2.length c0_2), (.slice A0_3 l0_3.length c0_3)] 25 (0, 0))) ∧ Aside0 (Below w.heap.size w w'))
          case atStart => exact ⟨((rdOf ByteArray.empty t310 a0_0) ++ (⟨#[40]⟩ : ByteArray)), (0), (by first | rfl | (simp; done) | (simp [*]; done)), (by first | rfl | (simp; done) | (simp [*]; done)), H', ⟨Nat.le_refl _⟩, ⟨by (with_reducible repeat (first | refine blk_drewN ?_ _ | refine blk_drew ?_ | refine blk_alloc ?_ _)); exact BK309.out⟩, ⟨by repeat (first | (with_reducible first | exact HB.out | apply below_alloc | apply pw_below_drewN | apply below_drew1 | refine below_set ?_ GE309.out) | exact HB.out)⟩⟩
          case round =>
            clear H'
            try clear c1
            try clear c2
            try clear c2b0
            try clear c2b1
            try clear p2
            try clear p3
            try clear q3
            try clear hx3
            try clear c6
            try clear c6b0
            try clear c7
            try clear c7b0
            try clear c8
            try clear c8b0
            try clear c8b1
            try clear c8b2
            try clear c10
            try clear hcz10_0
            try clear hcz10_1
            try clear hcz10_2
            try clear hcz10_3
            try clear hcz4_0
            try clear hcz4_1
            try clear hcz4_2
            try clear hcz4_3
            try clear hfz10_0
            try clear hfz10_1
            try clear hfz10_2
            try clear hfz10_3
            try clear hfz4_0
            try clear hfz4_1
            try clear hfz4_2
            try clear hfz4_3
            try clear hx313_0
            try clear p313
            try clear q313
            obtain ⟨x3_1, x4_1, rfl, rfl, HA, HK1, BK309, HB⟩ := hrel
            cases gk with
            | zero => exact absurd HA.out (by simp [epactref12_line.l0])
            | succ k1 =>
              have H := HA.out
              clear HA
              simp only [epactref12_line.l0] at H
              by_cases c14 : x4_1 < (wrap64 ((l0_2.length : Int) + (l0_3.length : Int)))
              · rw [if_pos c14] at H
                have c14b0 : decide (x4_1 < (wrap64 ((l0_2.length : Int) + (l0_3.length : Int)))) = true := decide_eq_true c14
                clear c14
                have HC15 := Aside0.mk H
                clear H
                have hcz16_0 : wr.cell? ⟨gb309, 0, none⟩ = some (.int .u8 a0_0) := (blk_cell BK309.out 0).trans rfl
                have hcz16_1 : wr.cell? ⟨gb309, 1, none⟩ = some (.string a0_1) := (blk_cell BK309.out 1).trans rfl
                have hcz16_2 : wr.cell? ⟨gb309, 2, none⟩ = some (.slice A0_2 l0_2.length c0_2) := (blk_cell BK309.out 2).trans rfl
                have hcz16_3 : wr.cell? ⟨gb309, 3, none⟩ = some (.slice A0_3 l0_3.length c0_3) := (blk_cell BK309.out 3).trans rfl
                have hfz16_0 := blk_frozen BK309.out 0
                have hfz16_1 := blk_frozen BK309.out 1
                have hfz16_2 := blk_frozen BK309.out 2
                have hfz16_3 := blk_frozen BK309.out 3
                go_upto_if 28 with (fail)
                go_cut [3] (fun v3 wc => ∃ (kq : Nat) (x3_14 : ByteArray), v3 = .string x3_14 ∧ Aside0 (epactref12_line.j1 kq x3_14 x4_1 a0_0 a0_1 l0_2 l0_3 = some r) ∧ Aside0 (kq ≤ k1) ∧ Aside0 (wc.heap[gb309]? = some (.cells #[.int .u8 a0_0, .string a0_1, (.slice A0_2 l0_2.length c0_2), (.slice A0_3 l0_3.length c0_3)] 25 (0, 0))) ∧ Aside0 (Below w.heap.size w wc))
                case first =>
                  have H := HC15.out
                  clear HC15
                  by_cases c17 : x4_1 > 0
                  · rw [if_pos c17] at H
                    have c17b0 : decide (0 < x4_1) = true := decide_eq_true c17
                    clear c17
                    (first | rw [c17b0] | (simp only [i64_w, i32_w]; rw [c17b0]) | skip)
                    by_cases c18 : x3_1.size + 2 ≤ 9223372036854775807
                    · rw [if_pos c18] at H
                      have c18b0 := eq_true c18
                      have c18b1 : decide (x3_1.size + 2 ≤ 9223372036854775807) = true := decide_eq_true c18
                      try have c18b2 : (9223372036854775807 < x3_1.size + 2) = False := eq_false (Nat.not_lt.2 c18)
                      have H' := Aside0.mk H
                      clear H
                      go_wp2
                      go_meet
                      case rel => exact ⟨_, (x3_1 ++ (⟨#[44, 32]⟩ : ByteArray)), (by first | rfl | (simp; done) | (simp [*]; done)), H', ⟨by have := HK1.out; first | omega | exact Nat.le_refl _⟩, ⟨by (with_reducible repeat (first | refine blk_drewN ?_ _ | refine blk_drew ?_ | refine blk_alloc ?_ _)); exact BK309.out⟩, ⟨by repeat (first | (with_reducible first | exact HB.out | apply below_alloc | apply pw_below_drewN | apply below_drew1 | refine below_set ?_ GE309.out) | exact HB.out)⟩⟩
                    · rw [if_neg c18] at H
                      exact absurd H (by simp)
                  · rw [if_neg c17] at H
                    have c17b0 : decide (0 < x4_1) = false := decide_eq_false c17
                    clear c17
                    (first | rw [c17b0] | (simp only [i64_w, i32_w]; rw [c17b0]) | skip)
                    have H' := Aside0.mk H
                    clear H
                    go_wp2
                    go_meet
                    case rel => exact ⟨_, (x3_1), (by first | rfl | (simp; done) | (simp [*]; done)), H', ⟨by have := HK1.out; first | omega | exact Nat.le_refl _⟩, ⟨by (with_reducible repeat (first | refine blk_drewN ?_ _ | refine blk_drew ?_ | refine blk_alloc ?_ _)); exact BK309.out⟩, ⟨by repeat (first | (with_reducible first | exact HB.out | apply below_alloc | apply pw_below_drewN | apply below_drew1 | refine below_set ?_ GE309.out) | exact HB.out)⟩⟩
                case rest =>
                  clear HC15
                  try clear c1
                  try clear c2
                  try clear c2b0
                  try clear c2b1
                  try clear p2
                  try clear p3
                  try clear q3
                  try clear hx3
                  try clear c6
                  try clear c6b0
                  try clear p6
                  try clear c7
                  try clear c7b0
                  try clear c8
                  try clear c8b0
                  try clear c8b1
                  try clear c8b2
                  try clear c10
                  try clear c14
                  try clear c14b0
                  try clear c17
                  try clear c17b0
                  try clear c18
                  try clear c18b0
                  try clear c18b1
                  try clear c18b2
                  try clear hcz10_0
                  try clear hcz10_1
                  try clear hcz10_2
                  try clear hcz10_3
                  try clear hcz16_0
                  try clear hcz16_1
                  try clear hcz16_2
                  try clear hcz16_3
                  try clear hcz4_0
                  try clear hcz4_1
                  try clear hcz4_2
                  try clear hcz4_3
                  try clear hfz10_0
                  try clear hfz10_1
                  try clear hfz10_2
                  try clear hfz10_3
                  try clear hfz16_0
                  try clear hfz16_1
                  try clear hfz16_2
                  try clear hfz16_3
                  try clear hfz4_0
                  try clear hfz4_1
                  try clear hfz4_2
                  try clear hfz4_3
                  try clear hx313_0
                  try clear p2
                  try clear p3
                  try clear p313
                  try clear q3
                  try clear q313
                  obtain ⟨kq, x3_14, rfl, HA, HJ14, BK309, HB⟩ := hcut
                  cases kq with
                  | zero => exact absurd HA.out (by simp [epactref12_line.j1])
                  | succ kj14 =>
                    have H := HA.out
                    clear HA
                    simp only [epactref12_line.j1] at H
                    by_cases c19 : x4_1 < (l0_2.length : Int)
                    · rw [if_pos c19] at H
                      have c19b0 : decide (x4_1 < (l0_2.length : Int)) = true := decide_eq_true c19
                      clear c19
                      by_cases c20 : 0 ≤ x4_1
                      · rw [if_pos c20] at H
                        have c20b0 : decide (0 ≤ x4_1) = true := decide_eq_true c20
                        clear c20
                        replace H := Option.bind_eq_some_iff.mp H
                        obtain ⟨t315, A210, H⟩ := H
                        replace H : (if x3_14.size + t315.size ≤ 9223372036854775807 then (epactref12_line.l0 kj14 (x3_14 ++ t315) (wrap64 (x4_1 + 1)) a0_0 a0_1 l0_2 l0_3) else (none)) = some r := H
                        have A21 := Aside0.mk A210
                        clear A210
                        by_cases c22 : x3_14.size + t315.size ≤ 9223372036854775807
                        · rw [if_pos c22] at H
                          have c22b0 := eq_true c22
                          have c22b1 : decide (x3_14.size + t315.size ≤ 9223372036854775807) = true := decide_eq_true c22
                          try have c22b2 : (9223372036854775807 < x3_14.size + t315.size) = False := eq_false (Nat.not_lt.2 c22)
                          have H' := Aside0.mk H
                          clear H
                          have hcz23_0 : wc.cell? ⟨gb309, 0, none⟩ = some (.int .u8 a0_0) := (blk_cell BK309.out 0).trans rfl
                          have hcz23_1 : wc.cell? ⟨gb309, 1, none⟩ = some (.string a0_1) := (blk_cell BK309.out 1).trans rfl
                          have hcz23_2 : wc.cell? ⟨gb309, 2, none⟩ = some (.slice A0_2 l0_2.length c0_2) := (blk_cell BK309.out 2).trans rfl
                          have hcz23_3 : wc.cell? ⟨gb309, 3, none⟩ = some (.slice A0_3 l0_3.length c0_3) := (blk_cell BK309.out 3).trans rfl
                          have hfz23_0 := blk_frozen BK309.out 0
                          have hfz23_1 := blk_frozen BK309.out 1
                          have hfz23_2 := blk_frozen BK309.out 2
                          have hfz23_3 := blk_frozen BK309.out 3
                          have p314 : 0 ≤ (x4_1 : Int) := of_decide_eq_true (by first | (with_reducible assumption) | assumption)
                          have q314 : x4_1 < (l0_2.length : Int) := of_decide_eq_true (by first | (with_reducible assumption) | assumption)
                          obtain ⟨ad314, e314, hx314_0⟩ := Kd.at_int HR0_2.out x4_1 p314 q314
                          cases e314
                          replace hx314_0 := (HB.out.cell (World.block_lt_of_cell? w _ hx314_0)).trans hx314_0
                          replace p314 := eq_true p314
                          replace q314 := eq_true q314
                          go_wp2_with (first | ((with_reducible refine gate_callee (f := 62) rfl ?_); refine goesL_ (some 42) rfl rfl Tryz.func62 (by kernel_rfl) rfl #[.int .i64 (rd l0_2 x4_1)] rfl (by (try simp only [List.map_toArray, List.map_cons, List.map_nil]); first | done | rfl | (simp only [List.length_drop, List.length_take]; rfl)) ?_; (with_reducible refine (epactref12_number.calls kj14 (rd l0_2 x4_1) t315 _ A21.out).mono ?_); rintro e w24 ⟨rfl, hb⟩; refine ⟨_, rfl, ?_⟩; have n0_ := Aside0.mk (blk_below (g := gb309) (o := .cells #[.int .u8 a0_0, .string a0_1, .slice (some ad314) l0_2.length c0_2, .slice A0_3 l0_3.length c0_3] 25 (0, 0)) (by (with_reducible repeat (first | refine blk_drewN ?_ _ | refine blk_drew ?_ | refine blk_alloc ?_ _)); exact BK309.out) hb); have n1_ := Aside0.mk (below_step (by repeat (first | (with_reducible first | exact HB.out | apply below_alloc | apply pw_below_drewN | apply below_drew1 | refine below_set ?_ GE309.out) | exact HB.out)) hb); clear BK309; clear HB; have BK309 := n0_; have HB := n1_; clear n0_ n1_; (try clear hb); (try clear hb2); (try clear hk); (try clear hi)))
                          go_roundg kj14
                          case measure => have := HK1.out; have := HJ14.out; omega
                          case rel => exact ⟨(x3_14 ++ t315), (wrap64 (x4_1 + 1)), (by first | rfl | (simp; done) | (simp [*]; done)), (by first | rfl | (simp; done) | (simp [*]; done)), H', ⟨by have := HK1.out; have := HJ14.out; omega⟩, ⟨by (with_reducible repeat (first | refine blk_drewN ?_ _ | refine blk_drew ?_ | refine blk_alloc ?_ _)); exact BK309.out⟩, ⟨by repeat (first | (with_reducible first | exact HB.out | apply below_alloc | apply pw_below_drewN | apply below_drew1 | refine below_set ?_ GE309.out) | exact HB.out)⟩⟩
                        · rw [if_neg c22] at H
                          exact absurd H (by simp)
                      · rw [if_neg c20] at H
                        exact absurd H (by simp)
                    · rw [if_neg c19] at H
                      have c19b0 : decide (x4_1 < (l0_2.length : Int)) = false := decide_eq_false c19
                      clear c19
                      obtain ⟨ji25, hji25⟩ : ∃ j_ : Int, (wrap64 (x4_1 - (l0_2.length : Int))) = j_ := ⟨_, rfl⟩
                      replace H : (if 0 ≤ (ji25) then (if (ji25) < (l0_3.length : Int) then ((epactref12_line.f kj14 ((rd_T25 l0_3 (ji25)).f0) ((rd_T25 l0_3 (ji25)).f1) ((rd_T25 l0_3 (ji25)).f2) ((rd_T25 l0_3 (ji25)).f3)).bind fun t317 => (if x3_14.size + t317.size ≤ 9223372036854775807 then (epactref12_line.l0 kj14 (x3_14 ++ t317) (wrap64 (x4_1 + 1)) a0_0 a0_1 l0_2 l0_3) else (none))) else (none)) else (none)) = some r := by first | (rw [hji25] at H; exact H) | (simp only [hji25] at H ⊢; exact H)
                      have hji25w : (IntKind.i64.wrap (x4_1 - (l0_2.length : Int))) = ji25 := (i64_w _).trans hji25
                      by_cases c26 : 0 ≤ (ji25)
                      · rw [if_pos c26] at H
                        have c26b0 : decide (0 ≤ (ji25)) = true := decide_eq_true c26
                        clear c26
                        by_cases c27 : (ji25) < (l0_3.length : Int)
                        · rw [if_pos c27] at H
                          have c27b0 : decide ((ji25) < (l0_3.length : Int)) = true := decide_eq_true c27
                          clear c27
                          replace H := Option.bind_eq_some_iff.mp H
                          obtain ⟨t317, A280, H⟩ := H
                          replace H : (if x3_14.size + t317.size ≤ 9223372036854775807 then (epactref12_line.l0 kj14 (x3_14 ++ t317) (wrap64 (x4_1 + 1)) a0_0 a0_1 l0_2 l0_3) else (none)) = some r := H
                          have A28 := Aside0.mk A280
                          clear A280
                          by_cases c29 : x3_14.size + t317.size ≤ 9223372036854775807
                          · rw [if_pos c29] at H
                            have c29b0 := eq_true c29
                            have c29b1 : decide (x3_14.size + t317.size ≤ 9223372036854775807) = true := decide_eq_true c29
                            try have c29b2 : (9223372036854775807 < x3_14.size + t317.size) = False := eq_false (Nat.not_lt.2 c29)
                            have H' := Aside0.mk H
                            clear H
                            have hcz30_0 : wc.cell? ⟨gb309, 0, none⟩ = some (.int .u8 a0_0) := (blk_cell BK309.out 0).trans rfl
                            have hcz30_1 : wc.cell? ⟨gb309, 1, none⟩ = some (.string a0_1) := (blk_cell BK309.out 1).trans rfl
                            have hcz30_2 : wc.cell? ⟨gb309, 2, none⟩ = some (.slice A0_2 l0_2.length c0_2) := (blk_cell BK309.out 2).trans rfl
                            have hcz30_3 : wc.cell? ⟨gb309, 3, none⟩ = some (.slice A0_3 l0_3.length c0_3) := (blk_cell BK309.out 3).trans rfl
                            have hfz30_0 := blk_frozen BK309.out 0
                            have hfz30_1 := blk_frozen BK309.out 1
                            have hfz30_2 := blk_frozen BK309.out 2
                            have hfz30_3 := blk_frozen BK309.out 3
                            have p316 : 0 ≤ ((ji25) : Int) := of_decide_eq_true (by first | (with_reducible assumption) | assumption)
                            have q316 : (ji25) < (l0_3.length : Int) := of_decide_eq_true (by first | (with_reducible assumption) | assumption)
                            obtain ⟨ad316, A316_2, c316_2, A316_3, c316_3, e316, hx316_0, hx316_1, hx316_2, hx316_3, hl316_2, hi316_2, hl316_3, hi316_3⟩ := at_T25 HR0_3.out (ji25) p316 q316
                            cases e316
                            replace hx316_0 := (HB.out.cell (World.block_lt_of_cell? w _ hx316_0)).trans hx316_0
                            replace hx316_1 := (HB.out.cell (World.block_lt_of_cell? w _ hx316_1)).trans hx316_1
                            replace hx316_2 := (HB.out.cell (World.block_lt_of_cell? w _ hx316_2)).trans hx316_2
                            replace hx316_3 := (HB.out.cell (World.block_lt_of_cell? w _ hx316_3)).trans hx316_3
                            have HR316_2 := Aside0.mk hi316_2
                            have HC316_2 := Aside0.mk hl316_2
                            clear hi316_2 hl316_2
                            have HR316_3 := Aside0.mk hi316_3
                            have HC316_3 := Aside0.mk hl316_3
                            clear hi316_3 hl316_3
                            replace p316 := eq_true p316
                            replace q316 := eq_true q316
                            go_wp2_with (first | ((with_reducible refine gate_callee (f := 60) rfl ?_); refine goesL_ (some 54) rfl rfl Tryz.func60 (by kernel_rfl) rfl #[.agg #[.int .u8 ((rd_T25 l0_3 (ji25)).f0), .string ((rd_T25 l0_3 (ji25)).f1), .slice A316_2 ((rd_T25 l0_3 (ji25)).f2).length c316_2, .slice A316_3 ((rd_T25 l0_3 (ji25)).f3).length c316_3]] rfl (by (try simp only [List.map_toArray, List.map_cons, List.map_nil]); first | done | (simp only [hji25]; rfl) | rfl | (simp only [List.length_drop, List.length_take]; rfl)) ?_; (with_reducible refine (ih kj14 (by have := HK1.out; have := HJ14.out; omega) ((rd_T25 l0_3 (ji25)).f0) ((rd_T25 l0_3 (ji25)).f1) _ _ ((rd_T25 l0_3 (ji25)).f2) _ _ ((rd_T25 l0_3 (ji25)).f3) t317 _ ?side1 ?side2 ?side3 ?side4 A28.out).mono ?_); (case side1 => repeat (first | exact (Kd.C_below HR316_2.out HB.out) | (with_reducible refine Kd.C_alloc ?_ _) | (with_reducible refine Kd.C_drewN ?_ _) | (with_reducible refine Kd.C_drew ?_))); (case side2 => exact HC316_2.out); (case side3 => repeat (first | exact (Kd.C_below HR316_3.out HB.out) | (with_reducible refine Kd.C_alloc ?_ _) | (with_reducible refine Kd.C_drewN ?_ _) | (with_reducible refine Kd.C_drew ?_))); (case side4 => exact HC316_3.out); rintro e w31 ⟨rfl, hb⟩; refine ⟨_, rfl, ?_⟩; have n0_ := Aside0.mk (blk_below (g := gb309) (o := .cells #[.int .u8 a0_0, .string a0_1, .slice A0_2 l0_2.length c0_2, .slice (some ad316) l0_3.length c0_3] 25 (0, 0)) (by (with_reducible repeat (first | refine blk_drewN ?_ _ | refine blk_drew ?_ | refine blk_alloc ?_ _)); exact BK309.out) hb); have n1_ := Aside0.mk (below_step (by repeat (first | (with_reducible first | exact HB.out | apply below_alloc | apply pw_below_drewN | apply below_drew1 | refine below_set ?_ GE309.out) | exact HB.out)) hb); clear BK309; clear HB; have BK309 := n0_; have HB := n1_; clear n0_ n1_; (try clear hb); (try clear hb2); (try clear hk); (try clear hi)))
                            go_roundg kj14
                            case measure => have := HK1.out; have := HJ14.out; omega
                            case rel => exact ⟨(x3_14 ++ t317), (wrap64 (x4_1 + 1)), (by first | rfl | (simp; done) | (simp [*]; done)), (by first | rfl | (simp; done) | (simp [*]; done)), H', ⟨by have := HK1.out; have := HJ14.out; omega⟩, ⟨by (with_reducible repeat (first | refine blk_drewN ?_ _ | refine blk_drew ?_ | refine blk_alloc ?_ _)); exact BK309.out⟩, ⟨by repeat (first | (with_reducible first | exact HB.out | apply below_alloc | apply pw_below_drewN | apply below_drew1 | refine below_set ?_ GE309.out) | exact HB.out)⟩⟩
                          · rw [if_neg c29] at H
                            exact absurd H (by simp)
                        · rw [if_neg c27] at H
                          exact absurd H (by simp)
                      · rw [if_neg c26] at H
                        exact absurd H (by simp)
              · rw [if_neg c14] at H
                have c14b0 : decide (x4_1 < (wrap64 ((l0_2.length : Int) + (l0_3.length : Int)))) = false := decide_eq_false c14
                clear c14
                by_cases c32 : x3_1.size + 1 ≤ 9223372036854775807
                · rw [if_pos c32] at H
                  have c32b0 := eq_true c32
                  have c32b1 : decide (x3_1.size + 1 ≤ 9223372036854775807) = true := decide_eq_true c32
                  try have c32b2 : (9223372036854775807 < x3_1.size + 1) = False := eq_false (Nat.not_lt.2 c32)
                  obtain rfl := Option.some.inj H
                  have hcz33_0 : wr.cell? ⟨gb309, 0, none⟩ = some (.int .u8 a0_0) := (blk_cell BK309.out 0).trans rfl
                  have hcz33_1 : wr.cell? ⟨gb309, 1, none⟩ = some (.string a0_1) := (blk_cell BK309.out 1).trans rfl
                  have hcz33_2 : wr.cell? ⟨gb309, 2, none⟩ = some (.slice A0_2 l0_2.length c0_2) := (blk_cell BK309.out 2).trans rfl
                  have hcz33_3 : wr.cell? ⟨gb309, 3, none⟩ = some (.slice A0_3 l0_3.length c0_3) := (blk_cell BK309.out 3).trans rfl
                  have hfz33_0 := blk_frozen BK309.out 0
                  have hfz33_1 := blk_frozen BK309.out 1
                  have hfz33_2 := blk_frozen BK309.out 2
                  have hfz33_3 := blk_frozen BK309.out 3
                  go_wp2
                  go_ret
                  exact ⟨by first | rfl | (simp [errW_none, errW_some] <;> rfl) | (simp [*, errW_none, errW_some] <;> rfl), by repeat (first | (with_reducible first | exact HB.out | apply below_alloc | apply pw_below_drewN | apply below_drew1 | refine below_set ?_ GE309.out) | exact HB.out)⟩
                · rw [if_neg c32] at H
                  exact absurd H (by simp)
        · rw [if_neg c8] at H
          exact absurd H (by simp)
      · rw [if_neg c7] at H
        exact absurd H (by simp)
    · rw [if_neg c6] at H
      exact absurd H (by simp)
def epactref12_Expr.f (k : Nat) (a0_0 : Int) (a0_1 : ByteArray) (l0_2 : List Int) (l0_3 : List (S25)) : Option (ByteArray × Int) := (epactref09_Right.f k a0_0 a0_1 l0_2 l0_3).bind fun t319 => (if t319 = true then ((epactref12_line.f k a0_0 a0_1 l0_2 l0_3).bind fun t320 => (some (t320, 0))) else (some ((⟨#[]⟩ : ByteArray), 110)))
set_option maxHeartbeats 8000000 in
set_option maxRecDepth 100000 in
theorem epactref12_Expr.calls (k : Nat) (a0_0 : Int) (a0_1 : ByteArray) (A0_2 : Option Addr) (c0_2 : Nat) (l0_2 : List Int) (A0_3 : Option Addr) (c0_3 : Nat) (l0_3 : List (S25)) (r1 : ByteArray) (r2 : Int) (w : World) (hr0_2 : Kd.C (Kd.int .i64) w A0_2 l0_2.length l0_2) (hc0_2 : l0_2.length ≤ c0_2) (hr0_3 : Kd.C k25 w A0_3 l0_3.length l0_3) (hc0_3 : l0_3.length ≤ c0_3) (h : epactref12_Expr.f k a0_0 a0_1 l0_2 l0_3 = some (r1, r2)) :
    Calls Tryz.prog 22 #[.agg #[.int .u8 a0_0, .string a0_1, .slice A0_2 l0_2.length c0_2, .slice A0_3 l0_3.length c0_3]] w fun e w' => e = .returned (.tuple #[.string r1, .int .i64 r2]) ∧ Below w.heap.size w w' := by
  have hu25 := Tryz.underlying25
  have HR0_2 := Aside0.mk hr0_2
  have HC0_2 := Aside0.mk hc0_2
  clear hr0_2 hc0_2
  have HR0_3 := Aside0.mk hr0_3
  have HC0_3 := Aside0.mk hc0_3
  clear hr0_3 hc0_3
  have HB := Aside0.mk (Below.refl w.heap.size w)
  have H : ((epactref09_Right.f k a0_0 a0_1 l0_2 l0_3).bind fun t319 => (if t319 = true then ((epactref12_line.f k a0_0 a0_1 l0_2 l0_3).bind fun t320 => (some (t320, 0))) else (some ((⟨#[]⟩ : ByteArray), 110)))) = some (r1, r2) := h
  clear h
  replace H := Option.bind_eq_some_iff.mp H
  obtain ⟨t319, A20, H⟩ := H
  replace H : (if t319 = true then ((epactref12_line.f k a0_0 a0_1 l0_2 l0_3).bind fun t320 => (some (t320, 0))) else (some ((⟨#[]⟩ : ByteArray), 110))) = some (r1, r2) := H
  have A2 := Aside0.mk A20
  clear A20
  by_cases c3 : t319 = true
  · subst c3
    have H1 : ((epactref12_line.f k a0_0 a0_1 l0_2 l0_3).bind fun t320 => (some (t320, 0))) = some (r1, r2) := by rw [if_pos rfl] at H; exact H
    clear H
    have H := H1
    clear H1
    replace H := Option.bind_eq_some_iff.mp H
    obtain ⟨t320, A40, H⟩ := H
    replace H : (some (t320, 0)) = some (r1, r2) := H
    have A4 := Aside0.mk A40
    clear A40
    simp only [Option.some.injEq, Prod.mk.injEq] at H
    obtain ⟨rfl, rfl⟩ := H
    go_enter Tryz.func22, Tryz.ntmps22
    go_wp2_with (first | ((with_reducible refine gate_dst (N := 1) rfl ?_); refine box_event ?hg (N := 1) ?hd (cs := #[.int .u8 a0_0, .string a0_1, .slice A0_2 l0_2.length c0_2, .slice A0_3 l0_3.length c0_3]) (t := 25) ?hr ?_; (case hd => rfl); (case hg => rfl); (case hr => first | (go_simp; done) | (go_simp; rfl)); intro gb318 hg w5 hbox hb; have n0_ := Aside0.mk (below_step (by repeat (first | (with_reducible first | exact HB.out | apply below_alloc | apply pw_below_drewN | apply below_drew1) | exact HB.out)) hb); have n1_ := Aside0.mk (hbox); have n2_ := Aside0.mk ((by rw [hg]; exact (below_size (by repeat (first | (with_reducible first | exact HB.out | apply below_alloc | apply pw_below_drewN | apply below_drew1) | exact HB.out))) : w.heap.size ≤ gb318)); have n3_ := Aside0.mk ((by rw [hg]; exact (below_size (by repeat (first | (with_reducible first | exact HB.out | apply below_alloc | apply pw_below_drewN | apply below_drew1) | exact HB.out))) : w.heap.size ≤ gb318)); clear HB; have HB := n0_; have BK318 := n1_; have GW318 := n2_; have GE318 := n3_; clear n0_ n1_ n2_ n3_; clear hb hbox hg; have hcz6_0 : w5.cell? ⟨gb318, 0, none⟩ = some (.int .u8 a0_0) := (blk_cell BK318.out 0).trans rfl; have hcz6_1 : w5.cell? ⟨gb318, 1, none⟩ = some (.string a0_1) := (blk_cell BK318.out 1).trans rfl; have hcz6_2 : w5.cell? ⟨gb318, 2, none⟩ = some (.slice A0_2 l0_2.length c0_2) := (blk_cell BK318.out 2).trans rfl; have hcz6_3 : w5.cell? ⟨gb318, 3, none⟩ = some (.slice A0_3 l0_3.length c0_3) := (blk_cell BK318.out 3).trans rfl; have hfz6_0 := blk_frozen BK318.out 0; have hfz6_1 := blk_frozen BK318.out 1; have hfz6_2 := blk_frozen BK318.out 2; have hfz6_3 := blk_frozen BK318.out 3) | ((with_reducible refine gate_callee (f := 59) rfl ?_); refine goesL_ (some 5) rfl rfl Tryz.func59 (by kernel_rfl) rfl #[.agg #[.int .u8 a0_0, .string a0_1, .slice A0_2 l0_2.length c0_2, .slice A0_3 l0_3.length c0_3]] rfl (by (try simp only [List.map_toArray, List.map_cons, List.map_nil]); first | done | rfl | (simp only [List.length_drop, List.length_take]; rfl)) ?_; (with_reducible refine (epactref09_Right.calls k a0_0 a0_1 _ _ l0_2 _ _ l0_3 true _ ?side1 ?side2 ?side3 ?side4 A2.out).mono ?_); (case side1 => repeat (first | exact (Kd.C_below HR0_2.out HB.out) | (with_reducible refine Kd.C_alloc ?_ _) | (with_reducible refine Kd.C_drewN ?_ _) | (with_reducible refine Kd.C_drew ?_))); (case side2 => exact HC0_2.out); (case side3 => repeat (first | exact (Kd.C_below HR0_3.out HB.out) | (with_reducible refine Kd.C_alloc ?_ _) | (with_reducible refine Kd.C_drewN ?_ _) | (with_reducible refine Kd.C_drew ?_))); (case side4 => exact HC0_3.out); rintro e w7 ⟨rfl, hb⟩; refine ⟨_, rfl, ?_⟩; have n0_ := Aside0.mk (blk_below (g := gb318) (o := .cells #[.int .u8 a0_0, .string a0_1, .slice A0_2 l0_2.length c0_2, .slice A0_3 l0_3.length c0_3] 25 (0, 0)) (by (with_reducible repeat (first | refine blk_drewN ?_ _ | refine blk_drew ?_ | refine blk_alloc ?_ _)); exact BK318.out) hb); have n1_ := Aside0.mk (below_step (by repeat (first | (with_reducible first | exact HB.out | apply below_alloc | apply pw_below_drewN | apply below_drew1 | refine below_set ?_ GE318.out) | exact HB.out)) hb); clear BK318; clear HB; have BK318 := n0_; have HB := n1_; clear n0_ n1_; (try clear hb); (try clear hb2); (try clear hk); (try clear hi); have hcz8_0 : w7.cell? ⟨gb318, 0, none⟩ = some (.int .u8 a0_0) := (blk_cell BK318.out 0).trans rfl; have hcz8_1 : w7.cell? ⟨gb318, 1, none⟩ = some (.string a0_1) := (blk_cell BK318.out 1).trans rfl; have hcz8_2 : w7.cell? ⟨gb318, 2, none⟩ = some (.slice A0_2 l0_2.length c0_2) := (blk_cell BK318.out 2).trans rfl; have hcz8_3 : w7.cell? ⟨gb318, 3, none⟩ = some (.slice A0_3 l0_3.length c0_3) := (blk_cell BK318.out 3).trans rfl; have hfz8_0 := blk_frozen BK318.out 0; have hfz8_1 := blk_frozen BK318.out 1; have hfz8_2 := blk_frozen BK318.out 2; have hfz8_3 := blk_frozen BK318.out 3) | ((with_reducible refine gate_callee (f := 60) rfl ?_); refine goesL_ (some 8) rfl rfl Tryz.func60 (by kernel_rfl) rfl #[.agg #[.int .u8 a0_0, .string a0_1, .slice A0_2 l0_2.length c0_2, .slice A0_3 l0_3.length c0_3]] rfl (by (try simp only [List.map_toArray, List.map_cons, List.map_nil]); first | done | rfl | (simp only [List.length_drop, List.length_take]; rfl)) ?_; (with_reducible refine (epactref12_line.calls k a0_0 a0_1 _ _ l0_2 _ _ l0_3 t320 _ ?side1 ?side2 ?side3 ?side4 A4.out).mono ?_); (case side1 => repeat (first | exact (Kd.C_below HR0_2.out HB.out) | (with_reducible refine Kd.C_alloc ?_ _) | (with_reducible refine Kd.C_drewN ?_ _) | (with_reducible refine Kd.C_drew ?_))); (case side2 => exact HC0_2.out); (case side3 => repeat (first | exact (Kd.C_below HR0_3.out HB.out) | (with_reducible refine Kd.C_alloc ?_ _) | (with_reducible refine Kd.C_drewN ?_ _) | (with_reducible refine Kd.C_drew ?_))); (case side4 => exact HC0_3.out); rintro e w9 ⟨rfl, hb⟩; refine ⟨_, rfl, ?_⟩; have n0_ := Aside0.mk (blk_below (g := gb318) (o := .cells #[.int .u8 a0_0, .string a0_1, .slice A0_2 l0_2.length c0_2, .slice A0_3 l0_3.length c0_3] 25 (0, 0)) (by (with_reducible repeat (first | refine blk_drewN ?_ _ | refine blk_drew ?_ | refine blk_alloc ?_ _)); exact BK318.out) hb); have n1_ := Aside0.mk (below_step (by repeat (first | (with_reducible first | exact HB.out | apply below_alloc | apply pw_below_drewN | apply below_drew1 | refine below_set ?_ GE318.out) | exact HB.out)) hb); clear BK318; clear HB; have BK318 := n0_; have HB := n1_; clear n0_ n1_; (try clear hb); (try clear hb2); (try clear hk); (try clear hi)))
    go_ret2
    exact ⟨by first | rfl | (simp [errW_none, errW_some] <;> rfl) | (simp [*, errW_none, errW_some] <;> rfl), by repeat (first | (with_reducible first | exact HB.out | apply below_alloc | apply pw_below_drewN | apply below_drew1 | refine below_set ?_ GE318.out) | exact HB.out)⟩
  · replace c3 := Bool.eq_false_iff.mpr c3
    subst c3
    have H1 : (some ((⟨#[]⟩ : ByteArray), 110)) = some (r1, r2) := by rw [if_neg (show ¬ (false = true) by decide)] at H; exact H
    clear H
    have H := H1
    clear H1
    simp only [Option.some.injEq, Prod.mk.injEq] at H
    obtain ⟨rfl, rfl⟩ := H
    go_enter Tryz.func22, Tryz.ntmps22
    go_wp2_with (first | ((with_reducible refine gate_dst (N := 1) rfl ?_); refine box_event ?hg (N := 1) ?hd (cs := #[.int .u8 a0_0, .string a0_1, .slice A0_2 l0_2.length c0_2, .slice A0_3 l0_3.length c0_3]) (t := 25) ?hr ?_; (case hd => rfl); (case hg => rfl); (case hr => first | (go_simp; done) | (go_simp; rfl)); intro gb318 hg w10 hbox hb; have n0_ := Aside0.mk (below_step (by repeat (first | (with_reducible first | exact HB.out | apply below_alloc | apply pw_below_drewN | apply below_drew1) | exact HB.out)) hb); have n1_ := Aside0.mk (hbox); have n2_ := Aside0.mk ((by rw [hg]; exact (below_size (by repeat (first | (with_reducible first | exact HB.out | apply below_alloc | apply pw_below_drewN | apply below_drew1) | exact HB.out))) : w.heap.size ≤ gb318)); have n3_ := Aside0.mk ((by rw [hg]; exact (below_size (by repeat (first | (with_reducible first | exact HB.out | apply below_alloc | apply pw_below_drewN | apply below_drew1) | exact HB.out))) : w.heap.size ≤ gb318)); clear HB; have HB := n0_; have BK318 := n1_; have GW318 := n2_; have GE318 := n3_; clear n0_ n1_ n2_ n3_; clear hb hbox hg; have hcz11_0 : w10.cell? ⟨gb318, 0, none⟩ = some (.int .u8 a0_0) := (blk_cell BK318.out 0).trans rfl; have hcz11_1 : w10.cell? ⟨gb318, 1, none⟩ = some (.string a0_1) := (blk_cell BK318.out 1).trans rfl; have hcz11_2 : w10.cell? ⟨gb318, 2, none⟩ = some (.slice A0_2 l0_2.length c0_2) := (blk_cell BK318.out 2).trans rfl; have hcz11_3 : w10.cell? ⟨gb318, 3, none⟩ = some (.slice A0_3 l0_3.length c0_3) := (blk_cell BK318.out 3).trans rfl; have hfz11_0 := blk_frozen BK318.out 0; have hfz11_1 := blk_frozen BK318.out 1; have hfz11_2 := blk_frozen BK318.out 2; have hfz11_3 := blk_frozen BK318.out 3) | ((with_reducible refine gate_callee (f := 59) rfl ?_); refine goesL_ (some 5) rfl rfl Tryz.func59 (by kernel_rfl) rfl #[.agg #[.int .u8 a0_0, .string a0_1, .slice A0_2 l0_2.length c0_2, .slice A0_3 l0_3.length c0_3]] rfl (by (try simp only [List.map_toArray, List.map_cons, List.map_nil]); first | done | rfl | (simp only [List.length_drop, List.length_take]; rfl)) ?_; (with_reducible refine (epactref09_Right.calls k a0_0 a0_1 _ _ l0_2 _ _ l0_3 false _ ?side1 ?side2 ?side3 ?side4 A2.out).mono ?_); (case side1 => repeat (first | exact (Kd.C_below HR0_2.out HB.out) | (with_reducible refine Kd.C_alloc ?_ _) | (with_reducible refine Kd.C_drewN ?_ _) | (with_reducible refine Kd.C_drew ?_))); (case side2 => exact HC0_2.out); (case side3 => repeat (first | exact (Kd.C_below HR0_3.out HB.out) | (with_reducible refine Kd.C_alloc ?_ _) | (with_reducible refine Kd.C_drewN ?_ _) | (with_reducible refine Kd.C_drew ?_))); (case side4 => exact HC0_3.out); rintro e w12 ⟨rfl, hb⟩; refine ⟨_, rfl, ?_⟩; have n0_ := Aside0.mk (blk_below (g := gb318) (o := .cells #[.int .u8 a0_0, .string a0_1, .slice A0_2 l0_2.length c0_2, .slice A0_3 l0_3.length c0_3] 25 (0, 0)) (by (with_reducible repeat (first | refine blk_drewN ?_ _ | refine blk_drew ?_ | refine blk_alloc ?_ _)); exact BK318.out) hb); have n1_ := Aside0.mk (below_step (by repeat (first | (with_reducible first | exact HB.out | apply below_alloc | apply pw_below_drewN | apply below_drew1 | refine below_set ?_ GE318.out) | exact HB.out)) hb); clear BK318; clear HB; have BK318 := n0_; have HB := n1_; clear n0_ n1_; (try clear hb); (try clear hb2); (try clear hk); (try clear hi)))
    go_ret2
    exact ⟨by first | rfl | (simp [errW_none, errW_some] <;> rfl) | (simp [*, errW_none, errW_some] <;> rfl), by repeat (first | (with_reducible first | exact HB.out | apply below_alloc | apply pw_below_drewN | apply below_drew1 | refine below_set ?_ GE318.out) | exact HB.out)⟩
end Go.Proofs.YtcinojbfjiohjaaGreatDoor.PPrintTells
end

section
namespace Go.Proofs.YtcinojbfjiohjaaGreatDoor.PPrintTells
open Go.RowKit Go.Proofs.YtcinojbfjiohjaaGreatDoorW.PrintWords Go.Proofs.YtcinojbfjiohjaaGreatDoorW.PrintLast Go.Proofs.YtcinojbfjiohjaaGreatDoorW.PrintMore
attribute [local go_sem] max2_int min2_int max_two min_two max_three min_three max_four min_four   -- for this text's walks alone
set_option linter.unusedVariables false
set_option linter.unusedSimpArgs false
mutual
def epactref11_Shape.j0 : Nat → ByteArray → Bool → Option (ByteArray × Bool)
  | 0, _, _ => none
  | k + 1, x4, x7 => if x7 = true then (some ((⟨#[110]⟩ : ByteArray), true)) else (if x4.toList = ([101, 120, 116, 101, 110, 116] : List UInt8) then (epactref11_Shape.j1 k x4 (x4.toList == ([101, 120, 116, 101, 110, 116] : List UInt8))) else (if x4.toList = ([103, 114, 97, 110, 117, 108, 101] : List UInt8) then (epactref11_Shape.j1 k x4 (x4.toList == ([103, 114, 97, 110, 117, 108, 101] : List UInt8))) else (if x4.toList = ([110, 101, 120, 116] : List UInt8) then (epactref11_Shape.j1 k x4 (x4.toList == ([110, 101, 120, 116] : List UInt8))) else (if x4.toList = ([112, 114, 101, 118] : List UInt8) then (epactref11_Shape.j1 k x4 (x4.toList == ([112, 114, 101, 118] : List UInt8))) else (epactref11_Shape.j1 k x4 (x4.toList == ([115, 112, 97, 110] : List UInt8)))))))
def epactref11_Shape.j1 : Nat → ByteArray → Bool → Option (ByteArray × Bool)
  | 0, _, _ => none
  | k + 1, x4, x12 => if x12 = true then (some ((⟨#[110, 105]⟩ : ByteArray), true)) else (if x4.toList = ([114, 101, 108] : List UInt8) then (some ((⟨#[110, 110]⟩ : ByteArray), true)) else (if x4.toList = ([99, 111, 118, 101, 114] : List UInt8) then (some ((⟨#[110, 110, 105]⟩ : ByteArray), true)) else (if x4.toList = ([98, 111, 117, 110, 100] : List UInt8) then (some ((⟨#[110, 110, 110, 114]⟩ : ByteArray), true)) else (if x4.toList = ([100, 97, 116, 101] : List UInt8) then (some ((⟨#[105]⟩ : ByteArray), true)) else (if x4.toList = ([115, 111, 108, 118, 101] : List UInt8) then (some ((⟨#[105, 105, 105]⟩ : ByteArray), true)) else (if x4.toList = ([110, 101, 116] : List UInt8) then (some ((⟨#[]⟩ : ByteArray), true)) else (if x4.toList = ([105, 110, 102, 101, 114] : List UInt8) then (some ((⟨#[]⟩ : ByteArray), true)) else (if x4.toList = ([114, 101, 115, 101, 116] : List UInt8) then (some ((⟨#[]⟩ : ByteArray), true)) else (some ((⟨#[]⟩ : ByteArray), false))))))))))
end
def epactref11_Shape.f (k : Nat) (a0 : ByteArray) : Option (ByteArray × Bool) := if a0.toList = ([100, 101, 102, 105, 110, 101] : List UInt8) then (some ((⟨#[110, 61, 101]⟩ : ByteArray), true)) else (if a0.toList = ([100, 114, 111, 112] : List UInt8) then (epactref11_Shape.j0 k a0 (a0.toList == ([100, 114, 111, 112] : List UInt8))) else (if a0.toList = ([115, 104, 111, 119] : List UInt8) then (epactref11_Shape.j0 k a0 (a0.toList == ([115, 104, 111, 119] : List UInt8))) else (if a0.toList = ([102, 111, 114, 109] : List UInt8) then (epactref11_Shape.j0 k a0 (a0.toList == ([102, 111, 114, 109] : List UInt8))) else (epactref11_Shape.j0 k a0 (a0.toList == ([118, 97, 114] : List UInt8))))))
theorem epactref11_Shape.mono_l : ∀ k, (∀ y0 y1, LeO (epactref11_Shape.j0 k y0 y1) (epactref11_Shape.j0 (k + 1) y0 y1)) ∧ (∀ y0 y1, LeO (epactref11_Shape.j1 k y0 y1) (epactref11_Shape.j1 (k + 1) y0 y1))
  | 0 => ⟨fun _ _ r h => by simp [epactref11_Shape.j0] at h, fun _ _ r h => by simp [epactref11_Shape.j1] at h⟩
  | k + 1 => by
    obtain ⟨ih0, ih1⟩ := epactref11_Shape.mono_l k
    refine ⟨?_, ?_⟩
    · intro y0 y1
      unfold epactref11_Shape.j0
      repeat' first
      | (with_reducible exact ih0 _ _)
      | (with_reducible exact ih1 _ _)
      | (with_reducible exact LeO.refl _)
      | (with_reducible exact LeO.none _)
      | (with_reducible refine LeO.ite ?_ ?_)
      | (with_reducible refine LeO.bind ?_ (fun _ => ?_))
      | exact ih0 _ _
      | exact ih1 _ _
      | exact LeO.none _
      | refine LeO.ite ?_ ?_
      | refine LeO.bind ?_ (fun _ => ?_)
    · intro y0 y1
      unfold epactref11_Shape.j1
      repeat' first
      | (with_reducible exact ih0 _ _)
      | (with_reducible exact ih1 _ _)
      | (with_reducible exact LeO.refl _)
      | (with_reducible exact LeO.none _)
      | (with_reducible refine LeO.ite ?_ ?_)
      | (with_reducible refine LeO.bind ?_ (fun _ => ?_))
      | exact ih0 _ _
      | exact ih1 _ _
      | exact LeO.none _
      | refine LeO.ite ?_ ?_
      | refine LeO.bind ?_ (fun _ => ?_)
theorem epactref11_Shape.mono : ∀ a0 k, LeO (epactref11_Shape.f k a0) (epactref11_Shape.f (k + 1) a0) := by
  intro a0 k
  obtain ⟨ih0, ih1⟩ := epactref11_Shape.mono_l k
  unfold epactref11_Shape.f
  repeat' first
      | (with_reducible exact ih0 _ _)
      | (with_reducible exact ih1 _ _)
      | (with_reducible exact LeO.refl _)
      | (with_reducible exact LeO.none _)
      | (with_reducible refine LeO.ite ?_ ?_)
      | (with_reducible refine LeO.bind ?_ (fun _ => ?_))
      | exact ih0 _ _
      | exact ih1 _ _
      | exact LeO.none _
      | refine LeO.ite ?_ ?_
      | refine LeO.bind ?_ (fun _ => ?_)
set_option maxHeartbeats 8000000 in
set_option maxRecDepth 100000 in
theorem epactref11_Shape.calls (k : Nat) (a0 : ByteArray) (r1 : ByteArray) (r2 : Bool) (w : World) (h : epactref11_Shape.f k a0 = some (r1, r2)) :
    Calls Tryz.prog 61 #[.string a0] w fun e w' => e = .returned (.tuple #[.string r1, .bool r2]) ∧ Drawn0 w w' := by
  have H : (if a0.toList = ([100, 101, 102, 105, 110, 101] : List UInt8) then (some ((⟨#[110, 61, 101]⟩ : ByteArray), true)) else (if a0.toList = ([100, 114, 111, 112] : List UInt8) then (epactref11_Shape.j0 k a0 (a0.toList == ([100, 114, 111, 112] : List UInt8))) else (if a0.toList = ([115, 104, 111, 119] : List UInt8) then (epactref11_Shape.j0 k a0 (a0.toList == ([115, 104, 111, 119] : List UInt8))) else (if a0.toList = ([102, 111, 114, 109] : List UInt8) then (epactref11_Shape.j0 k a0 (a0.toList == ([102, 111, 114, 109] : List UInt8))) else (epactref11_Shape.j0 k a0 (a0.toList == ([118, 97, 114] : List UInt8))))))) = some (r1, r2) := h
  clear h
  by_cases c2 : a0.toList = ([100, 101, 102, 105, 110, 101] : List UInt8)
  · rw [if_pos c2] at H
    have c2b0 : (a0.toList == ([100, 101, 102, 105, 110, 101] : List UInt8)) = true := beq_iff_eq.mpr c2
    have c2b1 : (a0.toList != ([100, 101, 102, 105, 110, 101] : List UInt8)) = false := bne_eq_false_iff_eq.mpr c2
    clear c2
    simp only [Option.some.injEq, Prod.mk.injEq] at H
    obtain ⟨rfl, rfl⟩ := H
    go_enter Tryz.func61, Tryz.ntmps61
    go_wp2
    go_ret2
    exact ⟨by first | rfl | (simp; done) | (simp [*]; done), by repeat (first | exact Drawn0.refl _ | apply Drawn0.step)⟩
  · rw [if_neg c2] at H
    have c2b0 : (a0.toList == ([100, 101, 102, 105, 110, 101] : List UInt8)) = false := beq_eq_false_iff_ne.mpr c2
    have c2b1 : (a0.toList != ([100, 101, 102, 105, 110, 101] : List UInt8)) = true := bne_iff_ne.mpr c2
    have HC3 := Aside0.mk H
    clear H
    go_enter Tryz.func61, Tryz.ntmps61
    go_upto_if 7 with (fail)
    go_cut [7] (fun v7 wc => ∃ (kq : Nat) (x7_2 : Bool), v7 = .bool x7_2 ∧ Aside0 (epactref11_Shape.j0 kq a0 x7_2 = some (r1, r2)) ∧ Aside0 (kq ≤ k) ∧ Drawn0 w wc)
    case first =>
      have H := HC3.out
      clear HC3
      by_cases c4 : a0.toList = ([100, 114, 111, 112] : List UInt8)
      · rw [if_pos c4] at H
        have c4b0 : (a0.toList == ([100, 114, 111, 112] : List UInt8)) = true := beq_iff_eq.mpr c4
        have c4b1 : (a0.toList != ([100, 114, 111, 112] : List UInt8)) = false := bne_eq_false_iff_eq.mpr c4
        clear c4
        (first | rw [c4b0] | (simp only [i64_w, i32_w]; rw [c4b0]) | skip)
        have H' := Aside0.mk H
        clear H
        go_wp2
        go_meet
        case rel => exact ⟨_, ((a0.toList == ([100, 114, 111, 112] : List UInt8))), (by first | rfl | (simp; done) | (simp [*]; done)), H', ⟨by first | omega | exact Nat.le_refl _⟩, by repeat (first | exact Drawn0.refl _ | apply Drawn0.step)⟩
      · rw [if_neg c4] at H
        have c4b0 : (a0.toList == ([100, 114, 111, 112] : List UInt8)) = false := beq_eq_false_iff_ne.mpr c4
        have c4b1 : (a0.toList != ([100, 114, 111, 112] : List UInt8)) = true := bne_iff_ne.mpr c4
        (first | rw [c4b0] | (simp only [i64_w, i32_w]; rw [c4b0]) | skip)
        by_cases c5 : a0.toList = ([115, 104, 111, 119] : List UInt8)
        · rw [if_pos c5] at H
          have c5b0 : (a0.toList == ([115, 104, 111, 119] : List UInt8)) = true := beq_iff_eq.mpr c5
          have c5b1 : (a0.toList != ([115, 104, 111, 119] : List UInt8)) = false := bne_eq_false_iff_eq.mpr c5
          clear c5
          have H' := Aside0.mk H
          clear H
          go_wp2
          go_meet
          case rel => exact ⟨_, ((a0.toList == ([115, 104, 111, 119] : List UInt8))), (by first | rfl | (simp; done) | (simp [*]; done)), H', ⟨by first | omega | exact Nat.le_refl _⟩, by repeat (first | exact Drawn0.refl _ | apply Drawn0.step)⟩
        · rw [if_neg c5] at H
          have c5b0 : (a0.toList == ([115, 104, 111, 119] : List UInt8)) = false := beq_eq_false_iff_ne.mpr c5
          have c5b1 : (a0.toList != ([115, 104, 111, 119] : List UInt8)) = true := bne_iff_ne.mpr c5
          by_cases c6 : a0.toList = ([102, 111, 114, 109] : List UInt8)
          · rw [if_pos c6] at H
            have c6b0 : (a0.toList == ([102, 111, 114, 109] : List UInt8)) = true := beq_iff_eq.mpr c6
            have c6b1 : (a0.toList != ([102, 111, 114, 109] : List UInt8)) = false := bne_eq_false_iff_eq.mpr c6
            clear c6
            have H' := Aside0.mk H
            clear H
            go_wp2
            go_meet
            case rel => exact ⟨_, ((a0.toList == ([102, 111, 114, 109] : List UInt8))), (by first | rfl | (simp; done) | (simp [*]; done)), H', ⟨by first | omega | exact Nat.le_refl _⟩, by repeat (first | exact Drawn0.refl _ | apply Drawn0.step)⟩
          · rw [if_neg c6] at H
            have c6b0 : (a0.toList == ([102, 111, 114, 109] : List UInt8)) = false := beq_eq_false_iff_ne.mpr c6
            have c6b1 : (a0.toList != ([102, 111, 114, 109] : List UInt8)) = true := bne_iff_ne.mpr c6
            have H' := Aside0.mk H
            clear H
            go_wp2
            go_meet
            case rel => exact ⟨_, ((a0.toList == ([118, 97, 114] : List UInt8))), (by first | rfl | (simp; done) | (simp [*]; done)), H', ⟨by first | omega | exact Nat.le_refl _⟩, by repeat (first | exact Drawn0.refl _ | apply Drawn0.step)⟩
    case rest =>
      clear HC3
      try clear c2
      try clear c2b0
      try clear c2b1
      try clear p2
      try clear c4
      try clear c4b0
      try clear c4b1
      try clear c5
      try clear c5b0
      try clear c5b1
      try clear c6
      try clear c6b0
      try clear c6b1
      obtain ⟨kq, x7_2, rfl, HA, HJ2, ⟨mc2, rfl⟩⟩ := hcut
      cases kq with
      | zero => exact absurd HA.out (by simp [epactref11_Shape.j0])
      | succ kj2 =>
        have H := HA.out
        clear HA
        simp only [epactref11_Shape.j0] at H
        by_cases c7 : x7_2 = true
        · subst c7
          have H1 : (some ((⟨#[110]⟩ : ByteArray), true)) = some (r1, r2) := by rw [if_pos rfl] at H; exact H
          clear H
          have H := H1
          clear H1
          simp only [Option.some.injEq, Prod.mk.injEq] at H
          obtain ⟨rfl, rfl⟩ := H
          go_wp2
          go_ret2
          exact ⟨by first | rfl | (simp; done) | (simp [*]; done), by repeat (first | exact Drawn0.refl _ | apply Drawn0.step)⟩
        · replace c7 := Bool.eq_false_iff.mpr c7
          subst c7
          have H1 : (if a0.toList = ([101, 120, 116, 101, 110, 116] : List UInt8) then (epactref11_Shape.j1 kj2 a0 (a0.toList == ([101, 120, 116, 101, 110, 116] : List UInt8))) else (if a0.toList = ([103, 114, 97, 110, 117, 108, 101] : List UInt8) then (epactref11_Shape.j1 kj2 a0 (a0.toList == ([103, 114, 97, 110, 117, 108, 101] : List UInt8))) else (if a0.toList = ([110, 101, 120, 116] : List UInt8) then (epactref11_Shape.j1 kj2 a0 (a0.toList == ([110, 101, 120, 116] : List UInt8))) else (if a0.toList = ([112, 114, 101, 118] : List UInt8) then (epactref11_Shape.j1 kj2 a0 (a0.toList == ([112, 114, 101, 118] : List UInt8))) else (epactref11_Shape.j1 kj2 a0 (a0.toList == ([115, 112, 97, 110] : List UInt8))))))) = some (r1, r2) := by rw [if_neg (show ¬ (false = true) by decide)] at H; exact H
          clear H
          have H := H1
          clear H1
          have HC8 := Aside0.mk H
          clear H
          go_upto_if 12 with (fail)
          go_cut [12] (fun v12 wc => ∃ (kq : Nat) (x12_7 : Bool), v12 = .bool x12_7 ∧ Aside0 (epactref11_Shape.j1 kq a0 x12_7 = some (r1, r2)) ∧ Aside0 (kq ≤ kj2) ∧ Drawn0 w wc)
          case first =>
            have H := HC8.out
            clear HC8
            by_cases c9 : a0.toList = ([101, 120, 116, 101, 110, 116] : List UInt8)
            · rw [if_pos c9] at H
              have c9b0 : (a0.toList == ([101, 120, 116, 101, 110, 116] : List UInt8)) = true := beq_iff_eq.mpr c9
              have c9b1 : (a0.toList != ([101, 120, 116, 101, 110, 116] : List UInt8)) = false := bne_eq_false_iff_eq.mpr c9
              clear c9
              (first | rw [c9b0] | (simp only [i64_w, i32_w]; rw [c9b0]) | skip)
              have H' := Aside0.mk H
              clear H
              go_wp2
              go_meet
              case rel => exact ⟨_, ((a0.toList == ([101, 120, 116, 101, 110, 116] : List UInt8))), (by first | rfl | (simp; done) | (simp [*]; done)), H', ⟨by have := HJ2.out; first | omega | exact Nat.le_refl _⟩, by repeat (first | exact Drawn0.refl _ | apply Drawn0.step)⟩
            · rw [if_neg c9] at H
              have c9b0 : (a0.toList == ([101, 120, 116, 101, 110, 116] : List UInt8)) = false := beq_eq_false_iff_ne.mpr c9
              have c9b1 : (a0.toList != ([101, 120, 116, 101, 110, 116] : List UInt8)) = true := bne_iff_ne.mpr c9
              (first | rw [c9b0] | (simp only [i64_w, i32_w]; rw [c9b0]) | skip)
              by_cases c10 : a0.toList = ([103, 114, 97, 110, 117, 108, 101] : List UInt8)
              · rw [if_pos c10] at H
                have c10b0 : (a0.toList == ([103, 114, 97, 110, 117, 108, 101] : List UInt8)) = true := beq_iff_eq.mpr c10
                have c10b1 : (a0.toList != ([103, 114, 97, 110, 117, 108, 101] : List UInt8)) = false := bne_eq_false_iff_eq.mpr c10
                clear c10
                have H' := Aside0.mk H
                clear H
                go_wp2
                go_meet
                case rel => exact ⟨_, ((a0.toList == ([103, 114, 97, 110, 117, 108, 101] : List UInt8))), (by first | rfl | (simp; done) | (simp [*]; done)), H', ⟨by have := HJ2.out; first | omega | exact Nat.le_refl _⟩, by repeat (first | exact Drawn0.refl _ | apply Drawn0.step)⟩
              · rw [if_neg c10] at H
                have c10b0 : (a0.toList == ([103, 114, 97, 110, 117, 108, 101] : List UInt8)) = false := beq_eq_false_iff_ne.mpr c10
                have c10b1 : (a0.toList != ([103, 114, 97, 110, 117, 108, 101] : List UInt8)) = true := bne_iff_ne.mpr c10
                by_cases c11 : a0.toList = ([110, 101, 120, 116] : List UInt8)
                · rw [if_pos c11] at H
                  have c11b0 : (a0.toList == ([110, 101, 120, 116] : List UInt8)) = true := beq_iff_eq.mpr c11
                  have c11b1 : (a0.toList != ([110, 101, 120, 116] : List UInt8)) = false := bne_eq_false_iff_eq.mpr c11
                  clear c11
                  have H' := Aside0.mk H
                  clear H
                  go_wp2
                  go_meet
                  case rel => exact ⟨_, ((a0.toList == ([110, 101, 120, 116] : List UInt8))), (by first | rfl | (simp; done) | (simp [*]; done)), H', ⟨by have := HJ2.out; first | omega | exact Nat.le_refl _⟩, by repeat (first | exact Drawn0.refl _ | apply Drawn0.step)⟩
                · rw [if_neg c11] at H
                  have c11b0 : (a0.toList == ([110, 101, 120, 116] : List UInt8)) = false := beq_eq_false_iff_ne.mpr c11
                  have c11b1 : (a0.toList != ([110, 101, 120, 116] : List UInt8)) = true := bne_iff_ne.mpr c11
                  by_cases c12 : a0.toList = ([112, 114, 101, 118] : List UInt8)
                  · rw [if_pos c12] at H
                    have c12b0 : (a0.toList == ([112, 114, 101, 118] : List UInt8)) = true := beq_iff_eq.mpr c12
                    have c12b1 : (a0.toList != ([112, 114, 101, 118] : List UInt8)) = false := bne_eq_false_iff_eq.mpr c12
                    clear c12
                    have H' := Aside0.mk H
                    clear H
                    go_wp2
                    go_meet
                    case rel => exact ⟨_, ((a0.toList == ([112, 114, 101, 118] : List UInt8))), (by first | rfl | (simp; done) | (simp [*]; done)), H', ⟨by have := HJ2.out; first | omega | exact Nat.le_refl _⟩, by repeat (first | exact Drawn0.refl _ | apply Drawn0.step)⟩
                  · rw [if_neg c12] at H
                    have c12b0 : (a0.toList == ([112, 114, 101, 118] : List UInt8)) = false := beq_eq_false_iff_ne.mpr c12
                    have c12b1 : (a0.toList != ([112, 114, 101, 118] : List UInt8)) = true := bne_iff_ne.mpr c12
                    have H' := Aside0.mk H
                    clear H
                    go_wp2
                    go_meet
                    case rel => exact ⟨_, ((a0.toList == ([115, 112, 97, 110] : List UInt8))), (by first | rfl | (simp; done) | (simp [*]; done)), H', ⟨by have := HJ2.out; first | omega | exact Nat.le_refl _⟩, by repeat (first | exact Drawn0.refl _ | apply Drawn0.step)⟩
          case rest =>
            clear HC8
            try clear c1
            try clear c2
            try clear c2b0
            try clear c2b1
            try clear p2
            try clear c4
            try clear c4b0
            try clear c4b1
            try clear c5
            try clear c5b0
            try clear c5b1
            try clear c6
            try clear c6b0
            try clear c6b1
            try clear c7
            try clear c9
            try clear c9b0
            try clear c9b1
            try clear c10
            try clear c10b0
            try clear c10b1
            try clear c11
            try clear c11b0
            try clear c11b1
            try clear c12
            try clear c12b0
            try clear c12b1
            try clear p2
            obtain ⟨kq, x12_7, rfl, HA, HJ7, ⟨mc7, rfl⟩⟩ := hcut
            cases kq with
            | zero => exact absurd HA.out (by simp [epactref11_Shape.j1])
            | succ kj7 =>
              have H := HA.out
              clear HA
              simp only [epactref11_Shape.j1] at H
              by_cases c13 : x12_7 = true
              · subst c13
                have H1 : (some ((⟨#[110, 105]⟩ : ByteArray), true)) = some (r1, r2) := by rw [if_pos rfl] at H; exact H
                clear H
                have H := H1
                clear H1
                simp only [Option.some.injEq, Prod.mk.injEq] at H
                obtain ⟨rfl, rfl⟩ := H
                go_wp2
                go_ret2
                exact ⟨by first | rfl | (simp; done) | (simp [*]; done), by repeat (first | exact Drawn0.refl _ | apply Drawn0.step)⟩
              · replace c13 := Bool.eq_false_iff.mpr c13
                subst c13
                have H1 : (if a0.toList = ([114, 101, 108] : List UInt8) then (some ((⟨#[110, 110]⟩ : ByteArray), true)) else (if a0.toList = ([99, 111, 118, 101, 114] : List UInt8) then (some ((⟨#[110, 110, 105]⟩ : ByteArray), true)) else (if a0.toList = ([98, 111, 117, 110, 100] : List UInt8) then (some ((⟨#[110, 110, 110, 114]⟩ : ByteArray), true)) else (if a0.toList = ([100, 97, 116, 101] : List UInt8) then (some ((⟨#[105]⟩ : ByteArray), true)) else (if a0.toList = ([115, 111, 108, 118, 101] : List UInt8) then (some ((⟨#[105, 105, 105]⟩ : ByteArray), true)) else (if a0.toList = ([110, 101, 116] : List UInt8) then (some ((⟨#[]⟩ : ByteArray), true)) else (if a0.toList = ([105, 110, 102, 101, 114] : List UInt8) then (some ((⟨#[]⟩ : ByteArray), true)) else (if a0.toList = ([114, 101, 115, 101, 116] : List UInt8) then (some ((⟨#[]⟩ : ByteArray), true)) else (some ((⟨#[]⟩ : ByteArray), false)))))))))) = some (r1, r2) := by rw [if_neg (show ¬ (false = true) by decide)] at H; exact H
                clear H
                have H := H1
                clear H1
                by_cases c14 : a0.toList = ([114, 101, 108] : List UInt8)
                · rw [if_pos c14] at H
                  have c14b0 : (a0.toList == ([114, 101, 108] : List UInt8)) = true := beq_iff_eq.mpr c14
                  have c14b1 : (a0.toList != ([114, 101, 108] : List UInt8)) = false := bne_eq_false_iff_eq.mpr c14
                  clear c14
                  simp only [Option.some.injEq, Prod.mk.injEq] at H
                  obtain ⟨rfl, rfl⟩ := H
                  go_wp2
                  go_ret2
                  exact ⟨by first | rfl | (simp; done) | (simp [*]; done), by repeat (first | exact Drawn0.refl _ | apply Drawn0.step)⟩
                · rw [if_neg c14] at H
                  have c14b0 : (a0.toList == ([114, 101, 108] : List UInt8)) = false := beq_eq_false_iff_ne.mpr c14
                  have c14b1 : (a0.toList != ([114, 101, 108] : List UInt8)) = true := bne_iff_ne.mpr c14
                  by_cases c15 : a0.toList = ([99, 111, 118, 101, 114] : List UInt8)
                  · rw [if_pos c15] at H
                    have c15b0 : (a0.toList == ([99, 111, 118, 101, 114] : List UInt8)) = true := beq_iff_eq.mpr c15
                    have c15b1 : (a0.toList != ([99, 111, 118, 101, 114] : List UInt8)) = false := bne_eq_false_iff_eq.mpr c15
                    clear c15
                    simp only [Option.some.injEq, Prod.mk.injEq] at H
                    obtain ⟨rfl, rfl⟩ := H
                    go_wp2
                    go_ret2
                    exact ⟨by first | rfl | (simp; done) | (simp [*]; done), by repeat (first | exact Drawn0.refl _ | apply Drawn0.step)⟩
                  · rw [if_neg c15] at H
                    have c15b0 : (a0.toList == ([99, 111, 118, 101, 114] : List UInt8)) = false := beq_eq_false_iff_ne.mpr c15
                    have c15b1 : (a0.toList != ([99, 111, 118, 101, 114] : List UInt8)) = true := bne_iff_ne.mpr c15
                    by_cases c16 : a0.toList = ([98, 111, 117, 110, 100] : List UInt8)
                    · rw [if_pos c16] at H
                      have c16b0 : (a0.toList == ([98, 111, 117, 110, 100] : List UInt8)) = true := beq_iff_eq.mpr c16
                      have c16b1 : (a0.toList != ([98, 111, 117, 110, 100] : List UInt8)) = false := bne_eq_false_iff_eq.mpr c16
                      clear c16
                      simp only [Option.some.injEq, Prod.mk.injEq] at H
                      obtain ⟨rfl, rfl⟩ := H
                      go_wp2
                      go_ret2
                      exact ⟨by first | rfl | (simp; done) | (simp [*]; done), by repeat (first | exact Drawn0.refl _ | apply Drawn0.step)⟩
                    · rw [if_neg c16] at H
                      have c16b0 : (a0.toList == ([98, 111, 117, 110, 100] : List UInt8)) = false := beq_eq_false_iff_ne.mpr c16
                      have c16b1 : (a0.toList != ([98, 111, 117, 110, 100] : List UInt8)) = true := bne_iff_ne.mpr c16
                      by_cases c17 : a0.toList = ([100, 97, 116, 101] : List UInt8)
                      · rw [if_pos c17] at H
                        have c17b0 : (a0.toList == ([100, 97, 116, 101] : List UInt8)) = true := beq_iff_eq.mpr c17
                        have c17b1 : (a0.toList != ([100, 97, 116, 101] : List UInt8)) = false := bne_eq_false_iff_eq.mpr c17
                        clear c17
                        simp only [Option.some.injEq, Prod.mk.injEq] at H
                        obtain ⟨rfl, rfl⟩ := H
                        go_wp2
                        go_ret2
                        exact ⟨by first | rfl | (simp; done) | (simp [*]; done), by repeat (first | exact Drawn0.refl _ | apply Drawn0.step)⟩
                      · rw [if_neg c17] at H
                        have c17b0 : (a0.toList == ([100, 97, 116, 101] : List UInt8)) = false := beq_eq_false_iff_ne.mpr c17
                        have c17b1 : (a0.toList != ([100, 97, 116, 101] : List UInt8)) = true := bne_iff_ne.mpr c17
                        by_cases c18 : a0.toList = ([115, 111, 108, 118, 101] : List UInt8)
                        · rw [if_pos c18] at H
                          have c18b0 : (a0.toList == ([115, 111, 108, 118, 101] : List UInt8)) = true := beq_iff_eq.mpr c18
                          have c18b1 : (a0.toList != ([115, 111, 108, 118, 101] : List UInt8)) = false := bne_eq_false_iff_eq.mpr c18
                          clear c18
                          simp only [Option.some.injEq, Prod.mk.injEq] at H
                          obtain ⟨rfl, rfl⟩ := H
                          go_wp2
                          go_ret2
                          exact ⟨by first | rfl | (simp; done) | (simp [*]; done), by repeat (first | exact Drawn0.refl _ | apply Drawn0.step)⟩
                        · rw [if_neg c18] at H
                          have c18b0 : (a0.toList == ([115, 111, 108, 118, 101] : List UInt8)) = false := beq_eq_false_iff_ne.mpr c18
                          have c18b1 : (a0.toList != ([115, 111, 108, 118, 101] : List UInt8)) = true := bne_iff_ne.mpr c18
                          by_cases c19 : a0.toList = ([110, 101, 116] : List UInt8)
                          · rw [if_pos c19] at H
                            have c19b0 : (a0.toList == ([110, 101, 116] : List UInt8)) = true := beq_iff_eq.mpr c19
                            have c19b1 : (a0.toList != ([110, 101, 116] : List UInt8)) = false := bne_eq_false_iff_eq.mpr c19
                            clear c19
                            simp only [Option.some.injEq, Prod.mk.injEq] at H
                            obtain ⟨rfl, rfl⟩ := H
                            go_wp2
                            go_ret2
                            exact ⟨by first | rfl | (simp; done) | (simp [*]; done), by repeat (first | exact Drawn0.refl _ | apply Drawn0.step)⟩
                          · rw [if_neg c19] at H
                            have c19b0 : (a0.toList == ([110, 101, 116] : List UInt8)) = false := beq_eq_false_iff_ne.mpr c19
                            have c19b1 : (a0.toList != ([110, 101, 116] : List UInt8)) = true := bne_iff_ne.mpr c19
                            by_cases c20 : a0.toList = ([105, 110, 102, 101, 114] : List UInt8)
                            · rw [if_pos c20] at H
                              have c20b0 : (a0.toList == ([105, 110, 102, 101, 114] : List UInt8)) = true := beq_iff_eq.mpr c20
                              have c20b1 : (a0.toList != ([105, 110, 102, 101, 114] : List UInt8)) = false := bne_eq_false_iff_eq.mpr c20
                              clear c20
                              simp only [Option.some.injEq, Prod.mk.injEq] at H
                              obtain ⟨rfl, rfl⟩ := H
                              go_wp2
                              go_ret2
                              exact ⟨by first | rfl | (simp; done) | (simp [*]; done), by repeat (first | exact Drawn0.refl _ | apply Drawn0.step)⟩
                            · rw [if_neg c20] at H
                              have c20b0 : (a0.toList == ([105, 110, 102, 101, 114] : List UInt8)) = false := beq_eq_false_iff_ne.mpr c20
                              have c20b1 : (a0.toList != ([105, 110, 102, 101, 114] : List UInt8)) = true := bne_iff_ne.mpr c20
                              by_cases c21 : a0.toList = ([114, 101, 115, 101, 116] : List UInt8)
                              · rw [if_pos c21] at H
                                have c21b0 : (a0.toList == ([114, 101, 115, 101, 116] : List UInt8)) = true := beq_iff_eq.mpr c21
                                have c21b1 : (a0.toList != ([114, 101, 115, 101, 116] : List UInt8)) = false := bne_eq_false_iff_eq.mpr c21
                                clear c21
                                simp only [Option.some.injEq, Prod.mk.injEq] at H
                                obtain ⟨rfl, rfl⟩ := H
                                go_wp2
                                go_ret2
                                exact ⟨by first | rfl | (simp; done) | (simp [*]; done), by repeat (first | exact Drawn0.refl _ | apply Drawn0.step)⟩
                              · rw [if_neg c21] at H
                                have c21b0 : (a0.toList == ([114, 101, 115, 101, 116] : List UInt8)) = false := beq_eq_false_iff_ne.mpr c21
                                have c21b1 : (a0.toList != ([114, 101, 115, 101, 116] : List UInt8)) = true := bne_iff_ne.mpr c21
                                simp only [Option.some.injEq, Prod.mk.injEq] at H
                                obtain ⟨rfl, rfl⟩ := H
                                go_wp2
                                go_ret2
                                exact ⟨by first | rfl | (simp; done) | (simp [*]; done), by repeat (first | exact Drawn0.refl _ | apply Drawn0.step)⟩
end Go.Proofs.YtcinojbfjiohjaaGreatDoor.PPrintTells
end

section
namespace Go.Proofs.YtcinojbfjiohjaaGreatDoor.PPrintTells
open Go.RowKit Go.Proofs.YtcinojbfjiohjaaGreatDoorW.PrintWords Go.Proofs.YtcinojbfjiohjaaGreatDoorW.PrintLast Go.Proofs.YtcinojbfjiohjaaGreatDoorW.PrintMore
attribute [local go_sem] max2_int min2_int max_two min_two max_three min_three max_four min_four   -- for this text's walks alone
set_option linter.unusedVariables false
set_option linter.unusedSimpArgs false
mutual
def epactref09_Same.j0 : Nat → Bool → Int → ByteArray → List Int → List (S25) → Int → ByteArray → List Int → List (S25) → Option (Bool)
  | 0, _, _, _, _, _, _, _, _, _ => none
  | k + 1, x36, x322000, x322001, x322002, x322003, x323000, x323001, x323002, x323003 => if x36 = true then (some false) else (epactref09_Same.l0 k 0 x322000 x322001 x322002 x322003 x323000 x323001 x323002 x323003)
def epactref09_Same.l0 : Nat → Int → Int → ByteArray → List Int → List (S25) → Int → ByteArray → List Int → List (S25) → Option (Bool)
  | 0, _, _, _, _, _, _, _, _, _ => none
  | k + 1, x5, x322000, x322001, x322002, x322003, x323000, x323001, x323002, x323003 => if x5 < (x322002.length : Int) then (if 0 ≤ x5 then (if x5 < (x323002.length : Int) then (if (rd x322002 x5) = (rd x323002 x5) then (epactref09_Same.l0 k (wrap64 (x5 + 1)) x322000 x322001 x322002 x322003 x323000 x323001 x323002 x323003) else (some false)) else (none)) else (none)) else (epactref09_Same.l1 k 0 x322000 x322001 x322002 x322003 x323000 x323001 x323002 x323003)
def epactref09_Same.l1 : Nat → Int → Int → ByteArray → List Int → List (S25) → Int → ByteArray → List Int → List (S25) → Option (Bool)
  | 0, _, _, _, _, _, _, _, _, _ => none
  | k + 1, x6, x322000, x322001, x322002, x322003, x323000, x323001, x323002, x323003 => if x6 < (x322003.length : Int) then (if 0 ≤ x6 then (if x6 < (x323003.length : Int) then ((epactref09_Same.f k ((rd_T25 x322003 x6).f0) ((rd_T25 x322003 x6).f1) ((rd_T25 x322003 x6).f2) ((rd_T25 x322003 x6).f3) ((rd_T25 x323003 x6).f0) ((rd_T25 x323003 x6).f1) ((rd_T25 x323003 x6).f2) ((rd_T25 x323003 x6).f3)).bind fun t327 => (if t327 = true then (epactref09_Same.l1 k (wrap64 (x6 + 1)) x322000 x322001 x322002 x322003 x323000 x323001 x323002 x323003) else (some false))) else (none)) else (none)) else (some true)
def epactref09_Same.f : Nat → Int → ByteArray → List Int → List (S25) → Int → ByteArray → List Int → List (S25) → Option (Bool)
  | 0, _, _, _, _, _, _, _, _ => none
  | k + 1, a0_0, a0_1, l0_2, l0_3, a1_0, a1_1, l1_2, l1_3 => if a0_0 = a1_0 then (if a0_1.toList = a1_1.toList then (if (l0_2.length : Int) = (l1_2.length : Int) then (epactref09_Same.j0 k ((l0_3.length : Int) != (l1_3.length : Int)) a0_0 a0_1 l0_2 l0_3 a1_0 a1_1 l1_2 l1_3) else (epactref09_Same.j0 k true a0_0 a0_1 l0_2 l0_3 a1_0 a1_1 l1_2 l1_3)) else (epactref09_Same.j0 k true a0_0 a0_1 l0_2 l0_3 a1_0 a1_1 l1_2 l1_3)) else (epactref09_Same.j0 k true a0_0 a0_1 l0_2 l0_3 a1_0 a1_1 l1_2 l1_3)
end
end Go.Proofs.YtcinojbfjiohjaaGreatDoor.PPrintTells
end

section
namespace Go.Proofs.YtcinojbfjiohjaaGreatDoor.PPrintTells
open Go Go.RowKit Go.Proofs.YtcinojbfjiohjaaGreatDoorW.PrintWords Go.Proofs.YtcinojbfjiohjaaGreatDoorW.PrintLast Go.Proofs.YtcinojbfjiohjaaGreatDoorW.PrintMore
set_option linter.unusedVariables false
set_option linter.unusedSimpArgs false
theorem cellsZ {W : World} {j : Nat} {t : TypeId} {c0 c1 c2 c3 : Value} (h : W.heap[j]? = some (.cells #[c0, c1, c2, c3] t (0, 0))) : W.cell? ⟨j, 0, none⟩ = some c0 ∧ W.cell? ⟨j, 1, none⟩ = some c1 ∧ W.cell? ⟨j, 2, none⟩ = some c2 ∧ W.cell? ⟨j, 3, none⟩ = some c3 :=
  ⟨(blk_cell h 0).trans rfl, (blk_cell h 1).trans rfl, (blk_cell h 2).trans rfl, (blk_cell h 3).trans rfl⟩
abbrev zO (o : Int) (nm : ByteArray) (A2 : Option Addr) (n2 c2 : Nat) (A3 : Option Addr) (n3 c3 : Nat) : Obj := .cells #[.int .u8 o, .string nm, .slice A2 n2 c2, .slice A3 n3 c3] 25
def zeroB (o : Int) (s : ByteArray) (n2 n3 : Nat) : Bool := o == 0 && (s.toList.isEmpty && (n2 == 0 && n3 == 0))
theorem same_zero {k : Nat} {o : Int} {s : ByteArray} {ns : List Int} {xs : List S25} {r : Bool} (h : epactref09_Same.f k o s ns xs 0 (⟨#[]⟩ : ByteArray) ([] : List Int) ([] : List S25) = some r) : r = zeroB o s ns.length xs.length := by
  have e : (⟨#[]⟩ : ByteArray).toList = [] := by decide +kernel
  unfold zeroB
  cases k with
  | zero => rw [epactref09_Same.f] at h; cases h
  | succ k =>
  rw [epactref09_Same.f, e] at h
  cases k with
  | zero => simp [epactref09_Same.j0] at h
  | succ k =>
  by_cases h0 : o = 0
  · rw [if_pos h0] at h
    by_cases h1 : s.toList = []
    · rw [if_pos h1] at h
      cases ns with
      | nil =>
        rw [if_pos rfl, epactref09_Same.j0] at h
        cases xs with
        | nil =>
          rw [if_neg (by simp)] at h
          cases k with
          | zero => rw [epactref09_Same.l0] at h; cases h
          | succ k =>
          rw [epactref09_Same.l0, if_neg (by simp)] at h
          cases k with
          | zero => rw [epactref09_Same.l1] at h; cases h
          | succ k =>
          rw [epactref09_Same.l1, if_neg (by simp)] at h
          injection h with h
          rw [← h, h0, h1]
          rfl
        | cons y ys =>
          rw [if_pos (by rw [bne_iff_ne, List.length_cons, List.length_nil]; omega)] at h
          injection h with h
          rw [← h, h0, h1]
          simp
      | cons n ns =>
        rw [if_neg (by rw [List.length_cons, List.length_nil]; omega), epactref09_Same.j0, if_pos rfl] at h
        injection h with h
        rw [← h, h0, h1]
        simp
    · rw [if_neg h1, epactref09_Same.j0, if_pos rfl] at h
      injection h with h
      rw [← h]
      cases hl : s.toList with
      | nil => exact absurd hl h1
      | cons _ _ => simp
  · rw [if_neg h0, epactref09_Same.j0, if_pos rfl] at h
    injection h with h
    rw [← h]
    simp [h0]
set_option maxHeartbeats 8000000 in
set_option maxRecDepth 100000 in
theorem epactref09_SameZ.calls (k : Nat) (a0_0 : Int) (a0_1 : ByteArray) (A0_2 : Option Addr) (c0_2 : Nat) (l0_2 : List Int) (A0_3 : Option Addr) (c0_3 : Nat) (l0_3 : List (S25)) (A1_2 : Option Addr) (c1_2 : Nat) (A1_3 : Option Addr) (c1_3 : Nat) (r : Bool) (w : World)
    (hr0_2 : Kd.C (Kd.int .i64) w A0_2 l0_2.length l0_2) (hc0_2 : l0_2.length ≤ c0_2) (hr0_3 : Kd.C k25 w A0_3 l0_3.length l0_3) (hc0_3 : l0_3.length ≤ c0_3) (hr1_2 : Kd.C (Kd.int .i64) w A1_2 ([] : List Int).length ([] : List Int)) (hc1_2 : ([] : List Int).length ≤ c1_2) (hr1_3 : Kd.C k25 w A1_3 ([] : List (S25)).length ([] : List (S25))) (hc1_3 : ([] : List (S25)).length ≤ c1_3)
    (h : epactref09_Same.f k a0_0 a0_1 l0_2 l0_3 0 (⟨#[]⟩ : ByteArray) ([] : List Int) ([] : List (S25)) = some r) :
    Calls Tryz.prog 64 #[.agg #[.int .u8 a0_0, .string a0_1, .slice A0_2 l0_2.length c0_2, .slice A0_3 l0_3.length c0_3], .agg #[.int .u8 0, .string ⟨#[]⟩, .slice A1_2 ([] : List Int).length c1_2, .slice A1_3 ([] : List (S25)).length c1_3]] w fun e w' => e = .returned (.bool r) ∧ Below w.heap.size w w' := by
  have hm2 : l0_2.length ≤ 9223372036854775807 := hr0_2.2.1
  have hm3 : l0_3.length ≤ 9223372036854775807 := hr0_3.2.1
  have hr := same_zero h
  subst hr
  clear h hr0_2 hc0_2 hr0_3 hc0_3 hr1_2 hc1_2 hr1_3 hc1_3
  generalize l0_2.length = n2 at *
  generalize l0_3.length = n3 at *
  rw [List.length_nil, List.length_nil]
  have hk0 : ((w.alloc (zO a0_0 a0_1 A0_2 n2 c0_2 A0_3 n3 c0_3)).alloc (zO 0 ⟨#[]⟩ A1_2 0 c1_2 A1_3 0 c1_3)).heap[w.heap.size]? = some (zO a0_0 a0_1 A0_2 n2 c0_2 A0_3 n3 c0_3) := blk_below (blk_new w _) (below_alloc (Below.refl _ _) _)
  have hk1 : ((w.alloc (zO a0_0 a0_1 A0_2 n2 c0_2 A0_3 n3 c0_3)).alloc (zO 0 ⟨#[]⟩ A1_2 0 c1_2 A1_3 0 c1_3)).heap[w.heap.size + 1]? = some (zO 0 ⟨#[]⟩ A1_2 0 c1_2 A1_3 0 c1_3) := by have h := blk_new (w.alloc (zO a0_0 a0_1 A0_2 n2 c0_2 A0_3 n3 c0_3)) (zO 0 ⟨#[]⟩ A1_2 0 c1_2 A1_3 0 c1_3); rwa [show (w.alloc (zO a0_0 a0_1 A0_2 n2 c0_2 A0_3 n3 c0_3)).heap.size = w.heap.size + 1 from Array.size_push ..] at h
  have HB := Aside0.mk (show Below w.heap.size w ((w.alloc (zO a0_0 a0_1 A0_2 n2 c0_2 A0_3 n3 c0_3)).alloc (zO 0 ⟨#[]⟩ A1_2 0 c1_2 A1_3 0 c1_3)) from below_alloc (below_alloc (Below.refl _ _) _) _)
  obtain ⟨y0, y1, y2, y3⟩ := cellsZ hk0
  obtain ⟨z0, z1, z2, z3⟩ := cellsZ hk1
  have eE : (⟨#[]⟩ : ByteArray).toList = [] := by decide +kernel
  by_cases h0 : a0_0 = 0
  case neg =>
    have b0 : (a0_0 != 0) = true := bne_iff_ne.2 h0
    have hz : zeroB a0_0 a0_1 n2 n3 = false := by unfold zeroB; rw [beq_eq_false_iff_ne.2 h0, Bool.false_and]
    rw [hz]
    clear h0 hz eE
    go_enter Tryz.func64, Tryz.ntmps64
    go_wp2_with fail
    go_ret
    exact ⟨rfl, HB.out⟩
  subst h0
  have b0 : ((0 : Int) != 0) = false := by decide
  by_cases h1 : a0_1.toList = []
  case neg =>
    have b1 : (a0_1.toList != (⟨#[]⟩ : ByteArray).toList) = true := by rw [eE]; exact bne_iff_ne.2 h1
    have b2 : (a0_1.toList == (⟨#[]⟩ : ByteArray).toList) = false := by rw [eE]; exact beq_eq_false_iff_ne.2 h1
    have b3 : a0_1.toList.isEmpty = false := by
      cases hl : a0_1.toList with
      | nil => exact absurd hl h1
      | cons _ _ => rfl
    have hz : zeroB 0 a0_1 n2 n3 = false := by unfold zeroB; rw [b3]; rfl
    rw [hz]
    clear h1 hz eE
    go_enter Tryz.func64, Tryz.ntmps64
    go_wp2_with fail
    go_ret
    exact ⟨rfl, HB.out⟩
  have b1 : (a0_1.toList != (⟨#[]⟩ : ByteArray).toList) = false := by rw [eE, h1]; rfl
  have b2 : (a0_1.toList == (⟨#[]⟩ : ByteArray).toList) = true := by rw [eE, h1]; rfl
  have b3 : a0_1.toList.isEmpty = true := by rw [h1]; rfl
  by_cases h2 : n2 = 0
  case neg =>
    have c1 : ((n2 : Int) != 0) = true := bne_iff_ne.2 (by omega)
    have hz : zeroB 0 a0_1 n2 n3 = false := by unfold zeroB; rw [beq_eq_false_iff_ne.2 h2]; simp
    rw [hz]
    clear h1 hz eE h2
    go_enter Tryz.func64, Tryz.ntmps64
    go_wp2_with fail
    go_ret
    exact ⟨rfl, HB.out⟩
  subst h2
  by_cases h3 : n3 = 0
  case neg =>
    have c1 : ((n3 : Int) != 0) = true := bne_iff_ne.2 (by omega)
    have hz : zeroB 0 a0_1 0 n3 = false := by unfold zeroB; rw [beq_eq_false_iff_ne.2 h3]; simp
    rw [hz]
    clear h1 hz eE h3
    go_enter Tryz.func64, Tryz.ntmps64
    go_wp2_with fail
    go_ret
    exact ⟨rfl, HB.out⟩
  subst h3
  have hz : zeroB 0 a0_1 0 0 = true := by unfold zeroB; rw [b3]; rfl
  rw [hz]
  clear h1 hz eE
  have HK := Aside0.mk hk0
  clear hk0 hk1
  go_enter Tryz.func64, Tryz.ntmps64
  go_wp2_with fail
  go_loopw [5] (fun v5 wr => v5 = .int .i64 0 ∧ wr.heap[w.heap.size]? = some (zO 0 a0_1 A0_2 0 c0_2 A0_3 0 c0_3) ∧ Below w.heap.size w wr) (fun _ _ => 0)
  case atStart => exact ⟨rfl, HK.out, HB.out⟩
  case round =>
    obtain ⟨rfl, hk, hb⟩ := hrel
    obtain ⟨y0, y1, y2, y3⟩ := cellsZ hk
    have HK := Aside0.mk hk
    have HB := Aside0.mk hb
    clear hk hb
    go_wp2_with fail
    go_loopw [6] (fun v6 wr => v6 = .int .i64 0 ∧ wr.heap[w.heap.size]? = some (zO 0 a0_1 A0_2 0 c0_2 A0_3 0 c0_3) ∧ Below w.heap.size w wr) (fun _ _ => 0)
    case atStart => exact ⟨rfl, HK.out, HB.out⟩
    case round =>
      obtain ⟨rfl, hk, hb⟩ := hrel
      obtain ⟨y0, y1, y2, y3⟩ := cellsZ hk
      have HB := Aside0.mk hb
      clear hk hb
      go_wp2_with fail
      go_ret
      exact ⟨rfl, HB.out⟩
end Go.Proofs.YtcinojbfjiohjaaGreatDoor.PPrintTells
end

section
namespace Go.Proofs.YtcinojbfjiohjaaGreatDoor.PPrintTells
open Go.RowKit Go.Proofs.YtcinojbfjiohjaaGreatDoorW.PrintWords Go.Proofs.YtcinojbfjiohjaaGreatDoorW.PrintLast Go.Proofs.YtcinojbfjiohjaaGreatDoorW.PrintMore
attribute [local go_sem] max2_int min2_int max_two min_two max_three min_three max_four min_four   -- for this text's walks alone
set_option linter.unusedVariables false
set_option linter.unusedSimpArgs false
attribute [local go_sem high] eqA40
mutual
def epactref11_Right.l0 : Nat → ByteArray → Bool → Int → Int → Bool → Bool → Int → ByteArray → List ByteArray → List Int → Int → Int → Bool → Bool → Int → ByteArray → List Int → List (S25) → Option (Bool)
  | 0, _, _, _, _, _, _, _, _, _, _, _, _, _, _, _, _, _, _ => none
  | k + 1, x3, x4, x5, x6, x7, x8, x9, x329000, x329001, x329002, x329003, x329004, x329005, x329006, x329007, x329008, x329009, x329010 => if x9 < (x3.size : Int) then (if 0 ≤ x9 then (if (bt x3 x9) = 110 then (epactref11_Right.l0 k x3 x4 (wrap64 (x5 + 1)) x6 x7 x8 (wrap64 (x9 + 1)) x329000 x329001 x329002 x329003 x329004 x329005 x329006 x329007 x329008 x329009 x329010) else (if (bt x3 x9) = 105 then (epactref11_Right.l0 k x3 x4 x5 (wrap64 (x6 + 1)) x7 x8 (wrap64 (x9 + 1)) x329000 x329001 x329002 x329003 x329004 x329005 x329006 x329007 x329008 x329009 x329010) else (if (bt x3 x9) = 114 then (epactref11_Right.l0 k x3 x4 x5 x6 true x8 (wrap64 (x9 + 1)) x329000 x329001 x329002 x329003 x329004 x329005 x329006 x329007 x329008 x329009 x329010) else (if (bt x3 x9) = 101 then (epactref11_Right.l0 k x3 x4 x5 x6 x7 true (wrap64 (x9 + 1)) x329000 x329001 x329002 x329003 x329004 x329005 x329006 x329007 x329008 x329009 x329010) else (epactref11_Right.l0 k x3 x4 x5 x6 x7 x8 (wrap64 (x9 + 1)) x329000 x329001 x329002 x329003 x329004 x329005 x329006 x329007 x329008 x329009 x329010))))) else (none)) else (epactref11_Right.l1 k x4 x5 x6 x7 x8 0 x329000 x329001 x329002 x329003 x329004 x329005 x329006 x329007 x329008 x329009 x329010)
def epactref11_Right.l1 : Nat → Bool → Int → Int → Bool → Bool → Int → ByteArray → List ByteArray → List Int → Int → Int → Bool → Bool → Int → ByteArray → List Int → List (S25) → Option (Bool)
  | 0, _, _, _, _, _, _, _, _, _, _, _, _, _, _, _, _, _ => none
  | k + 1, x4, x5, x6, x7, x8, x10, x329000, x329001, x329002, x329003, x329004, x329005, x329006, x329007, x329008, x329009, x329010 => if x10 < (x329001.length : Int) then (if x4 = true then (if 0 ≤ x10 then ((epactref09_Name.f k (rdOf ByteArray.empty x329001 x10)).bind fun t332 => (epactref11_Right.l1 k t332 x5 x6 x7 x8 (wrap64 (x10 + 1)) x329000 x329001 x329002 x329003 x329004 x329005 x329006 x329007 x329008 x329009 x329010)) else (none)) else (epactref11_Right.l1 k false x5 x6 x7 x8 (wrap64 (x10 + 1)) x329000 x329001 x329002 x329003 x329004 x329005 x329006 x329007 x329008 x329009 x329010)) else (if x329005 = true then (if x329006 = true then (if x7 = true then (epactref11_Right.j2 k x4 x5 x6 x8 false x329000 x329001 x329002 x329003 x329004 x329005 x329006 x329007 x329008 x329009 x329010) else (epactref11_Right.j2 k x4 x5 x6 x8 (!(x329003 == 0) || (!(x329004 == 0) || (x329005 || (x329006)))) x329000 x329001 x329002 x329003 x329004 x329005 x329006 x329007 x329008 x329009 x329010)) else (if x329004 = 0 then (if x7 = true then (epactref11_Right.j2 k x4 x5 x6 x8 false x329000 x329001 x329002 x329003 x329004 x329005 x329006 x329007 x329008 x329009 x329010) else (epactref11_Right.j2 k x4 x5 x6 x8 (!(x329003 == 0) || (!(x329004 == 0) || (x329005 || (x329006)))) x329000 x329001 x329002 x329003 x329004 x329005 x329006 x329007 x329008 x329009 x329010)) else (epactref11_Right.j2 k x4 x5 x6 x8 true x329000 x329001 x329002 x329003 x329004 x329005 x329006 x329007 x329008 x329009 x329010))) else (if x329003 = 0 then (if x329006 = true then (if x7 = true then (epactref11_Right.j2 k x4 x5 x6 x8 false x329000 x329001 x329002 x329003 x329004 x329005 x329006 x329007 x329008 x329009 x329010) else (epactref11_Right.j2 k x4 x5 x6 x8 (!(x329003 == 0) || (!(x329004 == 0) || (x329005 || (x329006)))) x329000 x329001 x329002 x329003 x329004 x329005 x329006 x329007 x329008 x329009 x329010)) else (if x329004 = 0 then (if x7 = true then (epactref11_Right.j2 k x4 x5 x6 x8 false x329000 x329001 x329002 x329003 x329004 x329005 x329006 x329007 x329008 x329009 x329010) else (epactref11_Right.j2 k x4 x5 x6 x8 (!(x329003 == 0) || (!(x329004 == 0) || (x329005 || (x329006)))) x329000 x329001 x329002 x329003 x329004 x329005 x329006 x329007 x329008 x329009 x329010)) else (epactref11_Right.j2 k x4 x5 x6 x8 true x329000 x329001 x329002 x329003 x329004 x329005 x329006 x329007 x329008 x329009 x329010))) else (epactref11_Right.j2 k x4 x5 x6 x8 true x329000 x329001 x329002 x329003 x329004 x329005 x329006 x329007 x329008 x329009 x329010)))
def epactref11_Right.j2 : Nat → Bool → Int → Int → Bool → Bool → ByteArray → List ByteArray → List Int → Int → Int → Bool → Bool → Int → ByteArray → List Int → List (S25) → Option (Bool)
  | 0, _, _, _, _, _, _, _, _, _, _, _, _, _, _, _, _ => none
  | k + 1, x4, x5, x6, x8, x83, x329000, x329001, x329002, x329003, x329004, x329005, x329006, x329007, x329008, x329009, x329010 => if x83 = true then (some false) else (if x8 = true then ((epactref09_Right.f k x329007 x329008 x329009 x329010).bind fun t334 => (if t334 = true then (if x4 = true then (if (x329001.length : Int) = x5 then (some ((x329002.length : Int) == x6)) else (some false)) else (some false)) else (some false))) else ((epactref09_Same.f k x329007 x329008 x329009 x329010 0 (⟨#[]⟩ : ByteArray) ([] : List Int) ([] : List (S25))).bind fun t335 => (if t335 = true then (if x4 = true then (if (x329001.length : Int) = x5 then (some ((x329002.length : Int) == x6)) else (some false)) else (some false)) else (some false))))
end
def epactref11_Right.f (k : Nat) (a0_0 : ByteArray) (l0_1 : List ByteArray) (l0_2 : List Int) (a0_3 : Int) (a0_4 : Int) (a0_5 : Bool) (a0_6 : Bool) (a0_7 : Int) (a0_8 : ByteArray) (l0_9 : List Int) (l0_10 : List (S25)) : Option (Bool) := (epactref11_Shape.f k a0_0).bind fun bt329 => (epactref11_Right.l0 k bt329.1 bt329.2 0 0 false false 0 a0_0 l0_1 l0_2 a0_3 a0_4 a0_5 a0_6 a0_7 a0_8 l0_9 l0_10)
set_option maxHeartbeats 8000000 in
set_option maxRecDepth 100000 in
theorem epactref11_Right.calls (k : Nat) (a0_0 : ByteArray) (A0_1 : Option Addr) (c0_1 : Nat) (l0_1 : List ByteArray) (A0_2 : Option Addr) (c0_2 : Nat) (l0_2 : List Int) (a0_3 : Int) (a0_4 : Int) (a0_5 : Bool) (a0_6 : Bool) (a0_7 : Int) (a0_8 : ByteArray) (A0_9 : Option Addr) (c0_9 : Nat) (l0_9 : List Int) (A0_10 : Option Addr) (c0_10 : Nat) (l0_10 : List (S25)) (r : Bool) (w : World) (hr0_1 : Kd.C Kd.string w A0_1 l0_1.length l0_1) (hc0_1 : l0_1.length ≤ c0_1) (hr0_2 : Kd.C (Kd.int .i64) w A0_2 l0_2.length l0_2) (hc0_2 : l0_2.length ≤ c0_2) (hr0_9 : Kd.C (Kd.int .i64) w A0_9 l0_9.length l0_9) (hc0_9 : l0_9.length ≤ c0_9) (hr0_10 : Kd.C k25 w A0_10 l0_10.length l0_10) (hc0_10 : l0_10.length ≤ c0_10) (h : epactref11_Right.f k a0_0 l0_1 l0_2 a0_3 a0_4 a0_5 a0_6 a0_7 a0_8 l0_9 l0_10 = some r) :
    Calls Tryz.prog 24 #[.agg #[.string a0_0, .slice A0_1 l0_1.length c0_1, .slice A0_2 l0_2.length c0_2, .int .i64 a0_3, .int .i64 a0_4, .bool a0_5, .bool a0_6, .int .u8 a0_7, .string a0_8, .slice A0_9 l0_9.length c0_9, .slice A0_10 l0_10.length c0_10]] w fun e w' => e = .returned (.bool r) ∧ Below w.heap.size w w' := by
  have hu42 := Tryz.underlying42
  have hu40 := Tryz.underlying40
  have hu25 := Tryz.underlying25
  have HR0_1 := Aside0.mk hr0_1
  have HC0_1 := Aside0.mk hc0_1
  clear hr0_1 hc0_1
  have HR0_2 := Aside0.mk hr0_2
  have HC0_2 := Aside0.mk hc0_2
  clear hr0_2 hc0_2
  have HR0_9 := Aside0.mk hr0_9
  have HC0_9 := Aside0.mk hc0_9
  clear hr0_9 hc0_9
  have HR0_10 := Aside0.mk hr0_10
  have HC0_10 := Aside0.mk hc0_10
  clear hr0_10 hc0_10
  have HB := Aside0.mk (Below.refl w.heap.size w)
  have H : ((epactref11_Shape.f k a0_0).bind fun bt329 => (epactref11_Right.l0 k bt329.1 bt329.2 0 0 false false 0 a0_0 l0_1 l0_2 a0_3 a0_4 a0_5 a0_6 a0_7 a0_8 l0_9 l0_10)) = some r := h
  clear h
  replace H := Option.bind_eq_some_iff.mp H
  obtain ⟨⟨t329, t330⟩, A20, H⟩ := H
  replace H : (epactref11_Right.l0 k t329 t330 0 0 false false 0 a0_0 l0_1 l0_2 a0_3 a0_4 a0_5 a0_6 a0_7 a0_8 l0_9 l0_10) = some r := H
  have A2 := Aside0.mk A20
  clear A20
  have H' := Aside0.mk H
  clear H
  go_enter Tryz.func24, Tryz.ntmps24
  go_wp2_with (first | ((with_reducible refine gate_dst (N := 1) rfl ?_); (try (refine gate_guard (by rfl) ?_; dsimp only)); refine box_event ?hg (N := 1) ?hd (cs := #[.string a0_0, .slice A0_1 l0_1.length c0_1, .slice A0_2 l0_2.length c0_2, .int .i64 a0_3, .int .i64 a0_4, .bool a0_5, .bool a0_6, .int .u8 a0_7, .string a0_8, .slice A0_9 l0_9.length c0_9, .slice A0_10 l0_10.length c0_10]) (t := 42) ?hr ?_; (case hd => rfl); (case hg => rfl); (case hr => first | (go_simp; done) | (go_simp; rfl)); intro gb328 hg w3 hbox hb; have n0_ := Aside0.mk (below_step (by repeat (first | (with_reducible first | exact HB.out | apply below_alloc | apply pw_below_drewN | apply below_drew1) | exact HB.out)) hb); have n1_ := Aside0.mk (hbox); have n2_ := Aside0.mk ((by rw [hg]; exact (below_size (by repeat (first | (with_reducible first | exact HB.out | apply below_alloc | apply pw_below_drewN | apply below_drew1) | exact HB.out))) : w.heap.size ≤ gb328)); have n3_ := Aside0.mk ((by rw [hg]; exact (below_size (by repeat (first | (with_reducible first | exact HB.out | apply below_alloc | apply pw_below_drewN | apply below_drew1) | exact HB.out))) : w.heap.size ≤ gb328)); clear HB; have HB := n0_; have BK328 := n1_; have GW328 := n2_; have GE328 := n3_; clear n0_ n1_ n2_ n3_; clear hb hbox hg; have hcz4_0 : w3.cell? ⟨gb328, 0, none⟩ = some (.string a0_0) := (blk_cell BK328.out 0).trans rfl; have hcz4_1 : w3.cell? ⟨gb328, 1, none⟩ = some (.slice A0_1 l0_1.length c0_1) := (blk_cell BK328.out 1).trans rfl; have hcz4_2 : w3.cell? ⟨gb328, 2, none⟩ = some (.slice A0_2 l0_2.length c0_2) := (blk_cell BK328.out 2).trans rfl; have hcz4_3 : w3.cell? ⟨gb328, 3, none⟩ = some (.int .i64 a0_3) := (blk_cell BK328.out 3).trans rfl; have hcz4_4 : w3.cell? ⟨gb328, 4, none⟩ = some (.int .i64 a0_4) := (blk_cell BK328.out 4).trans rfl; have hcz4_5 : w3.cell? ⟨gb328, 5, none⟩ = some (.bool a0_5) := (blk_cell BK328.out 5).trans rfl; have hcz4_6 : w3.cell? ⟨gb328, 6, none⟩ = some (.bool a0_6) := (blk_cell BK328.out 6).trans rfl; have hcz4_7 : w3.cell? ⟨gb328, 7, none⟩ = some (.int .u8 a0_7) := (blk_cell BK328.out 7).trans rfl; have hcz4_8 : w3.cell? ⟨gb328, 8, none⟩ = some (.string a0_8) := (blk_cell BK328.out 8).trans rfl; have hcz4_9 : w3.cell? ⟨gb328, 9, none⟩ = some (.slice A0_9 l0_9.length c0_9) := (blk_cell BK328.out 9).trans rfl; have hcz4_10 : w3.cell? ⟨gb328, 10, none⟩ = some (.slice A0_10 l0_10.length c0_10) := (blk_cell BK328.out 10).trans rfl; have hfz4_0 := blk_frozen BK328.out 0; have hfz4_1 := blk_frozen BK328.out 1; have hfz4_2 := blk_frozen BK328.out 2; have hfz4_3 := blk_frozen BK328.out 3; have hfz4_4 := blk_frozen BK328.out 4; have hfz4_5 := blk_frozen BK328.out 5; have hfz4_6 := blk_frozen BK328.out 6; have hfz4_7 := blk_frozen BK328.out 7; have hfz4_8 := blk_frozen BK328.out 8; have hfz4_9 := blk_frozen BK328.out 9; have hfz4_10 := blk_frozen BK328.out 10) | ((with_reducible refine gate_callee (f := 61) rfl ?_); refine goesL_ (some 15) rfl rfl Tryz.func61 (by kernel_rfl) rfl #[.string a0_0] rfl (by (try simp only [List.map_toArray, List.map_cons, List.map_nil]); first | done | rfl | (simp only [List.length_drop, List.length_take]; rfl)) ?_; (with_reducible refine (epactref11_Shape.calls k a0_0 t329 t330 _ A2.out).mono ?_); rintro e w' ⟨rfl, ⟨nd, rfl⟩⟩; refine ⟨_, rfl, ?_⟩))
  go_loopg [5, 6, 7, 8, 9] k (fun kq v5 v6 v7 v8 v9 w' => ∃ (x5_1 : Int) (x6_1 : Int) (x7_1 : Bool) (x8_1 : Bool) (x9_1 : Int), v5 = .int .i64 x5_1 ∧ v6 = .int .i64 x6_1 ∧ v7 = .bool x7_1 ∧ v8 = .bool x8_1 ∧ v9 = .int .i64 x9_1 ∧ Aside0 (epactref11_Right.l0 kq t329 t330 x5_1 x6_1 x7_1 x8_1 x9_1 a0_0 l0_1 l0_2 a0_3 a0_4 a0_5 a0_6 a0_7 a0_8 l0_9 l0_10 = some r) ∧ Aside0 (kq ≤ k) ∧ Aside0 (w'.heap[gb328]? = some (.cells #[.string a0_0, (.slice A0_1 l0_1.length c0_1), (.slice A0_2 l0_2.length c0_2), .int .i64 a0_3, .int .i64 a0_4, .bool a0_5, .bool a0_6, .int .u8 a0_7, .string a0_8, (.slice A0_9 l0_9.length c0_9), (.slice A0_10 l0_10.length c0_10)] 42 (0, 0))) ∧ Aside0 (Below w.heap.size w w'))
  case atStart => exact ⟨(0), (0), (false), (false), (0), (by first | rfl | (simp; done) | (simp [*]; done)), (by first | rfl | (simp; done) | (simp [*]; done)), (by first | rfl | (simp; done) | (simp [*]; done)), (by first | rfl | (simp; done) | (simp [*]; done)), (by first | rfl | (simp; done) | (simp [*]; done)), H', ⟨Nat.le_refl _⟩, ⟨by (with_reducible repeat (first | refine blk_drewN ?_ _ | refine blk_drew ?_ | refine blk_alloc ?_ _)); exact BK328.out⟩, ⟨by repeat (first | (with_reducible first | exact HB.out | apply below_alloc | apply pw_below_drewN | apply below_drew1 | refine below_set ?_ GE328.out) | exact HB.out)⟩⟩
  case round =>
    clear H'
    try clear c2
    try clear p2
    try clear hcz4_0
    try clear hcz4_1
    try clear hcz4_10
    try clear hcz4_2
    try clear hcz4_3
    try clear hcz4_4
    try clear hcz4_5
    try clear hcz4_6
    try clear hcz4_7
    try clear hcz4_8
    try clear hcz4_9
    try clear hfz4_0
    try clear hfz4_1
    try clear hfz4_10
    try clear hfz4_2
    try clear hfz4_3
    try clear hfz4_4
    try clear hfz4_5
    try clear hfz4_6
    try clear hfz4_7
    try clear hfz4_8
    try clear hfz4_9
    obtain ⟨x5_1, x6_1, x7_1, x8_1, x9_1, rfl, rfl, rfl, rfl, rfl, HA, HK1, BK328, HB⟩ := hrel
    cases gk with
    | zero => exact absurd HA.out (by simp [epactref11_Right.l0])
    | succ k1 =>
      have H := HA.out
      clear HA
      simp only [epactref11_Right.l0] at H
      by_cases c5 : x9_1 < (t329.size : Int)
      · rw [if_pos c5] at H
        have c5b0 : decide (x9_1 < (t329.size : Int)) = true := decide_eq_true c5
        clear c5
        by_cases c6 : 0 ≤ x9_1
        · rw [if_pos c6] at H
          have c6b0 : decide (0 ≤ x9_1) = true := decide_eq_true c6
          clear c6
          by_cases c8 : (bt t329 x9_1) = 110
          · rw [if_pos c8] at H
            have c8b0 : ((bt t329 x9_1) == 110) = true := beq_iff_eq.mpr c8
            have c8b1 : ((bt t329 x9_1) != 110) = false := bne_eq_false_iff_eq.mpr c8
            clear c8
            have H' := Aside0.mk H
            clear H
            have p7 : 0 ≤ (x9_1 : Int) := of_decide_eq_true (by first | (with_reducible assumption) | assumption)
            have q7 : x9_1 < (t329.size : Int) := of_decide_eq_true (by first | (with_reducible assumption) | assumption)
            have hx7 := bt_at t329 x9_1
            replace p7 := eq_true p7
            replace q7 := eq_true q7
            go_wp2
            go_roundg k1
            case measure => have := HK1.out; omega
            case rel => exact ⟨(wrap64 (x5_1 + 1)), (x6_1), (x7_1), (x8_1), (wrap64 (x9_1 + 1)), (by first | rfl | (simp; done) | (simp [*]; done)), (by first | rfl | (simp; done) | (simp [*]; done)), (by first | rfl | (simp; done) | (simp [*]; done)), (by first | rfl | (simp; done) | (simp [*]; done)), (by first | rfl | (simp; done) | (simp [*]; done)), H', ⟨by have := HK1.out; omega⟩, ⟨by (with_reducible repeat (first | refine blk_drewN ?_ _ | refine blk_drew ?_ | refine blk_alloc ?_ _)); exact BK328.out⟩, ⟨by repeat (first | (with_reducible first | exact HB.out | apply below_alloc | apply pw_below_drewN | apply below_drew1 | refine below_set ?_ GE328.out) | exact HB.out)⟩⟩
          · rw [if_neg c8] at H
            have c8b0 : ((bt t329 x9_1) == 110) = false := beq_eq_false_iff_ne.mpr c8
            have c8b1 : ((bt t329 x9_1) != 110) = true := bne_iff_ne.mpr c8
            by_cases c9 : (bt t329 x9_1) = 105
            · rw [if_pos c9] at H
              have c9b0 : ((bt t329 x9_1) == 105) = true := beq_iff_eq.mpr c9
              have c9b1 : ((bt t329 x9_1) != 105) = false := bne_eq_false_iff_eq.mpr c9
              clear c9
              have H' := Aside0.mk H
              clear H
              have p7 : 0 ≤ (x9_1 : Int) := of_decide_eq_true (by first | (with_reducible assumption) | assumption)
              have q7 : x9_1 < (t329.size : Int) := of_decide_eq_true (by first | (with_reducible assumption) | assumption)
              have hx7 := bt_at t329 x9_1
              replace p7 := eq_true p7
              replace q7 := eq_true q7
              go_wp2
              go_roundg k1
              case measure => have := HK1.out; omega
              case rel => exact ⟨(x5_1), (wrap64 (x6_1 + 1)), (x7_1), (x8_1), (wrap64 (x9_1 + 1)), (by first | rfl | (simp; done) | (simp [*]; done)), (by first | rfl | (simp; done) | (simp [*]; done)), (by first | rfl | (simp; done) | (simp [*]; done)), (by first | rfl | (simp; done) | (simp [*]; done)), (by first | rfl | (simp; done) | (simp [*]; done)), H', ⟨by have := HK1.out; omega⟩, ⟨by (with_reducible repeat (first | refine blk_drewN ?_ _ | refine blk_drew ?_ | refine blk_alloc ?_ _)); exact BK328.out⟩, ⟨by repeat (first | (with_reducible first | exact HB.out | apply below_alloc | apply pw_below_drewN | apply below_drew1 | refine below_set ?_ GE328.out) | exact HB.out)⟩⟩
            · rw [if_neg c9] at H
              have c9b0 : ((bt t329 x9_1) == 105) = false := beq_eq_false_iff_ne.mpr c9
              have c9b1 : ((bt t329 x9_1) != 105) = true := bne_iff_ne.mpr c9
              by_cases c10 : (bt t329 x9_1) = 114
              · rw [if_pos c10] at H
                have c10b0 : ((bt t329 x9_1) == 114) = true := beq_iff_eq.mpr c10
                have c10b1 : ((bt t329 x9_1) != 114) = false := bne_eq_false_iff_eq.mpr c10
                clear c10
                have H' := Aside0.mk H
                clear H
                have p7 : 0 ≤ (x9_1 : Int) := of_decide_eq_true (by first | (with_reducible assumption) | assumption)
                have q7 : x9_1 < (t329.size : Int) := of_decide_eq_true (by first | (with_reducible assumption) | assumption)
                have hx7 := bt_at t329 x9_1
                replace p7 := eq_true p7
                replace q7 := eq_true q7
                go_wp2
                go_roundg k1
                case measure => have := HK1.out; omega
                case rel => exact ⟨(x5_1), (x6_1), (true), (x8_1), (wrap64 (x9_1 + 1)), (by first | rfl | (simp; done) | (simp [*]; done)), (by first | rfl | (simp; done) | (simp [*]; done)), (by first | rfl | (simp; done) | (simp [*]; done)), (by first | rfl | (simp; done) | (simp [*]; done)), (by first | rfl | (simp; done) | (simp [*]; done)), H', ⟨by have := HK1.out; omega⟩, ⟨by (with_reducible repeat (first | refine blk_drewN ?_ _ | refine blk_drew ?_ | refine blk_alloc ?_ _)); exact BK328.out⟩, ⟨by repeat (first | (with_reducible first | exact HB.out | apply below_alloc | apply pw_below_drewN | apply below_drew1 | refine below_set ?_ GE328.out) | exact HB.out)⟩⟩
              · rw [if_neg c10] at H
                have c10b0 : ((bt t329 x9_1) == 114) = false := beq_eq_false_iff_ne.mpr c10
                have c10b1 : ((bt t329 x9_1) != 114) = true := bne_iff_ne.mpr c10
                by_cases c11 : (bt t329 x9_1) = 101
                · rw [if_pos c11] at H
                  have c11b0 : ((bt t329 x9_1) == 101) = true := beq_iff_eq.mpr c11
                  have c11b1 : ((bt t329 x9_1) != 101) = false := bne_eq_false_iff_eq.mpr c11
                  clear c11
                  have H' := Aside0.mk H
                  clear H
                  have p7 : 0 ≤ (x9_1 : Int) := of_decide_eq_true (by first | (with_reducible assumption) | assumption)
                  have q7 : x9_1 < (t329.size : Int) := of_decide_eq_true (by first | (with_reducible assumption) | assumption)
                  have hx7 := bt_at t329 x9_1
                  replace p7 := eq_true p7
                  replace q7 := eq_true q7
                  go_wp2
                  go_roundg k1
                  case measure => have := HK1.out; omega
                  case rel => exact ⟨(x5_1), (x6_1), (x7_1), (true), (wrap64 (x9_1 + 1)), (by first | rfl | (simp; done) | (simp [*]; done)), (by first | rfl | (simp; done) | (simp [*]; done)), (by first | rfl | (simp; done) | (simp [*]; done)), (by first | rfl | (simp; done) | (simp [*]; done)), (by first | rfl | (simp; done) | (simp [*]; done)), H', ⟨by have := HK1.out; omega⟩, ⟨by (with_reducible repeat (first | refine blk_drewN ?_ _ | refine blk_drew ?_ | refine blk_alloc ?_ _)); exact BK328.out⟩, ⟨by repeat (first | (with_reducible first | exact HB.out | apply below_alloc | apply pw_below_drewN | apply below_drew1 | refine below_set ?_ GE328.out) | exact HB.out)⟩⟩
                · rw [if_neg c11] at H
                  have c11b0 : ((bt t329 x9_1) == 101) = false := beq_eq_false_iff_ne.mpr c11
                  have c11b1 : ((bt t329 x9_1) != 101) = true := bne_iff_ne.mpr c11
                  have H' := Aside0.mk H
                  clear H
                  have p7 : 0 ≤ (x9_1 : Int) := of_decide_eq_true (by first | (with_reducible assumption) | assumption)
                  have q7 : x9_1 < (t329.size : Int) := of_decide_eq_true (by first | (with_reducible assumption) | assumption)
                  have hx7 := bt_at t329 x9_1
                  replace p7 := eq_true p7
                  replace q7 := eq_true q7
                  go_wp2
                  go_roundg k1
                  case measure => have := HK1.out; omega
                  case rel => exact ⟨(x5_1), (x6_1), (x7_1), (x8_1), (wrap64 (x9_1 + 1)), (by first | rfl | (simp; done) | (simp [*]; done)), (by first | rfl | (simp; done) | (simp [*]; done)), (by first | rfl | (simp; done) | (simp [*]; done)), (by first | rfl | (simp; done) | (simp [*]; done)), (by first | rfl | (simp; done) | (simp [*]; done)), H', ⟨by have := HK1.out; omega⟩, ⟨by (with_reducible repeat (first | refine blk_drewN ?_ _ | refine blk_drew ?_ | refine blk_alloc ?_ _)); exact BK328.out⟩, ⟨by repeat (first | (with_reducible first | exact HB.out | apply below_alloc | apply pw_below_drewN | apply below_drew1 | refine below_set ?_ GE328.out) | exact HB.out)⟩⟩
        · rw [if_neg c6] at H
          exact absurd H (by simp)
      · rw [if_neg c5] at H
        have c5b0 : decide (x9_1 < (t329.size : Int)) = false := decide_eq_false c5
        clear c5
        have H' := Aside0.mk H
        clear H
        go_wp2
        go_loopg [4, 10] k1 (fun kq v4 v10 w' => ∃ (x4_2 : Bool) (x10_2 : Int), v4 = .bool x4_2 ∧ v10 = .int .i64 x10_2 ∧ Aside0 (epactref11_Right.l1 kq x4_2 x5_1 x6_1 x7_1 x8_1 x10_2 a0_0 l0_1 l0_2 a0_3 a0_4 a0_5 a0_6 a0_7 a0_8 l0_9 l0_10 = some r) ∧ Aside0 (kq ≤ k1) ∧ Aside0 (w'.heap[gb328]? = some (.cells #[.string a0_0, (.slice A0_1 l0_1.length c0_1), (.slice A0_2 l0_2.length c0_2), .int .i64 a0_3, .int .i64 a0_4, .bool a0_5, .bool a0_6, .int .u8 a0_7, .string a0_8, (.slice A0_9 l0_9.length c0_9), (.slice A0_10 l0_10.length c0_10)] 42 (0, 0))) ∧ Aside0 (Below w.heap.size w w'))
        case atStart => exact ⟨(t330), (0), (by first | rfl | (simp; done) | (simp [*]; done)), (by first | rfl | (simp; done) | (simp [*]; done)), H', ⟨Nat.le_refl _⟩, ⟨by (with_reducible repeat (first | refine blk_drewN ?_ _ | refine blk_drew ?_ | refine blk_alloc ?_ _)); exact BK328.out⟩, ⟨by repeat (first | (with_reducible first | exact HB.out | apply below_alloc | apply pw_below_drewN | apply below_drew1 | refine below_set ?_ GE328.out) | exact HB.out)⟩⟩
        case round =>
          clear H'
          try clear c1
          try clear c2
          try clear p2
          try clear c5
          try clear c5b0
          try clear c6
          try clear c6b0
          try clear p6
          try clear p7
          try clear q7
          try clear hx7
          try clear c8
          try clear c8b0
          try clear c8b1
          try clear c9
          try clear c9b0
          try clear c9b1
          try clear c10
          try clear c10b0
          try clear c10b1
          try clear c11
          try clear c11b0
          try clear c11b1
          try clear hcz4_0
          try clear hcz4_1
          try clear hcz4_10
          try clear hcz4_2
          try clear hcz4_3
          try clear hcz4_4
          try clear hcz4_5
          try clear hcz4_6
          try clear hcz4_7
          try clear hcz4_8
          try clear hcz4_9
          try clear hfz4_0
          try clear hfz4_1
          try clear hfz4_10
          try clear hfz4_2
          try clear hfz4_3
          try clear hfz4_4
          try clear hfz4_5
          try clear hfz4_6
          try clear hfz4_7
          try clear hfz4_8
          try clear hfz4_9
          try clear p2
          try clear p7
          try clear q7
          obtain ⟨x4_2, x10_2, rfl, rfl, HA, HK2, BK328, HB⟩ := hrel
          cases gk with
          | zero => exact absurd HA.out (by simp [epactref11_Right.l1])
          | succ k2 =>
            have H := HA.out
            clear HA
            simp only [epactref11_Right.l1] at H
            by_cases c12 : x10_2 < (l0_1.length : Int)
            · rw [if_pos c12] at H
              have c12b0 : decide (x10_2 < (l0_1.length : Int)) = true := decide_eq_true c12
              clear c12
              by_cases c13 : x4_2 = true
              · subst c13
                have H1 : (if 0 ≤ x10_2 then ((epactref09_Name.f k2 (rdOf ByteArray.empty l0_1 x10_2)).bind fun t332 => (epactref11_Right.l1 k2 t332 x5_1 x6_1 x7_1 x8_1 (wrap64 (x10_2 + 1)) a0_0 l0_1 l0_2 a0_3 a0_4 a0_5 a0_6 a0_7 a0_8 l0_9 l0_10)) else (none)) = some r := by rw [if_pos rfl] at H; exact H
                clear H
                have H := H1
                clear H1
                by_cases c14 : 0 ≤ x10_2
                · rw [if_pos c14] at H
                  have c14b0 : decide (0 ≤ x10_2) = true := decide_eq_true c14
                  clear c14
                  replace H := Option.bind_eq_some_iff.mp H
                  obtain ⟨t332, A150, H⟩ := H
                  replace H : (epactref11_Right.l1 k2 t332 x5_1 x6_1 x7_1 x8_1 (wrap64 (x10_2 + 1)) a0_0 l0_1 l0_2 a0_3 a0_4 a0_5 a0_6 a0_7 a0_8 l0_9 l0_10) = some r := H
                  have A15 := Aside0.mk A150
                  clear A150
                  have H' := Aside0.mk H
                  clear H
                  have hcz16_0 : wr.cell? ⟨gb328, 0, none⟩ = some (.string a0_0) := (blk_cell BK328.out 0).trans rfl
                  have hcz16_1 : wr.cell? ⟨gb328, 1, none⟩ = some (.slice A0_1 l0_1.length c0_1) := (blk_cell BK328.out 1).trans rfl
                  have hcz16_2 : wr.cell? ⟨gb328, 2, none⟩ = some (.slice A0_2 l0_2.length c0_2) := (blk_cell BK328.out 2).trans rfl
                  have hcz16_3 : wr.cell? ⟨gb328, 3, none⟩ = some (.int .i64 a0_3) := (blk_cell BK328.out 3).trans rfl
                  have hcz16_4 : wr.cell? ⟨gb328, 4, none⟩ = some (.int .i64 a0_4) := (blk_cell BK328.out 4).trans rfl
                  have hcz16_5 : wr.cell? ⟨gb328, 5, none⟩ = some (.bool a0_5) := (blk_cell BK328.out 5).trans rfl
                  have hcz16_6 : wr.cell? ⟨gb328, 6, none⟩ = some (.bool a0_6) := (blk_cell BK328.out 6).trans rfl
                  have hcz16_7 : wr.cell? ⟨gb328, 7, none⟩ = some (.int .u8 a0_7) := (blk_cell BK328.out 7).trans rfl
                  have hcz16_8 : wr.cell? ⟨gb328, 8, none⟩ = some (.string a0_8) := (blk_cell BK328.out 8).trans rfl
                  have hcz16_9 : wr.cell? ⟨gb328, 9, none⟩ = some (.slice A0_9 l0_9.length c0_9) := (blk_cell BK328.out 9).trans rfl
                  have hcz16_10 : wr.cell? ⟨gb328, 10, none⟩ = some (.slice A0_10 l0_10.length c0_10) := (blk_cell BK328.out 10).trans rfl
                  have hfz16_0 := blk_frozen BK328.out 0
                  have hfz16_1 := blk_frozen BK328.out 1
                  have hfz16_2 := blk_frozen BK328.out 2
                  have hfz16_3 := blk_frozen BK328.out 3
                  have hfz16_4 := blk_frozen BK328.out 4
                  have hfz16_5 := blk_frozen BK328.out 5
                  have hfz16_6 := blk_frozen BK328.out 6
                  have hfz16_7 := blk_frozen BK328.out 7
                  have hfz16_8 := blk_frozen BK328.out 8
                  have hfz16_9 := blk_frozen BK328.out 9
                  have hfz16_10 := blk_frozen BK328.out 10
                  have p331 : 0 ≤ (x10_2 : Int) := of_decide_eq_true (by first | (with_reducible assumption) | assumption)
                  have q331 : x10_2 < (l0_1.length : Int) := of_decide_eq_true (by first | (with_reducible assumption) | assumption)
                  obtain ⟨ad331, e331, hx331_0⟩ := Kd.at_string HR0_1.out x10_2 p331 q331
                  cases e331
                  replace hx331_0 := (HB.out.cell (World.block_lt_of_cell? w _ hx331_0)).trans hx331_0
                  replace p331 := eq_true p331
                  replace q331 := eq_true q331
                  go_wp2_with (first | (go_at_call 63; (with_reducible refine (epactref09_Name.calls k2 (rdOf ByteArray.empty l0_1 x10_2) t332 _ A15.out).mono ?_); rintro e w' ⟨rfl, ⟨nd, rfl⟩⟩))
                  go_roundg k2
                  case measure => have := HK1.out; have := HK2.out; omega
                  case rel => exact ⟨(t332), (wrap64 (x10_2 + 1)), (by first | rfl | (simp; done) | (simp [*]; done)), (by first | rfl | (simp; done) | (simp [*]; done)), H', ⟨by have := HK1.out; have := HK2.out; omega⟩, ⟨by (with_reducible repeat (first | refine blk_drewN ?_ _ | refine blk_drew ?_ | refine blk_alloc ?_ _)); exact BK328.out⟩, ⟨by repeat (first | (with_reducible first | exact HB.out | apply below_alloc | apply pw_below_drewN | apply below_drew1 | refine below_set ?_ GE328.out) | exact HB.out)⟩⟩
                · rw [if_neg c14] at H
                  exact absurd H (by simp)
              · replace c13 := Bool.eq_false_iff.mpr c13
                subst c13
                have H1 : (epactref11_Right.l1 k2 false x5_1 x6_1 x7_1 x8_1 (wrap64 (x10_2 + 1)) a0_0 l0_1 l0_2 a0_3 a0_4 a0_5 a0_6 a0_7 a0_8 l0_9 l0_10) = some r := by rw [if_neg (show ¬ (false = true) by decide)] at H; exact H
                clear H
                have H := H1
                clear H1
                have H' := Aside0.mk H
                clear H
                have hcz17_0 : wr.cell? ⟨gb328, 0, none⟩ = some (.string a0_0) := (blk_cell BK328.out 0).trans rfl
                have hcz17_1 : wr.cell? ⟨gb328, 1, none⟩ = some (.slice A0_1 l0_1.length c0_1) := (blk_cell BK328.out 1).trans rfl
                have hcz17_2 : wr.cell? ⟨gb328, 2, none⟩ = some (.slice A0_2 l0_2.length c0_2) := (blk_cell BK328.out 2).trans rfl
                have hcz17_3 : wr.cell? ⟨gb328, 3, none⟩ = some (.int .i64 a0_3) := (blk_cell BK328.out 3).trans rfl
                have hcz17_4 : wr.cell? ⟨gb328, 4, none⟩ = some (.int .i64 a0_4) := (blk_cell BK328.out 4).trans rfl
                have hcz17_5 : wr.cell? ⟨gb328, 5, none⟩ = some (.bool a0_5) := (blk_cell BK328.out 5).trans rfl
                have hcz17_6 : wr.cell? ⟨gb328, 6, none⟩ = some (.bool a0_6) := (blk_cell BK328.out 6).trans rfl
                have hcz17_7 : wr.cell? ⟨gb328, 7, none⟩ = some (.int .u8 a0_7) := (blk_cell BK328.out 7).trans rfl
                have hcz17_8 : wr.cell? ⟨gb328, 8, none⟩ = some (.string a0_8) := (blk_cell BK328.out 8).trans rfl
                have hcz17_9 : wr.cell? ⟨gb328, 9, none⟩ = some (.slice A0_9 l0_9.length c0_9) := (blk_cell BK328.out 9).trans rfl
                have hcz17_10 : wr.cell? ⟨gb328, 10, none⟩ = some (.slice A0_10 l0_10.length c0_10) := (blk_cell BK328.out 10).trans rfl
                have hfz17_0 := blk_frozen BK328.out 0
                have hfz17_1 := blk_frozen BK328.out 1
                have hfz17_2 := blk_frozen BK328.out 2
                have hfz17_3 := blk_frozen BK328.out 3
                have hfz17_4 := blk_frozen BK328.out 4
                have hfz17_5 := blk_frozen BK328.out 5
                have hfz17_6 := blk_frozen BK328.out 6
                have hfz17_7 := blk_frozen BK328.out 7
                have hfz17_8 := blk_frozen BK328.out 8
                have hfz17_9 := blk_frozen BK328.out 9
                have hfz17_10 := blk_frozen BK328.out 10
                go_wp2
                go_roundg k2
                case measure => have := HK1.out; have := HK2.out; omega
                case rel => exact ⟨(false), (wrap64 (x10_2 + 1)), (by first | rfl | (simp; done) | (simp [*]; done)), (by first | rfl | (simp; done) | (simp [*]; done)), H', ⟨by have := HK1.out; have := HK2.out; omega⟩, ⟨by (with_reducible repeat (first | refine blk_drewN ?_ _ | refine blk_drew ?_ | refine blk_alloc ?_ _)); exact BK328.out⟩, ⟨by repeat (first | (with_reducible first | exact HB.out | apply below_alloc | apply pw_below_drewN | apply below_drew1 | refine below_set ?_ GE328.out) | exact HB.out)⟩⟩
            · rw [if_neg c12] at H
              have c12b0 : decide (x10_2 < (l0_1.length : Int)) = false := decide_eq_false c12
              clear c12
              have HC18 := Aside0.mk H
              clear H
              have hcz19_0 : wr.cell? ⟨gb328, 0, none⟩ = some (.string a0_0) := (blk_cell BK328.out 0).trans rfl
              have hcz19_1 : wr.cell? ⟨gb328, 1, none⟩ = some (.slice A0_1 l0_1.length c0_1) := (blk_cell BK328.out 1).trans rfl
              have hcz19_2 : wr.cell? ⟨gb328, 2, none⟩ = some (.slice A0_2 l0_2.length c0_2) := (blk_cell BK328.out 2).trans rfl
              have hcz19_3 : wr.cell? ⟨gb328, 3, none⟩ = some (.int .i64 a0_3) := (blk_cell BK328.out 3).trans rfl
              have hcz19_4 : wr.cell? ⟨gb328, 4, none⟩ = some (.int .i64 a0_4) := (blk_cell BK328.out 4).trans rfl
              have hcz19_5 : wr.cell? ⟨gb328, 5, none⟩ = some (.bool a0_5) := (blk_cell BK328.out 5).trans rfl
              have hcz19_6 : wr.cell? ⟨gb328, 6, none⟩ = some (.bool a0_6) := (blk_cell BK328.out 6).trans rfl
              have hcz19_7 : wr.cell? ⟨gb328, 7, none⟩ = some (.int .u8 a0_7) := (blk_cell BK328.out 7).trans rfl
              have hcz19_8 : wr.cell? ⟨gb328, 8, none⟩ = some (.string a0_8) := (blk_cell BK328.out 8).trans rfl
              have hcz19_9 : wr.cell? ⟨gb328, 9, none⟩ = some (.slice A0_9 l0_9.length c0_9) := (blk_cell BK328.out 9).trans rfl
              have hcz19_10 : wr.cell? ⟨gb328, 10, none⟩ = some (.slice A0_10 l0_10.length c0_10) := (blk_cell BK328.out 10).trans rfl
              have hfz19_0 := blk_frozen BK328.out 0
              have hfz19_1 := blk_frozen BK328.out 1
              have hfz19_2 := blk_frozen BK328.out 2
              have hfz19_3 := blk_frozen BK328.out 3
              have hfz19_4 := blk_frozen BK328.out 4
              have hfz19_5 := blk_frozen BK328.out 5
              have hfz19_6 := blk_frozen BK328.out 6
              have hfz19_7 := blk_frozen BK328.out 7
              have hfz19_8 := blk_frozen BK328.out 8
              have hfz19_9 := blk_frozen BK328.out 9
              have hfz19_10 := blk_frozen BK328.out 10
              go_upto_region 20 with (first | ((with_reducible refine gate_dst (N := 11) rfl ?_); (try (refine gate_guard (by rfl) ?_; dsimp only)); refine box_event ?hg (N := 11) ?hd (cs := #[.int .i64 0, .int .i64 0, .bool false, .bool false]) (t := 40) ?hr ?_; (case hd => rfl); (case hg => rfl); (case hr => first | (go_simp; done) | (go_simp; rfl)); intro gb333 hg w20 hbox hb; have n0_ := Aside0.mk (blk_below (g := gb328) (o := .cells #[.string a0_0, .slice A0_1 l0_1.length c0_1, .slice A0_2 l0_2.length c0_2, .int .i64 a0_3, .int .i64 a0_4, .bool a0_5, .bool a0_6, .int .u8 a0_7, .string a0_8, .slice A0_9 l0_9.length c0_9, .slice A0_10 l0_10.length c0_10] 42 (0, 0)) (by (with_reducible repeat (first | refine blk_drewN ?_ _ | refine blk_drew ?_ | refine blk_alloc ?_ _)); exact BK328.out) hb); have n1_ := Aside0.mk (below_step (by repeat (first | (with_reducible first | exact HB.out | apply below_alloc | apply pw_below_drewN | apply below_drew1 | refine below_set ?_ GE328.out) | exact HB.out)) hb); have n2_ := Aside0.mk (hbox); have n3_ := Aside0.mk ((by rw [hg]; exact (below_size (by repeat (first | (with_reducible first | exact HB.out | apply below_alloc | apply pw_below_drewN | apply below_drew1 | refine below_set ?_ GE328.out) | exact HB.out))) : w.heap.size ≤ gb333)); have n4_ := Aside0.mk ((by rw [hg]; exact (below_size (by repeat (first | (with_reducible first | exact HB.out | apply below_alloc | apply pw_below_drewN | apply below_drew1 | refine below_set ?_ GE328.out) | exact HB.out))) : w.heap.size ≤ gb333)); have n5_ := Aside0.mk ((by rw [hg]; exact Nat.ne_of_lt (blk_lt (g := gb328) (o := .cells #[.string a0_0, .slice A0_1 l0_1.length c0_1, .slice A0_2 l0_2.length c0_2, .int .i64 a0_3, .int .i64 a0_4, .bool a0_5, .bool a0_6, .int .u8 a0_7, .string a0_8, .slice A0_9 l0_9.length c0_9, .slice A0_10 l0_10.length c0_10] 42 (0, 0)) (by (with_reducible repeat (first | refine blk_drewN ?_ _ | refine blk_drew ?_ | refine blk_alloc ?_ _)); exact BK328.out)) : gb328 ≠ gb333)); have n6_ := Aside0.mk ((by rw [hg]; exact Nat.ne_of_gt (blk_lt (g := gb328) (o := .cells #[.string a0_0, .slice A0_1 l0_1.length c0_1, .slice A0_2 l0_2.length c0_2, .int .i64 a0_3, .int .i64 a0_4, .bool a0_5, .bool a0_6, .int .u8 a0_7, .string a0_8, .slice A0_9 l0_9.length c0_9, .slice A0_10 l0_10.length c0_10] 42 (0, 0)) (by (with_reducible repeat (first | refine blk_drewN ?_ _ | refine blk_drew ?_ | refine blk_alloc ?_ _)); exact BK328.out)) : gb333 ≠ gb328)); clear BK328; clear HB; have BK328 := n0_; have HB := n1_; have BK333 := n2_; have GW333 := n3_; have GE333 := n4_; have NB328_333 := n5_; have NB333_328 := n6_; clear n0_ n1_ n2_ n3_ n4_ n5_ n6_; clear hb hbox hg; have hnb21 := NB333_328.out; have hnc21 := NB328_333.out; have hcz22_0 : w20.cell? ⟨gb333, 0, none⟩ = some (.int .i64 0) := (blk_cell BK333.out 0).trans rfl; have hcz22_1 : w20.cell? ⟨gb333, 1, none⟩ = some (.int .i64 0) := (blk_cell BK333.out 1).trans rfl; have hcz22_2 : w20.cell? ⟨gb333, 2, none⟩ = some (.bool false) := (blk_cell BK333.out 2).trans rfl; have hcz22_3 : w20.cell? ⟨gb333, 3, none⟩ = some (.bool false) := (blk_cell BK333.out 3).trans rfl; have hfz22_0 := blk_frozen BK333.out 0; have hfz22_1 := blk_frozen BK333.out 1; have hfz22_2 := blk_frozen BK333.out 2; have hfz22_3 := blk_frozen BK333.out 3))
              (try simp only [Act.put, List.setIfInBounds_toArray, List.set_cons_zero, List.set_cons_succ])
              go_cut [83] (fun v83 wc => ∃ (kq : Nat) (x83_17 : Bool), v83 = .bool x83_17 ∧ Aside0 (epactref11_Right.j2 kq x4_2 x5_1 x6_1 x8_1 x83_17 a0_0 l0_1 l0_2 a0_3 a0_4 a0_5 a0_6 a0_7 a0_8 l0_9 l0_10 = some r) ∧ Aside0 (kq ≤ k2) ∧ Aside0 (wc.heap[gb328]? = some (.cells #[.string a0_0, (.slice A0_1 l0_1.length c0_1), (.slice A0_2 l0_2.length c0_2), .int .i64 a0_3, .int .i64 a0_4, .bool a0_5, .bool a0_6, .int .u8 a0_7, .string a0_8, (.slice A0_9 l0_9.length c0_9), (.slice A0_10 l0_10.length c0_10)] 42 (0, 0))) ∧ Aside0 (wc.heap[gb333]? = some (.cells #[.int .i64 a0_3, .int .i64 a0_4, .bool a0_5, .bool a0_6] 40 (0, 0))) ∧ Aside0 (Below w.heap.size w wc))
              case first =>
                have H := HC18.out
                clear HC18
                by_cases c23 : a0_5 = true
                · subst c23
                  have H1 : (if a0_6 = true then (if x7_1 = true then (epactref11_Right.j2 k2 x4_2 x5_1 x6_1 x8_1 false a0_0 l0_1 l0_2 a0_3 a0_4 true a0_6 a0_7 a0_8 l0_9 l0_10) else (epactref11_Right.j2 k2 x4_2 x5_1 x6_1 x8_1 (!(a0_3 == 0) || (!(a0_4 == 0) || (true || (a0_6)))) a0_0 l0_1 l0_2 a0_3 a0_4 true a0_6 a0_7 a0_8 l0_9 l0_10)) else (if a0_4 = 0 then (if x7_1 = true then (epactref11_Right.j2 k2 x4_2 x5_1 x6_1 x8_1 false a0_0 l0_1 l0_2 a0_3 a0_4 true a0_6 a0_7 a0_8 l0_9 l0_10) else (epactref11_Right.j2 k2 x4_2 x5_1 x6_1 x8_1 (!(a0_3 == 0) || (!(a0_4 == 0) || (true || (a0_6)))) a0_0 l0_1 l0_2 a0_3 a0_4 true a0_6 a0_7 a0_8 l0_9 l0_10)) else (epactref11_Right.j2 k2 x4_2 x5_1 x6_1 x8_1 true a0_0 l0_1 l0_2 a0_3 a0_4 true a0_6 a0_7 a0_8 l0_9 l0_10))) = some r := by rw [if_pos rfl] at H; exact H
                  clear H
                  have H := H1
                  clear H1
                  by_cases c24 : a0_6 = true
                  · subst c24
                    have H1 : (if x7_1 = true then (epactref11_Right.j2 k2 x4_2 x5_1 x6_1 x8_1 false a0_0 l0_1 l0_2 a0_3 a0_4 true true a0_7 a0_8 l0_9 l0_10) else (epactref11_Right.j2 k2 x4_2 x5_1 x6_1 x8_1 (!(a0_3 == 0) || (!(a0_4 == 0) || (true || (true)))) a0_0 l0_1 l0_2 a0_3 a0_4 true true a0_7 a0_8 l0_9 l0_10)) = some r := by rw [if_pos rfl] at H; exact H
                    clear H
                    have H := H1
                    clear H1
                    by_cases c25 : x7_1 = true
                    · subst c25
                      have H1 : (epactref11_Right.j2 k2 x4_2 x5_1 x6_1 x8_1 false a0_0 l0_1 l0_2 a0_3 a0_4 true true a0_7 a0_8 l0_9 l0_10) = some r := by rw [if_pos rfl] at H; exact H
                      clear H
                      have H := H1
                      clear H1
                      have H' := Aside0.mk H
                      clear H
                      have hnb26 := NB333_328.out
                      have hnc26 := NB328_333.out
                      have hcz27_0 : w20.cell? ⟨gb333, 0, none⟩ = some (.int .i64 0) := (blk_cell BK333.out 0).trans rfl
                      have hcz27_1 : w20.cell? ⟨gb333, 1, none⟩ = some (.int .i64 0) := (blk_cell BK333.out 1).trans rfl
                      have hcz27_2 : w20.cell? ⟨gb333, 2, none⟩ = some (.bool false) := (blk_cell BK333.out 2).trans rfl
                      have hcz27_3 : w20.cell? ⟨gb333, 3, none⟩ = some (.bool false) := (blk_cell BK333.out 3).trans rfl
                      have hfz27_0 := blk_frozen BK333.out 0
                      have hfz27_1 := blk_frozen BK333.out 1
                      have hfz27_2 := blk_frozen BK333.out 2
                      have hfz27_3 := blk_frozen BK333.out 3
                      go_wp2
                      go_meet
                      case rel => exact ⟨_, (false), (by first | rfl | (simp; done) | (simp [*]; done)), H', ⟨by have := HK1.out; have := HK2.out; first | omega | exact Nat.le_refl _⟩, ⟨by (with_reducible repeat (first | refine blk_drewN ?_ _ | refine blk_drew ?_ | refine blk_alloc ?_ _)); refine blk_far ?_ NB328_333.out _; (with_reducible repeat (first | refine blk_drewN ?_ _ | refine blk_drew ?_ | refine blk_alloc ?_ _)); refine blk_far ?_ NB328_333.out _; (with_reducible repeat (first | refine blk_drewN ?_ _ | refine blk_drew ?_ | refine blk_alloc ?_ _)); refine blk_far ?_ NB328_333.out _; (with_reducible repeat (first | refine blk_drewN ?_ _ | refine blk_drew ?_ | refine blk_alloc ?_ _)); refine blk_far ?_ NB328_333.out _; (with_reducible repeat (first | refine blk_drewN ?_ _ | refine blk_drew ?_ | refine blk_alloc ?_ _)); exact BK328.out⟩, ⟨by (with_reducible repeat (first | refine blk_drewN ?_ _ | refine blk_drew ?_ | refine blk_alloc ?_ _)); refine blk_put (cs := #[.int .i64 a0_3, .int .i64 a0_4, .bool true, .bool false]) ?_ 3 _ rfl; (with_reducible repeat (first | refine blk_drewN ?_ _ | refine blk_drew ?_ | refine blk_alloc ?_ _)); refine blk_put (cs := #[.int .i64 a0_3, .int .i64 a0_4, .bool false, .bool false]) ?_ 2 _ rfl; (with_reducible repeat (first | refine blk_drewN ?_ _ | refine blk_drew ?_ | refine blk_alloc ?_ _)); refine blk_put (cs := #[.int .i64 a0_3, .int .i64 0, .bool false, .bool false]) ?_ 1 _ rfl; (with_reducible repeat (first | refine blk_drewN ?_ _ | refine blk_drew ?_ | refine blk_alloc ?_ _)); refine blk_put (cs := #[.int .i64 0, .int .i64 0, .bool false, .bool false]) ?_ 0 _ rfl; (with_reducible repeat (first | refine blk_drewN ?_ _ | refine blk_drew ?_ | refine blk_alloc ?_ _)); exact BK333.out⟩, ⟨by repeat (first | (with_reducible first | exact HB.out | apply below_alloc | apply pw_below_drewN | apply below_drew1 | refine below_set ?_ GE328.out | refine below_set ?_ GE333.out) | exact HB.out)⟩⟩
                    · replace c25 := Bool.eq_false_iff.mpr c25
                      subst c25
                      have H1 : (epactref11_Right.j2 k2 x4_2 x5_1 x6_1 x8_1 (!(a0_3 == 0) || (!(a0_4 == 0) || (true || (true)))) a0_0 l0_1 l0_2 a0_3 a0_4 true true a0_7 a0_8 l0_9 l0_10) = some r := by rw [if_neg (show ¬ (false = true) by decide)] at H; exact H
                      clear H
                      have H := H1
                      clear H1
                      have H' := Aside0.mk H
                      clear H
                      have hnb28 := NB333_328.out
                      have hnc28 := NB328_333.out
                      have hcz29_0 : w20.cell? ⟨gb333, 0, none⟩ = some (.int .i64 0) := (blk_cell BK333.out 0).trans rfl
                      have hcz29_1 : w20.cell? ⟨gb333, 1, none⟩ = some (.int .i64 0) := (blk_cell BK333.out 1).trans rfl
                      have hcz29_2 : w20.cell? ⟨gb333, 2, none⟩ = some (.bool false) := (blk_cell BK333.out 2).trans rfl
                      have hcz29_3 : w20.cell? ⟨gb333, 3, none⟩ = some (.bool false) := (blk_cell BK333.out 3).trans rfl
                      have hfz29_0 := blk_frozen BK333.out 0
                      have hfz29_1 := blk_frozen BK333.out 1
                      have hfz29_2 := blk_frozen BK333.out 2
                      have hfz29_3 := blk_frozen BK333.out 3
                      go_wp2
                      go_meet
                      case rel => exact ⟨_, ((!(a0_3 == 0) || (!(a0_4 == 0) || (true || (true))))), (by first | rfl | (simp; done) | (simp [*]; done)), H', ⟨by have := HK1.out; have := HK2.out; first | omega | exact Nat.le_refl _⟩, ⟨by (with_reducible repeat (first | refine blk_drewN ?_ _ | refine blk_drew ?_ | refine blk_alloc ?_ _)); refine blk_far ?_ NB328_333.out _; (with_reducible repeat (first | refine blk_drewN ?_ _ | refine blk_drew ?_ | refine blk_alloc ?_ _)); refine blk_far ?_ NB328_333.out _; (with_reducible repeat (first | refine blk_drewN ?_ _ | refine blk_drew ?_ | refine blk_alloc ?_ _)); refine blk_far ?_ NB328_333.out _; (with_reducible repeat (first | refine blk_drewN ?_ _ | refine blk_drew ?_ | refine blk_alloc ?_ _)); refine blk_far ?_ NB328_333.out _; (with_reducible repeat (first | refine blk_drewN ?_ _ | refine blk_drew ?_ | refine blk_alloc ?_ _)); exact BK328.out⟩, ⟨by (with_reducible repeat (first | refine blk_drewN ?_ _ | refine blk_drew ?_ | refine blk_alloc ?_ _)); refine blk_put (cs := #[.int .i64 a0_3, .int .i64 a0_4, .bool true, .bool false]) ?_ 3 _ rfl; (with_reducible repeat (first | refine blk_drewN ?_ _ | refine blk_drew ?_ | refine blk_alloc ?_ _)); refine blk_put (cs := #[.int .i64 a0_3, .int .i64 a0_4, .bool false, .bool false]) ?_ 2 _ rfl; (with_reducible repeat (first | refine blk_drewN ?_ _ | refine blk_drew ?_ | refine blk_alloc ?_ _)); refine blk_put (cs := #[.int .i64 a0_3, .int .i64 0, .bool false, .bool false]) ?_ 1 _ rfl; (with_reducible repeat (first | refine blk_drewN ?_ _ | refine blk_drew ?_ | refine blk_alloc ?_ _)); refine blk_put (cs := #[.int .i64 0, .int .i64 0, .bool false, .bool false]) ?_ 0 _ rfl; (with_reducible repeat (first | refine blk_drewN ?_ _ | refine blk_drew ?_ | refine blk_alloc ?_ _)); exact BK333.out⟩, ⟨by repeat (first | (with_reducible first | exact HB.out | apply below_alloc | apply pw_below_drewN | apply below_drew1 | refine below_set ?_ GE328.out | refine below_set ?_ GE333.out) | exact HB.out)⟩⟩
                  · replace c24 := Bool.eq_false_iff.mpr c24
                    subst c24
                    have H1 : (if a0_4 = 0 then (if x7_1 = true then (epactref11_Right.j2 k2 x4_2 x5_1 x6_1 x8_1 false a0_0 l0_1 l0_2 a0_3 a0_4 true false a0_7 a0_8 l0_9 l0_10) else (epactref11_Right.j2 k2 x4_2 x5_1 x6_1 x8_1 (!(a0_3 == 0) || (!(a0_4 == 0) || (true || (false)))) a0_0 l0_1 l0_2 a0_3 a0_4 true false a0_7 a0_8 l0_9 l0_10)) else (epactref11_Right.j2 k2 x4_2 x5_1 x6_1 x8_1 true a0_0 l0_1 l0_2 a0_3 a0_4 true false a0_7 a0_8 l0_9 l0_10)) = some r := by rw [if_neg (show ¬ (false = true) by decide)] at H; exact H
                    clear H
                    have H := H1
                    clear H1
                    by_cases c30 : a0_4 = 0
                    · rw [if_pos c30] at H
                      have c30b0 : (a0_4 == 0) = true := beq_iff_eq.mpr c30
                      have c30b1 : (a0_4 != 0) = false := bne_eq_false_iff_eq.mpr c30
                      clear c30
                      (first | rw [c30b0] | (simp only [i64_w, i32_w]; rw [c30b0]) | skip)
                      by_cases c31 : x7_1 = true
                      · subst c31
                        have H1 : (epactref11_Right.j2 k2 x4_2 x5_1 x6_1 x8_1 false a0_0 l0_1 l0_2 a0_3 a0_4 true false a0_7 a0_8 l0_9 l0_10) = some r := by rw [if_pos rfl] at H; exact H
                        clear H
                        have H := H1
                        clear H1
                        have H' := Aside0.mk H
                        clear H
                        have hnb32 := NB333_328.out
                        have hnc32 := NB328_333.out
                        have hcz33_0 : w20.cell? ⟨gb333, 0, none⟩ = some (.int .i64 0) := (blk_cell BK333.out 0).trans rfl
                        have hcz33_1 : w20.cell? ⟨gb333, 1, none⟩ = some (.int .i64 0) := (blk_cell BK333.out 1).trans rfl
                        have hcz33_2 : w20.cell? ⟨gb333, 2, none⟩ = some (.bool false) := (blk_cell BK333.out 2).trans rfl
                        have hcz33_3 : w20.cell? ⟨gb333, 3, none⟩ = some (.bool false) := (blk_cell BK333.out 3).trans rfl
                        have hfz33_0 := blk_frozen BK333.out 0
                        have hfz33_1 := blk_frozen BK333.out 1
                        have hfz33_2 := blk_frozen BK333.out 2
                        have hfz33_3 := blk_frozen BK333.out 3
                        go_wp2
                        go_meet
                        case rel => exact ⟨_, (false), (by first | rfl | (simp; done) | (simp [*]; done)), H', ⟨by have := HK1.out; have := HK2.out; first | omega | exact Nat.le_refl _⟩, ⟨by (with_reducible repeat (first | refine blk_drewN ?_ _ | refine blk_drew ?_ | refine blk_alloc ?_ _)); refine blk_far ?_ NB328_333.out _; (with_reducible repeat (first | refine blk_drewN ?_ _ | refine blk_drew ?_ | refine blk_alloc ?_ _)); refine blk_far ?_ NB328_333.out _; (with_reducible repeat (first | refine blk_drewN ?_ _ | refine blk_drew ?_ | refine blk_alloc ?_ _)); refine blk_far ?_ NB328_333.out _; (with_reducible repeat (first | refine blk_drewN ?_ _ | refine blk_drew ?_ | refine blk_alloc ?_ _)); refine blk_far ?_ NB328_333.out _; (with_reducible repeat (first | refine blk_drewN ?_ _ | refine blk_drew ?_ | refine blk_alloc ?_ _)); exact BK328.out⟩, ⟨by (with_reducible repeat (first | refine blk_drewN ?_ _ | refine blk_drew ?_ | refine blk_alloc ?_ _)); refine blk_put (cs := #[.int .i64 a0_3, .int .i64 a0_4, .bool true, .bool false]) ?_ 3 _ rfl; (with_reducible repeat (first | refine blk_drewN ?_ _ | refine blk_drew ?_ | refine blk_alloc ?_ _)); refine blk_put (cs := #[.int .i64 a0_3, .int .i64 a0_4, .bool false, .bool false]) ?_ 2 _ rfl; (with_reducible repeat (first | refine blk_drewN ?_ _ | refine blk_drew ?_ | refine blk_alloc ?_ _)); refine blk_put (cs := #[.int .i64 a0_3, .int .i64 0, .bool false, .bool false]) ?_ 1 _ rfl; (with_reducible repeat (first | refine blk_drewN ?_ _ | refine blk_drew ?_ | refine blk_alloc ?_ _)); refine blk_put (cs := #[.int .i64 0, .int .i64 0, .bool false, .bool false]) ?_ 0 _ rfl; (with_reducible repeat (first | refine blk_drewN ?_ _ | refine blk_drew ?_ | refine blk_alloc ?_ _)); exact BK333.out⟩, ⟨by repeat (first | (with_reducible first | exact HB.out | apply below_alloc | apply pw_below_drewN | apply below_drew1 | refine below_set ?_ GE328.out | refine below_set ?_ GE333.out) | exact HB.out)⟩⟩
                      · replace c31 := Bool.eq_false_iff.mpr c31
                        subst c31
                        have H1 : (epactref11_Right.j2 k2 x4_2 x5_1 x6_1 x8_1 (!(a0_3 == 0) || (!(a0_4 == 0) || (true || (false)))) a0_0 l0_1 l0_2 a0_3 a0_4 true false a0_7 a0_8 l0_9 l0_10) = some r := by rw [if_neg (show ¬ (false = true) by decide)] at H; exact H
                        clear H
                        have H := H1
                        clear H1
                        have H' := Aside0.mk H
                        clear H
                        have hnb34 := NB333_328.out
                        have hnc34 := NB328_333.out
                        have hcz35_0 : w20.cell? ⟨gb333, 0, none⟩ = some (.int .i64 0) := (blk_cell BK333.out 0).trans rfl
                        have hcz35_1 : w20.cell? ⟨gb333, 1, none⟩ = some (.int .i64 0) := (blk_cell BK333.out 1).trans rfl
                        have hcz35_2 : w20.cell? ⟨gb333, 2, none⟩ = some (.bool false) := (blk_cell BK333.out 2).trans rfl
                        have hcz35_3 : w20.cell? ⟨gb333, 3, none⟩ = some (.bool false) := (blk_cell BK333.out 3).trans rfl
                        have hfz35_0 := blk_frozen BK333.out 0
                        have hfz35_1 := blk_frozen BK333.out 1
                        have hfz35_2 := blk_frozen BK333.out 2
                        have hfz35_3 := blk_frozen BK333.out 3
                        go_wp2
                        go_meet
                        case rel => exact ⟨_, ((!(a0_3 == 0) || (!(a0_4 == 0) || (true || (false))))), (by first | rfl | (simp; done) | (simp [*]; done)), H', ⟨by have := HK1.out; have := HK2.out; first | omega | exact Nat.le_refl _⟩, ⟨by (with_reducible repeat (first | refine blk_drewN ?_ _ | refine blk_drew ?_ | refine blk_alloc ?_ _)); refine blk_far ?_ NB328_333.out _; (with_reducible repeat (first | refine blk_drewN ?_ _ | refine blk_drew ?_ | refine blk_alloc ?_ _)); refine blk_far ?_ NB328_333.out _; (with_reducible repeat (first | refine blk_drewN ?_ _ | refine blk_drew ?_ | refine blk_alloc ?_ _)); refine blk_far ?_ NB328_333.out _; (with_reducible repeat (first | refine blk_drewN ?_ _ | refine blk_drew ?_ | refine blk_alloc ?_ _)); refine blk_far ?_ NB328_333.out _; (with_reducible repeat (first | refine blk_drewN ?_ _ | refine blk_drew ?_ | refine blk_alloc ?_ _)); exact BK328.out⟩, ⟨by (with_reducible repeat (first | refine blk_drewN ?_ _ | refine blk_drew ?_ | refine blk_alloc ?_ _)); refine blk_put (cs := #[.int .i64 a0_3, .int .i64 a0_4, .bool true, .bool false]) ?_ 3 _ rfl; (with_reducible repeat (first | refine blk_drewN ?_ _ | refine blk_drew ?_ | refine blk_alloc ?_ _)); refine blk_put (cs := #[.int .i64 a0_3, .int .i64 a0_4, .bool false, .bool false]) ?_ 2 _ rfl; (with_reducible repeat (first | refine blk_drewN ?_ _ | refine blk_drew ?_ | refine blk_alloc ?_ _)); refine blk_put (cs := #[.int .i64 a0_3, .int .i64 0, .bool false, .bool false]) ?_ 1 _ rfl; (with_reducible repeat (first | refine blk_drewN ?_ _ | refine blk_drew ?_ | refine blk_alloc ?_ _)); refine blk_put (cs := #[.int .i64 0, .int .i64 0, .bool false, .bool false]) ?_ 0 _ rfl; (with_reducible repeat (first | refine blk_drewN ?_ _ | refine blk_drew ?_ | refine blk_alloc ?_ _)); exact BK333.out⟩, ⟨by repeat (first | (with_reducible first | exact HB.out | apply below_alloc | apply pw_below_drewN | apply below_drew1 | refine below_set ?_ GE328.out | refine below_set ?_ GE333.out) | exact HB.out)⟩⟩
                    · rw [if_neg c30] at H
                      have c30b0 : (a0_4 == 0) = false := beq_eq_false_iff_ne.mpr c30
                      have c30b1 : (a0_4 != 0) = true := bne_iff_ne.mpr c30
                      (first | rw [c30b0] | (simp only [i64_w, i32_w]; rw [c30b0]) | skip)
                      have H' := Aside0.mk H
                      clear H
                      have hnb36 := NB333_328.out
                      have hnc36 := NB328_333.out
                      have hcz37_0 : w20.cell? ⟨gb333, 0, none⟩ = some (.int .i64 0) := (blk_cell BK333.out 0).trans rfl
                      have hcz37_1 : w20.cell? ⟨gb333, 1, none⟩ = some (.int .i64 0) := (blk_cell BK333.out 1).trans rfl
                      have hcz37_2 : w20.cell? ⟨gb333, 2, none⟩ = some (.bool false) := (blk_cell BK333.out 2).trans rfl
                      have hcz37_3 : w20.cell? ⟨gb333, 3, none⟩ = some (.bool false) := (blk_cell BK333.out 3).trans rfl
                      have hfz37_0 := blk_frozen BK333.out 0
                      have hfz37_1 := blk_frozen BK333.out 1
                      have hfz37_2 := blk_frozen BK333.out 2
                      have hfz37_3 := blk_frozen BK333.out 3
                      go_wp2
                      go_meet
                      case rel => exact ⟨_, (true), (by first | rfl | (simp; done) | (simp [*]; done)), H', ⟨by have := HK1.out; have := HK2.out; first | omega | exact Nat.le_refl _⟩, ⟨by (with_reducible repeat (first | refine blk_drewN ?_ _ | refine blk_drew ?_ | refine blk_alloc ?_ _)); refine blk_far ?_ NB328_333.out _; (with_reducible repeat (first | refine blk_drewN ?_ _ | refine blk_drew ?_ | refine blk_alloc ?_ _)); refine blk_far ?_ NB328_333.out _; (with_reducible repeat (first | refine blk_drewN ?_ _ | refine blk_drew ?_ | refine blk_alloc ?_ _)); refine blk_far ?_ NB328_333.out _; (with_reducible repeat (first | refine blk_drewN ?_ _ | refine blk_drew ?_ | refine blk_alloc ?_ _)); refine blk_far ?_ NB328_333.out _; (with_reducible repeat (first | refine blk_drewN ?_ _ | refine blk_drew ?_ | refine blk_alloc ?_ _)); exact BK328.out⟩, ⟨by (with_reducible repeat (first | refine blk_drewN ?_ _ | refine blk_drew ?_ | refine blk_alloc ?_ _)); refine blk_put (cs := #[.int .i64 a0_3, .int .i64 a0_4, .bool true, .bool false]) ?_ 3 _ rfl; (with_reducible repeat (first | refine blk_drewN ?_ _ | refine blk_drew ?_ | refine blk_alloc ?_ _)); refine blk_put (cs := #[.int .i64 a0_3, .int .i64 a0_4, .bool false, .bool false]) ?_ 2 _ rfl; (with_reducible repeat (first | refine blk_drewN ?_ _ | refine blk_drew ?_ | refine blk_alloc ?_ _)); refine blk_put (cs := #[.int .i64 a0_3, .int .i64 0, .bool false, .bool false]) ?_ 1 _ rfl; (with_reducible repeat (first | refine blk_drewN ?_ _ | refine blk_drew ?_ | refine blk_alloc ?_ _)); refine blk_put (cs := #[.int .i64 0, .int .i64 0, .bool false, .bool false]) ?_ 0 _ rfl; (with_reducible repeat (first | refine blk_drewN ?_ _ | refine blk_drew ?_ | refine blk_alloc ?_ _)); exact BK333.out⟩, ⟨by repeat (first | (with_reducible first | exact HB.out | apply below_alloc | apply pw_below_drewN | apply below_drew1 | refine below_set ?_ GE328.out | refine below_set ?_ GE333.out) | exact HB.out)⟩⟩
                · replace c23 := Bool.eq_false_iff.mpr c23
                  subst c23
                  have H1 : (if a0_3 = 0 then (if a0_6 = true then (if x7_1 = true then (epactref11_Right.j2 k2 x4_2 x5_1 x6_1 x8_1 false a0_0 l0_1 l0_2 a0_3 a0_4 false a0_6 a0_7 a0_8 l0_9 l0_10) else (epactref11_Right.j2 k2 x4_2 x5_1 x6_1 x8_1 (!(a0_3 == 0) || (!(a0_4 == 0) || (false || (a0_6)))) a0_0 l0_1 l0_2 a0_3 a0_4 false a0_6 a0_7 a0_8 l0_9 l0_10)) else (if a0_4 = 0 then (if x7_1 = true then (epactref11_Right.j2 k2 x4_2 x5_1 x6_1 x8_1 false a0_0 l0_1 l0_2 a0_3 a0_4 false a0_6 a0_7 a0_8 l0_9 l0_10) else (epactref11_Right.j2 k2 x4_2 x5_1 x6_1 x8_1 (!(a0_3 == 0) || (!(a0_4 == 0) || (false || (a0_6)))) a0_0 l0_1 l0_2 a0_3 a0_4 false a0_6 a0_7 a0_8 l0_9 l0_10)) else (epactref11_Right.j2 k2 x4_2 x5_1 x6_1 x8_1 true a0_0 l0_1 l0_2 a0_3 a0_4 false a0_6 a0_7 a0_8 l0_9 l0_10))) else (epactref11_Right.j2 k2 x4_2 x5_1 x6_1 x8_1 true a0_0 l0_1 l0_2 a0_3 a0_4 false a0_6 a0_7 a0_8 l0_9 l0_10)) = some r := by rw [if_neg (show ¬ (false = true) by decide)] at H; exact H
                  clear H
                  have H := H1
                  clear H1
                  by_cases c38 : a0_3 = 0
                  · rw [if_pos c38] at H
                    have c38b0 : (a0_3 == 0) = true := beq_iff_eq.mpr c38
                    have c38b1 : (a0_3 != 0) = false := bne_eq_false_iff_eq.mpr c38
                    clear c38
                    by_cases c39 : a0_6 = true
                    · subst c39
                      have H1 : (if x7_1 = true then (epactref11_Right.j2 k2 x4_2 x5_1 x6_1 x8_1 false a0_0 l0_1 l0_2 a0_3 a0_4 false true a0_7 a0_8 l0_9 l0_10) else (epactref11_Right.j2 k2 x4_2 x5_1 x6_1 x8_1 (!(a0_3 == 0) || (!(a0_4 == 0) || (false || (true)))) a0_0 l0_1 l0_2 a0_3 a0_4 false true a0_7 a0_8 l0_9 l0_10)) = some r := by rw [if_pos rfl] at H; exact H
                      clear H
                      have H := H1
                      clear H1
                      by_cases c40 : x7_1 = true
                      · subst c40
                        have H1 : (epactref11_Right.j2 k2 x4_2 x5_1 x6_1 x8_1 false a0_0 l0_1 l0_2 a0_3 a0_4 false true a0_7 a0_8 l0_9 l0_10) = some r := by rw [if_pos rfl] at H; exact H
                        clear H
                        have H := H1
                        clear H1
                        have H' := Aside0.mk H
                        clear H
                        have hnb41 := NB333_328.out
                        have hnc41 := NB328_333.out
                        have hcz42_0 : w20.cell? ⟨gb333, 0, none⟩ = some (.int .i64 0) := (blk_cell BK333.out 0).trans rfl
                        have hcz42_1 : w20.cell? ⟨gb333, 1, none⟩ = some (.int .i64 0) := (blk_cell BK333.out 1).trans rfl
                        have hcz42_2 : w20.cell? ⟨gb333, 2, none⟩ = some (.bool false) := (blk_cell BK333.out 2).trans rfl
                        have hcz42_3 : w20.cell? ⟨gb333, 3, none⟩ = some (.bool false) := (blk_cell BK333.out 3).trans rfl
                        have hfz42_0 := blk_frozen BK333.out 0
                        have hfz42_1 := blk_frozen BK333.out 1
                        have hfz42_2 := blk_frozen BK333.out 2
                        have hfz42_3 := blk_frozen BK333.out 3
                        go_wp2
                        go_meet
                        case rel => exact ⟨_, (false), (by first | rfl | (simp; done) | (simp [*]; done)), H', ⟨by have := HK1.out; have := HK2.out; first | omega | exact Nat.le_refl _⟩, ⟨by (with_reducible repeat (first | refine blk_drewN ?_ _ | refine blk_drew ?_ | refine blk_alloc ?_ _)); refine blk_far ?_ NB328_333.out _; (with_reducible repeat (first | refine blk_drewN ?_ _ | refine blk_drew ?_ | refine blk_alloc ?_ _)); refine blk_far ?_ NB328_333.out _; (with_reducible repeat (first | refine blk_drewN ?_ _ | refine blk_drew ?_ | refine blk_alloc ?_ _)); refine blk_far ?_ NB328_333.out _; (with_reducible repeat (first | refine blk_drewN ?_ _ | refine blk_drew ?_ | refine blk_alloc ?_ _)); refine blk_far ?_ NB328_333.out _; (with_reducible repeat (first | refine blk_drewN ?_ _ | refine blk_drew ?_ | refine blk_alloc ?_ _)); exact BK328.out⟩, ⟨by (with_reducible repeat (first | refine blk_drewN ?_ _ | refine blk_drew ?_ | refine blk_alloc ?_ _)); refine blk_put (cs := #[.int .i64 a0_3, .int .i64 a0_4, .bool false, .bool false]) ?_ 3 _ rfl; (with_reducible repeat (first | refine blk_drewN ?_ _ | refine blk_drew ?_ | refine blk_alloc ?_ _)); refine blk_put (cs := #[.int .i64 a0_3, .int .i64 a0_4, .bool false, .bool false]) ?_ 2 _ rfl; (with_reducible repeat (first | refine blk_drewN ?_ _ | refine blk_drew ?_ | refine blk_alloc ?_ _)); refine blk_put (cs := #[.int .i64 a0_3, .int .i64 0, .bool false, .bool false]) ?_ 1 _ rfl; (with_reducible repeat (first | refine blk_drewN ?_ _ | refine blk_drew ?_ | refine blk_alloc ?_ _)); refine blk_put (cs := #[.int .i64 0, .int .i64 0, .bool false, .bool false]) ?_ 0 _ rfl; (with_reducible repeat (first | refine blk_drewN ?_ _ | refine blk_drew ?_ | refine blk_alloc ?_ _)); exact BK333.out⟩, ⟨by repeat (first | (with_reducible first | exact HB.out | apply below_alloc | apply pw_below_drewN | apply below_drew1 | refine below_set ?_ GE328.out | refine below_set ?_ GE333.out) | exact HB.out)⟩⟩
                      · replace c40 := Bool.eq_false_iff.mpr c40
                        subst c40
                        have H1 : (epactref11_Right.j2 k2 x4_2 x5_1 x6_1 x8_1 (!(a0_3 == 0) || (!(a0_4 == 0) || (false || (true)))) a0_0 l0_1 l0_2 a0_3 a0_4 false true a0_7 a0_8 l0_9 l0_10) = some r := by rw [if_neg (show ¬ (false = true) by decide)] at H; exact H
                        clear H
                        have H := H1
                        clear H1
                        have H' := Aside0.mk H
                        clear H
                        have hnb43 := NB333_328.out
                        have hnc43 := NB328_333.out
                        have hcz44_0 : w20.cell? ⟨gb333, 0, none⟩ = some (.int .i64 0) := (blk_cell BK333.out 0).trans rfl
                        have hcz44_1 : w20.cell? ⟨gb333, 1, none⟩ = some (.int .i64 0) := (blk_cell BK333.out 1).trans rfl
                        have hcz44_2 : w20.cell? ⟨gb333, 2, none⟩ = some (.bool false) := (blk_cell BK333.out 2).trans rfl
                        have hcz44_3 : w20.cell? ⟨gb333, 3, none⟩ = some (.bool false) := (blk_cell BK333.out 3).trans rfl
                        have hfz44_0 := blk_frozen BK333.out 0
                        have hfz44_1 := blk_frozen BK333.out 1
                        have hfz44_2 := blk_frozen BK333.out 2
                        have hfz44_3 := blk_frozen BK333.out 3
                        go_wp2
                        go_meet
                        case rel => exact ⟨_, ((!(a0_3 == 0) || (!(a0_4 == 0) || (false || (true))))), (by first | rfl | (simp; done) | (simp [*]; done)), H', ⟨by have := HK1.out; have := HK2.out; first | omega | exact Nat.le_refl _⟩, ⟨by (with_reducible repeat (first | refine blk_drewN ?_ _ | refine blk_drew ?_ | refine blk_alloc ?_ _)); refine blk_far ?_ NB328_333.out _; (with_reducible repeat (first | refine blk_drewN ?_ _ | refine blk_drew ?_ | refine blk_alloc ?_ _)); refine blk_far ?_ NB328_333.out _; (with_reducible repeat (first | refine blk_drewN ?_ _ | refine blk_drew ?_ | refine blk_alloc ?_ _)); refine blk_far ?_ NB328_333.out _; (with_reducible repeat (first | refine blk_drewN ?_ _ | refine blk_drew ?_ | refine blk_alloc ?_ _)); refine blk_far ?_ NB328_333.out _; (with_reducible repeat (first | refine blk_drewN ?_ _ | refine blk_drew ?_ | refine blk_alloc ?_ _)); exact BK328.out⟩, ⟨by (with_reducible repeat (first | refine blk_drewN ?_ _ | refine blk_drew ?_ | refine blk_alloc ?_ _)); refine blk_put (cs := #[.int .i64 a0_3, .int .i64 a0_4, .bool false, .bool false]) ?_ 3 _ rfl; (with_reducible repeat (first | refine blk_drewN ?_ _ | refine blk_drew ?_ | refine blk_alloc ?_ _)); refine blk_put (cs := #[.int .i64 a0_3, .int .i64 a0_4, .bool false, .bool false]) ?_ 2 _ rfl; (with_reducible repeat (first | refine blk_drewN ?_ _ | refine blk_drew ?_ | refine blk_alloc ?_ _)); refine blk_put (cs := #[.int .i64 a0_3, .int .i64 0, .bool false, .bool false]) ?_ 1 _ rfl; (with_reducible repeat (first | refine blk_drewN ?_ _ | refine blk_drew ?_ | refine blk_alloc ?_ _)); refine blk_put (cs := #[.int .i64 0, .int .i64 0, .bool false, .bool false]) ?_ 0 _ rfl; (with_reducible repeat (first | refine blk_drewN ?_ _ | refine blk_drew ?_ | refine blk_alloc ?_ _)); exact BK333.out⟩, ⟨by repeat (first | (with_reducible first | exact HB.out | apply below_alloc | apply pw_below_drewN | apply below_drew1 | refine below_set ?_ GE328.out | refine below_set ?_ GE333.out) | exact HB.out)⟩⟩
                    · replace c39 := Bool.eq_false_iff.mpr c39
                      subst c39
                      have H1 : (if a0_4 = 0 then (if x7_1 = true then (epactref11_Right.j2 k2 x4_2 x5_1 x6_1 x8_1 false a0_0 l0_1 l0_2 a0_3 a0_4 false false a0_7 a0_8 l0_9 l0_10) else (epactref11_Right.j2 k2 x4_2 x5_1 x6_1 x8_1 (!(a0_3 == 0) || (!(a0_4 == 0) || (false || (false)))) a0_0 l0_1 l0_2 a0_3 a0_4 false false a0_7 a0_8 l0_9 l0_10)) else (epactref11_Right.j2 k2 x4_2 x5_1 x6_1 x8_1 true a0_0 l0_1 l0_2 a0_3 a0_4 false false a0_7 a0_8 l0_9 l0_10)) = some r := by rw [if_neg (show ¬ (false = true) by decide)] at H; exact H
                      clear H
                      have H := H1
                      clear H1
                      by_cases c45 : a0_4 = 0
                      · rw [if_pos c45] at H
                        have c45b0 : (a0_4 == 0) = true := beq_iff_eq.mpr c45
                        have c45b1 : (a0_4 != 0) = false := bne_eq_false_iff_eq.mpr c45
                        clear c45
                        by_cases c46 : x7_1 = true
                        · subst c46
                          have H1 : (epactref11_Right.j2 k2 x4_2 x5_1 x6_1 x8_1 false a0_0 l0_1 l0_2 a0_3 a0_4 false false a0_7 a0_8 l0_9 l0_10) = some r := by rw [if_pos rfl] at H; exact H
                          clear H
                          have H := H1
                          clear H1
                          have H' := Aside0.mk H
                          clear H
                          have hnb47 := NB333_328.out
                          have hnc47 := NB328_333.out
                          have hcz48_0 : w20.cell? ⟨gb333, 0, none⟩ = some (.int .i64 0) := (blk_cell BK333.out 0).trans rfl
                          have hcz48_1 : w20.cell? ⟨gb333, 1, none⟩ = some (.int .i64 0) := (blk_cell BK333.out 1).trans rfl
                          have hcz48_2 : w20.cell? ⟨gb333, 2, none⟩ = some (.bool false) := (blk_cell BK333.out 2).trans rfl
                          have hcz48_3 : w20.cell? ⟨gb333, 3, none⟩ = some (.bool false) := (blk_cell BK333.out 3).trans rfl
                          have hfz48_0 := blk_frozen BK333.out 0
                          have hfz48_1 := blk_frozen BK333.out 1
                          have hfz48_2 := blk_frozen BK333.out 2
                          have hfz48_3 := blk_frozen BK333.out 3
                          go_wp2
                          go_meet
                          case rel => exact ⟨_, (false), (by first | rfl | (simp; done) | (simp [*]; done)), H', ⟨by have := HK1.out; have := HK2.out; first | omega | exact Nat.le_refl _⟩, ⟨by (with_reducible repeat (first | refine blk_drewN ?_ _ | refine blk_drew ?_ | refine blk_alloc ?_ _)); refine blk_far ?_ NB328_333.out _; (with_reducible repeat (first | refine blk_drewN ?_ _ | refine blk_drew ?_ | refine blk_alloc ?_ _)); refine blk_far ?_ NB328_333.out _; (with_reducible repeat (first | refine blk_drewN ?_ _ | refine blk_drew ?_ | refine blk_alloc ?_ _)); refine blk_far ?_ NB328_333.out _; (with_reducible repeat (first | refine blk_drewN ?_ _ | refine blk_drew ?_ | refine blk_alloc ?_ _)); refine blk_far ?_ NB328_333.out _; (with_reducible repeat (first | refine blk_drewN ?_ _ | refine blk_drew ?_ | refine blk_alloc ?_ _)); exact BK328.out⟩, ⟨by (with_reducible repeat (first | refine blk_drewN ?_ _ | refine blk_drew ?_ | refine blk_alloc ?_ _)); refine blk_put (cs := #[.int .i64 a0_3, .int .i64 a0_4, .bool false, .bool false]) ?_ 3 _ rfl; (with_reducible repeat (first | refine blk_drewN ?_ _ | refine blk_drew ?_ | refine blk_alloc ?_ _)); refine blk_put (cs := #[.int .i64 a0_3, .int .i64 a0_4, .bool false, .bool false]) ?_ 2 _ rfl; (with_reducible repeat (first | refine blk_drewN ?_ _ | refine blk_drew ?_ | refine blk_alloc ?_ _)); refine blk_put (cs := #[.int .i64 a0_3, .int .i64 0, .bool false, .bool false]) ?_ 1 _ rfl; (with_reducible repeat (first | refine blk_drewN ?_ _ | refine blk_drew ?_ | refine blk_alloc ?_ _)); refine blk_put (cs := #[.int .i64 0, .int .i64 0, .bool false, .bool false]) ?_ 0 _ rfl; (with_reducible repeat (first | refine blk_drewN ?_ _ | refine blk_drew ?_ | refine blk_alloc ?_ _)); exact BK333.out⟩, ⟨by repeat (first | (with_reducible first | exact HB.out | apply below_alloc | apply pw_below_drewN | apply below_drew1 | refine below_set ?_ GE328.out | refine below_set ?_ GE333.out) | exact HB.out)⟩⟩
                        · replace c46 := Bool.eq_false_iff.mpr c46
                          subst c46
                          have H1 : (epactref11_Right.j2 k2 x4_2 x5_1 x6_1 x8_1 (!(a0_3 == 0) || (!(a0_4 == 0) || (false || (false)))) a0_0 l0_1 l0_2 a0_3 a0_4 false false a0_7 a0_8 l0_9 l0_10) = some r := by rw [if_neg (show ¬ (false = true) by decide)] at H; exact H
                          clear H
                          have H := H1
                          clear H1
                          have H' := Aside0.mk H
                          clear H
                          have hnb49 := NB333_328.out
                          have hnc49 := NB328_333.out
                          have hcz50_0 : w20.cell? ⟨gb333, 0, none⟩ = some (.int .i64 0) := (blk_cell BK333.out 0).trans rfl
                          have hcz50_1 : w20.cell? ⟨gb333, 1, none⟩ = some (.int .i64 0) := (blk_cell BK333.out 1).trans rfl
                          have hcz50_2 : w20.cell? ⟨gb333, 2, none⟩ = some (.bool false) := (blk_cell BK333.out 2).trans rfl
                          have hcz50_3 : w20.cell? ⟨gb333, 3, none⟩ = some (.bool false) := (blk_cell BK333.out 3).trans rfl
                          have hfz50_0 := blk_frozen BK333.out 0
                          have hfz50_1 := blk_frozen BK333.out 1
                          have hfz50_2 := blk_frozen BK333.out 2
                          have hfz50_3 := blk_frozen BK333.out 3
                          go_wp2
                          go_meet
                          case rel => exact ⟨_, ((!(a0_3 == 0) || (!(a0_4 == 0) || (false || (false))))), (by first | rfl | (simp; done) | (simp [*]; done)), H', ⟨by have := HK1.out; have := HK2.out; first | omega | exact Nat.le_refl _⟩, ⟨by (with_reducible repeat (first | refine blk_drewN ?_ _ | refine blk_drew ?_ | refine blk_alloc ?_ _)); refine blk_far ?_ NB328_333.out _; (with_reducible repeat (first | refine blk_drewN ?_ _ | refine blk_drew ?_ | refine blk_alloc ?_ _)); refine blk_far ?_ NB328_333.out _; (with_reducible repeat (first | refine blk_drewN ?_ _ | refine blk_drew ?_ | refine blk_alloc ?_ _)); refine blk_far ?_ NB328_333.out _; (with_reducible repeat (first | refine blk_drewN ?_ _ | refine blk_drew ?_ | refine blk_alloc ?_ _)); refine blk_far ?_ NB328_333.out _; (with_reducible repeat (first | refine blk_drewN ?_ _ | refine blk_drew ?_ | refine blk_alloc ?_ _)); exact BK328.out⟩, ⟨by (with_reducible repeat (first | refine blk_drewN ?_ _ | refine blk_drew ?_ | refine blk_alloc ?_ _)); refine blk_put (cs := #[.int .i64 a0_3, .int .i64 a0_4, .bool false, .bool false]) ?_ 3 _ rfl; (with_reducible repeat (first | refine blk_drewN ?_ _ | refine blk_drew ?_ | refine blk_alloc ?_ _)); refine blk_put (cs := #[.int .i64 a0_3, .int .i64 a0_4, .bool false, .bool false]) ?_ 2 _ rfl; (with_reducible repeat (first | refine blk_drewN ?_ _ | refine blk_drew ?_ | refine blk_alloc ?_ _)); refine blk_put (cs := #[.int .i64 a0_3, .int .i64 0, .bool false, .bool false]) ?_ 1 _ rfl; (with_reducible repeat (first | refine blk_drewN ?_ _ | refine blk_drew ?_ | refine blk_alloc ?_ _)); refine blk_put (cs := #[.int .i64 0, .int .i64 0, .bool false, .bool false]) ?_ 0 _ rfl; (with_reducible repeat (first | refine blk_drewN ?_ _ | refine blk_drew ?_ | refine blk_alloc ?_ _)); exact BK333.out⟩, ⟨by repeat (first | (with_reducible first | exact HB.out | apply below_alloc | apply pw_below_drewN | apply below_drew1 | refine below_set ?_ GE328.out | refine below_set ?_ GE333.out) | exact HB.out)⟩⟩
                      · rw [if_neg c45] at H
                        have c45b0 : (a0_4 == 0) = false := beq_eq_false_iff_ne.mpr c45
                        have c45b1 : (a0_4 != 0) = true := bne_iff_ne.mpr c45
                        have H' := Aside0.mk H
                        clear H
                        have hnb51 := NB333_328.out
                        have hnc51 := NB328_333.out
                        have hcz52_0 : w20.cell? ⟨gb333, 0, none⟩ = some (.int .i64 0) := (blk_cell BK333.out 0).trans rfl
                        have hcz52_1 : w20.cell? ⟨gb333, 1, none⟩ = some (.int .i64 0) := (blk_cell BK333.out 1).trans rfl
                        have hcz52_2 : w20.cell? ⟨gb333, 2, none⟩ = some (.bool false) := (blk_cell BK333.out 2).trans rfl
                        have hcz52_3 : w20.cell? ⟨gb333, 3, none⟩ = some (.bool false) := (blk_cell BK333.out 3).trans rfl
                        have hfz52_0 := blk_frozen BK333.out 0
                        have hfz52_1 := blk_frozen BK333.out 1
                        have hfz52_2 := blk_frozen BK333.out 2
                        have hfz52_3 := blk_frozen BK333.out 3
                        go_wp2
                        go_meet
                        case rel => exact ⟨_, (true), (by first | rfl | (simp; done) | (simp [*]; done)), H', ⟨by have := HK1.out; have := HK2.out; first | omega | exact Nat.le_refl _⟩, ⟨by (with_reducible repeat (first | refine blk_drewN ?_ _ | refine blk_drew ?_ | refine blk_alloc ?_ _)); refine blk_far ?_ NB328_333.out _; (with_reducible repeat (first | refine blk_drewN ?_ _ | refine blk_drew ?_ | refine blk_alloc ?_ _)); refine blk_far ?_ NB328_333.out _; (with_reducible repeat (first | refine blk_drewN ?_ _ | refine blk_drew ?_ | refine blk_alloc ?_ _)); refine blk_far ?_ NB328_333.out _; (with_reducible repeat (first | refine blk_drewN ?_ _ | refine blk_drew ?_ | refine blk_alloc ?_ _)); refine blk_far ?_ NB328_333.out _; (with_reducible repeat (first | refine blk_drewN ?_ _ | refine blk_drew ?_ | refine blk_alloc ?_ _)); exact BK328.out⟩, ⟨by (with_reducible repeat (first | refine blk_drewN ?_ _ | refine blk_drew ?_ | refine blk_alloc ?_ _)); refine blk_put (cs := #[.int .i64 a0_3, .int .i64 a0_4, .bool false, .bool false]) ?_ 3 _ rfl; (with_reducible repeat (first | refine blk_drewN ?_ _ | refine blk_drew ?_ | refine blk_alloc ?_ _)); refine blk_put (cs := #[.int .i64 a0_3, .int .i64 a0_4, .bool false, .bool false]) ?_ 2 _ rfl; (with_reducible repeat (first | refine blk_drewN ?_ _ | refine blk_drew ?_ | refine blk_alloc ?_ _)); refine blk_put (cs := #[.int .i64 a0_3, .int .i64 0, .bool false, .bool false]) ?_ 1 _ rfl; (with_reducible repeat (first | refine blk_drewN ?_ _ | refine blk_drew ?_ | refine blk_alloc ?_ _)); refine blk_put (cs := #[.int .i64 0, .int .i64 0, .bool false, .bool false]) ?_ 0 _ rfl; (with_reducible repeat (first | refine blk_drewN ?_ _ | refine blk_drew ?_ | refine blk_alloc ?_ _)); exact BK333.out⟩, ⟨by repeat (first | (with_reducible first | exact HB.out | apply below_alloc | apply pw_below_drewN | apply below_drew1 | refine below_set ?_ GE328.out | refine below_set ?_ GE333.out) | exact HB.out)⟩⟩
                  · rw [if_neg c38] at H
                    have c38b0 : (a0_3 == 0) = false := beq_eq_false_iff_ne.mpr c38
                    have c38b1 : (a0_3 != 0) = true := bne_iff_ne.mpr c38
                    have H' := Aside0.mk H
                    clear H
                    have hnb53 := NB333_328.out
                    have hnc53 := NB328_333.out
                    have hcz54_0 : w20.cell? ⟨gb333, 0, none⟩ = some (.int .i64 0) := (blk_cell BK333.out 0).trans rfl
                    have hcz54_1 : w20.cell? ⟨gb333, 1, none⟩ = some (.int .i64 0) := (blk_cell BK333.out 1).trans rfl
                    have hcz54_2 : w20.cell? ⟨gb333, 2, none⟩ = some (.bool false) := (blk_cell BK333.out 2).trans rfl
                    have hcz54_3 : w20.cell? ⟨gb333, 3, none⟩ = some (.bool false) := (blk_cell BK333.out 3).trans rfl
                    have hfz54_0 := blk_frozen BK333.out 0
                    have hfz54_1 := blk_frozen BK333.out 1
                    have hfz54_2 := blk_frozen BK333.out 2
                    have hfz54_3 := blk_frozen BK333.out 3
                    go_wp2
                    go_meet
                    case rel => exact ⟨_, (true), (by first | rfl | (simp; done) | (simp [*]; done)), H', ⟨by have := HK1.out; have := HK2.out; first | omega | exact Nat.le_refl _⟩, ⟨by (with_reducible repeat (first | refine blk_drewN ?_ _ | refine blk_drew ?_ | refine blk_alloc ?_ _)); refine blk_far ?_ NB328_333.out _; (with_reducible repeat (first | refine blk_drewN ?_ _ | refine blk_drew ?_ | refine blk_alloc ?_ _)); refine blk_far ?_ NB328_333.out _; (with_reducible repeat (first | refine blk_drewN ?_ _ | refine blk_drew ?_ | refine blk_alloc ?_ _)); refine blk_far ?_ NB328_333.out _; (with_reducible repeat (first | refine blk_drewN ?_ _ | refine blk_drew ?_ | refine blk_alloc ?_ _)); refine blk_far ?_ NB328_333.out _; (with_reducible repeat (first | refine blk_drewN ?_ _ | refine blk_drew ?_ | refine blk_alloc ?_ _)); exact BK328.out⟩, ⟨by (with_reducible repeat (first | refine blk_drewN ?_ _ | refine blk_drew ?_ | refine blk_alloc ?_ _)); refine blk_put (cs := #[.int .i64 a0_3, .int .i64 a0_4, .bool false, .bool false]) ?_ 3 _ rfl; (with_reducible repeat (first | refine blk_drewN ?_ _ | refine blk_drew ?_ | refine blk_alloc ?_ _)); refine blk_put (cs := #[.int .i64 a0_3, .int .i64 a0_4, .bool false, .bool false]) ?_ 2 _ rfl; (with_reducible repeat (first | refine blk_drewN ?_ _ | refine blk_drew ?_ | refine blk_alloc ?_ _)); refine blk_put (cs := #[.int .i64 a0_3, .int .i64 0, .bool false, .bool false]) ?_ 1 _ rfl; (with_reducible repeat (first | refine blk_drewN ?_ _ | refine blk_drew ?_ | refine blk_alloc ?_ _)); refine blk_put (cs := #[.int .i64 0, .int .i64 0, .bool false, .bool false]) ?_ 0 _ rfl; (with_reducible repeat (first | refine blk_drewN ?_ _ | refine blk_drew ?_ | refine blk_alloc ?_ _)); exact BK333.out⟩, ⟨by repeat (first | (with_reducible first | exact HB.out | apply below_alloc | apply pw_below_drewN | apply below_drew1 | refine below_set ?_ GE328.out | refine below_set ?_ GE333.out) | exact HB.out)⟩⟩
              case rest =>
                clear HC18
                try clear c1
                try clear c2
                try clear p2
                try clear c3
                try clear p3
                try clear q3
                try clear hx3
                try clear c4
                try clear c5
                try clear c5b0
                try clear c6
                try clear c6b0
                try clear p6
                try clear p7
                try clear q7
                try clear hx7
                try clear c8
                try clear c8b0
                try clear c8b1
                try clear c9
                try clear c9b0
                try clear c9b1
                try clear c10
                try clear c10b0
                try clear c10b1
                try clear c11
                try clear c11b0
                try clear c11b1
                try clear c12
                try clear c12b0
                try clear c13
                try clear c14
                try clear c14b0
                try clear c21
                try clear c23
                try clear c24
                try clear c25
                try clear c26
                try clear c28
                try clear c30
                try clear c30b0
                try clear c30b1
                try clear c31
                try clear c32
                try clear p33
                try clear q33
                try clear hx33
                try clear c34
                try clear c36
                try clear c38
                try clear c38b0
                try clear c38b1
                try clear c39
                try clear c40
                try clear c41
                try clear c43
                try clear c45
                try clear c45b0
                try clear c45b1
                try clear c46
                try clear c47
                try clear c49
                try clear c51
                try clear c53
                try clear hcz16_0
                try clear hcz16_1
                try clear hcz16_10
                try clear hcz16_2
                try clear hcz16_3
                try clear hcz16_4
                try clear hcz16_5
                try clear hcz16_6
                try clear hcz16_7
                try clear hcz16_8
                try clear hcz16_9
                try clear hcz17_0
                try clear hcz17_1
                try clear hcz17_10
                try clear hcz17_2
                try clear hcz17_3
                try clear hcz17_4
                try clear hcz17_5
                try clear hcz17_6
                try clear hcz17_7
                try clear hcz17_8
                try clear hcz17_9
                try clear hcz19_0
                try clear hcz19_1
                try clear hcz19_10
                try clear hcz19_2
                try clear hcz19_3
                try clear hcz19_4
                try clear hcz19_5
                try clear hcz19_6
                try clear hcz19_7
                try clear hcz19_8
                try clear hcz19_9
                try clear hcz22_0
                try clear hcz22_1
                try clear hcz22_2
                try clear hcz22_3
                try clear hcz27_0
                try clear hcz27_1
                try clear hcz27_2
                try clear hcz27_3
                try clear hcz29_0
                try clear hcz29_1
                try clear hcz29_2
                try clear hcz29_3
                try clear hcz33_0
                try clear hcz33_1
                try clear hcz33_2
                try clear hcz33_3
                try clear hcz35_0
                try clear hcz35_1
                try clear hcz35_2
                try clear hcz35_3
                try clear hcz37_0
                try clear hcz37_1
                try clear hcz37_2
                try clear hcz37_3
                try clear hcz42_0
                try clear hcz42_1
                try clear hcz42_2
                try clear hcz42_3
                try clear hcz44_0
                try clear hcz44_1
                try clear hcz44_2
                try clear hcz44_3
                try clear hcz48_0
                try clear hcz48_1
                try clear hcz48_2
                try clear hcz48_3
                try clear hcz4_0
                try clear hcz4_1
                try clear hcz4_10
                try clear hcz4_2
                try clear hcz4_3
                try clear hcz4_4
                try clear hcz4_5
                try clear hcz4_6
                try clear hcz4_7
                try clear hcz4_8
                try clear hcz4_9
                try clear hcz50_0
                try clear hcz50_1
                try clear hcz50_2
                try clear hcz50_3
                try clear hcz52_0
                try clear hcz52_1
                try clear hcz52_2
                try clear hcz52_3
                try clear hcz54_0
                try clear hcz54_1
                try clear hcz54_2
                try clear hcz54_3
                try clear hfz16_0
                try clear hfz16_1
                try clear hfz16_10
                try clear hfz16_2
                try clear hfz16_3
                try clear hfz16_4
                try clear hfz16_5
                try clear hfz16_6
                try clear hfz16_7
                try clear hfz16_8
                try clear hfz16_9
                try clear hfz17_0
                try clear hfz17_1
                try clear hfz17_10
                try clear hfz17_2
                try clear hfz17_3
                try clear hfz17_4
                try clear hfz17_5
                try clear hfz17_6
                try clear hfz17_7
                try clear hfz17_8
                try clear hfz17_9
                try clear hfz19_0
                try clear hfz19_1
                try clear hfz19_10
                try clear hfz19_2
                try clear hfz19_3
                try clear hfz19_4
                try clear hfz19_5
                try clear hfz19_6
                try clear hfz19_7
                try clear hfz19_8
                try clear hfz19_9
                try clear hfz22_0
                try clear hfz22_1
                try clear hfz22_2
                try clear hfz22_3
                try clear hfz27_0
                try clear hfz27_1
                try clear hfz27_2
                try clear hfz27_3
                try clear hfz29_0
                try clear hfz29_1
                try clear hfz29_2
                try clear hfz29_3
                try clear hfz33_0
                try clear hfz33_1
                try clear hfz33_2
                try clear hfz33_3
                try clear hfz35_0
                try clear hfz35_1
                try clear hfz35_2
                try clear hfz35_3
                try clear hfz37_0
                try clear hfz37_1
                try clear hfz37_2
                try clear hfz37_3
                try clear hfz42_0
                try clear hfz42_1
                try clear hfz42_2
                try clear hfz42_3
                try clear hfz44_0
                try clear hfz44_1
                try clear hfz44_2
                try clear hfz44_3
                try clear hfz48_0
                try clear hfz48_1
                try clear hfz48_2
                try clear hfz48_3
                try clear hfz4_0
                try clear hfz4_1
                try clear hfz4_10
                try clear hfz4_2
                try clear hfz4_3
                try clear hfz4_4
                try clear hfz4_5
                try clear hfz4_6
                try clear hfz4_7
                try clear hfz4_8
                try clear hfz4_9
                try clear hfz50_0
                try clear hfz50_1
                try clear hfz50_2
                try clear hfz50_3
                try clear hfz52_0
                try clear hfz52_1
                try clear hfz52_2
                try clear hfz52_3
                try clear hfz54_0
                try clear hfz54_1
                try clear hfz54_2
                try clear hfz54_3
                try clear hx331_0
                try clear p2
                try clear p331
                try clear p6
                try clear p7
                try clear q331
                try clear q7
                obtain ⟨kq, x83_17, rfl, HA, HJ17, BK328, BK333, HB⟩ := hcut
                cases kq with
                | zero => exact absurd HA.out (by simp [epactref11_Right.j2])
                | succ kj17 =>
                  have H := HA.out
                  clear HA
                  simp only [epactref11_Right.j2] at H
                  by_cases c55 : x83_17 = true
                  · subst c55
                    have H1 : (some false) = some r := by rw [if_pos rfl] at H; exact H
                    clear H
                    have H := H1
                    clear H1
                    obtain rfl := Option.some.inj H
                    go_wp2
                    go_ret
                    exact ⟨by first | rfl | (simp [errW_none, errW_some] <;> rfl) | (simp [*, errW_none, errW_some] <;> rfl), by repeat (first | (with_reducible first | exact HB.out | apply below_alloc | apply pw_below_drewN | apply below_drew1 | refine below_set ?_ GE328.out | refine below_set ?_ GE333.out) | exact HB.out)⟩
                  · replace c55 := Bool.eq_false_iff.mpr c55
                    subst c55
                    have H1 : (if x8_1 = true then ((epactref09_Right.f kj17 a0_7 a0_8 l0_9 l0_10).bind fun t334 => (if t334 = true then (if x4_2 = true then (if (l0_1.length : Int) = x5_1 then (some ((l0_2.length : Int) == x6_1)) else (some false)) else (some false)) else (some false))) else ((epactref09_Same.f kj17 a0_7 a0_8 l0_9 l0_10 0 (⟨#[]⟩ : ByteArray) ([] : List Int) ([] : List (S25))).bind fun t335 => (if t335 = true then (if x4_2 = true then (if (l0_1.length : Int) = x5_1 then (some ((l0_2.length : Int) == x6_1)) else (some false)) else (some false)) else (some false)))) = some r := by rw [if_neg (show ¬ (false = true) by decide)] at H; exact H
                    clear H
                    have H := H1
                    clear H1
                    by_cases c56 : x8_1 = true
                    · subst c56
                      have H1 : ((epactref09_Right.f kj17 a0_7 a0_8 l0_9 l0_10).bind fun t334 => (if t334 = true then (if x4_2 = true then (if (l0_1.length : Int) = x5_1 then (some ((l0_2.length : Int) == x6_1)) else (some false)) else (some false)) else (some false))) = some r := by rw [if_pos rfl] at H; exact H
                      clear H
                      have H := H1
                      clear H1
                      replace H := Option.bind_eq_some_iff.mp H
                      obtain ⟨t334, A570, H⟩ := H
                      replace H : (if t334 = true then (if x4_2 = true then (if (l0_1.length : Int) = x5_1 then (some ((l0_2.length : Int) == x6_1)) else (some false)) else (some false)) else (some false)) = some r := H
                      have A57 := Aside0.mk A570
                      clear A570
                      by_cases c58 : t334 = true
                      · subst c58
                        have H1 : (if x4_2 = true then (if (l0_1.length : Int) = x5_1 then (some ((l0_2.length : Int) == x6_1)) else (some false)) else (some false)) = some r := by rw [if_pos rfl] at H; exact H
                        clear H
                        have H := H1
                        clear H1
                        by_cases c59 : x4_2 = true
                        · subst c59
                          have H1 : (if (l0_1.length : Int) = x5_1 then (some ((l0_2.length : Int) == x6_1)) else (some false)) = some r := by rw [if_pos rfl] at H; exact H
                          clear H
                          have H := H1
                          clear H1
                          by_cases c60 : (l0_1.length : Int) = x5_1
                          · rw [if_pos c60] at H
                            have c60b0 : ((l0_1.length : Int) == x5_1) = true := beq_iff_eq.mpr c60
                            have c60b1 : ((l0_1.length : Int) != x5_1) = false := bne_eq_false_iff_eq.mpr c60
                            clear c60
                            obtain rfl := Option.some.inj H
                            have hnb61 := NB328_333.out
                            have hnc61 := NB333_328.out
                            have hcz62_0 : wc.cell? ⟨gb328, 0, none⟩ = some (.string a0_0) := (blk_cell BK328.out 0).trans rfl
                            have hcz62_1 : wc.cell? ⟨gb328, 1, none⟩ = some (.slice A0_1 l0_1.length c0_1) := (blk_cell BK328.out 1).trans rfl
                            have hcz62_2 : wc.cell? ⟨gb328, 2, none⟩ = some (.slice A0_2 l0_2.length c0_2) := (blk_cell BK328.out 2).trans rfl
                            have hcz62_3 : wc.cell? ⟨gb328, 3, none⟩ = some (.int .i64 a0_3) := (blk_cell BK328.out 3).trans rfl
                            have hcz62_4 : wc.cell? ⟨gb328, 4, none⟩ = some (.int .i64 a0_4) := (blk_cell BK328.out 4).trans rfl
                            have hcz62_5 : wc.cell? ⟨gb328, 5, none⟩ = some (.bool a0_5) := (blk_cell BK328.out 5).trans rfl
                            have hcz62_6 : wc.cell? ⟨gb328, 6, none⟩ = some (.bool a0_6) := (blk_cell BK328.out 6).trans rfl
                            have hcz62_7 : wc.cell? ⟨gb328, 7, none⟩ = some (.int .u8 a0_7) := (blk_cell BK328.out 7).trans rfl
                            have hcz62_8 : wc.cell? ⟨gb328, 8, none⟩ = some (.string a0_8) := (blk_cell BK328.out 8).trans rfl
                            have hcz62_9 : wc.cell? ⟨gb328, 9, none⟩ = some (.slice A0_9 l0_9.length c0_9) := (blk_cell BK328.out 9).trans rfl
                            have hcz62_10 : wc.cell? ⟨gb328, 10, none⟩ = some (.slice A0_10 l0_10.length c0_10) := (blk_cell BK328.out 10).trans rfl
                            have hfz62_0 := blk_frozen BK328.out 0
                            have hfz62_1 := blk_frozen BK328.out 1
                            have hfz62_2 := blk_frozen BK328.out 2
                            have hfz62_3 := blk_frozen BK328.out 3
                            have hfz62_4 := blk_frozen BK328.out 4
                            have hfz62_5 := blk_frozen BK328.out 5
                            have hfz62_6 := blk_frozen BK328.out 6
                            have hfz62_7 := blk_frozen BK328.out 7
                            have hfz62_8 := blk_frozen BK328.out 8
                            have hfz62_9 := blk_frozen BK328.out 9
                            have hfz62_10 := blk_frozen BK328.out 10
                            go_wp2_with (first | (go_at_call 59; (with_reducible refine (epactref09_Right.calls kj17 a0_7 a0_8 _ _ l0_9 _ _ l0_10 true _ ?side1 ?side2 ?side3 ?side4 A57.out).mono ?_); (case side1 => repeat (first | exact (Kd.C_below HR0_9.out HB.out) | (with_reducible refine Kd.C_alloc ?_ _) | (with_reducible refine Kd.C_drewN ?_ _) | (with_reducible refine Kd.C_drew ?_))); (case side2 => exact HC0_9.out); (case side3 => repeat (first | exact (Kd.C_below HR0_10.out HB.out) | (with_reducible refine Kd.C_alloc ?_ _) | (with_reducible refine Kd.C_drewN ?_ _) | (with_reducible refine Kd.C_drew ?_))); (case side4 => exact HC0_10.out); rintro e w63 ⟨rfl, hb⟩; have n0_ := Aside0.mk (blk_below (g := gb328) (o := .cells #[.string a0_0, .slice A0_1 l0_1.length c0_1, .slice A0_2 l0_2.length c0_2, .int .i64 a0_3, .int .i64 a0_4, .bool a0_5, .bool a0_6, .int .u8 a0_7, .string a0_8, .slice A0_9 l0_9.length c0_9, .slice A0_10 l0_10.length c0_10] 42 (0, 0)) (by (with_reducible repeat (first | refine blk_drewN ?_ _ | refine blk_drew ?_ | refine blk_alloc ?_ _)); exact BK328.out) hb); have n1_ := Aside0.mk (blk_below (g := gb333) (o := .cells #[.int .i64 a0_3, .int .i64 a0_4, .bool a0_5, .bool a0_6] 40 (0, 0)) (by (with_reducible repeat (first | refine blk_drewN ?_ _ | refine blk_drew ?_ | refine blk_alloc ?_ _)); exact BK333.out) hb); have n2_ := Aside0.mk (below_step (by repeat (first | (with_reducible first | exact HB.out | apply below_alloc | apply pw_below_drewN | apply below_drew1 | refine below_set ?_ GE328.out | refine below_set ?_ GE333.out) | exact HB.out)) hb); clear BK328; clear BK333; clear HB; have BK328 := n0_; have BK333 := n1_; have HB := n2_; clear n0_ n1_ n2_; (try clear hb); (try clear hb2); (try clear hk); (try clear hi); have hcz64_0 : w63.cell? ⟨gb328, 0, none⟩ = some (.string a0_0) := (blk_cell BK328.out 0).trans rfl; have hcz64_1 : w63.cell? ⟨gb328, 1, none⟩ = some (.slice A0_1 l0_1.length c0_1) := (blk_cell BK328.out 1).trans rfl; have hcz64_2 : w63.cell? ⟨gb328, 2, none⟩ = some (.slice A0_2 l0_2.length c0_2) := (blk_cell BK328.out 2).trans rfl; have hcz64_3 : w63.cell? ⟨gb328, 3, none⟩ = some (.int .i64 a0_3) := (blk_cell BK328.out 3).trans rfl; have hcz64_4 : w63.cell? ⟨gb328, 4, none⟩ = some (.int .i64 a0_4) := (blk_cell BK328.out 4).trans rfl; have hcz64_5 : w63.cell? ⟨gb328, 5, none⟩ = some (.bool a0_5) := (blk_cell BK328.out 5).trans rfl; have hcz64_6 : w63.cell? ⟨gb328, 6, none⟩ = some (.bool a0_6) := (blk_cell BK328.out 6).trans rfl; have hcz64_7 : w63.cell? ⟨gb328, 7, none⟩ = some (.int .u8 a0_7) := (blk_cell BK328.out 7).trans rfl; have hcz64_8 : w63.cell? ⟨gb328, 8, none⟩ = some (.string a0_8) := (blk_cell BK328.out 8).trans rfl; have hcz64_9 : w63.cell? ⟨gb328, 9, none⟩ = some (.slice A0_9 l0_9.length c0_9) := (blk_cell BK328.out 9).trans rfl; have hcz64_10 : w63.cell? ⟨gb328, 10, none⟩ = some (.slice A0_10 l0_10.length c0_10) := (blk_cell BK328.out 10).trans rfl; have hfz64_0 := blk_frozen BK328.out 0; have hfz64_1 := blk_frozen BK328.out 1; have hfz64_2 := blk_frozen BK328.out 2; have hfz64_3 := blk_frozen BK328.out 3; have hfz64_4 := blk_frozen BK328.out 4; have hfz64_5 := blk_frozen BK328.out 5; have hfz64_6 := blk_frozen BK328.out 6; have hfz64_7 := blk_frozen BK328.out 7; have hfz64_8 := blk_frozen BK328.out 8; have hfz64_9 := blk_frozen BK328.out 9; have hfz64_10 := blk_frozen BK328.out 10))
                            go_ret
                            exact ⟨by first | rfl | (simp [errW_none, errW_some] <;> rfl) | (simp [*, errW_none, errW_some] <;> rfl), by repeat (first | (with_reducible first | exact HB.out | apply below_alloc | apply pw_below_drewN | apply below_drew1 | refine below_set ?_ GE328.out | refine below_set ?_ GE333.out) | exact HB.out)⟩
                          · rw [if_neg c60] at H
                            have c60b0 : ((l0_1.length : Int) == x5_1) = false := beq_eq_false_iff_ne.mpr c60
                            have c60b1 : ((l0_1.length : Int) != x5_1) = true := bne_iff_ne.mpr c60
                            obtain rfl := Option.some.inj H
                            have hnb65 := NB328_333.out
                            have hnc65 := NB333_328.out
                            have hcz66_0 : wc.cell? ⟨gb328, 0, none⟩ = some (.string a0_0) := (blk_cell BK328.out 0).trans rfl
                            have hcz66_1 : wc.cell? ⟨gb328, 1, none⟩ = some (.slice A0_1 l0_1.length c0_1) := (blk_cell BK328.out 1).trans rfl
                            have hcz66_2 : wc.cell? ⟨gb328, 2, none⟩ = some (.slice A0_2 l0_2.length c0_2) := (blk_cell BK328.out 2).trans rfl
                            have hcz66_3 : wc.cell? ⟨gb328, 3, none⟩ = some (.int .i64 a0_3) := (blk_cell BK328.out 3).trans rfl
                            have hcz66_4 : wc.cell? ⟨gb328, 4, none⟩ = some (.int .i64 a0_4) := (blk_cell BK328.out 4).trans rfl
                            have hcz66_5 : wc.cell? ⟨gb328, 5, none⟩ = some (.bool a0_5) := (blk_cell BK328.out 5).trans rfl
                            have hcz66_6 : wc.cell? ⟨gb328, 6, none⟩ = some (.bool a0_6) := (blk_cell BK328.out 6).trans rfl
                            have hcz66_7 : wc.cell? ⟨gb328, 7, none⟩ = some (.int .u8 a0_7) := (blk_cell BK328.out 7).trans rfl
                            have hcz66_8 : wc.cell? ⟨gb328, 8, none⟩ = some (.string a0_8) := (blk_cell BK328.out 8).trans rfl
                            have hcz66_9 : wc.cell? ⟨gb328, 9, none⟩ = some (.slice A0_9 l0_9.length c0_9) := (blk_cell BK328.out 9).trans rfl
                            have hcz66_10 : wc.cell? ⟨gb328, 10, none⟩ = some (.slice A0_10 l0_10.length c0_10) := (blk_cell BK328.out 10).trans rfl
                            have hfz66_0 := blk_frozen BK328.out 0
                            have hfz66_1 := blk_frozen BK328.out 1
                            have hfz66_2 := blk_frozen BK328.out 2
                            have hfz66_3 := blk_frozen BK328.out 3
                            have hfz66_4 := blk_frozen BK328.out 4
                            have hfz66_5 := blk_frozen BK328.out 5
                            have hfz66_6 := blk_frozen BK328.out 6
                            have hfz66_7 := blk_frozen BK328.out 7
                            have hfz66_8 := blk_frozen BK328.out 8
                            have hfz66_9 := blk_frozen BK328.out 9
                            have hfz66_10 := blk_frozen BK328.out 10
                            go_wp2_with (first | (go_at_call 59; (with_reducible refine (epactref09_Right.calls kj17 a0_7 a0_8 _ _ l0_9 _ _ l0_10 true _ ?side1 ?side2 ?side3 ?side4 A57.out).mono ?_); (case side1 => repeat (first | exact (Kd.C_below HR0_9.out HB.out) | (with_reducible refine Kd.C_alloc ?_ _) | (with_reducible refine Kd.C_drewN ?_ _) | (with_reducible refine Kd.C_drew ?_))); (case side2 => exact HC0_9.out); (case side3 => repeat (first | exact (Kd.C_below HR0_10.out HB.out) | (with_reducible refine Kd.C_alloc ?_ _) | (with_reducible refine Kd.C_drewN ?_ _) | (with_reducible refine Kd.C_drew ?_))); (case side4 => exact HC0_10.out); rintro e w67 ⟨rfl, hb⟩; have n0_ := Aside0.mk (blk_below (g := gb328) (o := .cells #[.string a0_0, .slice A0_1 l0_1.length c0_1, .slice A0_2 l0_2.length c0_2, .int .i64 a0_3, .int .i64 a0_4, .bool a0_5, .bool a0_6, .int .u8 a0_7, .string a0_8, .slice A0_9 l0_9.length c0_9, .slice A0_10 l0_10.length c0_10] 42 (0, 0)) (by (with_reducible repeat (first | refine blk_drewN ?_ _ | refine blk_drew ?_ | refine blk_alloc ?_ _)); exact BK328.out) hb); have n1_ := Aside0.mk (blk_below (g := gb333) (o := .cells #[.int .i64 a0_3, .int .i64 a0_4, .bool a0_5, .bool a0_6] 40 (0, 0)) (by (with_reducible repeat (first | refine blk_drewN ?_ _ | refine blk_drew ?_ | refine blk_alloc ?_ _)); exact BK333.out) hb); have n2_ := Aside0.mk (below_step (by repeat (first | (with_reducible first | exact HB.out | apply below_alloc | apply pw_below_drewN | apply below_drew1 | refine below_set ?_ GE328.out | refine below_set ?_ GE333.out) | exact HB.out)) hb); clear BK328; clear BK333; clear HB; have BK328 := n0_; have BK333 := n1_; have HB := n2_; clear n0_ n1_ n2_; (try clear hb); (try clear hb2); (try clear hk); (try clear hi); have hcz68_0 : w67.cell? ⟨gb328, 0, none⟩ = some (.string a0_0) := (blk_cell BK328.out 0).trans rfl; have hcz68_1 : w67.cell? ⟨gb328, 1, none⟩ = some (.slice A0_1 l0_1.length c0_1) := (blk_cell BK328.out 1).trans rfl; have hcz68_2 : w67.cell? ⟨gb328, 2, none⟩ = some (.slice A0_2 l0_2.length c0_2) := (blk_cell BK328.out 2).trans rfl; have hcz68_3 : w67.cell? ⟨gb328, 3, none⟩ = some (.int .i64 a0_3) := (blk_cell BK328.out 3).trans rfl; have hcz68_4 : w67.cell? ⟨gb328, 4, none⟩ = some (.int .i64 a0_4) := (blk_cell BK328.out 4).trans rfl; have hcz68_5 : w67.cell? ⟨gb328, 5, none⟩ = some (.bool a0_5) := (blk_cell BK328.out 5).trans rfl; have hcz68_6 : w67.cell? ⟨gb328, 6, none⟩ = some (.bool a0_6) := (blk_cell BK328.out 6).trans rfl; have hcz68_7 : w67.cell? ⟨gb328, 7, none⟩ = some (.int .u8 a0_7) := (blk_cell BK328.out 7).trans rfl; have hcz68_8 : w67.cell? ⟨gb328, 8, none⟩ = some (.string a0_8) := (blk_cell BK328.out 8).trans rfl; have hcz68_9 : w67.cell? ⟨gb328, 9, none⟩ = some (.slice A0_9 l0_9.length c0_9) := (blk_cell BK328.out 9).trans rfl; have hcz68_10 : w67.cell? ⟨gb328, 10, none⟩ = some (.slice A0_10 l0_10.length c0_10) := (blk_cell BK328.out 10).trans rfl; have hfz68_0 := blk_frozen BK328.out 0; have hfz68_1 := blk_frozen BK328.out 1; have hfz68_2 := blk_frozen BK328.out 2; have hfz68_3 := blk_frozen BK328.out 3; have hfz68_4 := blk_frozen BK328.out 4; have hfz68_5 := blk_frozen BK328.out 5; have hfz68_6 := blk_frozen BK328.out 6; have hfz68_7 := blk_frozen BK328.out 7; have hfz68_8 := blk_frozen BK328.out 8; have hfz68_9 := blk_frozen BK328.out 9; have hfz68_10 := blk_frozen BK328.out 10))
                            go_ret
                            exact ⟨by first | rfl | (simp [errW_none, errW_some] <;> rfl) | (simp [*, errW_none, errW_some] <;> rfl), by repeat (first | (with_reducible first | exact HB.out | apply below_alloc | apply pw_below_drewN | apply below_drew1 | refine below_set ?_ GE328.out | refine below_set ?_ GE333.out) | exact HB.out)⟩
                        · replace c59 := Bool.eq_false_iff.mpr c59
                          subst c59
                          have H1 : (some false) = some r := by rw [if_neg (show ¬ (false = true) by decide)] at H; exact H
                          clear H
                          have H := H1
                          clear H1
                          obtain rfl := Option.some.inj H
                          have hnb69 := NB328_333.out
                          have hnc69 := NB333_328.out
                          have hcz70_0 : wc.cell? ⟨gb328, 0, none⟩ = some (.string a0_0) := (blk_cell BK328.out 0).trans rfl
                          have hcz70_1 : wc.cell? ⟨gb328, 1, none⟩ = some (.slice A0_1 l0_1.length c0_1) := (blk_cell BK328.out 1).trans rfl
                          have hcz70_2 : wc.cell? ⟨gb328, 2, none⟩ = some (.slice A0_2 l0_2.length c0_2) := (blk_cell BK328.out 2).trans rfl
                          have hcz70_3 : wc.cell? ⟨gb328, 3, none⟩ = some (.int .i64 a0_3) := (blk_cell BK328.out 3).trans rfl
                          have hcz70_4 : wc.cell? ⟨gb328, 4, none⟩ = some (.int .i64 a0_4) := (blk_cell BK328.out 4).trans rfl
                          have hcz70_5 : wc.cell? ⟨gb328, 5, none⟩ = some (.bool a0_5) := (blk_cell BK328.out 5).trans rfl
                          have hcz70_6 : wc.cell? ⟨gb328, 6, none⟩ = some (.bool a0_6) := (blk_cell BK328.out 6).trans rfl
                          have hcz70_7 : wc.cell? ⟨gb328, 7, none⟩ = some (.int .u8 a0_7) := (blk_cell BK328.out 7).trans rfl
                          have hcz70_8 : wc.cell? ⟨gb328, 8, none⟩ = some (.string a0_8) := (blk_cell BK328.out 8).trans rfl
                          have hcz70_9 : wc.cell? ⟨gb328, 9, none⟩ = some (.slice A0_9 l0_9.length c0_9) := (blk_cell BK328.out 9).trans rfl
                          have hcz70_10 : wc.cell? ⟨gb328, 10, none⟩ = some (.slice A0_10 l0_10.length c0_10) := (blk_cell BK328.out 10).trans rfl
                          have hfz70_0 := blk_frozen BK328.out 0
                          have hfz70_1 := blk_frozen BK328.out 1
                          have hfz70_2 := blk_frozen BK328.out 2
                          have hfz70_3 := blk_frozen BK328.out 3
                          have hfz70_4 := blk_frozen BK328.out 4
                          have hfz70_5 := blk_frozen BK328.out 5
                          have hfz70_6 := blk_frozen BK328.out 6
                          have hfz70_7 := blk_frozen BK328.out 7
                          have hfz70_8 := blk_frozen BK328.out 8
                          have hfz70_9 := blk_frozen BK328.out 9
                          have hfz70_10 := blk_frozen BK328.out 10
                          go_wp2_with (first | (go_at_call 59; (with_reducible refine (epactref09_Right.calls kj17 a0_7 a0_8 _ _ l0_9 _ _ l0_10 true _ ?side1 ?side2 ?side3 ?side4 A57.out).mono ?_); (case side1 => repeat (first | exact (Kd.C_below HR0_9.out HB.out) | (with_reducible refine Kd.C_alloc ?_ _) | (with_reducible refine Kd.C_drewN ?_ _) | (with_reducible refine Kd.C_drew ?_))); (case side2 => exact HC0_9.out); (case side3 => repeat (first | exact (Kd.C_below HR0_10.out HB.out) | (with_reducible refine Kd.C_alloc ?_ _) | (with_reducible refine Kd.C_drewN ?_ _) | (with_reducible refine Kd.C_drew ?_))); (case side4 => exact HC0_10.out); rintro e w71 ⟨rfl, hb⟩; have n0_ := Aside0.mk (blk_below (g := gb328) (o := .cells #[.string a0_0, .slice A0_1 l0_1.length c0_1, .slice A0_2 l0_2.length c0_2, .int .i64 a0_3, .int .i64 a0_4, .bool a0_5, .bool a0_6, .int .u8 a0_7, .string a0_8, .slice A0_9 l0_9.length c0_9, .slice A0_10 l0_10.length c0_10] 42 (0, 0)) (by (with_reducible repeat (first | refine blk_drewN ?_ _ | refine blk_drew ?_ | refine blk_alloc ?_ _)); exact BK328.out) hb); have n1_ := Aside0.mk (blk_below (g := gb333) (o := .cells #[.int .i64 a0_3, .int .i64 a0_4, .bool a0_5, .bool a0_6] 40 (0, 0)) (by (with_reducible repeat (first | refine blk_drewN ?_ _ | refine blk_drew ?_ | refine blk_alloc ?_ _)); exact BK333.out) hb); have n2_ := Aside0.mk (below_step (by repeat (first | (with_reducible first | exact HB.out | apply below_alloc | apply pw_below_drewN | apply below_drew1 | refine below_set ?_ GE328.out | refine below_set ?_ GE333.out) | exact HB.out)) hb); clear BK328; clear BK333; clear HB; have BK328 := n0_; have BK333 := n1_; have HB := n2_; clear n0_ n1_ n2_; (try clear hb); (try clear hb2); (try clear hk); (try clear hi)))
                          go_ret
                          exact ⟨by first | rfl | (simp [errW_none, errW_some] <;> rfl) | (simp [*, errW_none, errW_some] <;> rfl), by repeat (first | (with_reducible first | exact HB.out | apply below_alloc | apply pw_below_drewN | apply below_drew1 | refine below_set ?_ GE328.out | refine below_set ?_ GE333.out) | exact HB.out)⟩
                      · replace c58 := Bool.eq_false_iff.mpr c58
                        subst c58
                        have H1 : (some false) = some r := by rw [if_neg (show ¬ (false = true) by decide)] at H; exact H
                        clear H
                        have H := H1
                        clear H1
                        obtain rfl := Option.some.inj H
                        have hnb72 := NB328_333.out
                        have hnc72 := NB333_328.out
                        have hcz73_0 : wc.cell? ⟨gb328, 0, none⟩ = some (.string a0_0) := (blk_cell BK328.out 0).trans rfl
                        have hcz73_1 : wc.cell? ⟨gb328, 1, none⟩ = some (.slice A0_1 l0_1.length c0_1) := (blk_cell BK328.out 1).trans rfl
                        have hcz73_2 : wc.cell? ⟨gb328, 2, none⟩ = some (.slice A0_2 l0_2.length c0_2) := (blk_cell BK328.out 2).trans rfl
                        have hcz73_3 : wc.cell? ⟨gb328, 3, none⟩ = some (.int .i64 a0_3) := (blk_cell BK328.out 3).trans rfl
                        have hcz73_4 : wc.cell? ⟨gb328, 4, none⟩ = some (.int .i64 a0_4) := (blk_cell BK328.out 4).trans rfl
                        have hcz73_5 : wc.cell? ⟨gb328, 5, none⟩ = some (.bool a0_5) := (blk_cell BK328.out 5).trans rfl
                        have hcz73_6 : wc.cell? ⟨gb328, 6, none⟩ = some (.bool a0_6) := (blk_cell BK328.out 6).trans rfl
                        have hcz73_7 : wc.cell? ⟨gb328, 7, none⟩ = some (.int .u8 a0_7) := (blk_cell BK328.out 7).trans rfl
                        have hcz73_8 : wc.cell? ⟨gb328, 8, none⟩ = some (.string a0_8) := (blk_cell BK328.out 8).trans rfl
                        have hcz73_9 : wc.cell? ⟨gb328, 9, none⟩ = some (.slice A0_9 l0_9.length c0_9) := (blk_cell BK328.out 9).trans rfl
                        have hcz73_10 : wc.cell? ⟨gb328, 10, none⟩ = some (.slice A0_10 l0_10.length c0_10) := (blk_cell BK328.out 10).trans rfl
                        have hfz73_0 := blk_frozen BK328.out 0
                        have hfz73_1 := blk_frozen BK328.out 1
                        have hfz73_2 := blk_frozen BK328.out 2
                        have hfz73_3 := blk_frozen BK328.out 3
                        have hfz73_4 := blk_frozen BK328.out 4
                        have hfz73_5 := blk_frozen BK328.out 5
                        have hfz73_6 := blk_frozen BK328.out 6
                        have hfz73_7 := blk_frozen BK328.out 7
                        have hfz73_8 := blk_frozen BK328.out 8
                        have hfz73_9 := blk_frozen BK328.out 9
                        have hfz73_10 := blk_frozen BK328.out 10
                        go_wp2_with (first | (go_at_call 59; (with_reducible refine (epactref09_Right.calls kj17 a0_7 a0_8 _ _ l0_9 _ _ l0_10 false _ ?side1 ?side2 ?side3 ?side4 A57.out).mono ?_); (case side1 => repeat (first | exact (Kd.C_below HR0_9.out HB.out) | (with_reducible refine Kd.C_alloc ?_ _) | (with_reducible refine Kd.C_drewN ?_ _) | (with_reducible refine Kd.C_drew ?_))); (case side2 => exact HC0_9.out); (case side3 => repeat (first | exact (Kd.C_below HR0_10.out HB.out) | (with_reducible refine Kd.C_alloc ?_ _) | (with_reducible refine Kd.C_drewN ?_ _) | (with_reducible refine Kd.C_drew ?_))); (case side4 => exact HC0_10.out); rintro e w74 ⟨rfl, hb⟩; have n0_ := Aside0.mk (blk_below (g := gb328) (o := .cells #[.string a0_0, .slice A0_1 l0_1.length c0_1, .slice A0_2 l0_2.length c0_2, .int .i64 a0_3, .int .i64 a0_4, .bool a0_5, .bool a0_6, .int .u8 a0_7, .string a0_8, .slice A0_9 l0_9.length c0_9, .slice A0_10 l0_10.length c0_10] 42 (0, 0)) (by (with_reducible repeat (first | refine blk_drewN ?_ _ | refine blk_drew ?_ | refine blk_alloc ?_ _)); exact BK328.out) hb); have n1_ := Aside0.mk (blk_below (g := gb333) (o := .cells #[.int .i64 a0_3, .int .i64 a0_4, .bool a0_5, .bool a0_6] 40 (0, 0)) (by (with_reducible repeat (first | refine blk_drewN ?_ _ | refine blk_drew ?_ | refine blk_alloc ?_ _)); exact BK333.out) hb); have n2_ := Aside0.mk (below_step (by repeat (first | (with_reducible first | exact HB.out | apply below_alloc | apply pw_below_drewN | apply below_drew1 | refine below_set ?_ GE328.out | refine below_set ?_ GE333.out) | exact HB.out)) hb); clear BK328; clear BK333; clear HB; have BK328 := n0_; have BK333 := n1_; have HB := n2_; clear n0_ n1_ n2_; (try clear hb); (try clear hb2); (try clear hk); (try clear hi)))
                        go_ret
                        exact ⟨by first | rfl | (simp [errW_none, errW_some] <;> rfl) | (simp [*, errW_none, errW_some] <;> rfl), by repeat (first | (with_reducible first | exact HB.out | apply below_alloc | apply pw_below_drewN | apply below_drew1 | refine below_set ?_ GE328.out | refine below_set ?_ GE333.out) | exact HB.out)⟩
                    · replace c56 := Bool.eq_false_iff.mpr c56
                      subst c56
                      have H1 : ((epactref09_Same.f kj17 a0_7 a0_8 l0_9 l0_10 0 (⟨#[]⟩ : ByteArray) ([] : List Int) ([] : List (S25))).bind fun t335 => (if t335 = true then (if x4_2 = true then (if (l0_1.length : Int) = x5_1 then (some ((l0_2.length : Int) == x6_1)) else (some false)) else (some false)) else (some false))) = some r := by rw [if_neg (show ¬ (false = true) by decide)] at H; exact H
                      clear H
                      have H := H1
                      clear H1
                      replace H := Option.bind_eq_some_iff.mp H
                      obtain ⟨t335, A750, H⟩ := H
                      replace H : (if t335 = true then (if x4_2 = true then (if (l0_1.length : Int) = x5_1 then (some ((l0_2.length : Int) == x6_1)) else (some false)) else (some false)) else (some false)) = some r := H
                      have A75 := Aside0.mk A750
                      clear A750
                      by_cases c76 : t335 = true
                      · subst c76
                        have H1 : (if x4_2 = true then (if (l0_1.length : Int) = x5_1 then (some ((l0_2.length : Int) == x6_1)) else (some false)) else (some false)) = some r := by rw [if_pos rfl] at H; exact H
                        clear H
                        have H := H1
                        clear H1
                        by_cases c77 : x4_2 = true
                        · subst c77
                          have H1 : (if (l0_1.length : Int) = x5_1 then (some ((l0_2.length : Int) == x6_1)) else (some false)) = some r := by rw [if_pos rfl] at H; exact H
                          clear H
                          have H := H1
                          clear H1
                          by_cases c78 : (l0_1.length : Int) = x5_1
                          · rw [if_pos c78] at H
                            have c78b0 : ((l0_1.length : Int) == x5_1) = true := beq_iff_eq.mpr c78
                            have c78b1 : ((l0_1.length : Int) != x5_1) = false := bne_eq_false_iff_eq.mpr c78
                            clear c78
                            obtain rfl := Option.some.inj H
                            have hnb79 := NB328_333.out
                            have hnc79 := NB333_328.out
                            have hcz80_0 : wc.cell? ⟨gb328, 0, none⟩ = some (.string a0_0) := (blk_cell BK328.out 0).trans rfl
                            have hcz80_1 : wc.cell? ⟨gb328, 1, none⟩ = some (.slice A0_1 l0_1.length c0_1) := (blk_cell BK328.out 1).trans rfl
                            have hcz80_2 : wc.cell? ⟨gb328, 2, none⟩ = some (.slice A0_2 l0_2.length c0_2) := (blk_cell BK328.out 2).trans rfl
                            have hcz80_3 : wc.cell? ⟨gb328, 3, none⟩ = some (.int .i64 a0_3) := (blk_cell BK328.out 3).trans rfl
                            have hcz80_4 : wc.cell? ⟨gb328, 4, none⟩ = some (.int .i64 a0_4) := (blk_cell BK328.out 4).trans rfl
                            have hcz80_5 : wc.cell? ⟨gb328, 5, none⟩ = some (.bool a0_5) := (blk_cell BK328.out 5).trans rfl
                            have hcz80_6 : wc.cell? ⟨gb328, 6, none⟩ = some (.bool a0_6) := (blk_cell BK328.out 6).trans rfl
                            have hcz80_7 : wc.cell? ⟨gb328, 7, none⟩ = some (.int .u8 a0_7) := (blk_cell BK328.out 7).trans rfl
                            have hcz80_8 : wc.cell? ⟨gb328, 8, none⟩ = some (.string a0_8) := (blk_cell BK328.out 8).trans rfl
                            have hcz80_9 : wc.cell? ⟨gb328, 9, none⟩ = some (.slice A0_9 l0_9.length c0_9) := (blk_cell BK328.out 9).trans rfl
                            have hcz80_10 : wc.cell? ⟨gb328, 10, none⟩ = some (.slice A0_10 l0_10.length c0_10) := (blk_cell BK328.out 10).trans rfl
                            have hfz80_0 := blk_frozen BK328.out 0
                            have hfz80_1 := blk_frozen BK328.out 1
                            have hfz80_2 := blk_frozen BK328.out 2
                            have hfz80_3 := blk_frozen BK328.out 3
                            have hfz80_4 := blk_frozen BK328.out 4
                            have hfz80_5 := blk_frozen BK328.out 5
                            have hfz80_6 := blk_frozen BK328.out 6
                            have hfz80_7 := blk_frozen BK328.out 7
                            have hfz80_8 := blk_frozen BK328.out 8
                            have hfz80_9 := blk_frozen BK328.out 9
                            have hfz80_10 := blk_frozen BK328.out 10
                            go_wp2_with (first | (go_at_call 64; (refine (epactref09_SameZ.calls kj17 a0_7 a0_8 _ _ l0_9 _ _ l0_10 _ _ _ _ true _ ?side1 ?side2 ?side3 ?side4 ?side5 ?side6 ?side7 ?side8 A75.out).mono ?_); (case side1 => repeat (first | exact (Kd.C_below HR0_9.out HB.out) | (with_reducible refine Kd.C_alloc ?_ _) | (with_reducible refine Kd.C_drewN ?_ _) | (with_reducible refine Kd.C_drew ?_))); (case side2 => exact HC0_9.out); (case side3 => repeat (first | exact (Kd.C_below HR0_10.out HB.out) | (with_reducible refine Kd.C_alloc ?_ _) | (with_reducible refine Kd.C_drewN ?_ _) | (with_reducible refine Kd.C_drew ?_))); (case side4 => exact HC0_10.out); (case side5 => exact Kd.C_nil _ _); (case side6 => exact Nat.le_refl _); (case side7 => exact Kd.C_nil _ _); (case side8 => exact Nat.le_refl _); rintro e w81 ⟨rfl, hb⟩; have n0_ := Aside0.mk (blk_below (g := gb328) (o := .cells #[.string a0_0, .slice A0_1 l0_1.length c0_1, .slice A0_2 l0_2.length c0_2, .int .i64 a0_3, .int .i64 a0_4, .bool a0_5, .bool a0_6, .int .u8 a0_7, .string a0_8, .slice A0_9 l0_9.length c0_9, .slice A0_10 l0_10.length c0_10] 42 (0, 0)) (by (with_reducible repeat (first | refine blk_drewN ?_ _ | refine blk_drew ?_ | refine blk_alloc ?_ _)); exact BK328.out) hb); have n1_ := Aside0.mk (blk_below (g := gb333) (o := .cells #[.int .i64 a0_3, .int .i64 a0_4, .bool a0_5, .bool a0_6] 40 (0, 0)) (by (with_reducible repeat (first | refine blk_drewN ?_ _ | refine blk_drew ?_ | refine blk_alloc ?_ _)); exact BK333.out) hb); have n2_ := Aside0.mk (below_step (by repeat (first | (with_reducible first | exact HB.out | apply below_alloc | apply pw_below_drewN | apply below_drew1 | refine below_set ?_ GE328.out | refine below_set ?_ GE333.out) | exact HB.out)) hb); clear BK328; clear BK333; clear HB; have BK328 := n0_; have BK333 := n1_; have HB := n2_; clear n0_ n1_ n2_; (try clear hb); (try clear hb2); (try clear hk); (try clear hi); have hcz82_0 : w81.cell? ⟨gb328, 0, none⟩ = some (.string a0_0) := (blk_cell BK328.out 0).trans rfl; have hcz82_1 : w81.cell? ⟨gb328, 1, none⟩ = some (.slice A0_1 l0_1.length c0_1) := (blk_cell BK328.out 1).trans rfl; have hcz82_2 : w81.cell? ⟨gb328, 2, none⟩ = some (.slice A0_2 l0_2.length c0_2) := (blk_cell BK328.out 2).trans rfl; have hcz82_3 : w81.cell? ⟨gb328, 3, none⟩ = some (.int .i64 a0_3) := (blk_cell BK328.out 3).trans rfl; have hcz82_4 : w81.cell? ⟨gb328, 4, none⟩ = some (.int .i64 a0_4) := (blk_cell BK328.out 4).trans rfl; have hcz82_5 : w81.cell? ⟨gb328, 5, none⟩ = some (.bool a0_5) := (blk_cell BK328.out 5).trans rfl; have hcz82_6 : w81.cell? ⟨gb328, 6, none⟩ = some (.bool a0_6) := (blk_cell BK328.out 6).trans rfl; have hcz82_7 : w81.cell? ⟨gb328, 7, none⟩ = some (.int .u8 a0_7) := (blk_cell BK328.out 7).trans rfl; have hcz82_8 : w81.cell? ⟨gb328, 8, none⟩ = some (.string a0_8) := (blk_cell BK328.out 8).trans rfl; have hcz82_9 : w81.cell? ⟨gb328, 9, none⟩ = some (.slice A0_9 l0_9.length c0_9) := (blk_cell BK328.out 9).trans rfl; have hcz82_10 : w81.cell? ⟨gb328, 10, none⟩ = some (.slice A0_10 l0_10.length c0_10) := (blk_cell BK328.out 10).trans rfl; have hfz82_0 := blk_frozen BK328.out 0; have hfz82_1 := blk_frozen BK328.out 1; have hfz82_2 := blk_frozen BK328.out 2; have hfz82_3 := blk_frozen BK328.out 3; have hfz82_4 := blk_frozen BK328.out 4; have hfz82_5 := blk_frozen BK328.out 5; have hfz82_6 := blk_frozen BK328.out 6; have hfz82_7 := blk_frozen BK328.out 7; have hfz82_8 := blk_frozen BK328.out 8; have hfz82_9 := blk_frozen BK328.out 9; have hfz82_10 := blk_frozen BK328.out 10))
                            go_ret
                            exact ⟨by first | rfl | (simp [errW_none, errW_some] <;> rfl) | (simp [*, errW_none, errW_some] <;> rfl), by repeat (first | (with_reducible first | exact HB.out | apply below_alloc | apply pw_below_drewN | apply below_drew1 | refine below_set ?_ GE328.out | refine below_set ?_ GE333.out) | exact HB.out)⟩
                          · rw [if_neg c78] at H
                            have c78b0 : ((l0_1.length : Int) == x5_1) = false := beq_eq_false_iff_ne.mpr c78
                            have c78b1 : ((l0_1.length : Int) != x5_1) = true := bne_iff_ne.mpr c78
                            obtain rfl := Option.some.inj H
                            have hnb83 := NB328_333.out
                            have hnc83 := NB333_328.out
                            have hcz84_0 : wc.cell? ⟨gb328, 0, none⟩ = some (.string a0_0) := (blk_cell BK328.out 0).trans rfl
                            have hcz84_1 : wc.cell? ⟨gb328, 1, none⟩ = some (.slice A0_1 l0_1.length c0_1) := (blk_cell BK328.out 1).trans rfl
                            have hcz84_2 : wc.cell? ⟨gb328, 2, none⟩ = some (.slice A0_2 l0_2.length c0_2) := (blk_cell BK328.out 2).trans rfl
                            have hcz84_3 : wc.cell? ⟨gb328, 3, none⟩ = some (.int .i64 a0_3) := (blk_cell BK328.out 3).trans rfl
                            have hcz84_4 : wc.cell? ⟨gb328, 4, none⟩ = some (.int .i64 a0_4) := (blk_cell BK328.out 4).trans rfl
                            have hcz84_5 : wc.cell? ⟨gb328, 5, none⟩ = some (.bool a0_5) := (blk_cell BK328.out 5).trans rfl
                            have hcz84_6 : wc.cell? ⟨gb328, 6, none⟩ = some (.bool a0_6) := (blk_cell BK328.out 6).trans rfl
                            have hcz84_7 : wc.cell? ⟨gb328, 7, none⟩ = some (.int .u8 a0_7) := (blk_cell BK328.out 7).trans rfl
                            have hcz84_8 : wc.cell? ⟨gb328, 8, none⟩ = some (.string a0_8) := (blk_cell BK328.out 8).trans rfl
                            have hcz84_9 : wc.cell? ⟨gb328, 9, none⟩ = some (.slice A0_9 l0_9.length c0_9) := (blk_cell BK328.out 9).trans rfl
                            have hcz84_10 : wc.cell? ⟨gb328, 10, none⟩ = some (.slice A0_10 l0_10.length c0_10) := (blk_cell BK328.out 10).trans rfl
                            have hfz84_0 := blk_frozen BK328.out 0
                            have hfz84_1 := blk_frozen BK328.out 1
                            have hfz84_2 := blk_frozen BK328.out 2
                            have hfz84_3 := blk_frozen BK328.out 3
                            have hfz84_4 := blk_frozen BK328.out 4
                            have hfz84_5 := blk_frozen BK328.out 5
                            have hfz84_6 := blk_frozen BK328.out 6
                            have hfz84_7 := blk_frozen BK328.out 7
                            have hfz84_8 := blk_frozen BK328.out 8
                            have hfz84_9 := blk_frozen BK328.out 9
                            have hfz84_10 := blk_frozen BK328.out 10
                            go_wp2_with (first | (go_at_call 64; (refine (epactref09_SameZ.calls kj17 a0_7 a0_8 _ _ l0_9 _ _ l0_10 _ _ _ _ true _ ?side1 ?side2 ?side3 ?side4 ?side5 ?side6 ?side7 ?side8 A75.out).mono ?_); (case side1 => repeat (first | exact (Kd.C_below HR0_9.out HB.out) | (with_reducible refine Kd.C_alloc ?_ _) | (with_reducible refine Kd.C_drewN ?_ _) | (with_reducible refine Kd.C_drew ?_))); (case side2 => exact HC0_9.out); (case side3 => repeat (first | exact (Kd.C_below HR0_10.out HB.out) | (with_reducible refine Kd.C_alloc ?_ _) | (with_reducible refine Kd.C_drewN ?_ _) | (with_reducible refine Kd.C_drew ?_))); (case side4 => exact HC0_10.out); (case side5 => exact Kd.C_nil _ _); (case side6 => exact Nat.le_refl _); (case side7 => exact Kd.C_nil _ _); (case side8 => exact Nat.le_refl _); rintro e w85 ⟨rfl, hb⟩; have n0_ := Aside0.mk (blk_below (g := gb328) (o := .cells #[.string a0_0, .slice A0_1 l0_1.length c0_1, .slice A0_2 l0_2.length c0_2, .int .i64 a0_3, .int .i64 a0_4, .bool a0_5, .bool a0_6, .int .u8 a0_7, .string a0_8, .slice A0_9 l0_9.length c0_9, .slice A0_10 l0_10.length c0_10] 42 (0, 0)) (by (with_reducible repeat (first | refine blk_drewN ?_ _ | refine blk_drew ?_ | refine blk_alloc ?_ _)); exact BK328.out) hb); have n1_ := Aside0.mk (blk_below (g := gb333) (o := .cells #[.int .i64 a0_3, .int .i64 a0_4, .bool a0_5, .bool a0_6] 40 (0, 0)) (by (with_reducible repeat (first | refine blk_drewN ?_ _ | refine blk_drew ?_ | refine blk_alloc ?_ _)); exact BK333.out) hb); have n2_ := Aside0.mk (below_step (by repeat (first | (with_reducible first | exact HB.out | apply below_alloc | apply pw_below_drewN | apply below_drew1 | refine below_set ?_ GE328.out | refine below_set ?_ GE333.out) | exact HB.out)) hb); clear BK328; clear BK333; clear HB; have BK328 := n0_; have BK333 := n1_; have HB := n2_; clear n0_ n1_ n2_; (try clear hb); (try clear hb2); (try clear hk); (try clear hi); have hcz86_0 : w85.cell? ⟨gb328, 0, none⟩ = some (.string a0_0) := (blk_cell BK328.out 0).trans rfl; have hcz86_1 : w85.cell? ⟨gb328, 1, none⟩ = some (.slice A0_1 l0_1.length c0_1) := (blk_cell BK328.out 1).trans rfl; have hcz86_2 : w85.cell? ⟨gb328, 2, none⟩ = some (.slice A0_2 l0_2.length c0_2) := (blk_cell BK328.out 2).trans rfl; have hcz86_3 : w85.cell? ⟨gb328, 3, none⟩ = some (.int .i64 a0_3) := (blk_cell BK328.out 3).trans rfl; have hcz86_4 : w85.cell? ⟨gb328, 4, none⟩ = some (.int .i64 a0_4) := (blk_cell BK328.out 4).trans rfl; have hcz86_5 : w85.cell? ⟨gb328, 5, none⟩ = some (.bool a0_5) := (blk_cell BK328.out 5).trans rfl; have hcz86_6 : w85.cell? ⟨gb328, 6, none⟩ = some (.bool a0_6) := (blk_cell BK328.out 6).trans rfl; have hcz86_7 : w85.cell? ⟨gb328, 7, none⟩ = some (.int .u8 a0_7) := (blk_cell BK328.out 7).trans rfl; have hcz86_8 : w85.cell? ⟨gb328, 8, none⟩ = some (.string a0_8) := (blk_cell BK328.out 8).trans rfl; have hcz86_9 : w85.cell? ⟨gb328, 9, none⟩ = some (.slice A0_9 l0_9.length c0_9) := (blk_cell BK328.out 9).trans rfl; have hcz86_10 : w85.cell? ⟨gb328, 10, none⟩ = some (.slice A0_10 l0_10.length c0_10) := (blk_cell BK328.out 10).trans rfl; have hfz86_0 := blk_frozen BK328.out 0; have hfz86_1 := blk_frozen BK328.out 1; have hfz86_2 := blk_frozen BK328.out 2; have hfz86_3 := blk_frozen BK328.out 3; have hfz86_4 := blk_frozen BK328.out 4; have hfz86_5 := blk_frozen BK328.out 5; have hfz86_6 := blk_frozen BK328.out 6; have hfz86_7 := blk_frozen BK328.out 7; have hfz86_8 := blk_frozen BK328.out 8; have hfz86_9 := blk_frozen BK328.out 9; have hfz86_10 := blk_frozen BK328.out 10))
                            go_ret
                            exact ⟨by first | rfl | (simp [errW_none, errW_some] <;> rfl) | (simp [*, errW_none, errW_some] <;> rfl), by repeat (first | (with_reducible first | exact HB.out | apply below_alloc | apply pw_below_drewN | apply below_drew1 | refine below_set ?_ GE328.out | refine below_set ?_ GE333.out) | exact HB.out)⟩
                        · replace c77 := Bool.eq_false_iff.mpr c77
                          subst c77
                          have H1 : (some false) = some r := by rw [if_neg (show ¬ (false = true) by decide)] at H; exact H
                          clear H
                          have H := H1
                          clear H1
                          obtain rfl := Option.some.inj H
                          have hnb87 := NB328_333.out
                          have hnc87 := NB333_328.out
                          have hcz88_0 : wc.cell? ⟨gb328, 0, none⟩ = some (.string a0_0) := (blk_cell BK328.out 0).trans rfl
                          have hcz88_1 : wc.cell? ⟨gb328, 1, none⟩ = some (.slice A0_1 l0_1.length c0_1) := (blk_cell BK328.out 1).trans rfl
                          have hcz88_2 : wc.cell? ⟨gb328, 2, none⟩ = some (.slice A0_2 l0_2.length c0_2) := (blk_cell BK328.out 2).trans rfl
                          have hcz88_3 : wc.cell? ⟨gb328, 3, none⟩ = some (.int .i64 a0_3) := (blk_cell BK328.out 3).trans rfl
                          have hcz88_4 : wc.cell? ⟨gb328, 4, none⟩ = some (.int .i64 a0_4) := (blk_cell BK328.out 4).trans rfl
                          have hcz88_5 : wc.cell? ⟨gb328, 5, none⟩ = some (.bool a0_5) := (blk_cell BK328.out 5).trans rfl
                          have hcz88_6 : wc.cell? ⟨gb328, 6, none⟩ = some (.bool a0_6) := (blk_cell BK328.out 6).trans rfl
                          have hcz88_7 : wc.cell? ⟨gb328, 7, none⟩ = some (.int .u8 a0_7) := (blk_cell BK328.out 7).trans rfl
                          have hcz88_8 : wc.cell? ⟨gb328, 8, none⟩ = some (.string a0_8) := (blk_cell BK328.out 8).trans rfl
                          have hcz88_9 : wc.cell? ⟨gb328, 9, none⟩ = some (.slice A0_9 l0_9.length c0_9) := (blk_cell BK328.out 9).trans rfl
                          have hcz88_10 : wc.cell? ⟨gb328, 10, none⟩ = some (.slice A0_10 l0_10.length c0_10) := (blk_cell BK328.out 10).trans rfl
                          have hfz88_0 := blk_frozen BK328.out 0
                          have hfz88_1 := blk_frozen BK328.out 1
                          have hfz88_2 := blk_frozen BK328.out 2
                          have hfz88_3 := blk_frozen BK328.out 3
                          have hfz88_4 := blk_frozen BK328.out 4
                          have hfz88_5 := blk_frozen BK328.out 5
                          have hfz88_6 := blk_frozen BK328.out 6
                          have hfz88_7 := blk_frozen BK328.out 7
                          have hfz88_8 := blk_frozen BK328.out 8
                          have hfz88_9 := blk_frozen BK328.out 9
                          have hfz88_10 := blk_frozen BK328.out 10
                          go_wp2_with (first | (go_at_call 64; (refine (epactref09_SameZ.calls kj17 a0_7 a0_8 _ _ l0_9 _ _ l0_10 _ _ _ _ true _ ?side1 ?side2 ?side3 ?side4 ?side5 ?side6 ?side7 ?side8 A75.out).mono ?_); (case side1 => repeat (first | exact (Kd.C_below HR0_9.out HB.out) | (with_reducible refine Kd.C_alloc ?_ _) | (with_reducible refine Kd.C_drewN ?_ _) | (with_reducible refine Kd.C_drew ?_))); (case side2 => exact HC0_9.out); (case side3 => repeat (first | exact (Kd.C_below HR0_10.out HB.out) | (with_reducible refine Kd.C_alloc ?_ _) | (with_reducible refine Kd.C_drewN ?_ _) | (with_reducible refine Kd.C_drew ?_))); (case side4 => exact HC0_10.out); (case side5 => exact Kd.C_nil _ _); (case side6 => exact Nat.le_refl _); (case side7 => exact Kd.C_nil _ _); (case side8 => exact Nat.le_refl _); rintro e w89 ⟨rfl, hb⟩; have n0_ := Aside0.mk (blk_below (g := gb328) (o := .cells #[.string a0_0, .slice A0_1 l0_1.length c0_1, .slice A0_2 l0_2.length c0_2, .int .i64 a0_3, .int .i64 a0_4, .bool a0_5, .bool a0_6, .int .u8 a0_7, .string a0_8, .slice A0_9 l0_9.length c0_9, .slice A0_10 l0_10.length c0_10] 42 (0, 0)) (by (with_reducible repeat (first | refine blk_drewN ?_ _ | refine blk_drew ?_ | refine blk_alloc ?_ _)); exact BK328.out) hb); have n1_ := Aside0.mk (blk_below (g := gb333) (o := .cells #[.int .i64 a0_3, .int .i64 a0_4, .bool a0_5, .bool a0_6] 40 (0, 0)) (by (with_reducible repeat (first | refine blk_drewN ?_ _ | refine blk_drew ?_ | refine blk_alloc ?_ _)); exact BK333.out) hb); have n2_ := Aside0.mk (below_step (by repeat (first | (with_reducible first | exact HB.out | apply below_alloc | apply pw_below_drewN | apply below_drew1 | refine below_set ?_ GE328.out | refine below_set ?_ GE333.out) | exact HB.out)) hb); clear BK328; clear BK333; clear HB; have BK328 := n0_; have BK333 := n1_; have HB := n2_; clear n0_ n1_ n2_; (try clear hb); (try clear hb2); (try clear hk); (try clear hi)))
                          go_ret
                          exact ⟨by first | rfl | (simp [errW_none, errW_some] <;> rfl) | (simp [*, errW_none, errW_some] <;> rfl), by repeat (first | (with_reducible first | exact HB.out | apply below_alloc | apply pw_below_drewN | apply below_drew1 | refine below_set ?_ GE328.out | refine below_set ?_ GE333.out) | exact HB.out)⟩
                      · replace c76 := Bool.eq_false_iff.mpr c76
                        subst c76
                        have H1 : (some false) = some r := by rw [if_neg (show ¬ (false = true) by decide)] at H; exact H
                        clear H
                        have H := H1
                        clear H1
                        obtain rfl := Option.some.inj H
                        have hnb90 := NB328_333.out
                        have hnc90 := NB333_328.out
                        have hcz91_0 : wc.cell? ⟨gb328, 0, none⟩ = some (.string a0_0) := (blk_cell BK328.out 0).trans rfl
                        have hcz91_1 : wc.cell? ⟨gb328, 1, none⟩ = some (.slice A0_1 l0_1.length c0_1) := (blk_cell BK328.out 1).trans rfl
                        have hcz91_2 : wc.cell? ⟨gb328, 2, none⟩ = some (.slice A0_2 l0_2.length c0_2) := (blk_cell BK328.out 2).trans rfl
                        have hcz91_3 : wc.cell? ⟨gb328, 3, none⟩ = some (.int .i64 a0_3) := (blk_cell BK328.out 3).trans rfl
                        have hcz91_4 : wc.cell? ⟨gb328, 4, none⟩ = some (.int .i64 a0_4) := (blk_cell BK328.out 4).trans rfl
                        have hcz91_5 : wc.cell? ⟨gb328, 5, none⟩ = some (.bool a0_5) := (blk_cell BK328.out 5).trans rfl
                        have hcz91_6 : wc.cell? ⟨gb328, 6, none⟩ = some (.bool a0_6) := (blk_cell BK328.out 6).trans rfl
                        have hcz91_7 : wc.cell? ⟨gb328, 7, none⟩ = some (.int .u8 a0_7) := (blk_cell BK328.out 7).trans rfl
                        have hcz91_8 : wc.cell? ⟨gb328, 8, none⟩ = some (.string a0_8) := (blk_cell BK328.out 8).trans rfl
                        have hcz91_9 : wc.cell? ⟨gb328, 9, none⟩ = some (.slice A0_9 l0_9.length c0_9) := (blk_cell BK328.out 9).trans rfl
                        have hcz91_10 : wc.cell? ⟨gb328, 10, none⟩ = some (.slice A0_10 l0_10.length c0_10) := (blk_cell BK328.out 10).trans rfl
                        have hfz91_0 := blk_frozen BK328.out 0
                        have hfz91_1 := blk_frozen BK328.out 1
                        have hfz91_2 := blk_frozen BK328.out 2
                        have hfz91_3 := blk_frozen BK328.out 3
                        have hfz91_4 := blk_frozen BK328.out 4
                        have hfz91_5 := blk_frozen BK328.out 5
                        have hfz91_6 := blk_frozen BK328.out 6
                        have hfz91_7 := blk_frozen BK328.out 7
                        have hfz91_8 := blk_frozen BK328.out 8
                        have hfz91_9 := blk_frozen BK328.out 9
                        have hfz91_10 := blk_frozen BK328.out 10
                        go_wp2_with (first | (go_at_call 64; (refine (epactref09_SameZ.calls kj17 a0_7 a0_8 _ _ l0_9 _ _ l0_10 _ _ _ _ false _ ?side1 ?side2 ?side3 ?side4 ?side5 ?side6 ?side7 ?side8 A75.out).mono ?_); (case side1 => repeat (first | exact (Kd.C_below HR0_9.out HB.out) | (with_reducible refine Kd.C_alloc ?_ _) | (with_reducible refine Kd.C_drewN ?_ _) | (with_reducible refine Kd.C_drew ?_))); (case side2 => exact HC0_9.out); (case side3 => repeat (first | exact (Kd.C_below HR0_10.out HB.out) | (with_reducible refine Kd.C_alloc ?_ _) | (with_reducible refine Kd.C_drewN ?_ _) | (with_reducible refine Kd.C_drew ?_))); (case side4 => exact HC0_10.out); (case side5 => exact Kd.C_nil _ _); (case side6 => exact Nat.le_refl _); (case side7 => exact Kd.C_nil _ _); (case side8 => exact Nat.le_refl _); rintro e w92 ⟨rfl, hb⟩; have n0_ := Aside0.mk (blk_below (g := gb328) (o := .cells #[.string a0_0, .slice A0_1 l0_1.length c0_1, .slice A0_2 l0_2.length c0_2, .int .i64 a0_3, .int .i64 a0_4, .bool a0_5, .bool a0_6, .int .u8 a0_7, .string a0_8, .slice A0_9 l0_9.length c0_9, .slice A0_10 l0_10.length c0_10] 42 (0, 0)) (by (with_reducible repeat (first | refine blk_drewN ?_ _ | refine blk_drew ?_ | refine blk_alloc ?_ _)); exact BK328.out) hb); have n1_ := Aside0.mk (blk_below (g := gb333) (o := .cells #[.int .i64 a0_3, .int .i64 a0_4, .bool a0_5, .bool a0_6] 40 (0, 0)) (by (with_reducible repeat (first | refine blk_drewN ?_ _ | refine blk_drew ?_ | refine blk_alloc ?_ _)); exact BK333.out) hb); have n2_ := Aside0.mk (below_step (by repeat (first | (with_reducible first | exact HB.out | apply below_alloc | apply pw_below_drewN | apply below_drew1 | refine below_set ?_ GE328.out | refine below_set ?_ GE333.out) | exact HB.out)) hb); clear BK328; clear BK333; clear HB; have BK328 := n0_; have BK333 := n1_; have HB := n2_; clear n0_ n1_ n2_; (try clear hb); (try clear hb2); (try clear hk); (try clear hi)))
                        go_ret
                        exact ⟨by first | rfl | (simp [errW_none, errW_some] <;> rfl) | (simp [*, errW_none, errW_some] <;> rfl), by repeat (first | (with_reducible first | exact HB.out | apply below_alloc | apply pw_below_drewN | apply below_drew1 | refine below_set ?_ GE328.out | refine below_set ?_ GE333.out) | exact HB.out)⟩
end Go.Proofs.YtcinojbfjiohjaaGreatDoor.PPrintTells
end
