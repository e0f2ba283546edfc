/-
  ExprTells, the law: the walk.
-/
import Derived.Test.YtjeofffddbibeaaDoorCopy
import Derived.Test.YtjeofffddbibeaaDoorExprZ
import Derived.Test.YtjeofffddbibeaaDoorExprE
import Derived.Test.YtjeofffddbibeaaDoorExprL
namespace Go.Proofs.YtjeofffddbibeaaDoor.Ex
open Go Go.RowKit Go.Proofs.YtjeofffddbibeaaDoor.PExprTells Go.Proofs.YtjeofffddbibeaaDoorW.PrintWords Go.Proofs.YtjeofffddbibeaaDoorW.PrintLast Go.Proofs.YtjeofffddbibeaaDoorW.PrintMore
set_option linter.unusedVariables false
set_option linter.unusedSimpArgs false

theorem small_calls (x : X) (A2 : Option Addr) (c2 : Nat) (A3 : Option Addr) (c3 : Nat) (w : World) (hx : Has w x A2 c2 A3 c3) (hc : cnt x ≤ 1099511627776) :
    Calls Tryd.prog 18 #[agg x A2 c2 A3 c3] w fun e w' => e = .returned (.bool (decide (cnt x ≤ 3000))) ∧ Below w.heap.size w w' := by
  refine (epactlaw09_small.calls (2 * cnt x) x.f0 x.f1 A2 c2 x.f2 A3 c3 x.f3 (decide (cnt x ≤ 3000)) w hx.C2 hx.l2 hx.C3 hx.l3 ?_).mono fun _ _ h => h
  unfold epactlaw09_small.f
  rw [refCount_f (cnt x) x (Nat.le_refl _) hc _ (Nat.le_refl _)]
  show some (decide ((cnt x : Int) ≤ 3000)) = _
  congr 1
  exact decide_eq_decide.2 (by omega)
set_option maxHeartbeats 8000000 in
set_option maxRecDepth 100000 in
theorem ExprTells_walk (op : Int) (x y : X) (A2 : Option Addr) (c2 : Nat) (A3 : Option Addr) (c3 : Nat) (B2 : Option Addr) (d2 : Nat) (B3 : Option Addr) (d3 : Nat) (w : World) (hx : Has w x A2 c2 A3 c3) (hy : Has w y B2 d2 B3 d3) (h0 : 0 ≤ op) (h255 : op ≤ 255)
    (hwx : wt x ≤ 1048576) (hwy : wt y ≤ 1048576) :
    Calls Tryd.prog 4 #[.int .u8 op, agg x A2 c2 A3 c3, agg y B2 d2 B3 d3] w fun e w' => e = .returned (.bool true) ∧ Below w.heap.size w w' := by
  have hcx : cnt x ≤ 1099511627776 := by have := cnt_wt _ x (Nat.le_refl _); omega
  have hcy : cnt y ≤ 1099511627776 := by have := cnt_wt _ y (Nat.le_refl _); omega
  have CX40 := Aside0.mk hcx
  have WFX := Aside0.mk hx.wf
  have CO := Aside0.mk (fun w => awake_calls w)
  have CS := Aside0.mk (fun (w : World) (h : Has w x A2 c2 A3 c3) => small_calls x A2 c2 A3 c3 w h hcx)
  have CT := Aside0.mk (fun (w : World) (h : Has w y B2 d2 B3 d3) => small_calls y B2 d2 B3 d3 w h hcy)
  have CU := Aside0.mk (fun (w : World) => Nums_calls op w h0 h255)
  have CV := Aside0.mk (fun (w : World) => epactref09_Nums.calls 3 op _ _ w (refNums_f op h0))
  have CW := Aside0.mk (fun (w : World) => Args_calls op w h0 h255)
  have CZ := Aside0.mk (fun (w : World) => epactref09_Args.calls 3 op _ w (refArgs_f op h0))
  have CA := Aside0.mk (fun (w : World) (h : Has w x A2 c2 A3 c3) => Count_calls x A2 c2 A3 c3 w h hcx)
  have CB := Aside0.mk (fun (w : World) (h : Has w x A2 c2 A3 c3) => epactref09_Count.calls (2 * cnt x) x.f0 x.f1 A2 c2 x.f2 A3 c3 x.f3 _ w h.C2 h.l2 h.C3 h.l3 (refCount_f (cnt x) x (Nat.le_refl _) hcx _ (Nat.le_refl _)))
  have CC := Aside0.mk (fun (w : World) (h : Has w x A2 c2 A3 c3) => Depth_calls x A2 c2 A3 c3 w h hcx)
  have CD := Aside0.mk (fun (w : World) (h : Has w x A2 c2 A3 c3) => epactref09_Depth.calls (2 * cnt x) x.f0 x.f1 A2 c2 x.f2 A3 c3 x.f3 _ w h.C2 h.l2 h.C3 h.l3 (refDepth_f (cnt x) x (Nat.le_refl _) hcx _ (Nat.le_refl _)))
  have CE := Aside0.mk (fun (w : World) (h : Has w x A2 c2 A3 c3) => Right_calls x A2 c2 A3 c3 w h hcx)
  have CF := Aside0.mk (fun (w : World) (h : Has w x A2 c2 A3 c3) => refRight_calls x A2 c2 A3 c3 w hcx h)
  have CG := Aside0.mk (fun (w : World) (h : Has w x A2 c2 A3 c3) (k : Has w y B2 d2 B3 d3) => Same_calls (cnt x) x y A2 c2 A3 c3 B2 d2 B3 d3 w (Nat.le_refl _) h k)
  have CH := Aside0.mk (fun (w : World) (h : Has w x A2 c2 A3 c3) (k : Has w y B2 d2 B3 d3) => refSame_calls x y A2 c2 A3 c3 B2 d2 B3 d3 w h k)
  have CI := Aside0.mk (fun (w : World) (h : Has w x A2 c2 A3 c3) => Names_rd x A2 c2 A3 c3 w h hcx)
  have CJ := Aside0.mk (fun (w : World) (h : Has w x A2 c2 A3 c3) => refNames_rd x A2 c2 A3 c3 w h hcx)
  have CK := Aside0.mk (fun (w : World) (h : Has w x A2 c2 A3 c3) => Copy_calls (cnt x) x A2 c2 A3 c3 w (Nat.le_refl _) (by omega) h)
  have hss := sameX_self (cnt x) x (Nat.le_refl _)
  have CM := Aside0.mk (fun (w : World) (F2 : Option Addr) (p2 : Nat) (F3 : Option Addr) (p3 : Nat) (h : Has w x F2 p2 F3 p3) (k : Has w x A2 c2 A3 c3) => refSame_calls x x F2 p2 F3 p3 A2 c2 A3 c3 w h k)
  rw [hss] at CM
  have hll : (addAll [] (namesX x)).length ≤ 4611686018427387904 := by have := names_cnt x; omega
  have HLL := Aside0.mk hll
  clear hll hss
  generalize addAll [] (namesX x) = l at *
  generalize RightB x = rb at *
  generalize sameX x y = sb at *
  generalize numsOf op = nm at *
  generalize argsOf op = am at *
  generalize decide (op ≤ 12) = ob at *
  have ix := (InBox.new hx 25 w.heap.size rfl).a (.cells #[.int .u8 y.f0, .string y.f1, .slice B2 y.f2.length d2, .slice B3 y.f3.length d3] 25)
  have iy := InBox.new (hy.a (.cells #[.int .u8 x.f0, .string x.f1, .slice A2 x.f2.length c2, .slice A3 x.f3.length c3] 25)) 25 (w.heap.size + 1) (by simp)
  have BB : Below w.heap.size w ((w.alloc (.cells #[.int .u8 x.f0, .string x.f1, .slice A2 x.f2.length c2, .slice A3 x.f3.length c3] 25)).alloc (.cells #[.int .u8 y.f0, .string y.f1, .slice B2 y.f2.length d2, .slice B3 y.f3.length d3] 25)) := below_alloc (below_alloc (Below.refl _ _) _) _
  have CS0 := Aside0.mk (CS.out _ ix.has)
  have IX0 := Aside0.mk ix
  have IY0 := Aside0.mk iy
  have BX0 := Aside0.mk BB
  clear ix iy BB hx hy hcx hcy hwx hwy h0 h255
  by_cases s1 : cnt x ≤ 3000
  · rw [decide_eq_true s1] at CS0
    by_cases s2 : cnt y ≤ 3000
    · rw [decide_eq_true s2] at CT
      clear s1 s2
      go_enter Tryd.func4, Tryd.ntmps4
      go_wp2_with fail
      (with_reducible refine CS0.out.mono ?_)
      rintro e w1 ⟨rfl, b1⟩
      have BX1 := Aside0.mk (below_then BX0.out BX0.out.size b1)
      have IX1 := Aside0.mk (IX0.out.later b1)
      have iy := IY0.out.later b1
      have IY1 := Aside0.mk iy
      have q0 := iy.q0
      have q1 := iy.q1
      have q2 := iy.q2
      have q3 := iy.q3
      have CT0 := Aside0.mk (CT.out _ iy.has)
      clear iy b1
      go_wp2_with fail
      (with_reducible refine CT0.out.mono ?_)
      rintro e wb ⟨rfl, b2⟩
      have BXb := Aside0.mk (below_then BX1.out BX1.out.size b2)
      have IXb := Aside0.mk (IX1.out.later b2)
      have IYb := Aside0.mk (IY1.out.later b2)
      clear b2 q0 q1 q2 q3 CT0
      go_wp2_with fail
      (with_reducible refine (CU.out _).mono ?_)
      rintro e wc ⟨rfl, b3⟩
      have BXc := Aside0.mk (below_then BXb.out BXb.out.size b3)
      have IXc := Aside0.mk (IXb.out.later b3)
      have IYc := Aside0.mk (IYb.out.later b3)
      clear b3
      go_wp2_with fail
      (with_reducible refine (CV.out _).mono ?_)
      rintro e wd ⟨rfl, b4⟩
      have BXd := Aside0.mk (below_then BXc.out BXc.out.size b4.below)
      have IXd := Aside0.mk (IXc.out.later b4.below)
      have IYd := Aside0.mk (IYc.out.later b4.below)
      clear b4
      go_wp2_with fail
      (with_reducible refine (CW.out _).mono ?_)
      rintro e we ⟨rfl, b5⟩
      have BXe := Aside0.mk (below_then BXd.out BXd.out.size b5)
      have IXe := Aside0.mk (IXd.out.later b5)
      have IYe := Aside0.mk (IYd.out.later b5)
      clear b5
      go_wp2_with fail
      (with_reducible refine (CZ.out _).mono ?_)
      rintro e wz ⟨rfl, b6⟩
      have BX2 : Below w.heap.size w wz.drew := below_drew (below_then BXe.out BXe.out.size b6.below)
      have ix2 : InBox w.heap.size x A2 c2 A3 c3 wz.drew := (IXe.out.later b6.below).dr 1
      have iy2 : InBox (w.heap.size + 1) y B2 d2 B3 d3 wz.drew := (IYe.out.later b6.below).dr 1
      clear b6
      go_wp2_with fail
      refine start_ (n := 45) (S := fun w' => w'.cell? ⟨w.heap.size, 0, none⟩ = some (.int .u8 x.f0) ∧ w'.cell? ⟨w.heap.size, 1, none⟩ = some (.string x.f1) ∧ w'.cell? ⟨w.heap.size, 2, none⟩ = some (.slice A2 x.f2.length c2) ∧ w'.cell? ⟨w.heap.size, 3, none⟩ = some (.slice A3 x.f3.length c3) ∧ w'.cell? ⟨w.heap.size + 1, 0, none⟩ = some (.int .u8 y.f0) ∧ w'.cell? ⟨w.heap.size + 1, 1, none⟩ = some (.string y.f1) ∧ w'.cell? ⟨w.heap.size + 1, 2, none⟩ = some (.slice B2 y.f2.length d2) ∧ w'.cell? ⟨w.heap.size + 1, 3, none⟩ = some (.slice B3 y.f3.length d3)) (ds := []) #[false, false, false, false, false, false, false, false, false, false, false, false, false, false, false, false, false, false, false, false, false, false, false, false, false, false, false, false, false, false, false, false, false, false, false, false, false, false, false, false, false, false, false, false, false] (by kernel_rfl) rfl rfl ⟨ix2.q0, ix2.q1, ix2.q2, ix2.q3, iy2.q0, iy2.q1, iy2.q2, iy2.q3⟩ (fun hHeld => ?_)
      refine take_ (i := 0) (N := some 45) (v := ?_) (a' := ?_) #[true, false, false, false, false, false, false, false, false, false, false, false, false, false, false, false, false, false, false, false, false, false, false, false, false, false, false, false, false, false, false, false, false, false, false, false, false, false, false, false, false, false, false, false, false] rfl rfl (by kernel_rfl) (fun _ _ _ h => h) (Or.inl ⟨by rfl, ?_⟩) hHeld ?_ ?_
      rotate_left
      · rintro w' ⟨s0, s1, s2, s3, s4, s5, s6, s7⟩
        go_simp
        with_reducible rfl
      rotate_left
      · simp only [Act.put, List.setIfInBounds_toArray, List.set_cons_zero, List.set_cons_succ, i64_w, i32_w]
        rfl
      refine take_ (i := 2) (N := some 47) (v := ?_) (a' := ?_) #[true, false, true, false, false, false, false, false, false, false, false, false, false, false, false, false, false, false, false, false, false, false, false, false, false, false, false, false, false, false, false, false, false, false, false, false, false, false, false, false, false, false, false, false, false] rfl rfl (by kernel_rfl) (fun _ _ _ h => h) (Or.inl ⟨by rfl, ?_⟩) hHeld ?_ ?_
      rotate_left
      · rintro w' ⟨s0, s1, s2, s3, s4, s5, s6, s7⟩
        go_simp
        with_reducible rfl
      rotate_left
      · simp only [Act.put, List.setIfInBounds_toArray, List.set_cons_zero, List.set_cons_succ, i64_w, i32_w]
        rfl
      refine one_ (i := 1) (N := some 46) #[true, true, true, false, false, false, false, false, false, false, false, false, false, false, false, false, false, false, false, false, false, false, false, false, false, false, false, false, false, false, false, false, false, false, false, false, false, false, false, false, false, false, false, false, false] rfl rfl (by kernel_rfl) (by decide) (fun K hK => ?_)
      refine goes_ Tryd.func11 (by kernel_rfl) rfl #[agg x A2 c2 A3 c3] (by rfl) rfl rfl (by simp only [List.map_toArray, List.map_cons, List.map_nil]; rfl) ?_
      with_reducible refine (CA.out _ ix2.has).mono ?_
      rintro e w3 ⟨rfl, b3⟩
      refine ⟨_, rfl, ?_⟩
      have ix3 := ix2.later b3
      have iy3 := iy2.later b3
      have BX3 := below_then BX2 BX2.size b3
      refine hK.out _ _ ⟨ix3.q0, ix3.q1, ix3.q2, ix3.q3, iy3.q0, iy3.q1, iy3.q2, iy3.q3⟩ (fun hHeld => ?_)
      clear hK K
      refine norm_ (a' := ?_) ?_ ?_
      rotate_left
      · show Act.put _ (some 46) _ = _
        simp only [Act.put, List.setIfInBounds_toArray, List.set_cons_zero, List.set_cons_succ, i64_w, i32_w]
        rfl
      refine one_ (i := 3) (N := some 48) #[true, true, true, true, false, false, false, false, false, false, false, false, false, false, false, false, false, false, false, false, false, false, false, false, false, false, false, false, false, false, false, false, false, false, false, false, false, false, false, false, false, false, false, false, false] rfl rfl (by kernel_rfl) (by decide) (fun K hK => ?_)
      refine goes_ Tryd.func23 (by kernel_rfl) rfl #[agg x A2 c2 A3 c3] (by rfl) rfl rfl (by simp only [List.map_toArray, List.map_cons, List.map_nil]; rfl) ?_
      with_reducible refine (CB.out _ ix3.has).mono ?_
      rintro e w4 ⟨rfl, b4⟩
      refine ⟨_, rfl, ?_⟩
      have ix4 := ix3.later b4
      have iy4 := iy3.later b4
      have BX4 := below_then BX3 BX3.size b4
      refine hK.out _ _ ⟨ix4.q0, ix4.q1, ix4.q2, ix4.q3, iy4.q0, iy4.q1, iy4.q2, iy4.q3⟩ (fun hHeld => ?_)
      clear hK K
      refine norm_ (a' := ?_) ?_ ?_
      rotate_left
      · show Act.put _ (some 48) _ = _
        simp only [Act.put, List.setIfInBounds_toArray, List.set_cons_zero, List.set_cons_succ, i64_w, i32_w]
        rfl
      refine pure_ (i := 4) (N := some 49) (v := ?_) (a' := ?_) #[true, true, true, true, true, false, false, false, false, false, false, false, false, false, false, false, false, false, false, false, false, false, false, false, false, false, false, false, false, false, false, false, false, false, false, false, false, false, false, false, false, false, false, false, false] rfl rfl (by kernel_rfl) (fun _ _ _ h => h) (Or.inl ⟨by rfl, ?_⟩) ?_ ?_
      rotate_left
      · intro w'
        go_simp
        with_reducible rfl
      rotate_left
      · simp only [Act.put, List.setIfInBounds_toArray, List.set_cons_zero, List.set_cons_succ, i64_w, i32_w]
        rfl
      refine pure_ (i := 5) (N := some 50) (v := ?_) (a' := ?_) #[true, true, true, true, true, true, false, false, false, false, false, false, false, false, false, false, false, false, false, false, false, false, false, false, false, false, false, false, false, false, false, false, false, false, false, false, false, false, false, false, false, false, false, false, false] rfl rfl (by kernel_rfl) (fun _ _ _ h => h) (Or.inl ⟨by rfl, ?_⟩) ?_ ?_
      rotate_left
      · intro w'
        go_simp
        with_reducible rfl
      rotate_left
      · simp only [Act.put, List.setIfInBounds_toArray, List.set_cons_zero, List.set_cons_succ, i64_w, i32_w]
        rfl
      refine take_ (i := 6) (N := some 51) (v := ?_) (a' := ?_) #[true, true, true, true, true, true, true, false, false, false, false, false, false, false, false, false, false, false, false, false, false, false, false, false, false, false, false, false, false, false, false, false, false, false, false, false, false, false, false, false, false, false, false, false, false] rfl rfl (by kernel_rfl) (fun _ _ _ h => h) (Or.inl ⟨by rfl, ?_⟩) hHeld ?_ ?_
      rotate_left
      · rintro w' ⟨s0, s1, s2, s3, s4, s5, s6, s7⟩
        go_simp
        with_reducible rfl
      rotate_left
      · simp only [Act.put, List.setIfInBounds_toArray, List.set_cons_zero, List.set_cons_succ, i64_w, i32_w]
        rfl
      refine take_ (i := 8) (N := some 53) (v := ?_) (a' := ?_) #[true, true, true, true, true, true, true, false, true, false, false, false, false, false, false, false, false, false, false, false, false, false, false, false, false, false, false, false, false, false, false, false, false, false, false, false, false, false, false, false, false, false, false, false, false] rfl rfl (by kernel_rfl) (fun _ _ _ h => h) (Or.inl ⟨by rfl, ?_⟩) hHeld ?_ ?_
      rotate_left
      · rintro w' ⟨s0, s1, s2, s3, s4, s5, s6, s7⟩
        go_simp
        with_reducible rfl
      rotate_left
      · simp only [Act.put, List.setIfInBounds_toArray, List.set_cons_zero, List.set_cons_succ, i64_w, i32_w]
        rfl
      refine one_ (i := 7) (N := some 52) #[true, true, true, true, true, true, true, true, true, false, false, false, false, false, false, false, false, false, false, false, false, false, false, false, false, false, false, false, false, false, false, false, false, false, false, false, false, false, false, false, false, false, false, false, false] rfl rfl (by kernel_rfl) (by decide) (fun K hK => ?_)
      refine goes_ Tryd.func24 (by kernel_rfl) rfl #[agg x A2 c2 A3 c3] (by rfl) rfl rfl (by simp only [List.map_toArray, List.map_cons, List.map_nil]; rfl) ?_
      with_reducible refine (CC.out _ ix4.has).mono ?_
      rintro e w5 ⟨rfl, b5⟩
      refine ⟨_, rfl, ?_⟩
      have ix5 := ix4.later b5
      have iy5 := iy4.later b5
      have BX5 := below_then BX4 BX4.size b5
      refine hK.out _ _ ⟨ix5.q0, ix5.q1, ix5.q2, ix5.q3, iy5.q0, iy5.q1, iy5.q2, iy5.q3⟩ (fun hHeld => ?_)
      clear hK K
      refine norm_ (a' := ?_) ?_ ?_
      rotate_left
      · show Act.put _ (some 52) _ = _
        simp only [Act.put, List.setIfInBounds_toArray, List.set_cons_zero, List.set_cons_succ, i64_w, i32_w]
        rfl
      refine one_ (i := 9) (N := some 54) #[true, true, true, true, true, true, true, true, true, true, false, false, false, false, false, false, false, false, false, false, false, false, false, false, false, false, false, false, false, false, false, false, false, false, false, false, false, false, false, false, false, false, false, false, false] rfl rfl (by kernel_rfl) (by decide) (fun K hK => ?_)
      refine goes_ Tryd.func25 (by kernel_rfl) rfl #[agg x A2 c2 A3 c3] (by rfl) rfl rfl (by simp only [List.map_toArray, List.map_cons, List.map_nil]; rfl) ?_
      with_reducible refine (CD.out _ ix5.has).mono ?_
      rintro e w6 ⟨rfl, b6⟩
      refine ⟨_, rfl, ?_⟩
      have ix6 := ix5.later b6
      have iy6 := iy5.later b6
      have BX6 := below_then BX5 BX5.size b6
      refine hK.out _ _ ⟨ix6.q0, ix6.q1, ix6.q2, ix6.q3, iy6.q0, iy6.q1, iy6.q2, iy6.q3⟩ (fun hHeld => ?_)
      clear hK K
      refine norm_ (a' := ?_) ?_ ?_
      rotate_left
      · show Act.put _ (some 54) _ = _
        simp only [Act.put, List.setIfInBounds_toArray, List.set_cons_zero, List.set_cons_succ, i64_w, i32_w]
        rfl
      refine pure_ (i := 10) (N := some 55) (v := ?_) (a' := ?_) #[true, true, true, true, true, true, true, true, true, true, true, false, false, false, false, false, false, false, false, false, false, false, false, false, false, false, false, false, false, false, false, false, false, false, false, false, false, false, false, false, false, false, false, false, false] rfl rfl (by kernel_rfl) (fun _ _ _ h => h) (Or.inl ⟨by rfl, ?_⟩) ?_ ?_
      rotate_left
      · intro w'
        go_simp
        with_reducible rfl
      rotate_left
      · simp only [Act.put, List.setIfInBounds_toArray, List.set_cons_zero, List.set_cons_succ, i64_w, i32_w]
        rfl
      refine pure_ (i := 11) (N := some 56) (v := ?_) (a' := ?_) #[true, true, true, true, true, true, true, true, true, true, true, true, false, false, false, false, false, false, false, false, false, false, false, false, false, false, false, false, false, false, false, false, false, false, false, false, false, false, false, false, false, false, false, false, false] rfl rfl (by kernel_rfl) (fun _ _ _ h => h) (Or.inl ⟨by rfl, ?_⟩) ?_ ?_
      rotate_left
      · intro w'
        go_simp
        with_reducible rfl
      rotate_left
      · simp only [Act.put, List.setIfInBounds_toArray, List.set_cons_zero, List.set_cons_succ, i64_w, i32_w]
        rfl
      refine pure_ (i := 12) (N := some 57) (v := ?_) (a' := ?_) #[true, true, true, true, true, true, true, true, true, true, true, true, true, false, false, false, false, false, false, false, false, false, false, false, false, false, false, false, false, false, false, false, false, false, false, false, false, false, false, false, false, false, false, false, false] rfl rfl (by kernel_rfl) (fun _ _ _ h => h) (Or.inl ⟨by rfl, ?_⟩) ?_ ?_
      rotate_left
      · intro w'
        go_simp
        with_reducible rfl
      rotate_left
      · simp only [Act.put, List.setIfInBounds_toArray, List.set_cons_zero, List.set_cons_succ, i64_w, i32_w]
        rfl
      refine take_ (i := 13) (N := some 58) (v := ?_) (a' := ?_) #[true, true, true, true, true, true, true, true, true, true, true, true, true, true, false, false, false, false, false, false, false, false, false, false, false, false, false, false, false, false, false, false, false, false, false, false, false, false, false, false, false, false, false, false, false] rfl rfl (by kernel_rfl) (fun _ _ _ h => h) (Or.inl ⟨by rfl, ?_⟩) hHeld ?_ ?_
      rotate_left
      · rintro w' ⟨s0, s1, s2, s3, s4, s5, s6, s7⟩
        go_simp
        with_reducible rfl
      rotate_left
      · simp only [Act.put, List.setIfInBounds_toArray, List.set_cons_zero, List.set_cons_succ, i64_w, i32_w]
        rfl
      refine take_ (i := 15) (N := some 60) (v := ?_) (a' := ?_) #[true, true, true, true, true, true, true, true, true, true, true, true, true, true, false, true, false, false, false, false, false, false, false, false, false, false, false, false, false, false, false, false, false, false, false, false, false, false, false, false, false, false, false, false, false] rfl rfl (by kernel_rfl) (fun _ _ _ h => h) (Or.inl ⟨by rfl, ?_⟩) hHeld ?_ ?_
      rotate_left
      · rintro w' ⟨s0, s1, s2, s3, s4, s5, s6, s7⟩
        go_simp
        with_reducible rfl
      rotate_left
      · simp only [Act.put, List.setIfInBounds_toArray, List.set_cons_zero, List.set_cons_succ, i64_w, i32_w]
        rfl
      refine one_ (i := 14) (N := some 59) #[true, true, true, true, true, true, true, true, true, true, true, true, true, true, true, true, false, false, false, false, false, false, false, false, false, false, false, false, false, false, false, false, false, false, false, false, false, false, false, false, false, false, false, false, false] rfl rfl (by kernel_rfl) (by decide) (fun K hK => ?_)
      refine goes_ Tryd.func16 (by kernel_rfl) rfl #[agg x A2 c2 A3 c3] (by rfl) rfl rfl (by simp only [List.map_toArray, List.map_cons, List.map_nil]; rfl) ?_
      with_reducible refine (CE.out _ ix6.has).mono ?_
      rintro e w7 ⟨rfl, b7⟩
      refine ⟨_, rfl, ?_⟩
      have ix7 := ix6.later b7
      have iy7 := iy6.later b7
      have BX7 := below_then BX6 BX6.size b7
      refine hK.out _ _ ⟨ix7.q0, ix7.q1, ix7.q2, ix7.q3, iy7.q0, iy7.q1, iy7.q2, iy7.q3⟩ (fun hHeld => ?_)
      clear hK K
      refine norm_ (a' := ?_) ?_ ?_
      rotate_left
      · show Act.put _ (some 59) _ = _
        simp only [Act.put, List.setIfInBounds_toArray, List.set_cons_zero, List.set_cons_succ, i64_w, i32_w]
        rfl
      refine one_ (i := 16) (N := some 61) #[true, true, true, true, true, true, true, true, true, true, true, true, true, true, true, true, true, false, false, false, false, false, false, false, false, false, false, false, false, false, false, false, false, false, false, false, false, false, false, false, false, false, false, false, false] rfl rfl (by kernel_rfl) (by decide) (fun K hK => ?_)
      refine goes_ Tryd.func26 (by kernel_rfl) rfl #[agg x A2 c2 A3 c3] (by rfl) rfl rfl (by simp only [List.map_toArray, List.map_cons, List.map_nil]; rfl) ?_
      with_reducible refine (CF.out _ ix7.has).mono ?_
      rintro e w8 ⟨rfl, b8⟩
      refine ⟨_, rfl, ?_⟩
      have ix8 := ix7.later b8
      have iy8 := iy7.later b8
      have BX8 := below_then BX7 BX7.size b8
      refine hK.out _ _ ⟨ix8.q0, ix8.q1, ix8.q2, ix8.q3, iy8.q0, iy8.q1, iy8.q2, iy8.q3⟩ (fun hHeld => ?_)
      clear hK K
      refine norm_ (a' := ?_) ?_ ?_
      rotate_left
      · show Act.put _ (some 61) _ = _
        simp only [Act.put, List.setIfInBounds_toArray, List.set_cons_zero, List.set_cons_succ, i64_w, i32_w]
        rfl
      refine pure_ (i := 17) (N := some 62) (v := ?_) (a' := ?_) #[true, true, true, true, true, true, true, true, true, true, true, true, true, true, true, true, true, true, false, false, false, false, false, false, false, false, false, false, false, false, false, false, false, false, false, false, false, false, false, false, false, false, false, false, false] rfl rfl (by kernel_rfl) (fun _ _ _ h => h) (Or.inl ⟨by rfl, ?_⟩) ?_ ?_
      rotate_left
      · intro w'
        go_simp
        with_reducible rfl
      rotate_left
      · simp only [Act.put, List.setIfInBounds_toArray, List.set_cons_zero, List.set_cons_succ, i64_w, i32_w]
        rfl
      refine pure_ (i := 18) (N := some 63) (v := ?_) (a' := ?_) #[true, true, true, true, true, true, true, true, true, true, true, true, true, true, true, true, true, true, true, false, false, false, false, false, false, false, false, false, false, false, false, false, false, false, false, false, false, false, false, false, false, false, false, false, false] rfl rfl (by kernel_rfl) (fun _ _ _ h => h) (Or.inl ⟨by rfl, ?_⟩) ?_ ?_
      rotate_left
      · intro w'
        go_simp
        with_reducible rfl
      rotate_left
      · simp only [Act.put, List.setIfInBounds_toArray, List.set_cons_zero, List.set_cons_succ, i64_w, i32_w]
        rfl
      refine pure_ (i := 19) (N := some 64) (v := ?_) (a' := ?_) #[true, true, true, true, true, true, true, true, true, true, true, true, true, true, true, true, true, true, true, true, false, false, false, false, false, false, false, false, false, false, false, false, false, false, false, false, false, false, false, false, false, false, false, false, false] rfl rfl (by kernel_rfl) (fun _ _ _ h => h) (Or.inl ⟨by rfl, ?_⟩) ?_ ?_
      rotate_left
      · intro w'
        go_simp
        with_reducible rfl
      rotate_left
      · simp only [Act.put, List.setIfInBounds_toArray, List.set_cons_zero, List.set_cons_succ, i64_w, i32_w]
        rfl
      refine take_ (i := 20) (N := some 65) (v := ?_) (a' := ?_) #[true, true, true, true, true, true, true, true, true, true, true, true, true, true, true, true, true, true, true, true, true, false, false, false, false, false, false, false, false, false, false, false, false, false, false, false, false, false, false, false, false, false, false, false, false] rfl rfl (by kernel_rfl) (fun _ _ _ h => h) (Or.inl ⟨by rfl, ?_⟩) hHeld ?_ ?_
      rotate_left
      · rintro w' ⟨s0, s1, s2, s3, s4, s5, s6, s7⟩
        go_simp
        with_reducible rfl
      rotate_left
      · simp only [Act.put, List.setIfInBounds_toArray, List.set_cons_zero, List.set_cons_succ, i64_w, i32_w]
        rfl
      refine take_ (i := 21) (N := some 66) (v := ?_) (a' := ?_) #[true, true, true, true, true, true, true, true, true, true, true, true, true, true, true, true, true, true, true, true, true, true, false, false, false, false, false, false, false, false, false, false, false, false, false, false, false, false, false, false, false, false, false, false, false] rfl rfl (by kernel_rfl) (fun _ _ _ h => h) (Or.inl ⟨by rfl, ?_⟩) hHeld ?_ ?_
      rotate_left
      · rintro w' ⟨s0, s1, s2, s3, s4, s5, s6, s7⟩
        go_simp
        with_reducible rfl
      rotate_left
      · simp only [Act.put, List.setIfInBounds_toArray, List.set_cons_zero, List.set_cons_succ, i64_w, i32_w]
        rfl
      refine take_ (i := 23) (N := some 68) (v := ?_) (a' := ?_) #[true, true, true, true, true, true, true, true, true, true, true, true, true, true, true, true, true, true, true, true, true, true, false, true, false, false, false, false, false, false, false, false, false, false, false, false, false, false, false, false, false, false, false, false, false] rfl rfl (by kernel_rfl) (fun _ _ _ h => h) (Or.inl ⟨by rfl, ?_⟩) hHeld ?_ ?_
      rotate_left
      · rintro w' ⟨s0, s1, s2, s3, s4, s5, s6, s7⟩
        go_simp
        with_reducible rfl
      rotate_left
      · simp only [Act.put, List.setIfInBounds_toArray, List.set_cons_zero, List.set_cons_succ, i64_w, i32_w]
        rfl
      refine take_ (i := 24) (N := some 69) (v := ?_) (a' := ?_) #[true, true, true, true, true, true, true, true, true, true, true, true, true, true, true, true, true, true, true, true, true, true, false, true, true, false, false, false, false, false, false, false, false, false, false, false, false, false, false, false, false, false, false, false, false] rfl rfl (by kernel_rfl) (fun _ _ _ h => h) (Or.inl ⟨by rfl, ?_⟩) hHeld ?_ ?_
      rotate_left
      · rintro w' ⟨s0, s1, s2, s3, s4, s5, s6, s7⟩
        go_simp
        with_reducible rfl
      rotate_left
      · simp only [Act.put, List.setIfInBounds_toArray, List.set_cons_zero, List.set_cons_succ, i64_w, i32_w]
        rfl
      refine one_ (i := 22) (N := some 67) #[true, true, true, true, true, true, true, true, true, true, true, true, true, true, true, true, true, true, true, true, true, true, true, true, true, false, false, false, false, false, false, false, false, false, false, false, false, false, false, false, false, false, false, false, false] rfl rfl (by kernel_rfl) (by decide) (fun K hK => ?_)
      refine goes_ Tryd.func27 (by kernel_rfl) rfl #[agg x A2 c2 A3 c3, agg y B2 d2 B3 d3] (by rfl) rfl rfl (by simp only [List.map_toArray, List.map_cons, List.map_nil]; rfl) ?_
      with_reducible refine (CG.out _ ix8.has iy8.has).mono ?_
      rintro e w9 ⟨rfl, b9⟩
      refine ⟨_, rfl, ?_⟩
      have ix9 := ix8.later b9
      have iy9 := iy8.later b9
      have BX9 := below_then BX8 BX8.size b9
      refine hK.out _ _ ⟨ix9.q0, ix9.q1, ix9.q2, ix9.q3, iy9.q0, iy9.q1, iy9.q2, iy9.q3⟩ (fun hHeld => ?_)
      clear hK K
      refine norm_ (a' := ?_) ?_ ?_
      rotate_left
      · show Act.put _ (some 67) _ = _
        simp only [Act.put, List.setIfInBounds_toArray, List.set_cons_zero, List.set_cons_succ, i64_w, i32_w]
        rfl
      refine one_ (i := 25) (N := some 70) #[true, true, true, true, true, true, true, true, true, true, true, true, true, true, true, true, true, true, true, true, true, true, true, true, true, true, false, false, false, false, false, false, false, false, false, false, false, false, false, false, false, false, false, false, false] rfl rfl (by kernel_rfl) (by decide) (fun K hK => ?_)
      refine goes_ Tryd.func28 (by kernel_rfl) rfl #[agg x A2 c2 A3 c3, agg y B2 d2 B3 d3] (by rfl) rfl rfl (by simp only [List.map_toArray, List.map_cons, List.map_nil]; rfl) ?_
      with_reducible refine (CH.out _ ix9.has iy9.has).mono ?_
      rintro e w10 ⟨rfl, b10⟩
      refine ⟨_, rfl, ?_⟩
      have ix10 := ix9.later b10
      have iy10 := iy9.later b10
      have BX10 := below_then BX9 BX9.size b10
      refine hK.out _ _ ⟨ix10.q0, ix10.q1, ix10.q2, ix10.q3, iy10.q0, iy10.q1, iy10.q2, iy10.q3⟩ (fun hHeld => ?_)
      clear hK K
      refine norm_ (a' := ?_) ?_ ?_
      rotate_left
      · show Act.put _ (some 70) _ = _
        simp only [Act.put, List.setIfInBounds_toArray, List.set_cons_zero, List.set_cons_succ, i64_w, i32_w]
        rfl
      refine pure_ (i := 26) (N := some 71) (v := ?_) (a' := ?_) #[true, true, true, true, true, true, true, true, true, true, true, true, true, true, true, true, true, true, true, true, true, true, true, true, true, true, true, false, false, false, false, false, false, false, false, false, false, false, false, false, false, false, false, false, false] rfl rfl (by kernel_rfl) (fun _ _ _ h => h) (Or.inl ⟨by rfl, ?_⟩) ?_ ?_
      rotate_left
      · intro w'
        go_simp
        with_reducible rfl
      rotate_left
      · simp only [Act.put, List.setIfInBounds_toArray, List.set_cons_zero, List.set_cons_succ, i64_w, i32_w]
        rfl
      refine pure_ (i := 27) (N := some 72) (v := ?_) (a' := ?_) #[true, true, true, true, true, true, true, true, true, true, true, true, true, true, true, true, true, true, true, true, true, true, true, true, true, true, true, true, false, false, false, false, false, false, false, false, false, false, false, false, false, false, false, false, false] rfl rfl (by kernel_rfl) (fun _ _ _ h => h) (Or.inl ⟨by rfl, ?_⟩) ?_ ?_
      rotate_left
      · intro w'
        go_simp
        with_reducible rfl
      rotate_left
      · simp only [Act.put, List.setIfInBounds_toArray, List.set_cons_zero, List.set_cons_succ, i64_w, i32_w]
        rfl
      refine pure_ (i := 28) (N := some 73) (v := ?_) (a' := ?_) #[true, true, true, true, true, true, true, true, true, true, true, true, true, true, true, true, true, true, true, true, true, true, true, true, true, true, true, true, true, false, false, false, false, false, false, false, false, false, false, false, false, false, false, false, false] rfl rfl (by kernel_rfl) (fun _ _ _ h => h) (Or.inl ⟨by rfl, ?_⟩) ?_ ?_
      rotate_left
      · intro w'
        go_simp
        with_reducible rfl
      rotate_left
      · simp only [Act.put, List.setIfInBounds_toArray, List.set_cons_zero, List.set_cons_succ, i64_w, i32_w]
        rfl
      refine take_ (i := 29) (N := some 74) (v := ?_) (a' := ?_) #[true, true, true, true, true, true, true, true, true, true, true, true, true, true, true, true, true, true, true, true, true, true, true, true, true, true, true, true, true, true, false, false, false, false, false, false, false, false, false, false, false, false, false, false, false] rfl rfl (by kernel_rfl) (fun _ _ _ h => h) (Or.inl ⟨by rfl, ?_⟩) hHeld ?_ ?_
      rotate_left
      · rintro w' ⟨s0, s1, s2, s3, s4, s5, s6, s7⟩
        go_simp
        with_reducible rfl
      rotate_left
      · simp only [Act.put, List.setIfInBounds_toArray, List.set_cons_zero, List.set_cons_succ, i64_w, i32_w]
        rfl
      refine take_ (i := 31) (N := some 76) (v := ?_) (a' := ?_) #[true, true, true, true, true, true, true, true, true, true, true, true, true, true, true, true, true, true, true, true, true, true, true, true, true, true, true, true, true, true, false, true, false, false, false, false, false, false, false, false, false, false, false, false, false] rfl rfl (by kernel_rfl) (fun _ _ _ h => h) (Or.inl ⟨by rfl, ?_⟩) hHeld ?_ ?_
      rotate_left
      · rintro w' ⟨s0, s1, s2, s3, s4, s5, s6, s7⟩
        go_simp
        with_reducible rfl
      rotate_left
      · simp only [Act.put, List.setIfInBounds_toArray, List.set_cons_zero, List.set_cons_succ, i64_w, i32_w]
        rfl
      refine one_ (i := 30) (N := some 75) #[true, true, true, true, true, true, true, true, true, true, true, true, true, true, true, true, true, true, true, true, true, true, true, true, true, true, true, true, true, true, true, true, false, false, false, false, false, false, false, false, false, false, false, false, false] rfl rfl (by kernel_rfl) (by decide) (fun K hK => ?_)
      refine goes_ Tryd.func13 (by kernel_rfl) rfl #[agg x A2 c2 A3 c3] (by rfl) rfl rfl (by simp only [List.map_toArray, List.map_cons, List.map_nil]; rfl) ?_
      with_reducible refine (CI.out _ ix10.has).mono ?_
      rintro e w11 ⟨A7, c7, rfl, hl7, hC7, b11⟩
      refine ⟨_, rfl, ?_⟩
      have ix11 := ix10.later b11
      have iy11 := iy10.later b11
      have BX11 := below_then BX10 BX10.size b11
      refine hK.out _ _ ⟨ix11.q0, ix11.q1, ix11.q2, ix11.q3, iy11.q0, iy11.q1, iy11.q2, iy11.q3⟩ (fun hHeld => ?_)
      clear hK K
      refine norm_ (a' := ?_) ?_ ?_
      rotate_left
      · show Act.put _ (some 75) _ = _
        simp only [Act.put, List.setIfInBounds_toArray, List.set_cons_zero, List.set_cons_succ, i64_w, i32_w]
        rfl
      refine one_ (i := 32) (N := some 77) #[true, true, true, true, true, true, true, true, true, true, true, true, true, true, true, true, true, true, true, true, true, true, true, true, true, true, true, true, true, true, true, true, true, false, false, false, false, false, false, false, false, false, false, false, false] rfl rfl (by kernel_rfl) (by decide) (fun K hK => ?_)
      refine goes_ Tryd.func29 (by kernel_rfl) rfl #[agg x A2 c2 A3 c3] (by rfl) rfl rfl (by simp only [List.map_toArray, List.map_cons, List.map_nil]; rfl) ?_
      with_reducible refine (CJ.out _ ix11.has).mono ?_
      rintro e w12 ⟨A8, c8, rfl, hl8, hC8, b12⟩
      refine ⟨_, rfl, ?_⟩
      have ix12 := ix11.later b12
      have iy12 := iy11.later b12
      have BX12 := below_then BX11 BX11.size b12
      have hC7x := Kd.C_below hC7 b12
      refine hK.out _ _ ⟨ix12.q0, ix12.q1, ix12.q2, ix12.q3, iy12.q0, iy12.q1, iy12.q2, iy12.q3⟩ (fun hHeld => ?_)
      clear hK K
      refine norm_ (a' := ?_) ?_ ?_
      rotate_left
      · show Act.put _ (some 77) _ = _
        simp only [Act.put, List.setIfInBounds_toArray, List.set_cons_zero, List.set_cons_succ, i64_w, i32_w]
        rfl
      refine one_ (i := 33) (N := some 78) #[true, true, true, true, true, true, true, true, true, true, true, true, true, true, true, true, true, true, true, true, true, true, true, true, true, true, true, true, true, true, true, true, true, true, false, false, false, false, false, false, false, false, false, false, false] rfl rfl (by kernel_rfl) (by decide) (fun K hK => ?_)
      refine goes_ Tryd.func15 (by kernel_rfl) rfl #[.slice A7 l.length c7, .slice A8 l.length c8] (by rfl) rfl rfl (by simp only [List.map_toArray, List.map_cons, List.map_nil]; rfl) ?_
      with_reducible refine (Texts_calls l A7 c7 A8 c8 _ hC7x hl7 hC8 hl8 HLL.out).mono ?_
      rintro e w13 ⟨rfl, b13⟩
      refine ⟨_, rfl, ?_⟩
      have ix13 := ix12.later b13
      have iy13 := iy12.later b13
      have BX13 := below_then BX12 BX12.size b13
      refine hK.out _ _ ⟨ix13.q0, ix13.q1, ix13.q2, ix13.q3, iy13.q0, iy13.q1, iy13.q2, iy13.q3⟩ (fun hHeld => ?_)
      clear hK K
      refine norm_ (a' := ?_) ?_ ?_
      rotate_left
      · show Act.put _ (some 78) _ = _
        simp only [Act.put, List.setIfInBounds_toArray, List.set_cons_zero, List.set_cons_succ, i64_w, i32_w]
        rfl
      refine pure_ (i := 34) (N := some 79) (v := ?_) (a' := ?_) #[true, true, true, true, true, true, true, true, true, true, true, true, true, true, true, true, true, true, true, true, true, true, true, true, true, true, true, true, true, true, true, true, true, true, true, false, false, false, false, false, false, false, false, false, false] rfl rfl (by kernel_rfl) (fun _ _ _ h => h) (Or.inl ⟨by rfl, ?_⟩) ?_ ?_
      rotate_left
      · intro w'
        go_simp
        with_reducible rfl
      rotate_left
      · simp only [Act.put, List.setIfInBounds_toArray, List.set_cons_zero, List.set_cons_succ, i64_w, i32_w]
        rfl
      refine pure_ (i := 35) (N := some 80) (v := ?_) (a' := ?_) #[true, true, true, true, true, true, true, true, true, true, true, true, true, true, true, true, true, true, true, true, true, true, true, true, true, true, true, true, true, true, true, true, true, true, true, true, false, false, false, false, false, false, false, false, false] rfl rfl (by kernel_rfl) (fun _ _ _ h => h) (Or.inl ⟨by rfl, ?_⟩) ?_ ?_
      rotate_left
      · intro w'
        go_simp
        with_reducible rfl
      rotate_left
      · simp only [Act.put, List.setIfInBounds_toArray, List.set_cons_zero, List.set_cons_succ, i64_w, i32_w]
        rfl
      refine take_ (i := 36) (N := some 81) (v := ?_) (a' := ?_) #[true, true, true, true, true, true, true, true, true, true, true, true, true, true, true, true, true, true, true, true, true, true, true, true, true, true, true, true, true, true, true, true, true, true, true, true, true, false, false, false, false, false, false, false, false] rfl rfl (by kernel_rfl) (fun _ _ _ h => h) (Or.inl ⟨by rfl, ?_⟩) hHeld ?_ ?_
      rotate_left
      · rintro w' ⟨s0, s1, s2, s3, s4, s5, s6, s7⟩
        go_simp
        with_reducible rfl
      rotate_left
      · simp only [Act.put, List.setIfInBounds_toArray, List.set_cons_zero, List.set_cons_succ, i64_w, i32_w]
        rfl
      refine take_ (i := 38) (N := some 83) (v := ?_) (a' := ?_) #[true, true, true, true, true, true, true, true, true, true, true, true, true, true, true, true, true, true, true, true, true, true, true, true, true, true, true, true, true, true, true, true, true, true, true, true, true, false, true, false, false, false, false, false, false] rfl rfl (by kernel_rfl) (fun _ _ _ h => h) (Or.inl ⟨by rfl, ?_⟩) hHeld ?_ ?_
      rotate_left
      · rintro w' ⟨s0, s1, s2, s3, s4, s5, s6, s7⟩
        go_simp
        with_reducible rfl
      rotate_left
      · simp only [Act.put, List.setIfInBounds_toArray, List.set_cons_zero, List.set_cons_succ, i64_w, i32_w]
        rfl
      refine one_ (i := 37) (N := some 82) #[true, true, true, true, true, true, true, true, true, true, true, true, true, true, true, true, true, true, true, true, true, true, true, true, true, true, true, true, true, true, true, true, true, true, true, true, true, true, true, false, false, false, false, false, false] rfl rfl (by kernel_rfl) (by decide) (fun K hK => ?_)
      refine goes_ Tryd.func30 (by kernel_rfl) rfl #[agg x A2 c2 A3 c3] (by rfl) rfl rfl (by simp only [List.map_toArray, List.map_cons, List.map_nil]; rfl) ?_
      with_reducible refine (CK.out _ ix13.has).mono ?_
      rintro e w14 ⟨v2, v3, rfl, hT, b14⟩
      refine ⟨_, rfl, ?_⟩
      have ix14 := ix13.later b14
      have iy14 := iy13.later b14
      have BX14 := below_then BX13 BX13.size b14
      obtain ⟨F2, p2, F3, p3, rfl, rfl, hxc⟩ := OwnT_has hT WFX.out CX40.out
      refine hK.out _ _ ⟨ix14.q0, ix14.q1, ix14.q2, ix14.q3, iy14.q0, iy14.q1, iy14.q2, iy14.q3⟩ (fun hHeld => ?_)
      clear hK K
      refine norm_ (a' := ?_) ?_ ?_
      rotate_left
      · show Act.put _ (some 82) _ = _
        simp only [Act.put, List.setIfInBounds_toArray, List.set_cons_zero, List.set_cons_succ, i64_w, i32_w]
        rfl
      refine one_ (i := 39) (N := some 84) #[true, true, true, true, true, true, true, true, true, true, true, true, true, true, true, true, true, true, true, true, true, true, true, true, true, true, true, true, true, true, true, true, true, true, true, true, true, true, true, true, false, false, false, false, false] rfl rfl (by kernel_rfl) (by decide) (fun K hK => ?_)
      refine goes_ Tryd.func28 (by kernel_rfl) rfl #[agg x F2 p2 F3 p3, agg x A2 c2 A3 c3] (by rfl) rfl rfl (by simp only [List.map_toArray, List.map_cons, List.map_nil]; rfl) ?_
      with_reducible refine (CM.out _ F2 p2 F3 p3 hxc ix14.has).mono ?_
      rintro e w15 ⟨rfl, b15⟩
      refine ⟨_, rfl, ?_⟩
      have ix15 := ix14.later b15
      have iy15 := iy14.later b15
      have BX15 := below_then BX14 BX14.size b15
      refine hK.out _ _ ⟨ix15.q0, ix15.q1, ix15.q2, ix15.q3, iy15.q0, iy15.q1, iy15.q2, iy15.q3⟩ (fun hHeld => ?_)
      clear hK K
      refine norm_ (a' := ?_) ?_ ?_
      rotate_left
      · show Act.put _ (some 84) _ = _
        simp only [Act.put, List.setIfInBounds_toArray, List.set_cons_zero, List.set_cons_succ, i64_w, i32_w]
        rfl
      refine pure_ (i := 40) (N := some 85) (v := ?_) (a' := ?_) #[true, true, true, true, true, true, true, true, true, true, true, true, true, true, true, true, true, true, true, true, true, true, true, true, true, true, true, true, true, true, true, true, true, true, true, true, true, true, true, true, true, false, false, false, false] rfl rfl (by kernel_rfl) (fun _ _ _ h => h) (Or.inl ⟨by rfl, ?_⟩) ?_ ?_
      rotate_left
      · intro w'
        go_simp
        with_reducible rfl
      rotate_left
      · simp only [Act.put, List.setIfInBounds_toArray, List.set_cons_zero, List.set_cons_succ, i64_w, i32_w]
        rfl
      refine pure_ (i := 41) (N := some 86) (v := ?_) (a' := ?_) #[true, true, true, true, true, true, true, true, true, true, true, true, true, true, true, true, true, true, true, true, true, true, true, true, true, true, true, true, true, true, true, true, true, true, true, true, true, true, true, true, true, true, false, false, false] rfl rfl (by kernel_rfl) (fun _ _ _ h => h) (Or.inl ⟨by rfl, ?_⟩) ?_ ?_
      rotate_left
      · intro w'
        go_simp
        with_reducible rfl
      rotate_left
      · simp only [Act.put, List.setIfInBounds_toArray, List.set_cons_zero, List.set_cons_succ, i64_w, i32_w]
        rfl
      refine one_ (i := 42) (N := some 87) #[true, true, true, true, true, true, true, true, true, true, true, true, true, true, true, true, true, true, true, true, true, true, true, true, true, true, true, true, true, true, true, true, true, true, true, true, true, true, true, true, true, true, true, false, false] rfl rfl (by kernel_rfl) (by decide) (fun K hK => ?_)
      refine goes_ Tryd.func12 (by kernel_rfl) rfl #[] (by rfl) rfl rfl (by simp only [List.map_toArray, List.map_cons, List.map_nil]) ?_
      with_reducible refine (CO.out _).mono ?_
      rintro e w16 ⟨rfl, b16⟩
      refine ⟨_, rfl, ?_⟩
      have ix16 := ix15.later b16
      have iy16 := iy15.later b16
      have BX16 := below_then BX15 BX15.size b16
      refine hK.out _ _ ⟨ix16.q0, ix16.q1, ix16.q2, ix16.q3, iy16.q0, iy16.q1, iy16.q2, iy16.q3⟩ (fun hHeld => ?_)
      clear hK K
      refine norm_ (a' := ?_) ?_ ?_
      rotate_left
      · show Act.put _ (some 87) _ = _
        simp only [Act.put, List.setIfInBounds_toArray, List.set_cons_zero, List.set_cons_succ, i64_w, i32_w]
        rfl
      refine pure_ (i := 43) (N := some 88) (v := ?_) (a' := ?_) #[true, true, true, true, true, true, true, true, true, true, true, true, true, true, true, true, true, true, true, true, true, true, true, true, true, true, true, true, true, true, true, true, true, true, true, true, true, true, true, true, true, true, true, true, false] rfl rfl (by kernel_rfl) (fun _ _ _ h => h) (Or.inl ⟨by rfl, ?_⟩) ?_ ?_
      rotate_left
      · intro w'
        go_simp
        with_reducible rfl
      rotate_left
      · simp only [Act.put, List.setIfInBounds_toArray, List.set_cons_zero, List.set_cons_succ, i64_w, i32_w]
        rfl
      refine pure_ (i := 44) (N := some 6) (v := ?_) (a' := ?_) #[true, true, true, true, true, true, true, true, true, true, true, true, true, true, true, true, true, true, true, true, true, true, true, true, true, true, true, true, true, true, true, true, true, true, true, true, true, true, true, true, true, true, true, true, true] rfl rfl (by kernel_rfl) (fun _ _ _ h => h) (Or.inl ⟨by rfl, ?_⟩) ?_ ?_
      rotate_left
      · intro w'
        go_simp
        with_reducible rfl
      rotate_left
      · simp only [Act.put, List.setIfInBounds_toArray, List.set_cons_zero, List.set_cons_succ, i64_w, i32_w]
        rfl
      refine done_ (by kernel_rfl) ?_
      have BF := Aside0.mk BX16
      clear hHeld BX2 BX3 BX4 BX5 BX6 BX7 BX8 BX9 BX10 BX11 BX12 BX13 BX14 BX15 BX16 ix2 ix3 ix4 ix5 ix6 ix7 ix8 ix9 ix10 ix11 ix12 ix13 ix14 ix15 ix16 iy2 iy3 iy4 iy5 iy6 iy7 iy8 iy9 iy10 iy11 iy12 iy13 iy14 iy15 iy16
      go_wp2
      go_ret
      exact ⟨rfl, BF.out⟩
    · rw [decide_eq_false s2] at CT
      clear s1 s2
      go_enter Tryd.func4, Tryd.ntmps4
      go_wp2_with fail
      (with_reducible refine CS0.out.mono ?_)
      rintro e w1 ⟨rfl, b1⟩
      have BX1 := Aside0.mk (below_then BX0.out BX0.out.size b1)
      have iy := IY0.out.later b1
      have q0 := iy.q0
      have q1 := iy.q1
      have q2 := iy.q2
      have q3 := iy.q3
      have CT0 := Aside0.mk (CT.out _ iy.has)
      clear iy b1
      go_wp2_with fail
      (with_reducible refine CT0.out.mono ?_)
      rintro e wb ⟨rfl, b2⟩
      have BXb := Aside0.mk (below_then BX1.out BX1.out.size b2)
      clear b2 q0 q1 q2 q3 CT0
      go_wp2_with fail
      (with_reducible refine (CO.out _).mono ?_)
      rintro e wc ⟨rfl, b3⟩
      have BXc := Aside0.mk (below_then BXb.out BXb.out.size b3)
      clear b3
      go_wp2
      go_ret
      exact ⟨rfl, BXc.out⟩
  · rw [decide_eq_false s1] at CS0
    clear s1
    go_enter Tryd.func4, Tryd.ntmps4
    go_wp2_with fail
    (with_reducible refine CS0.out.mono ?_)
    rintro e w1 ⟨rfl, b1⟩
    have BX1 := Aside0.mk (below_then BX0.out BX0.out.size b1)
    clear b1
    go_wp2_with fail
    (with_reducible refine (CO.out _).mono ?_)
    rintro e wc ⟨rfl, b3⟩
    have BXc := Aside0.mk (below_then BX1.out BX1.out.size b3)
    clear b3
    go_wp2
    go_ret
    exact ⟨rfl, BXc.out⟩
end Go.Proofs.YtjeofffddbibeaaDoor.Ex
