/-
  ExprCopies, the law: the walk.
-/
import Derived.Test.YtjeofffddbibeaaDoorThree
import Derived.Test.YtjeofffddbibeaaDoorExprL
namespace Go.Proofs.YtjeofffddbibeaaDoor.Ex
open Go Go.RowKit Go.Proofs.YtjeofffddbibeaaDoor.PExprTells Go.Proofs.YtjeofffddbibeaaDoorW.PrintWords Go.Proofs.YtjeofffddbibeaaDoorW.PrintLast Go.Proofs.YtjeofffddbibeaaDoorW.PrintMore
set_option linter.unusedVariables false
set_option linter.unusedSimpArgs false

set_option maxHeartbeats 16000000 in
set_option maxRecDepth 100000 in
theorem ExprCopies_walk (x : X) (A2 : Option Addr) (c2 : Nat) (A3 : Option Addr) (c3 : Nat) (ws : List Int) (Aw : Option Addr) (cw : Nat) (how : Int) (w : World) (hx : Has w x A2 c2 A3 c3) (hws : (Kd.int .u8).C w Aw ws.length ws) (hwb : ∀ v ∈ ws, 0 ≤ v ∧ v ≤ 255) (hwl : ws.length ≤ 1048576) (h0 : 0 ≤ how) (h255 : how ≤ 255) (hwz : wz x ≤ 1048576) :
    Calls Tryd.prog 5 #[agg x A2 c2 A3 c3, .slice Aw ws.length cw, .int .u8 how] w fun e w' => e = .returned (.bool true) ∧ Below w.heap.size w w' := by
  have hwx : wt x ≤ 1048576 := Nat.le_trans (wt_wz _ x (Nat.le_refl _)) hwz
  have HWZ := Aside0.mk hwz
  have HQ := Aside0.mk h0
  have HQ2 := Aside0.mk h255
  have hcx : cnt x ≤ 1099511627776 := by have := cnt_wt _ x (Nat.le_refl _); omega
  have HWX := Aside0.mk (show wt x ≤ 1099511627776 by omega)
  have WFX := Aside0.mk hx.wf
  have HX := Aside0.mk hx
  have CO := Aside0.mk (fun w => awake_calls w)
  have ix := InBox.new hx 25 w.heap.size rfl
  have CS0 := Aside0.mk (small_calls x A2 c2 A3 c3 _ ix.has hcx)
  have IX0 := Aside0.mk ix
  have BX0 := Aside0.mk (below_alloc (Below.refl w.heap.size w) (.cells #[.int .u8 x.f0, .string x.f1, .slice A2 x.f2.length c2, .slice A3 x.f3.length c3] 25))
  have CA := Aside0.mk (fun (w : World) A2 c2 A3 c3 (h : Has w x A2 c2 A3 c3) => Count_calls x A2 c2 A3 c3 w h hcx)
  have CC := Aside0.mk (fun (w : World) A2 c2 A3 c3 (h : Has w x A2 c2 A3 c3) => Depth_calls x A2 c2 A3 c3 w h hcx)
  have CI := Aside0.mk (fun (w : World) A2 c2 A3 c3 (h : Has w x A2 c2 A3 c3) => Names_rd x A2 c2 A3 c3 w h hcx)
  have hss := sameX_self (cnt x) x (Nat.le_refl _)
  have CG := Aside0.mk (fun (w : World) A2 c2 A3 c3 B2 d2 B3 d3 (h : Has w x A2 c2 A3 c3) (k : Has w x B2 d2 B3 d3) => Same_calls (cnt x) x x A2 c2 A3 c3 B2 d2 B3 d3 w (Nat.le_refl _) h k)
  rw [hss] at CG
  have hll : (addAll [] (namesX x)).length ≤ 4611686018427387904 := by have := names_cnt x; omega
  have HLL := Aside0.mk hll
  have CX40 := Aside0.mk hcx
  clear hll hss
  generalize addAll [] (namesX x) = l at *
  have HWS := Aside0.mk hws
  have HWB := Aside0.mk hwb
  clear ix hx hws hwb hwx hwz
  by_cases s1 : cnt x ≤ 3000
  · rw [decide_eq_true s1] at CS0
    clear s1
    go_enter Tryd.func5, Tryd.ntmps5
    go_wp2_with fail
    (with_reducible refine CS0.out.mono ?_)
    rintro e w1 ⟨rfl, b1⟩
    have st0 : St w x A2 c2 A3 c3 none none none none w1.drew := ⟨(IX0.out.later b1).dr 1, below_drew (below_then BX0.out BX0.out.size b1), (fun _ h => by cases h), (fun _ h => by cases h), (fun _ _ h => by cases h), (fun _ h => by cases h), (fun _ h => by cases h), (fun _ _ h => by cases h)⟩
    clear b1 IX0 BX0 CS0
    go_wp2_with fail
    refine start_ (n := 8) (S := fun w' => w'.cell? ⟨w.heap.size, 0, none⟩ = some (.int .u8 x.f0) ∧ w'.cell? ⟨w.heap.size, 1, none⟩ = some (.string x.f1) ∧ w'.cell? ⟨w.heap.size, 2, none⟩ = some (.slice A2 x.f2.length c2) ∧ w'.cell? ⟨w.heap.size, 3, none⟩ = some (.slice A3 x.f3.length c3)) (ds := [6, 7]) #[false, false, false, false, false, false, false, false] (by kernel_rfl) rfl rfl ⟨st0.box.q0, st0.box.q1, st0.box.q2, st0.box.q3⟩ (fun hHeld => ?_)
    refine take_ (i := 0) (N := some 16) (v := ?_) (a' := ?_) #[true, false, false, false, false, false, false, false] rfl rfl (by kernel_rfl) (fun _ _ _ h => h) (Or.inl ⟨by rfl, ?_⟩) hHeld ?_ ?_
    rotate_left
    · rintro w' ⟨s0, s1, s2, s3⟩
      go_simp
      with_reducible rfl
    rotate_left
    · simp only [Act.put, List.setIfInBounds_toArray, List.set_cons_zero, List.set_cons_succ, i64_w, i32_w]
      rfl
    refine take_ (i := 2) (N := some 18) (v := ?_) (a' := ?_) #[true, false, true, false, false, false, false, false] rfl rfl (by kernel_rfl) (fun _ _ _ h => h) (Or.inl ⟨by rfl, ?_⟩) hHeld ?_ ?_
    rotate_left
    · rintro w' ⟨s0, s1, s2, s3⟩
      go_simp
      with_reducible rfl
    rotate_left
    · simp only [Act.put, List.setIfInBounds_toArray, List.set_cons_zero, List.set_cons_succ, i64_w, i32_w]
      rfl
    refine join_ (σ := Cp × Cp × Nat × Nat) 2 #[true, true, true, true, true, true, false, false] (fun s => [(17, .agg #[.int .u8 x.f0, .string x.f1, s.1.v2, s.1.v3]), (19, .agg #[.int .u8 x.f0, .string x.f1, s.2.1.v2, s.2.1.v3]), (7, .pointer (some ⟨s.2.2.1, 0, none⟩)), (8, .pointer (some ⟨s.2.2.2, 0, none⟩))]) (fun s w' => St w x A2 c2 A3 c3 (some s.1) (some s.2.1) (some s.2.2.1) (some s.2.2.2) w') ?_ ?_
    rotate_left
    · intro hCont
      refine three_ (i := 1) (j := 4) (k := 5) (Ni := some 17) (Nj := some 7) (Nk := some 8) #[true, true, true, false, false, false, false, false] #[true, false, true, false, true, false, false, false] #[true, false, true, false, false, true, false, false] rfl rfl rfl rfl rfl rfl (by kernel_rfl) (by decide) (by decide) (by decide) (fun K hK => ?_) (fun K hK => ?_) (fun K hK => ?_)
      · skip
        refine goes_ Tryd.func30 (by kernel_rfl) rfl #[agg x A2 c2 A3 c3] (by rfl) rfl rfl (by simp only [List.map_toArray, List.map_cons, List.map_nil]; rfl) ?_
        with_reducible refine (Copy_calls (cnt x) x A2 c2 A3 c3 _ (Nat.le_refl _) HWX.out st0.box.has).mono ?_
        rintro e wq1 ⟨u1, t1, rfl, hT1, b1⟩
        refine ⟨_, rfl, ?_⟩
        have st1 := st0.copy1 b1 hT1
        refine hK.out _ _ ⟨st1.box.q0, st1.box.q1, st1.box.q2, st1.box.q3⟩ (fun hHeld => ?_)
        clear hK K
        refine norm_ (a' := ?_) ?_ ?_
        rotate_left
        · show Act.put _ (some 17) _ = _
          simp only [Act.put, List.setIfInBounds_toArray, List.set_cons_zero, List.set_cons_succ, i64_w, i32_w]
          rfl
        refine three_ (i := 3) (j := 4) (k := 5) (Ni := some 19) (Nj := some 7) (Nk := some 8) #[true, true, true, true, false, false, false, false] #[true, true, true, false, true, false, false, false] #[true, true, true, false, false, true, false, false] rfl rfl rfl rfl rfl rfl (by kernel_rfl) (by decide) (by decide) (by decide) (fun K hK => ?_) (fun K hK => ?_) (fun K hK => ?_)
        · skip
          refine goes_ Tryd.func30 (by kernel_rfl) rfl #[agg x A2 c2 A3 c3] (by rfl) rfl rfl (by simp only [List.map_toArray, List.map_cons, List.map_nil]; rfl) ?_
          with_reducible refine (Copy_calls (cnt x) x A2 c2 A3 c3 _ (Nat.le_refl _) HWX.out st1.box.has).mono ?_
          rintro e wq2 ⟨u2, t2, rfl, hT2, b2⟩
          refine ⟨_, rfl, ?_⟩
          have st2 := st1.copy2 b2 hT2
          refine hK.out _ _ ⟨st2.box.q0, st2.box.q1, st2.box.q2, st2.box.q3⟩ (fun hHeld => ?_)
          clear hK K
          refine norm_ (a' := ?_) ?_ ?_
          rotate_left
          · show Act.put _ (some 19) _ = _
            simp only [Act.put, List.setIfInBounds_toArray, List.set_cons_zero, List.set_cons_succ, i64_w, i32_w]
            rfl
          refine two_ (i := 4) (j := 5) (Ni := some 7) (Nj := some 8) #[true, true, true, true, true, false, false, false] #[true, true, true, true, false, true, false, false] rfl rfl rfl rfl (by kernel_rfl) (by decide) (by decide) (fun K hK => ?_) (fun K hK => ?_)
          · skip
            refine value_ (w1 := ?_) (v := ?_) (by rfl) rfl ?_ ?_
            rotate_left 2
            · go_simp
              constructor
              · rfl
              · rfl
            obtain ⟨wq3, hwq3⟩ : ∃ z : World, z = (wq2).alloc (.cells zeroCells4 25) := ⟨_, rfl⟩
            have st3 := st2.allocY
            rw [← hwq3] at st3
            change K _ ((wq2).alloc (.cells zeroCells4 25))
            rw [← hwq3]
            clear hwq3
            refine hK.out _ _ ⟨st3.box.q0, st3.box.q1, st3.box.q2, st3.box.q3⟩ (fun hHeld => ?_)
            clear hK K
            refine norm_ (a' := ?_) ?_ ?_
            rotate_left
            · show Act.put _ (some 7) _ = _
              simp only [Act.put, List.setIfInBounds_toArray, List.set_cons_zero, List.set_cons_succ, i64_w, i32_w]
              rfl
            refine one_ (i := 5) (N := some 8) #[true, true, true, true, true, true, false, false] rfl rfl (by kernel_rfl) (by decide) (fun K hK => ?_)
            refine value_ (w1 := ?_) (v := ?_) (by rfl) rfl ?_ ?_
            rotate_left 2
            · go_simp
              constructor
              · rfl
              · rfl
            obtain ⟨wq4, hwq4⟩ : ∃ z : World, z = (wq3).alloc (.cells zeroCells4 25) := ⟨_, rfl⟩
            have st4 := st3.allocK
            rw [← hwq4] at st4
            change K _ ((wq3).alloc (.cells zeroCells4 25))
            rw [← hwq4]
            clear hwq4
            refine hK.out _ _ ⟨st4.box.q0, st4.box.q1, st4.box.q2, st4.box.q3⟩ (fun hHeld => ?_)
            clear hK K
            refine norm_ (a' := ?_) ?_ ?_
            rotate_left
            · show Act.put _ (some 8) _ = _
              simp only [Act.put, List.setIfInBounds_toArray, List.set_cons_zero, List.set_cons_succ, i64_w, i32_w]
              rfl
            exact norm_ (by first | rfl | (simp only [putAll, Act.put, List.setIfInBounds_toArray, List.set_cons_zero, List.set_cons_succ]; done) | (simp only [putAll, Act.put, List.setIfInBounds_toArray, List.set_cons_zero, List.set_cons_succ]; rfl)) (hCont ⟨_, _, _, _⟩ _ st4)
          · skip
            refine value_ (w1 := ?_) (v := ?_) (by rfl) rfl ?_ ?_
            rotate_left 2
            · go_simp
              constructor
              · rfl
              · rfl
            obtain ⟨wq3, hwq3⟩ : ∃ z : World, z = (wq2).alloc (.cells zeroCells4 25) := ⟨_, rfl⟩
            have st3 := st2.allocK
            rw [← hwq3] at st3
            change K _ ((wq2).alloc (.cells zeroCells4 25))
            rw [← hwq3]
            clear hwq3
            refine hK.out _ _ ⟨st3.box.q0, st3.box.q1, st3.box.q2, st3.box.q3⟩ (fun hHeld => ?_)
            clear hK K
            refine norm_ (a' := ?_) ?_ ?_
            rotate_left
            · show Act.put _ (some 8) _ = _
              simp only [Act.put, List.setIfInBounds_toArray, List.set_cons_zero, List.set_cons_succ, i64_w, i32_w]
              rfl
            refine one_ (i := 4) (N := some 7) #[true, true, true, true, true, true, false, false] rfl rfl (by kernel_rfl) (by decide) (fun K hK => ?_)
            refine value_ (w1 := ?_) (v := ?_) (by rfl) rfl ?_ ?_
            rotate_left 2
            · go_simp
              constructor
              · rfl
              · rfl
            obtain ⟨wq4, hwq4⟩ : ∃ z : World, z = (wq3).alloc (.cells zeroCells4 25) := ⟨_, rfl⟩
            have st4 := st3.allocY
            rw [← hwq4] at st4
            change K _ ((wq3).alloc (.cells zeroCells4 25))
            rw [← hwq4]
            clear hwq4
            refine hK.out _ _ ⟨st4.box.q0, st4.box.q1, st4.box.q2, st4.box.q3⟩ (fun hHeld => ?_)
            clear hK K
            refine norm_ (a' := ?_) ?_ ?_
            rotate_left
            · show Act.put _ (some 7) _ = _
              simp only [Act.put, List.setIfInBounds_toArray, List.set_cons_zero, List.set_cons_succ, i64_w, i32_w]
              rfl
            exact norm_ (by first | rfl | (simp only [putAll, Act.put, List.setIfInBounds_toArray, List.set_cons_zero, List.set_cons_succ]; done) | (simp only [putAll, Act.put, List.setIfInBounds_toArray, List.set_cons_zero, List.set_cons_succ]; rfl)) (hCont ⟨_, _, _, _⟩ _ st4)
        · skip
          refine value_ (w1 := ?_) (v := ?_) (by rfl) rfl ?_ ?_
          rotate_left 2
          · go_simp
            constructor
            · rfl
            · rfl
          obtain ⟨wq2, hwq2⟩ : ∃ z : World, z = (wq1).alloc (.cells zeroCells4 25) := ⟨_, rfl⟩
          have st2 := st1.allocY
          rw [← hwq2] at st2
          change K _ ((wq1).alloc (.cells zeroCells4 25))
          rw [← hwq2]
          clear hwq2
          refine hK.out _ _ ⟨st2.box.q0, st2.box.q1, st2.box.q2, st2.box.q3⟩ (fun hHeld => ?_)
          clear hK K
          refine norm_ (a' := ?_) ?_ ?_
          rotate_left
          · show Act.put _ (some 7) _ = _
            simp only [Act.put, List.setIfInBounds_toArray, List.set_cons_zero, List.set_cons_succ, i64_w, i32_w]
            rfl
          refine two_ (i := 3) (j := 5) (Ni := some 19) (Nj := some 8) #[true, true, true, true, true, false, false, false] #[true, true, true, false, true, true, false, false] rfl rfl rfl rfl (by kernel_rfl) (by decide) (by decide) (fun K hK => ?_) (fun K hK => ?_)
          · skip
            refine goes_ Tryd.func30 (by kernel_rfl) rfl #[agg x A2 c2 A3 c3] (by rfl) rfl rfl (by simp only [List.map_toArray, List.map_cons, List.map_nil]; rfl) ?_
            with_reducible refine (Copy_calls (cnt x) x A2 c2 A3 c3 _ (Nat.le_refl _) HWX.out st2.box.has).mono ?_
            rintro e wq3 ⟨u3, t3, rfl, hT3, b3⟩
            refine ⟨_, rfl, ?_⟩
            have st3 := st2.copy2 b3 hT3
            refine hK.out _ _ ⟨st3.box.q0, st3.box.q1, st3.box.q2, st3.box.q3⟩ (fun hHeld => ?_)
            clear hK K
            refine norm_ (a' := ?_) ?_ ?_
            rotate_left
            · show Act.put _ (some 19) _ = _
              simp only [Act.put, List.setIfInBounds_toArray, List.set_cons_zero, List.set_cons_succ, i64_w, i32_w]
              rfl
            refine one_ (i := 5) (N := some 8) #[true, true, true, true, true, true, false, false] rfl rfl (by kernel_rfl) (by decide) (fun K hK => ?_)
            refine value_ (w1 := ?_) (v := ?_) (by rfl) rfl ?_ ?_
            rotate_left 2
            · go_simp
              constructor
              · rfl
              · rfl
            obtain ⟨wq4, hwq4⟩ : ∃ z : World, z = (wq3).alloc (.cells zeroCells4 25) := ⟨_, rfl⟩
            have st4 := st3.allocK
            rw [← hwq4] at st4
            change K _ ((wq3).alloc (.cells zeroCells4 25))
            rw [← hwq4]
            clear hwq4
            refine hK.out _ _ ⟨st4.box.q0, st4.box.q1, st4.box.q2, st4.box.q3⟩ (fun hHeld => ?_)
            clear hK K
            refine norm_ (a' := ?_) ?_ ?_
            rotate_left
            · show Act.put _ (some 8) _ = _
              simp only [Act.put, List.setIfInBounds_toArray, List.set_cons_zero, List.set_cons_succ, i64_w, i32_w]
              rfl
            exact norm_ (by first | rfl | (simp only [putAll, Act.put, List.setIfInBounds_toArray, List.set_cons_zero, List.set_cons_succ]; done) | (simp only [putAll, Act.put, List.setIfInBounds_toArray, List.set_cons_zero, List.set_cons_succ]; rfl)) (hCont ⟨_, _, _, _⟩ _ st4)
          · skip
            refine value_ (w1 := ?_) (v := ?_) (by rfl) rfl ?_ ?_
            rotate_left 2
            · go_simp
              constructor
              · rfl
              · rfl
            obtain ⟨wq3, hwq3⟩ : ∃ z : World, z = (wq2).alloc (.cells zeroCells4 25) := ⟨_, rfl⟩
            have st3 := st2.allocK
            rw [← hwq3] at st3
            change K _ ((wq2).alloc (.cells zeroCells4 25))
            rw [← hwq3]
            clear hwq3
            refine hK.out _ _ ⟨st3.box.q0, st3.box.q1, st3.box.q2, st3.box.q3⟩ (fun hHeld => ?_)
            clear hK K
            refine norm_ (a' := ?_) ?_ ?_
            rotate_left
            · show Act.put _ (some 8) _ = _
              simp only [Act.put, List.setIfInBounds_toArray, List.set_cons_zero, List.set_cons_succ, i64_w, i32_w]
              rfl
            refine one_ (i := 3) (N := some 19) #[true, true, true, true, true, true, false, false] rfl rfl (by kernel_rfl) (by decide) (fun K hK => ?_)
            refine goes_ Tryd.func30 (by kernel_rfl) rfl #[agg x A2 c2 A3 c3] (by rfl) rfl rfl (by simp only [List.map_toArray, List.map_cons, List.map_nil]; rfl) ?_
            with_reducible refine (Copy_calls (cnt x) x A2 c2 A3 c3 _ (Nat.le_refl _) HWX.out st3.box.has).mono ?_
            rintro e wq4 ⟨u4, t4, rfl, hT4, b4⟩
            refine ⟨_, rfl, ?_⟩
            have st4 := st3.copy2 b4 hT4
            refine hK.out _ _ ⟨st4.box.q0, st4.box.q1, st4.box.q2, st4.box.q3⟩ (fun hHeld => ?_)
            clear hK K
            refine norm_ (a' := ?_) ?_ ?_
            rotate_left
            · show Act.put _ (some 19) _ = _
              simp only [Act.put, List.setIfInBounds_toArray, List.set_cons_zero, List.set_cons_succ, i64_w, i32_w]
              rfl
            exact norm_ (by first | rfl | (simp only [putAll, Act.put, List.setIfInBounds_toArray, List.set_cons_zero, List.set_cons_succ]; done) | (simp only [putAll, Act.put, List.setIfInBounds_toArray, List.set_cons_zero, List.set_cons_succ]; rfl)) (hCont ⟨_, _, _, _⟩ _ st4)
        · skip
          refine value_ (w1 := ?_) (v := ?_) (by rfl) rfl ?_ ?_
          rotate_left 2
          · go_simp
            constructor
            · rfl
            · rfl
          obtain ⟨wq2, hwq2⟩ : ∃ z : World, z = (wq1).alloc (.cells zeroCells4 25) := ⟨_, rfl⟩
          have st2 := st1.allocK
          rw [← hwq2] at st2
          change K _ ((wq1).alloc (.cells zeroCells4 25))
          rw [← hwq2]
          clear hwq2
          refine hK.out _ _ ⟨st2.box.q0, st2.box.q1, st2.box.q2, st2.box.q3⟩ (fun hHeld => ?_)
          clear hK K
          refine norm_ (a' := ?_) ?_ ?_
          rotate_left
          · show Act.put _ (some 8) _ = _
            simp only [Act.put, List.setIfInBounds_toArray, List.set_cons_zero, List.set_cons_succ, i64_w, i32_w]
            rfl
          refine two_ (i := 3) (j := 4) (Ni := some 19) (Nj := some 7) #[true, true, true, true, false, true, false, false] #[true, true, true, false, true, true, false, false] rfl rfl rfl rfl (by kernel_rfl) (by decide) (by decide) (fun K hK => ?_) (fun K hK => ?_)
          · skip
            refine goes_ Tryd.func30 (by kernel_rfl) rfl #[agg x A2 c2 A3 c3] (by rfl) rfl rfl (by simp only [List.map_toArray, List.map_cons, List.map_nil]; rfl) ?_
            with_reducible refine (Copy_calls (cnt x) x A2 c2 A3 c3 _ (Nat.le_refl _) HWX.out st2.box.has).mono ?_
            rintro e wq3 ⟨u3, t3, rfl, hT3, b3⟩
            refine ⟨_, rfl, ?_⟩
            have st3 := st2.copy2 b3 hT3
            refine hK.out _ _ ⟨st3.box.q0, st3.box.q1, st3.box.q2, st3.box.q3⟩ (fun hHeld => ?_)
            clear hK K
            refine norm_ (a' := ?_) ?_ ?_
            rotate_left
            · show Act.put _ (some 19) _ = _
              simp only [Act.put, List.setIfInBounds_toArray, List.set_cons_zero, List.set_cons_succ, i64_w, i32_w]
              rfl
            refine one_ (i := 4) (N := some 7) #[true, true, true, true, true, true, false, false] rfl rfl (by kernel_rfl) (by decide) (fun K hK => ?_)
            refine value_ (w1 := ?_) (v := ?_) (by rfl) rfl ?_ ?_
            rotate_left 2
            · go_simp
              constructor
              · rfl
              · rfl
            obtain ⟨wq4, hwq4⟩ : ∃ z : World, z = (wq3).alloc (.cells zeroCells4 25) := ⟨_, rfl⟩
            have st4 := st3.allocY
            rw [← hwq4] at st4
            change K _ ((wq3).alloc (.cells zeroCells4 25))
            rw [← hwq4]
            clear hwq4
            refine hK.out _ _ ⟨st4.box.q0, st4.box.q1, st4.box.q2, st4.box.q3⟩ (fun hHeld => ?_)
            clear hK K
            refine norm_ (a' := ?_) ?_ ?_
            rotate_left
            · show Act.put _ (some 7) _ = _
              simp only [Act.put, List.setIfInBounds_toArray, List.set_cons_zero, List.set_cons_succ, i64_w, i32_w]
              rfl
            exact norm_ (by first | rfl | (simp only [putAll, Act.put, List.setIfInBounds_toArray, List.set_cons_zero, List.set_cons_succ]; done) | (simp only [putAll, Act.put, List.setIfInBounds_toArray, List.set_cons_zero, List.set_cons_succ]; rfl)) (hCont ⟨_, _, _, _⟩ _ st4)
          · skip
            refine value_ (w1 := ?_) (v := ?_) (by rfl) rfl ?_ ?_
            rotate_left 2
            · go_simp
              constructor
              · rfl
              · rfl
            obtain ⟨wq3, hwq3⟩ : ∃ z : World, z = (wq2).alloc (.cells zeroCells4 25) := ⟨_, rfl⟩
            have st3 := st2.allocY
            rw [← hwq3] at st3
            change K _ ((wq2).alloc (.cells zeroCells4 25))
            rw [← hwq3]
            clear hwq3
            refine hK.out _ _ ⟨st3.box.q0, st3.box.q1, st3.box.q2, st3.box.q3⟩ (fun hHeld => ?_)
            clear hK K
            refine norm_ (a' := ?_) ?_ ?_
            rotate_left
            · show Act.put _ (some 7) _ = _
              simp only [Act.put, List.setIfInBounds_toArray, List.set_cons_zero, List.set_cons_succ, i64_w, i32_w]
              rfl
            refine one_ (i := 3) (N := some 19) #[true, true, true, true, true, true, false, false] rfl rfl (by kernel_rfl) (by decide) (fun K hK => ?_)
            refine goes_ Tryd.func30 (by kernel_rfl) rfl #[agg x A2 c2 A3 c3] (by rfl) rfl rfl (by simp only [List.map_toArray, List.map_cons, List.map_nil]; rfl) ?_
            with_reducible refine (Copy_calls (cnt x) x A2 c2 A3 c3 _ (Nat.le_refl _) HWX.out st3.box.has).mono ?_
            rintro e wq4 ⟨u4, t4, rfl, hT4, b4⟩
            refine ⟨_, rfl, ?_⟩
            have st4 := st3.copy2 b4 hT4
            refine hK.out _ _ ⟨st4.box.q0, st4.box.q1, st4.box.q2, st4.box.q3⟩ (fun hHeld => ?_)
            clear hK K
            refine norm_ (a' := ?_) ?_ ?_
            rotate_left
            · show Act.put _ (some 19) _ = _
              simp only [Act.put, List.setIfInBounds_toArray, List.set_cons_zero, List.set_cons_succ, i64_w, i32_w]
              rfl
            exact norm_ (by first | rfl | (simp only [putAll, Act.put, List.setIfInBounds_toArray, List.set_cons_zero, List.set_cons_succ]; done) | (simp only [putAll, Act.put, List.setIfInBounds_toArray, List.set_cons_zero, List.set_cons_succ]; rfl)) (hCont ⟨_, _, _, _⟩ _ st4)
      · skip
        refine value_ (w1 := ?_) (v := ?_) (by rfl) rfl ?_ ?_
        rotate_left 2
        · go_simp
          constructor
          · rfl
          · rfl
        obtain ⟨wq1, hwq1⟩ : ∃ z : World, z = (w1.drew).alloc (.cells zeroCells4 25) := ⟨_, rfl⟩
        have st1 := st0.allocY
        rw [← hwq1] at st1
        change K _ ((w1.drew).alloc (.cells zeroCells4 25))
        rw [← hwq1]
        clear hwq1
        refine hK.out _ _ ⟨st1.box.q0, st1.box.q1, st1.box.q2, st1.box.q3⟩ (fun hHeld => ?_)
        clear hK K
        refine norm_ (a' := ?_) ?_ ?_
        rotate_left
        · show Act.put _ (some 7) _ = _
          simp only [Act.put, List.setIfInBounds_toArray, List.set_cons_zero, List.set_cons_succ, i64_w, i32_w]
          rfl
        refine two_ (i := 1) (j := 5) (Ni := some 17) (Nj := some 8) #[true, true, true, false, true, false, false, false] #[true, false, true, false, true, true, false, false] rfl rfl rfl rfl (by kernel_rfl) (by decide) (by decide) (fun K hK => ?_) (fun K hK => ?_)
        · skip
          refine goes_ Tryd.func30 (by kernel_rfl) rfl #[agg x A2 c2 A3 c3] (by rfl) rfl rfl (by simp only [List.map_toArray, List.map_cons, List.map_nil]; rfl) ?_
          with_reducible refine (Copy_calls (cnt x) x A2 c2 A3 c3 _ (Nat.le_refl _) HWX.out st1.box.has).mono ?_
          rintro e wq2 ⟨u2, t2, rfl, hT2, b2⟩
          refine ⟨_, rfl, ?_⟩
          have st2 := st1.copy1 b2 hT2
          refine hK.out _ _ ⟨st2.box.q0, st2.box.q1, st2.box.q2, st2.box.q3⟩ (fun hHeld => ?_)
          clear hK K
          refine norm_ (a' := ?_) ?_ ?_
          rotate_left
          · show Act.put _ (some 17) _ = _
            simp only [Act.put, List.setIfInBounds_toArray, List.set_cons_zero, List.set_cons_succ, i64_w, i32_w]
            rfl
          refine two_ (i := 3) (j := 5) (Ni := some 19) (Nj := some 8) #[true, true, true, true, true, false, false, false] #[true, true, true, false, true, true, false, false] rfl rfl rfl rfl (by kernel_rfl) (by decide) (by decide) (fun K hK => ?_) (fun K hK => ?_)
          · skip
            refine goes_ Tryd.func30 (by kernel_rfl) rfl #[agg x A2 c2 A3 c3] (by rfl) rfl rfl (by simp only [List.map_toArray, List.map_cons, List.map_nil]; rfl) ?_
            with_reducible refine (Copy_calls (cnt x) x A2 c2 A3 c3 _ (Nat.le_refl _) HWX.out st2.box.has).mono ?_
            rintro e wq3 ⟨u3, t3, rfl, hT3, b3⟩
            refine ⟨_, rfl, ?_⟩
            have st3 := st2.copy2 b3 hT3
            refine hK.out _ _ ⟨st3.box.q0, st3.box.q1, st3.box.q2, st3.box.q3⟩ (fun hHeld => ?_)
            clear hK K
            refine norm_ (a' := ?_) ?_ ?_
            rotate_left
            · show Act.put _ (some 19) _ = _
              simp only [Act.put, List.setIfInBounds_toArray, List.set_cons_zero, List.set_cons_succ, i64_w, i32_w]
              rfl
            refine one_ (i := 5) (N := some 8) #[true, true, true, true, true, true, false, false] rfl rfl (by kernel_rfl) (by decide) (fun K hK => ?_)
            refine value_ (w1 := ?_) (v := ?_) (by rfl) rfl ?_ ?_
            rotate_left 2
            · go_simp
              constructor
              · rfl
              · rfl
            obtain ⟨wq4, hwq4⟩ : ∃ z : World, z = (wq3).alloc (.cells zeroCells4 25) := ⟨_, rfl⟩
            have st4 := st3.allocK
            rw [← hwq4] at st4
            change K _ ((wq3).alloc (.cells zeroCells4 25))
            rw [← hwq4]
            clear hwq4
            refine hK.out _ _ ⟨st4.box.q0, st4.box.q1, st4.box.q2, st4.box.q3⟩ (fun hHeld => ?_)
            clear hK K
            refine norm_ (a' := ?_) ?_ ?_
            rotate_left
            · show Act.put _ (some 8) _ = _
              simp only [Act.put, List.setIfInBounds_toArray, List.set_cons_zero, List.set_cons_succ, i64_w, i32_w]
              rfl
            exact norm_ (by first | rfl | (simp only [putAll, Act.put, List.setIfInBounds_toArray, List.set_cons_zero, List.set_cons_succ]; done) | (simp only [putAll, Act.put, List.setIfInBounds_toArray, List.set_cons_zero, List.set_cons_succ]; rfl)) (hCont ⟨_, _, _, _⟩ _ st4)
          · skip
            refine value_ (w1 := ?_) (v := ?_) (by rfl) rfl ?_ ?_
            rotate_left 2
            · go_simp
              constructor
              · rfl
              · rfl
            obtain ⟨wq3, hwq3⟩ : ∃ z : World, z = (wq2).alloc (.cells zeroCells4 25) := ⟨_, rfl⟩
            have st3 := st2.allocK
            rw [← hwq3] at st3
            change K _ ((wq2).alloc (.cells zeroCells4 25))
            rw [← hwq3]
            clear hwq3
            refine hK.out _ _ ⟨st3.box.q0, st3.box.q1, st3.box.q2, st3.box.q3⟩ (fun hHeld => ?_)
            clear hK K
            refine norm_ (a' := ?_) ?_ ?_
            rotate_left
            · show Act.put _ (some 8) _ = _
              simp only [Act.put, List.setIfInBounds_toArray, List.set_cons_zero, List.set_cons_succ, i64_w, i32_w]
              rfl
            refine one_ (i := 3) (N := some 19) #[true, true, true, true, true, true, false, false] rfl rfl (by kernel_rfl) (by decide) (fun K hK => ?_)
            refine goes_ Tryd.func30 (by kernel_rfl) rfl #[agg x A2 c2 A3 c3] (by rfl) rfl rfl (by simp only [List.map_toArray, List.map_cons, List.map_nil]; rfl) ?_
            with_reducible refine (Copy_calls (cnt x) x A2 c2 A3 c3 _ (Nat.le_refl _) HWX.out st3.box.has).mono ?_
            rintro e wq4 ⟨u4, t4, rfl, hT4, b4⟩
            refine ⟨_, rfl, ?_⟩
            have st4 := st3.copy2 b4 hT4
            refine hK.out _ _ ⟨st4.box.q0, st4.box.q1, st4.box.q2, st4.box.q3⟩ (fun hHeld => ?_)
            clear hK K
            refine norm_ (a' := ?_) ?_ ?_
            rotate_left
            · show Act.put _ (some 19) _ = _
              simp only [Act.put, List.setIfInBounds_toArray, List.set_cons_zero, List.set_cons_succ, i64_w, i32_w]
              rfl
            exact norm_ (by first | rfl | (simp only [putAll, Act.put, List.setIfInBounds_toArray, List.set_cons_zero, List.set_cons_succ]; done) | (simp only [putAll, Act.put, List.setIfInBounds_toArray, List.set_cons_zero, List.set_cons_succ]; rfl)) (hCont ⟨_, _, _, _⟩ _ st4)
        · skip
          refine value_ (w1 := ?_) (v := ?_) (by rfl) rfl ?_ ?_
          rotate_left 2
          · go_simp
            constructor
            · rfl
            · rfl
          obtain ⟨wq2, hwq2⟩ : ∃ z : World, z = (wq1).alloc (.cells zeroCells4 25) := ⟨_, rfl⟩
          have st2 := st1.allocK
          rw [← hwq2] at st2
          change K _ ((wq1).alloc (.cells zeroCells4 25))
          rw [← hwq2]
          clear hwq2
          refine hK.out _ _ ⟨st2.box.q0, st2.box.q1, st2.box.q2, st2.box.q3⟩ (fun hHeld => ?_)
          clear hK K
          refine norm_ (a' := ?_) ?_ ?_
          rotate_left
          · show Act.put _ (some 8) _ = _
            simp only [Act.put, List.setIfInBounds_toArray, List.set_cons_zero, List.set_cons_succ, i64_w, i32_w]
            rfl
          refine one_ (i := 1) (N := some 17) #[true, true, true, false, true, true, false, false] rfl rfl (by kernel_rfl) (by decide) (fun K hK => ?_)
          refine goes_ Tryd.func30 (by kernel_rfl) rfl #[agg x A2 c2 A3 c3] (by rfl) rfl rfl (by simp only [List.map_toArray, List.map_cons, List.map_nil]; rfl) ?_
          with_reducible refine (Copy_calls (cnt x) x A2 c2 A3 c3 _ (Nat.le_refl _) HWX.out st2.box.has).mono ?_
          rintro e wq3 ⟨u3, t3, rfl, hT3, b3⟩
          refine ⟨_, rfl, ?_⟩
          have st3 := st2.copy1 b3 hT3
          refine hK.out _ _ ⟨st3.box.q0, st3.box.q1, st3.box.q2, st3.box.q3⟩ (fun hHeld => ?_)
          clear hK K
          refine norm_ (a' := ?_) ?_ ?_
          rotate_left
          · show Act.put _ (some 17) _ = _
            simp only [Act.put, List.setIfInBounds_toArray, List.set_cons_zero, List.set_cons_succ, i64_w, i32_w]
            rfl
          refine one_ (i := 3) (N := some 19) #[true, true, true, true, true, true, false, false] rfl rfl (by kernel_rfl) (by decide) (fun K hK => ?_)
          refine goes_ Tryd.func30 (by kernel_rfl) rfl #[agg x A2 c2 A3 c3] (by rfl) rfl rfl (by simp only [List.map_toArray, List.map_cons, List.map_nil]; rfl) ?_
          with_reducible refine (Copy_calls (cnt x) x A2 c2 A3 c3 _ (Nat.le_refl _) HWX.out st3.box.has).mono ?_
          rintro e wq4 ⟨u4, t4, rfl, hT4, b4⟩
          refine ⟨_, rfl, ?_⟩
          have st4 := st3.copy2 b4 hT4
          refine hK.out _ _ ⟨st4.box.q0, st4.box.q1, st4.box.q2, st4.box.q3⟩ (fun hHeld => ?_)
          clear hK K
          refine norm_ (a' := ?_) ?_ ?_
          rotate_left
          · show Act.put _ (some 19) _ = _
            simp only [Act.put, List.setIfInBounds_toArray, List.set_cons_zero, List.set_cons_succ, i64_w, i32_w]
            rfl
          exact norm_ (by first | rfl | (simp only [putAll, Act.put, List.setIfInBounds_toArray, List.set_cons_zero, List.set_cons_succ]; done) | (simp only [putAll, Act.put, List.setIfInBounds_toArray, List.set_cons_zero, List.set_cons_succ]; rfl)) (hCont ⟨_, _, _, _⟩ _ st4)
      · skip
        refine value_ (w1 := ?_) (v := ?_) (by rfl) rfl ?_ ?_
        rotate_left 2
        · go_simp
          constructor
          · rfl
          · rfl
        obtain ⟨wq1, hwq1⟩ : ∃ z : World, z = (w1.drew).alloc (.cells zeroCells4 25) := ⟨_, rfl⟩
        have st1 := st0.allocK
        rw [← hwq1] at st1
        change K _ ((w1.drew).alloc (.cells zeroCells4 25))
        rw [← hwq1]
        clear hwq1
        refine hK.out _ _ ⟨st1.box.q0, st1.box.q1, st1.box.q2, st1.box.q3⟩ (fun hHeld => ?_)
        clear hK K
        refine norm_ (a' := ?_) ?_ ?_
        rotate_left
        · show Act.put _ (some 8) _ = _
          simp only [Act.put, List.setIfInBounds_toArray, List.set_cons_zero, List.set_cons_succ, i64_w, i32_w]
          rfl
        refine two_ (i := 1) (j := 4) (Ni := some 17) (Nj := some 7) #[true, true, true, false, false, true, false, false] #[true, false, true, false, true, true, false, false] rfl rfl rfl rfl (by kernel_rfl) (by decide) (by decide) (fun K hK => ?_) (fun K hK => ?_)
        · skip
          refine goes_ Tryd.func30 (by kernel_rfl) rfl #[agg x A2 c2 A3 c3] (by rfl) rfl rfl (by simp only [List.map_toArray, List.map_cons, List.map_nil]; rfl) ?_
          with_reducible refine (Copy_calls (cnt x) x A2 c2 A3 c3 _ (Nat.le_refl _) HWX.out st1.box.has).mono ?_
          rintro e wq2 ⟨u2, t2, rfl, hT2, b2⟩
          refine ⟨_, rfl, ?_⟩
          have st2 := st1.copy1 b2 hT2
          refine hK.out _ _ ⟨st2.box.q0, st2.box.q1, st2.box.q2, st2.box.q3⟩ (fun hHeld => ?_)
          clear hK K
          refine norm_ (a' := ?_) ?_ ?_
          rotate_left
          · show Act.put _ (some 17) _ = _
            simp only [Act.put, List.setIfInBounds_toArray, List.set_cons_zero, List.set_cons_succ, i64_w, i32_w]
            rfl
          refine two_ (i := 3) (j := 4) (Ni := some 19) (Nj := some 7) #[true, true, true, true, false, true, false, false] #[true, true, true, false, true, true, false, false] rfl rfl rfl rfl (by kernel_rfl) (by decide) (by decide) (fun K hK => ?_) (fun K hK => ?_)
          · skip
            refine goes_ Tryd.func30 (by kernel_rfl) rfl #[agg x A2 c2 A3 c3] (by rfl) rfl rfl (by simp only [List.map_toArray, List.map_cons, List.map_nil]; rfl) ?_
            with_reducible refine (Copy_calls (cnt x) x A2 c2 A3 c3 _ (Nat.le_refl _) HWX.out st2.box.has).mono ?_
            rintro e wq3 ⟨u3, t3, rfl, hT3, b3⟩
            refine ⟨_, rfl, ?_⟩
            have st3 := st2.copy2 b3 hT3
            refine hK.out _ _ ⟨st3.box.q0, st3.box.q1, st3.box.q2, st3.box.q3⟩ (fun hHeld => ?_)
            clear hK K
            refine norm_ (a' := ?_) ?_ ?_
            rotate_left
            · show Act.put _ (some 19) _ = _
              simp only [Act.put, List.setIfInBounds_toArray, List.set_cons_zero, List.set_cons_succ, i64_w, i32_w]
              rfl
            refine one_ (i := 4) (N := some 7) #[true, true, true, true, true, true, false, false] rfl rfl (by kernel_rfl) (by decide) (fun K hK => ?_)
            refine value_ (w1 := ?_) (v := ?_) (by rfl) rfl ?_ ?_
            rotate_left 2
            · go_simp
              constructor
              · rfl
              · rfl
            obtain ⟨wq4, hwq4⟩ : ∃ z : World, z = (wq3).alloc (.cells zeroCells4 25) := ⟨_, rfl⟩
            have st4 := st3.allocY
            rw [← hwq4] at st4
            change K _ ((wq3).alloc (.cells zeroCells4 25))
            rw [← hwq4]
            clear hwq4
            refine hK.out _ _ ⟨st4.box.q0, st4.box.q1, st4.box.q2, st4.box.q3⟩ (fun hHeld => ?_)
            clear hK K
            refine norm_ (a' := ?_) ?_ ?_
            rotate_left
            · show Act.put _ (some 7) _ = _
              simp only [Act.put, List.setIfInBounds_toArray, List.set_cons_zero, List.set_cons_succ, i64_w, i32_w]
              rfl
            exact norm_ (by first | rfl | (simp only [putAll, Act.put, List.setIfInBounds_toArray, List.set_cons_zero, List.set_cons_succ]; done) | (simp only [putAll, Act.put, List.setIfInBounds_toArray, List.set_cons_zero, List.set_cons_succ]; rfl)) (hCont ⟨_, _, _, _⟩ _ st4)
          · skip
            refine value_ (w1 := ?_) (v := ?_) (by rfl) rfl ?_ ?_
            rotate_left 2
            · go_simp
              constructor
              · rfl
              · rfl
            obtain ⟨wq3, hwq3⟩ : ∃ z : World, z = (wq2).alloc (.cells zeroCells4 25) := ⟨_, rfl⟩
            have st3 := st2.allocY
            rw [← hwq3] at st3
            change K _ ((wq2).alloc (.cells zeroCells4 25))
            rw [← hwq3]
            clear hwq3
            refine hK.out _ _ ⟨st3.box.q0, st3.box.q1, st3.box.q2, st3.box.q3⟩ (fun hHeld => ?_)
            clear hK K
            refine norm_ (a' := ?_) ?_ ?_
            rotate_left
            · show Act.put _ (some 7) _ = _
              simp only [Act.put, List.setIfInBounds_toArray, List.set_cons_zero, List.set_cons_succ, i64_w, i32_w]
              rfl
            refine one_ (i := 3) (N := some 19) #[true, true, true, true, true, true, false, false] rfl rfl (by kernel_rfl) (by decide) (fun K hK => ?_)
            refine goes_ Tryd.func30 (by kernel_rfl) rfl #[agg x A2 c2 A3 c3] (by rfl) rfl rfl (by simp only [List.map_toArray, List.map_cons, List.map_nil]; rfl) ?_
            with_reducible refine (Copy_calls (cnt x) x A2 c2 A3 c3 _ (Nat.le_refl _) HWX.out st3.box.has).mono ?_
            rintro e wq4 ⟨u4, t4, rfl, hT4, b4⟩
            refine ⟨_, rfl, ?_⟩
            have st4 := st3.copy2 b4 hT4
            refine hK.out _ _ ⟨st4.box.q0, st4.box.q1, st4.box.q2, st4.box.q3⟩ (fun hHeld => ?_)
            clear hK K
            refine norm_ (a' := ?_) ?_ ?_
            rotate_left
            · show Act.put _ (some 19) _ = _
              simp only [Act.put, List.setIfInBounds_toArray, List.set_cons_zero, List.set_cons_succ, i64_w, i32_w]
              rfl
            exact norm_ (by first | rfl | (simp only [putAll, Act.put, List.setIfInBounds_toArray, List.set_cons_zero, List.set_cons_succ]; done) | (simp only [putAll, Act.put, List.setIfInBounds_toArray, List.set_cons_zero, List.set_cons_succ]; rfl)) (hCont ⟨_, _, _, _⟩ _ st4)
        · skip
          refine value_ (w1 := ?_) (v := ?_) (by rfl) rfl ?_ ?_
          rotate_left 2
          · go_simp
            constructor
            · rfl
            · rfl
          obtain ⟨wq2, hwq2⟩ : ∃ z : World, z = (wq1).alloc (.cells zeroCells4 25) := ⟨_, rfl⟩
          have st2 := st1.allocY
          rw [← hwq2] at st2
          change K _ ((wq1).alloc (.cells zeroCells4 25))
          rw [← hwq2]
          clear hwq2
          refine hK.out _ _ ⟨st2.box.q0, st2.box.q1, st2.box.q2, st2.box.q3⟩ (fun hHeld => ?_)
          clear hK K
          refine norm_ (a' := ?_) ?_ ?_
          rotate_left
          · show Act.put _ (some 7) _ = _
            simp only [Act.put, List.setIfInBounds_toArray, List.set_cons_zero, List.set_cons_succ, i64_w, i32_w]
            rfl
          refine one_ (i := 1) (N := some 17) #[true, true, true, false, true, true, false, false] rfl rfl (by kernel_rfl) (by decide) (fun K hK => ?_)
          refine goes_ Tryd.func30 (by kernel_rfl) rfl #[agg x A2 c2 A3 c3] (by rfl) rfl rfl (by simp only [List.map_toArray, List.map_cons, List.map_nil]; rfl) ?_
          with_reducible refine (Copy_calls (cnt x) x A2 c2 A3 c3 _ (Nat.le_refl _) HWX.out st2.box.has).mono ?_
          rintro e wq3 ⟨u3, t3, rfl, hT3, b3⟩
          refine ⟨_, rfl, ?_⟩
          have st3 := st2.copy1 b3 hT3
          refine hK.out _ _ ⟨st3.box.q0, st3.box.q1, st3.box.q2, st3.box.q3⟩ (fun hHeld => ?_)
          clear hK K
          refine norm_ (a' := ?_) ?_ ?_
          rotate_left
          · show Act.put _ (some 17) _ = _
            simp only [Act.put, List.setIfInBounds_toArray, List.set_cons_zero, List.set_cons_succ, i64_w, i32_w]
            rfl
          refine one_ (i := 3) (N := some 19) #[true, true, true, true, true, true, false, false] rfl rfl (by kernel_rfl) (by decide) (fun K hK => ?_)
          refine goes_ Tryd.func30 (by kernel_rfl) rfl #[agg x A2 c2 A3 c3] (by rfl) rfl rfl (by simp only [List.map_toArray, List.map_cons, List.map_nil]; rfl) ?_
          with_reducible refine (Copy_calls (cnt x) x A2 c2 A3 c3 _ (Nat.le_refl _) HWX.out st3.box.has).mono ?_
          rintro e wq4 ⟨u4, t4, rfl, hT4, b4⟩
          refine ⟨_, rfl, ?_⟩
          have st4 := st3.copy2 b4 hT4
          refine hK.out _ _ ⟨st4.box.q0, st4.box.q1, st4.box.q2, st4.box.q3⟩ (fun hHeld => ?_)
          clear hK K
          refine norm_ (a' := ?_) ?_ ?_
          rotate_left
          · show Act.put _ (some 19) _ = _
            simp only [Act.put, List.setIfInBounds_toArray, List.set_cons_zero, List.set_cons_succ, i64_w, i32_w]
            rfl
          exact norm_ (by first | rfl | (simp only [putAll, Act.put, List.setIfInBounds_toArray, List.set_cons_zero, List.set_cons_succ]; done) | (simp only [putAll, Act.put, List.setIfInBounds_toArray, List.set_cons_zero, List.set_cons_succ]; rfl)) (hCont ⟨_, _, _, _⟩ _ st4)
    rintro ⟨⟨l1, h1, v2, v3⟩, ⟨l2, h2, t2, t3⟩, yb, kb⟩ w4 hSt
    obtain ⟨F2, p2, F3, p3, rfl, rfl⟩ : ∃ F2 p2 F3 p3, v2 = .slice F2 x.f2.length p2 ∧ v3 = .slice F3 x.f3.length p3 := OwnT_slices (hSt.one _ rfl).2.2
    obtain ⟨G2, r2, G3, r3, rfl, rfl⟩ : ∃ F2 p2 F3 p3, t2 = .slice F2 x.f2.length p2 ∧ t3 = .slice F3 x.f3.length p3 := OwnT_slices (hSt.two _ rfl).2.2
    have hHeld : w4.cell? ⟨w.heap.size, 0, none⟩ = some (.int .u8 x.f0) ∧ w4.cell? ⟨w.heap.size, 1, none⟩ = some (.string x.f1) ∧ w4.cell? ⟨w.heap.size, 2, none⟩ = some (.slice A2 x.f2.length c2) ∧ w4.cell? ⟨w.heap.size, 3, none⟩ = some (.slice A3 x.f3.length c3) := ⟨hSt.box.q0, hSt.box.q1, hSt.box.q2, hSt.box.q3⟩
    have hyb := (hSt.yb yb rfl).2.2.1
    have hkb := (hSt.kb kb rfl).2.2.1
    have hyk := hSt.yk yb kb rfl rfl
    have f0 := blk_frozen hyb 0
    have f1 := blk_frozen hyb 1
    have f2 := blk_frozen hyb 2
    have f3 := blk_frozen hyb 3
    have y0 := (blk_cell hyb 0).trans (rfl : zeroCells4[0]? = some (.int .u8 0))
    have y1 := (blk_cell hyb 1).trans (rfl : zeroCells4[1]? = some (.string nil8))
    have y2 := (blk_cell hyb 2).trans (rfl : zeroCells4[2]? = some (.slice none 0 0))
    have y3 := (blk_cell hyb 3).trans (rfl : zeroCells4[3]? = some (.slice none 0 0))
    have n0 := blk_frozen hkb 0
    have n1 := blk_frozen hkb 1
    have n2 := blk_frozen hkb 2
    have n3 := blk_frozen hkb 3
    have k0 := (blk_cell hkb 0).trans (rfl : zeroCells4[0]? = some (.int .u8 0))
    have k1 := (blk_cell hkb 1).trans (rfl : zeroCells4[1]? = some (.string nil8))
    have k2 := (blk_cell hkb 2).trans (rfl : zeroCells4[2]? = some (.slice none 0 0))
    have k3 := (blk_cell hkb 3).trans (rfl : zeroCells4[3]? = some (.slice none 0 0))
    refine norm_ (a' := ?_) ?_ ?_
    rotate_left
    · simp only [putAll, Act.put, List.setIfInBounds_toArray, List.set_cons_zero, List.set_cons_succ]
      rfl
    refine last_ (i := 6) (N := none) #[true, true, true, true, true, true, true, false] rfl rfl (by kernel_rfl) (by decide) (fun K hK => ?_)
    refine skip_ (w1 := ?_) (by rfl) rfl ?_ ?_
    rotate_left
    · go_simp
      rfl
    refine hK.out _ _ ?_
    clear hK K
    refine last_ (i := 7) (N := none) #[true, true, true, true, true, true, true, true] rfl rfl (by kernel_rfl) (by decide) (fun K hK => ?_)
    refine skip_ (w1 := ?_) (by rfl) rfl ?_ ?_
    rotate_left
    · go_simp
      rfl
    refine hK.out _ _ ?_
    clear hK K
    refine done_ (by kernel_rfl) ?_
    obtain ⟨w5, hw5⟩ : ∃ w5, w5 = (((((((w4.setCell ⟨yb, 0, none⟩ (.int .u8 x.f0)).setCell ⟨yb, 1, none⟩ (.string x.f1)).setCell ⟨yb, 2, none⟩ (.slice F2 x.f2.length p2)).setCell ⟨yb, 3, none⟩ (.slice F3 x.f3.length p3)).setCell ⟨kb, 0, none⟩ (.int .u8 x.f0)).setCell ⟨kb, 1, none⟩ (.string x.f1)).setCell ⟨kb, 2, none⟩ (.slice G2 x.f2.length r2)).setCell ⟨kb, 3, none⟩ (.slice G3 x.f3.length r3) := ⟨_, rfl⟩
    rw [← hw5]
    clear hHeld f0 f1 f2 f3 y0 y1 y2 y3 n0 n1 n2 n3 k0 k1 k2 k3
    obtain ⟨w4b, hw4b⟩ : ∃ z, z = (((w4.setCell ⟨yb, 0, none⟩ (.int .u8 x.f0)).setCell ⟨yb, 1, none⟩ (.string x.f1)).setCell ⟨yb, 2, none⟩ (.slice F2 x.f2.length p2)).setCell ⟨yb, 3, none⟩ (.slice F3 x.f3.length p3) := ⟨_, rfl⟩
    rw [← hw4b] at hw5
    have hyb4 : w4b.heap[yb]? = some (.cells #[.int .u8 x.f0, .string x.f1, .slice F2 x.f2.length p2, .slice F3 x.f3.length p3] 25 (0, 0)) := by
      rw [hw4b]
      exact heap_setCell_same _ _ 3 _ _ _ (heap_setCell_same _ _ 2 _ _ _ (heap_setCell_same _ _ 1 _ _ _ (heap_setCell_same _ _ 0 _ _ _ hyb)))
    have ho4 : ∀ b, b ≠ yb → w4b.heap[b]? = w4.heap[b]? := fun b hb => by
      rw [hw4b]
      exact (heap_setCell_other _ ⟨yb, 3, none⟩ b _ hb).trans ((heap_setCell_other _ ⟨yb, 2, none⟩ b _ hb).trans ((heap_setCell_other _ ⟨yb, 1, none⟩ b _ hb).trans (heap_setCell_other _ ⟨yb, 0, none⟩ b _ hb)))
    have hk5 : w5.heap[kb]? = some (.cells #[.int .u8 x.f0, .string x.f1, .slice G2 x.f2.length r2, .slice G3 x.f3.length r3] 25 (0, 0)) := by
      rw [hw5]
      exact heap_setCell_same _ _ 3 _ _ _ (heap_setCell_same _ _ 2 _ _ _ (heap_setCell_same _ _ 1 _ _ _ (heap_setCell_same _ _ 0 _ _ _ ((ho4 kb (Ne.symm hyk)).trans hkb))))
    have ho5' : ∀ b, b ≠ kb → w5.heap[b]? = w4b.heap[b]? := fun b hb => by
      rw [hw5]
      exact (heap_setCell_other _ ⟨kb, 3, none⟩ b _ hb).trans ((heap_setCell_other _ ⟨kb, 2, none⟩ b _ hb).trans ((heap_setCell_other _ ⟨kb, 1, none⟩ b _ hb).trans (heap_setCell_other _ ⟨kb, 0, none⟩ b _ hb)))
    have ho5 : ∀ b, b ≠ yb → b ≠ kb → w5.heap[b]? = w4.heap[b]? := fun b h1 h2 => (ho5' b h2).trans (ho4 b h1)
    have hy5 := (ho5' yb hyk).trans hyb4
    have hs5 : w5.heap.size = w4.heap.size := by rw [hw5, hw4b]; simp
    have hylt := (hSt.yb yb rfl).1
    have hklt := (hSt.kb kb rfl).1
    have BX5 : Below w.heap.size w w5 := by
      rw [hw5, hw4b]
      exact (((((((hSt.below.setCell (p := ⟨yb, 0, none⟩) (Nat.le_of_lt hylt) _).setCell (p := ⟨yb, 1, none⟩) (Nat.le_of_lt hylt) _).setCell (p := ⟨yb, 2, none⟩) (Nat.le_of_lt hylt) _).setCell (p := ⟨yb, 3, none⟩) (Nat.le_of_lt hylt) _).setCell (p := ⟨kb, 0, none⟩) (Nat.le_of_lt hklt) _).setCell (p := ⟨kb, 1, none⟩) (Nat.le_of_lt hklt) _).setCell (p := ⟨kb, 2, none⟩) (Nat.le_of_lt hklt) _).setCell (p := ⟨kb, 3, none⟩) (Nat.le_of_lt hklt) _
    have hT1 : OwnT w5 l1 h1 x (.slice F2 x.f2.length p2) (.slice F3 x.f3.length p3) := OwnT_keep _ _ (Nat.le_refl _) (hSt.one _ rfl).2.2 (fun b q1 q2 => ho5 b (fun he => (hSt.yb yb rfl).2.2.2.1 _ rfl (he ▸ ⟨q1, q2⟩)) (fun he => (hSt.kb kb rfl).2.2.2.1 _ rfl (he ▸ ⟨q1, q2⟩)))
    have hT2 : OwnT w5 l2 h2 x (.slice G2 x.f2.length r2) (.slice G3 x.f3.length r3) := OwnT_keep _ _ (Nat.le_refl _) (hSt.two _ rfl).2.2 (fun b q1 q2 => ho5 b (fun he => (hSt.yb yb rfl).2.2.2.2 _ rfl (he ▸ ⟨q1, q2⟩)) (fun he => (hSt.kb kb rfl).2.2.2.2 _ rfl (he ▸ ⟨q1, q2⟩)))
    have hbx : w5.heap[w.heap.size]? = w4.heap[w.heap.size]? := ho5 _ (by omega) (by omega)
    have ix5 : InBox w.heap.size x A2 c2 A3 c3 w5 := ⟨(cell_heap_eq hbx 0).trans hSt.box.q0, (cell_heap_eq hbx 1).trans hSt.box.q1, (cell_heap_eq hbx 2).trans hSt.box.q2, (cell_heap_eq hbx 3).trans hSt.box.q3, HX.out.below BX5⟩
    have iy5 : InBox yb x F2 p2 F3 p3 w5 := ⟨(blk_cell hy5 0).trans rfl, (blk_cell hy5 1).trans rfl, (blk_cell hy5 2).trans rfl, (blk_cell hy5 3).trans rfl, OwnT_Has hT1 WFX.out CX40.out⟩
    have ik5 : InBox kb x G2 r2 G3 r3 w5 := ⟨(blk_cell hk5 0).trans rfl, (blk_cell hk5 1).trans rfl, (blk_cell hk5 2).trans rfl, (blk_cell hk5 3).trans rfl, OwnT_Has hT2 WFX.out CX40.out⟩
    have IX5 := Aside0.mk ix5
    have IY5 := Aside0.mk iy5
    have IK5 := Aside0.mk ik5
    have HT1 := Aside0.mk hT1
    have HT2 := Aside0.mk hT2
    have HST := Aside0.mk hSt
    have HY5 := Aside0.mk hy5
    have HK5 := Aside0.mk hk5
    have HS5 := Aside0.mk hs5
    have HYK := Aside0.mk hyk
    have B5 := Aside0.mk BX5
    have ix2 : InBox w.heap.size x A2 c2 A3 c3 w5.drew := ix5.dr 1
    have iy2 : InBox yb x F2 p2 F3 p3 w5.drew := iy5.dr 1
    have BX2 : Below w.heap.size w w5.drew := below_drew BX5
    have BY2 : Below w5.heap.size w5 w5.drew := below_drew (Below.refl _ _)
    clear hw5 hw4b hyb4 ho4 hk5 ho5' ho5 hy5 hs5 BX5 hT1 hT2 hbx ix5 iy5 ik5 hSt hyb hkb hyk hylt hklt st0
    go_wp2_with fail
    refine start_ (n := 26) (S := fun w' => w'.cell? ⟨w.heap.size, 0, none⟩ = some (.int .u8 x.f0) ∧ w'.cell? ⟨w.heap.size, 1, none⟩ = some (.string x.f1) ∧ w'.cell? ⟨w.heap.size, 2, none⟩ = some (.slice A2 x.f2.length c2) ∧ w'.cell? ⟨w.heap.size, 3, none⟩ = some (.slice A3 x.f3.length c3) ∧ w'.cell? ⟨yb, 0, none⟩ = some (.int .u8 x.f0) ∧ w'.cell? ⟨yb, 1, none⟩ = some (.string x.f1) ∧ w'.cell? ⟨yb, 2, none⟩ = some (.slice F2 x.f2.length p2) ∧ w'.cell? ⟨yb, 3, none⟩ = some (.slice F3 x.f3.length p3)) (ds := []) #[false, false, false, false, false, false, false, false, false, false, false, false, false, false, false, false, false, false, false, false, false, false, false, false, false, false] (by kernel_rfl) rfl rfl ⟨ix2.q0, ix2.q1, ix2.q2, ix2.q3, iy2.q0, iy2.q1, iy2.q2, iy2.q3⟩ (fun hHeld => ?_)
    refine take_ (i := 0) (N := some 20) (v := ?_) (a' := ?_) #[true, false, false, false, false, false, false, false, false, false, false, false, false, false, false, false, false, false, false, false, false, false, false, false, false, false] rfl rfl (by kernel_rfl) (fun _ _ _ h => h) (Or.inl ⟨by rfl, ?_⟩) hHeld ?_ ?_
    rotate_left
    · rintro w' ⟨s0, s1, s2, s3, s4, s5, s6, s7⟩
      go_simp
      with_reducible rfl
    rotate_left
    · simp only [Act.put, List.setIfInBounds_toArray, List.set_cons_zero, List.set_cons_succ, i64_w, i32_w]
      rfl
    refine take_ (i := 1) (N := some 21) (v := ?_) (a' := ?_) #[true, true, false, false, false, false, false, false, false, false, false, false, false, false, false, false, false, false, false, false, false, false, false, false, false, false] rfl rfl (by kernel_rfl) (fun _ _ _ h => h) (Or.inl ⟨by rfl, ?_⟩) hHeld ?_ ?_
    rotate_left
    · rintro w' ⟨s0, s1, s2, s3, s4, s5, s6, s7⟩
      go_simp
      with_reducible rfl
    rotate_left
    · simp only [Act.put, List.setIfInBounds_toArray, List.set_cons_zero, List.set_cons_succ, i64_w, i32_w]
      rfl
    refine one_ (i := 2) (N := some 22) #[true, true, true, false, false, false, false, false, false, false, false, false, false, false, false, false, false, false, false, false, false, false, false, false, false, false] rfl rfl (by kernel_rfl) (by decide) (fun K hK => ?_)
    refine goes_ Tryd.func27 (by kernel_rfl) rfl #[agg x A2 c2 A3 c3, agg x F2 p2 F3 p3] (by rfl) rfl rfl (by simp only [List.map_toArray, List.map_cons, List.map_nil]; rfl) ?_
    with_reducible refine (CG.out _ A2 c2 A3 c3 F2 p2 F3 p3 ix2.has iy2.has).mono ?_
    rintro e wt3 ⟨rfl, b3⟩
    refine ⟨_, rfl, ?_⟩
    have ix3 := ix2.later b3
    have iy3 := iy2.later b3
    have BX3 := below_then BX2 BX2.size b3
    have BY3 := below_then BY2 BY2.size b3
    refine hK.out _ _ ⟨ix3.q0, ix3.q1, ix3.q2, ix3.q3, iy3.q0, iy3.q1, iy3.q2, iy3.q3⟩ (fun hHeld => ?_)
    clear hK K
    refine norm_ (a' := ?_) ?_ ?_
    rotate_left
    · show Act.put _ (some 22) _ = _
      simp only [Act.put, List.setIfInBounds_toArray, List.set_cons_zero, List.set_cons_succ, i64_w, i32_w]
      rfl
    refine pure_ (i := 3) (N := some 23) (v := ?_) (a' := ?_) #[true, true, true, true, false, false, false, false, false, false, false, false, false, false, false, false, false, false, false, false, false, false, false, false, false, false] rfl rfl (by kernel_rfl) (fun _ _ _ h => h) (Or.inl ⟨by rfl, ?_⟩) ?_ ?_
    rotate_left
    · intro w'
      go_simp
      with_reducible rfl
    rotate_left
    · simp only [Act.put, List.setIfInBounds_toArray, List.set_cons_zero, List.set_cons_succ, i64_w, i32_w]
      rfl
    refine pure_ (i := 4) (N := some 24) (v := ?_) (a' := ?_) #[true, true, true, true, true, false, false, false, false, false, false, false, false, false, false, false, false, false, false, false, false, false, false, false, false, false] rfl rfl (by kernel_rfl) (fun _ _ _ h => h) (Or.inl ⟨by rfl, ?_⟩) ?_ ?_
    rotate_left
    · intro w'
      go_simp
      with_reducible rfl
    rotate_left
    · simp only [Act.put, List.setIfInBounds_toArray, List.set_cons_zero, List.set_cons_succ, i64_w, i32_w]
      rfl
    refine take_ (i := 5) (N := some 25) (v := ?_) (a' := ?_) #[true, true, true, true, true, true, false, false, false, false, false, false, false, false, false, false, false, false, false, false, false, false, false, false, false, false] rfl rfl (by kernel_rfl) (fun _ _ _ h => h) (Or.inl ⟨by rfl, ?_⟩) hHeld ?_ ?_
    rotate_left
    · rintro w' ⟨s0, s1, s2, s3, s4, s5, s6, s7⟩
      go_simp
      with_reducible rfl
    rotate_left
    · simp only [Act.put, List.setIfInBounds_toArray, List.set_cons_zero, List.set_cons_succ, i64_w, i32_w]
      rfl
    refine take_ (i := 7) (N := some 27) (v := ?_) (a' := ?_) #[true, true, true, true, true, true, false, true, false, false, false, false, false, false, false, false, false, false, false, false, false, false, false, false, false, false] rfl rfl (by kernel_rfl) (fun _ _ _ h => h) (Or.inl ⟨by rfl, ?_⟩) hHeld ?_ ?_
    rotate_left
    · rintro w' ⟨s0, s1, s2, s3, s4, s5, s6, s7⟩
      go_simp
      with_reducible rfl
    rotate_left
    · simp only [Act.put, List.setIfInBounds_toArray, List.set_cons_zero, List.set_cons_succ, i64_w, i32_w]
      rfl
    refine one_ (i := 6) (N := some 26) #[true, true, true, true, true, true, true, true, false, false, false, false, false, false, false, false, false, false, false, false, false, false, false, false, false, false] rfl rfl (by kernel_rfl) (by decide) (fun K hK => ?_)
    refine goes_ Tryd.func11 (by kernel_rfl) rfl #[agg x A2 c2 A3 c3] (by rfl) rfl rfl (by simp only [List.map_toArray, List.map_cons, List.map_nil]; rfl) ?_
    with_reducible refine (CA.out _ A2 c2 A3 c3 ix3.has).mono ?_
    rintro e wt4 ⟨rfl, b4⟩
    refine ⟨_, rfl, ?_⟩
    have ix4 := ix3.later b4
    have iy4 := iy3.later b4
    have BX4 := below_then BX3 BX3.size b4
    have BY4 := below_then BY3 BY3.size b4
    refine hK.out _ _ ⟨ix4.q0, ix4.q1, ix4.q2, ix4.q3, iy4.q0, iy4.q1, iy4.q2, iy4.q3⟩ (fun hHeld => ?_)
    clear hK K
    refine norm_ (a' := ?_) ?_ ?_
    rotate_left
    · show Act.put _ (some 26) _ = _
      simp only [Act.put, List.setIfInBounds_toArray, List.set_cons_zero, List.set_cons_succ, i64_w, i32_w]
      rfl
    refine one_ (i := 8) (N := some 28) #[true, true, true, true, true, true, true, true, true, false, false, false, false, false, false, false, false, false, false, false, false, false, false, false, false, false] rfl rfl (by kernel_rfl) (by decide) (fun K hK => ?_)
    refine goes_ Tryd.func11 (by kernel_rfl) rfl #[agg x F2 p2 F3 p3] (by rfl) rfl rfl (by simp only [List.map_toArray, List.map_cons, List.map_nil]; rfl) ?_
    with_reducible refine (CA.out _ F2 p2 F3 p3 iy4.has).mono ?_
    rintro e wt5 ⟨rfl, b5⟩
    refine ⟨_, rfl, ?_⟩
    have ix5 := ix4.later b5
    have iy5 := iy4.later b5
    have BX5 := below_then BX4 BX4.size b5
    have BY5 := below_then BY4 BY4.size b5
    refine hK.out _ _ ⟨ix5.q0, ix5.q1, ix5.q2, ix5.q3, iy5.q0, iy5.q1, iy5.q2, iy5.q3⟩ (fun hHeld => ?_)
    clear hK K
    refine norm_ (a' := ?_) ?_ ?_
    rotate_left
    · show Act.put _ (some 28) _ = _
      simp only [Act.put, List.setIfInBounds_toArray, List.set_cons_zero, List.set_cons_succ, i64_w, i32_w]
      rfl
    refine pure_ (i := 9) (N := some 29) (v := ?_) (a' := ?_) #[true, true, true, true, true, true, true, true, true, true, false, false, false, false, false, false, false, false, false, false, false, false, false, false, false, false] rfl rfl (by kernel_rfl) (fun _ _ _ h => h) (Or.inl ⟨by rfl, ?_⟩) ?_ ?_
    rotate_left
    · intro w'
      go_simp
      with_reducible rfl
    rotate_left
    · simp only [Act.put, List.setIfInBounds_toArray, List.set_cons_zero, List.set_cons_succ, i64_w, i32_w]
      rfl
    refine pure_ (i := 10) (N := some 30) (v := ?_) (a' := ?_) #[true, true, true, true, true, true, true, true, true, true, true, false, false, false, false, false, false, false, false, false, false, false, false, false, false, false] rfl rfl (by kernel_rfl) (fun _ _ _ h => h) (Or.inl ⟨by rfl, ?_⟩) ?_ ?_
    rotate_left
    · intro w'
      go_simp
      with_reducible rfl
    rotate_left
    · simp only [Act.put, List.setIfInBounds_toArray, List.set_cons_zero, List.set_cons_succ, i64_w, i32_w]
      rfl
    refine pure_ (i := 11) (N := some 31) (v := ?_) (a' := ?_) #[true, true, true, true, true, true, true, true, true, true, true, true, false, false, false, false, false, false, false, false, false, false, false, false, false, false] rfl rfl (by kernel_rfl) (fun _ _ _ h => h) (Or.inl ⟨by rfl, ?_⟩) ?_ ?_
    rotate_left
    · intro w'
      go_simp
      with_reducible rfl
    rotate_left
    · simp only [Act.put, List.setIfInBounds_toArray, List.set_cons_zero, List.set_cons_succ, i64_w, i32_w]
      rfl
    refine take_ (i := 12) (N := some 32) (v := ?_) (a' := ?_) #[true, true, true, true, true, true, true, true, true, true, true, true, true, false, false, false, false, false, false, false, false, false, false, false, false, false] rfl rfl (by kernel_rfl) (fun _ _ _ h => h) (Or.inl ⟨by rfl, ?_⟩) hHeld ?_ ?_
    rotate_left
    · rintro w' ⟨s0, s1, s2, s3, s4, s5, s6, s7⟩
      go_simp
      with_reducible rfl
    rotate_left
    · simp only [Act.put, List.setIfInBounds_toArray, List.set_cons_zero, List.set_cons_succ, i64_w, i32_w]
      rfl
    refine take_ (i := 14) (N := some 34) (v := ?_) (a' := ?_) #[true, true, true, true, true, true, true, true, true, true, true, true, true, false, true, false, false, false, false, false, false, false, false, false, false, false] rfl rfl (by kernel_rfl) (fun _ _ _ h => h) (Or.inl ⟨by rfl, ?_⟩) hHeld ?_ ?_
    rotate_left
    · rintro w' ⟨s0, s1, s2, s3, s4, s5, s6, s7⟩
      go_simp
      with_reducible rfl
    rotate_left
    · simp only [Act.put, List.setIfInBounds_toArray, List.set_cons_zero, List.set_cons_succ, i64_w, i32_w]
      rfl
    refine one_ (i := 13) (N := some 33) #[true, true, true, true, true, true, true, true, true, true, true, true, true, true, true, false, false, false, false, false, false, false, false, false, false, false] rfl rfl (by kernel_rfl) (by decide) (fun K hK => ?_)
    refine goes_ Tryd.func24 (by kernel_rfl) rfl #[agg x A2 c2 A3 c3] (by rfl) rfl rfl (by simp only [List.map_toArray, List.map_cons, List.map_nil]; rfl) ?_
    with_reducible refine (CC.out _ A2 c2 A3 c3 ix5.has).mono ?_
    rintro e wt6 ⟨rfl, b6⟩
    refine ⟨_, rfl, ?_⟩
    have ix6 := ix5.later b6
    have iy6 := iy5.later b6
    have BX6 := below_then BX5 BX5.size b6
    have BY6 := below_then BY5 BY5.size b6
    refine hK.out _ _ ⟨ix6.q0, ix6.q1, ix6.q2, ix6.q3, iy6.q0, iy6.q1, iy6.q2, iy6.q3⟩ (fun hHeld => ?_)
    clear hK K
    refine norm_ (a' := ?_) ?_ ?_
    rotate_left
    · show Act.put _ (some 33) _ = _
      simp only [Act.put, List.setIfInBounds_toArray, List.set_cons_zero, List.set_cons_succ, i64_w, i32_w]
      rfl
    refine one_ (i := 15) (N := some 35) #[true, true, true, true, true, true, true, true, true, true, true, true, true, true, true, true, false, false, false, false, false, false, false, false, false, false] rfl rfl (by kernel_rfl) (by decide) (fun K hK => ?_)
    refine goes_ Tryd.func24 (by kernel_rfl) rfl #[agg x F2 p2 F3 p3] (by rfl) rfl rfl (by simp only [List.map_toArray, List.map_cons, List.map_nil]; rfl) ?_
    with_reducible refine (CC.out _ F2 p2 F3 p3 iy6.has).mono ?_
    rintro e wt7 ⟨rfl, b7⟩
    refine ⟨_, rfl, ?_⟩
    have ix7 := ix6.later b7
    have iy7 := iy6.later b7
    have BX7 := below_then BX6 BX6.size b7
    have BY7 := below_then BY6 BY6.size b7
    refine hK.out _ _ ⟨ix7.q0, ix7.q1, ix7.q2, ix7.q3, iy7.q0, iy7.q1, iy7.q2, iy7.q3⟩ (fun hHeld => ?_)
    clear hK K
    refine norm_ (a' := ?_) ?_ ?_
    rotate_left
    · show Act.put _ (some 35) _ = _
      simp only [Act.put, List.setIfInBounds_toArray, List.set_cons_zero, List.set_cons_succ, i64_w, i32_w]
      rfl
    refine pure_ (i := 16) (N := some 36) (v := ?_) (a' := ?_) #[true, true, true, true, true, true, true, true, true, true, true, true, true, true, true, true, true, false, false, false, false, false, false, false, false, false] rfl rfl (by kernel_rfl) (fun _ _ _ h => h) (Or.inl ⟨by rfl, ?_⟩) ?_ ?_
    rotate_left
    · intro w'
      go_simp
      with_reducible rfl
    rotate_left
    · simp only [Act.put, List.setIfInBounds_toArray, List.set_cons_zero, List.set_cons_succ, i64_w, i32_w]
      rfl
    refine pure_ (i := 17) (N := some 37) (v := ?_) (a' := ?_) #[true, true, true, true, true, true, true, true, true, true, true, true, true, true, true, true, true, true, false, false, false, false, false, false, false, false] rfl rfl (by kernel_rfl) (fun _ _ _ h => h) (Or.inl ⟨by rfl, ?_⟩) ?_ ?_
    rotate_left
    · intro w'
      go_simp
      with_reducible rfl
    rotate_left
    · simp only [Act.put, List.setIfInBounds_toArray, List.set_cons_zero, List.set_cons_succ, i64_w, i32_w]
      rfl
    refine pure_ (i := 18) (N := some 38) (v := ?_) (a' := ?_) #[true, true, true, true, true, true, true, true, true, true, true, true, true, true, true, true, true, true, true, false, false, false, false, false, false, false] rfl rfl (by kernel_rfl) (fun _ _ _ h => h) (Or.inl ⟨by rfl, ?_⟩) ?_ ?_
    rotate_left
    · intro w'
      go_simp
      with_reducible rfl
    rotate_left
    · simp only [Act.put, List.setIfInBounds_toArray, List.set_cons_zero, List.set_cons_succ, i64_w, i32_w]
      rfl
    refine take_ (i := 19) (N := some 39) (v := ?_) (a' := ?_) #[true, true, true, true, true, true, true, true, true, true, true, true, true, true, true, true, true, true, true, true, false, false, false, false, false, false] rfl rfl (by kernel_rfl) (fun _ _ _ h => h) (Or.inl ⟨by rfl, ?_⟩) hHeld ?_ ?_
    rotate_left
    · rintro w' ⟨s0, s1, s2, s3, s4, s5, s6, s7⟩
      go_simp
      with_reducible rfl
    rotate_left
    · simp only [Act.put, List.setIfInBounds_toArray, List.set_cons_zero, List.set_cons_succ, i64_w, i32_w]
      rfl
    refine take_ (i := 21) (N := some 41) (v := ?_) (a' := ?_) #[true, true, true, true, true, true, true, true, true, true, true, true, true, true, true, true, true, true, true, true, false, true, false, false, false, false] rfl rfl (by kernel_rfl) (fun _ _ _ h => h) (Or.inl ⟨by rfl, ?_⟩) hHeld ?_ ?_
    rotate_left
    · rintro w' ⟨s0, s1, s2, s3, s4, s5, s6, s7⟩
      go_simp
      with_reducible rfl
    rotate_left
    · simp only [Act.put, List.setIfInBounds_toArray, List.set_cons_zero, List.set_cons_succ, i64_w, i32_w]
      rfl
    refine one_ (i := 20) (N := some 40) #[true, true, true, true, true, true, true, true, true, true, true, true, true, true, true, true, true, true, true, true, true, true, false, false, false, false] rfl rfl (by kernel_rfl) (by decide) (fun K hK => ?_)
    refine goes_ Tryd.func13 (by kernel_rfl) rfl #[agg x A2 c2 A3 c3] (by rfl) rfl rfl (by simp only [List.map_toArray, List.map_cons, List.map_nil]; rfl) ?_
    with_reducible refine (CI.out _ A2 c2 A3 c3 ix7.has).mono ?_
    rintro e wt8 ⟨A7, c7, rfl, hl7, hC7, b8⟩
    refine ⟨_, rfl, ?_⟩
    have ix8 := ix7.later b8
    have iy8 := iy7.later b8
    have BX8 := below_then BX7 BX7.size b8
    have BY8 := below_then BY7 BY7.size b8
    refine hK.out _ _ ⟨ix8.q0, ix8.q1, ix8.q2, ix8.q3, iy8.q0, iy8.q1, iy8.q2, iy8.q3⟩ (fun hHeld => ?_)
    clear hK K
    refine norm_ (a' := ?_) ?_ ?_
    rotate_left
    · show Act.put _ (some 40) _ = _
      simp only [Act.put, List.setIfInBounds_toArray, List.set_cons_zero, List.set_cons_succ, i64_w, i32_w]
      rfl
    refine one_ (i := 22) (N := some 42) #[true, true, true, true, true, true, true, true, true, true, true, true, true, true, true, true, true, true, true, true, true, true, true, false, false, false] rfl rfl (by kernel_rfl) (by decide) (fun K hK => ?_)
    refine goes_ Tryd.func13 (by kernel_rfl) rfl #[agg x F2 p2 F3 p3] (by rfl) rfl rfl (by simp only [List.map_toArray, List.map_cons, List.map_nil]; rfl) ?_
    with_reducible refine (CI.out _ F2 p2 F3 p3 iy8.has).mono ?_
    rintro e wt9 ⟨A8, c8, rfl, hl8, hC8, b9⟩
    refine ⟨_, rfl, ?_⟩
    have ix9 := ix8.later b9
    have iy9 := iy8.later b9
    have BX9 := below_then BX8 BX8.size b9
    have BY9 := below_then BY8 BY8.size b9
    have hC7x := Kd.C_below hC7 b9
    refine hK.out _ _ ⟨ix9.q0, ix9.q1, ix9.q2, ix9.q3, iy9.q0, iy9.q1, iy9.q2, iy9.q3⟩ (fun hHeld => ?_)
    clear hK K
    refine norm_ (a' := ?_) ?_ ?_
    rotate_left
    · show Act.put _ (some 42) _ = _
      simp only [Act.put, List.setIfInBounds_toArray, List.set_cons_zero, List.set_cons_succ, i64_w, i32_w]
      rfl
    refine one_ (i := 23) (N := some 43) #[true, true, true, true, true, true, true, true, true, true, true, true, true, true, true, true, true, true, true, true, true, true, true, true, false, false] rfl rfl (by kernel_rfl) (by decide) (fun K hK => ?_)
    refine goes_ Tryd.func15 (by kernel_rfl) rfl #[.slice A7 l.length c7, .slice A8 l.length c8] (by rfl) rfl rfl (by simp only [List.map_toArray, List.map_cons, List.map_nil]; rfl) ?_
    with_reducible refine (Texts_calls l A7 c7 A8 c8 _ hC7x hl7 hC8 hl8 HLL.out).mono ?_
    rintro e wt10 ⟨rfl, b10⟩
    refine ⟨_, rfl, ?_⟩
    have ix10 := ix9.later b10
    have iy10 := iy9.later b10
    have BX10 := below_then BX9 BX9.size b10
    have BY10 := below_then BY9 BY9.size b10
    refine hK.out _ _ ⟨ix10.q0, ix10.q1, ix10.q2, ix10.q3, iy10.q0, iy10.q1, iy10.q2, iy10.q3⟩ (fun hHeld => ?_)
    clear hK K
    refine norm_ (a' := ?_) ?_ ?_
    rotate_left
    · show Act.put _ (some 43) _ = _
      simp only [Act.put, List.setIfInBounds_toArray, List.set_cons_zero, List.set_cons_succ, i64_w, i32_w]
      rfl
    refine pure_ (i := 24) (N := some 44) (v := ?_) (a' := ?_) #[true, true, true, true, true, true, true, true, true, true, true, true, true, true, true, true, true, true, true, true, true, true, true, true, true, false] rfl rfl (by kernel_rfl) (fun _ _ _ h => h) (Or.inl ⟨by rfl, ?_⟩) ?_ ?_
    rotate_left
    · intro w'
      go_simp
      with_reducible rfl
    rotate_left
    · simp only [Act.put, List.setIfInBounds_toArray, List.set_cons_zero, List.set_cons_succ, i64_w, i32_w]
      rfl
    refine pure_ (i := 25) (N := some 45) (v := ?_) (a' := ?_) #[true, true, true, true, true, true, true, true, true, true, true, true, true, true, true, true, true, true, true, true, true, true, true, true, true, true] rfl rfl (by kernel_rfl) (fun _ _ _ h => h) (Or.inl ⟨by rfl, ?_⟩) ?_ ?_
    rotate_left
    · intro w'
      go_simp
      with_reducible rfl
    rotate_left
    · simp only [Act.put, List.setIfInBounds_toArray, List.set_cons_zero, List.set_cons_succ, i64_w, i32_w]
      rfl
    refine done_ (by kernel_rfl) ?_
    have hs12 := HST.out.one _ rfl
    have hyw5 : yb < w5.heap.size := by rw [HS5.out]; exact (HST.out.yb yb rfl).2.1
    have SP := Aside0.mk (Spot.root (w := wt10) ((BY10.block yb hyw5).trans HY5.out) (OwnT_keep _ _ (Nat.le_refl _) HT1.out (fun b q1 q2 => BY10.block b (by have hq1 : h1 ≤ w4.heap.size := hs12.2.1; have hq2 := HS5.out; have hq3 : b < h1 := q2; omega))) ((HST.out.yb yb rfl).2.2.2.1 _ rfl) WFX.out)
    have BXA := Aside0.mk BX10
    have BYA := Aside0.mk BY10
    clear hs12 hyw5 hHeld BX2 BX3 BX4 BX5 BX6 BX7 BX8 BX9 BX10 BY2 BY3 BY4 BY5 BY6 BY7 BY8 BY9 BY10 ix2 ix3 ix4 ix5 ix6 ix7 ix8 ix9 ix10 iy2 iy3 iy4 iy5 iy6 iy7 iy8 iy9 iy10 hC7 hC8 hC7x hl7 hl8
    go_wp2
    go_loopw [48, 9] (fun i p wr => ∃ k pa la ha z z2 z3, k ≤ ws.length ∧ i = .int .i64 (k : Nat) ∧ p = .pointer (some pa) ∧ Drawn0 wt10 wr ∧ wz z ≤ 1048576 ∧ Spot wr yb l1 h1 x pa la ha z z2 z3) (fun i _ _ => (ws.length : Int).toNat - (intOf i).toNat)
    case atStart => exact ⟨0, _, _, _, _, _, _, Nat.zero_le _, rfl, rfl, Drawn0.refl _, HWZ.out, SP.out⟩
    case round =>
      obtain ⟨k, pa, la, ha, z, z2, z3, hk, rfl, rfl, hdr, hwz, hS⟩ := hrel
      have HZZ := Aside0.mk hwz
      clear hwz
      obtain ⟨Z2, q2, Z3, q3, rfl, rfl⟩ := OwnT_slices hS.own
      have SS := Aside0.mk hS
      have HDR := Aside0.mk hdr
      by_cases hkn : k < ws.length
      · have hki : (k : Int) < (ws.length : Int) := by omega
        have hki' : decide ((k : Int) < (ws.length : Int)) = true := decide_eq_true hki
        have hr := Kd.reads_of_C (enc := Value.int .u8) (d := (0 : Int)) (h1 := fun _ => rfl) (Kd.C_below HWS.out (below_then BXA.out BXA.out.size hdr.below))
        obtain ⟨ad, hA, hc⟩ := hr.at_ (k : Int) (by omega) (by omega)
        subst hA
        rw [Int.toNat_natCast] at hc
        have hv0 : 0 ≤ rdOf 0 ws (k : Int) ∧ rdOf 0 ws (k : Int) ≤ 255 := by
          unfold rdOf
          rw [Int.toNat_natCast, List.getD_eq_getElem?_getD, List.getElem?_eq_getElem hkn]
          exact HWB.out _ (List.getElem_mem hkn)
        generalize rdOf 0 ws (k : Int) = v at *
        have e3 := hS.c3
        have hzl : z.f3.length ≤ 1099511627776 := by have hq1 := len_cntL z.f3; have hq2 := cnt_eq z; have hq3 := hS.small; have hq4 := CX40.out; omega
        clear hr hdr hS
        by_cases hn : 0 < z.f3.length
        · have hn1 : (0 : Int) < (z.f3.length : Int) := by omega
          have hn2 : decide ((z.f3.length : Int) > 0) = true := decide_eq_true hn1
          have hn3 : decide ((0 : Int) < (z.f3.length : Int)) = true := hn2
          have hr1 : (z.f3.length : Int) ≠ 0 := by omega
          have hr0 : ((z.f3.length : Int) == 0) = false := beq_eq_false_iff_ne.2 hr1
          have hr6 : ¬ z.f3 = [] := fun he => by rw [he] at hn; simp at hn
          have hr7 : ¬ z.f3.length = 0 := by omega
          have hr2 : Int.tmod v (z.f3.length : Int) = v % (z.f3.length : Int) := Int.tmod_eq_emod_of_nonneg hv0.1
          have hr3 : 0 ≤ v % (z.f3.length : Int) := Int.emod_nonneg _ hr1
          have hr4 : v % (z.f3.length : Int) < (z.f3.length : Int) := Int.emod_lt_of_pos _ hn1
          have hr8 : 0 ≤ Int.tmod v (z.f3.length : Int) := by rw [hr2]; exact hr3
          have hr9 : Int.tmod v (z.f3.length : Int) < (z.f3.length : Int) := by rw [hr2]; exact hr4
          have hv64 : wrap64 v = v := w64 (by omega) (by omega)
          obtain ⟨g, cap, la', ha', t2, t3, hz3, S'⟩ := SS.out.down (Int.tmod v (z.f3.length : Int)).toNat (by omega)
          injection hz3 with hz31 hz32 hz33
          subst hz31
          subst hz33
          obtain ⟨za, hza⟩ : ∃ za : Addr, za = ⟨g, 0, none⟩ := ⟨_, rfl⟩
          rw [← hza] at e3
          have HZA := Aside0.mk hza
          have SD := Aside0.mk S'
          have HP := Aside0.mk (show za.add ((v % (z.f3.length : Int)).toNat * 4) = ⟨g, (Int.tmod v (z.f3.length : Int)).toNat * 4, none⟩ by
            rw [hza, hr2]
            unfold Addr.add
            split
            · rename_i hh
              rw [hh]
            · simp)
          clear hza S' hz32
          go_wp2_with fail
          refine start_ (n := 14) (S := fun w' => w'.cell? ⟨pa.block, pa.off + 3, none⟩ = some (.slice (some za) z.f3.length q3)) (ds := []) #[false, false, false, false, false, false, false, false, false, false, false, false, false, false] (by kernel_rfl) rfl rfl (e3) (fun hHeld => ?_)
          refine pure_ (i := 0) (N := some 58) (v := ?_) (a' := ?_) #[true, false, false, false, false, false, false, false, false, false, false, false, false, false] rfl rfl (by kernel_rfl) (fun _ _ _ h => h) (Or.inl ⟨by rfl, ?_⟩) ?_ ?_
          rotate_left
          · intro w'
            go_simp
            with_reducible rfl
          rotate_left
          · simp only [Act.put, List.setIfInBounds_toArray, List.set_cons_zero, List.set_cons_succ, i64_w, i32_w]
            rfl
          refine pure_ (i := 1) (N := some 59) (v := ?_) (a' := ?_) #[true, true, false, false, false, false, false, false, false, false, false, false, false, false] rfl rfl (by kernel_rfl) (fun _ _ _ h => h) (Or.inl ⟨by rfl, ?_⟩) ?_ ?_
          rotate_left
          · intro w'
            go_simp
            with_reducible rfl
          rotate_left
          · simp only [Act.put, List.setIfInBounds_toArray, List.set_cons_zero, List.set_cons_succ, i64_w, i32_w]
            rfl
          refine pure_ (i := 2) (N := some 60) (v := ?_) (a' := ?_) #[true, true, true, false, false, false, false, false, false, false, false, false, false, false] rfl rfl (by kernel_rfl) (fun _ _ _ h => h) (Or.inl ⟨by rfl, ?_⟩) ?_ ?_
          rotate_left
          · intro w'
            go_simp
            with_reducible rfl
          rotate_left
          · simp only [Act.put, List.setIfInBounds_toArray, List.set_cons_zero, List.set_cons_succ, i64_w, i32_w]
            rfl
          refine pure_ (i := 4) (N := some 62) (v := ?_) (a' := ?_) #[true, true, true, false, true, false, false, false, false, false, false, false, false, false] rfl rfl (by kernel_rfl) (fun _ _ _ h => h) (Or.inl ⟨by rfl, ?_⟩) ?_ ?_
          rotate_left
          · intro w'
            go_simp
            with_reducible rfl
          rotate_left
          · simp only [Act.put, List.setIfInBounds_toArray, List.set_cons_zero, List.set_cons_succ, i64_w, i32_w]
            rfl
          refine pure_ (i := 5) (N := some 63) (v := ?_) (a' := ?_) #[true, true, true, false, true, true, false, false, false, false, false, false, false, false] rfl rfl (by kernel_rfl) (fun _ _ _ h => h) (Or.inl ⟨by rfl, ?_⟩) ?_ ?_
          rotate_left
          · intro w'
            go_simp
            with_reducible rfl
          rotate_left
          · simp only [Act.put, List.setIfInBounds_toArray, List.set_cons_zero, List.set_cons_succ, i64_w, i32_w]
            rfl
          refine pure_ (i := 6) (N := some 64) (v := ?_) (a' := ?_) #[true, true, true, false, true, true, true, false, false, false, false, false, false, false] rfl rfl (by kernel_rfl) (fun _ _ _ h => h) (Or.inl ⟨by rfl, ?_⟩) ?_ ?_
          rotate_left
          · intro w'
            go_simp
            with_reducible rfl
          rotate_left
          · simp only [Act.put, List.setIfInBounds_toArray, List.set_cons_zero, List.set_cons_succ, i64_w, i32_w]
            rfl
          refine pure_ (i := 7) (N := some 65) (v := ?_) (a' := ?_) #[true, true, true, false, true, true, true, true, false, false, false, false, false, false] rfl rfl (by kernel_rfl) (fun _ _ _ h => h) (Or.inl ⟨by rfl, ?_⟩) ?_ ?_
          rotate_left
          · intro w'
            go_simp
            with_reducible rfl
          rotate_left
          · simp only [Act.put, List.setIfInBounds_toArray, List.set_cons_zero, List.set_cons_succ, i64_w, i32_w]
            rfl
          refine pure_ (i := 8) (N := some 66) (v := ?_) (a' := ?_) #[true, true, true, false, true, true, true, true, true, false, false, false, false, false] rfl rfl (by kernel_rfl) (fun _ _ _ h => h) (Or.inl ⟨by rfl, ?_⟩) ?_ ?_
          rotate_left
          · intro w'
            go_simp
            with_reducible rfl
          rotate_left
          · simp only [Act.put, List.setIfInBounds_toArray, List.set_cons_zero, List.set_cons_succ, i64_w, i32_w]
            rfl
          refine take_ (i := 3) (N := some 61) (v := ?_) (a' := ?_) #[true, true, true, true, true, true, true, true, true, false, false, false, false, false] rfl rfl (by kernel_rfl) (fun _ _ _ h => h) (Or.inl ⟨by rfl, ?_⟩) hHeld ?_ ?_
          rotate_left
          · intro w' s0
            go_simp
            with_reducible rfl
          rotate_left
          · simp only [Act.put, List.setIfInBounds_toArray, List.set_cons_zero, List.set_cons_succ, i64_w, i32_w]
            rfl
          refine take_ (i := 9) (N := some 67) (v := ?_) (a' := ?_) #[true, true, true, true, true, true, true, true, true, true, false, false, false, false] rfl rfl (by kernel_rfl) (fun _ _ _ h => h) (Or.inl ⟨by rfl, ?_⟩) hHeld ?_ ?_
          rotate_left
          · intro w' s0
            go_simp
            with_reducible rfl
          rotate_left
          · simp only [Act.put, List.setIfInBounds_toArray, List.set_cons_zero, List.set_cons_succ, i64_w, i32_w]
            rfl
          refine pure_ (i := 10) (N := some 68) (v := ?_) (a' := ?_) #[true, true, true, true, true, true, true, true, true, true, true, false, false, false] rfl rfl (by kernel_rfl) (fun _ _ _ h => h) (Or.inl ⟨by rfl, ?_⟩) ?_ ?_
          rotate_left
          · intro w'
            go_simp
            with_reducible rfl
          rotate_left
          · simp only [Act.put, List.setIfInBounds_toArray, List.set_cons_zero, List.set_cons_succ, i64_w, i32_w]
            rfl
          refine pure_ (i := 11) (N := some 69) (v := ?_) (a' := ?_) #[true, true, true, true, true, true, true, true, true, true, true, true, false, false] rfl rfl (by kernel_rfl) (fun _ _ _ h => h) (Or.inl ⟨by rfl, ?_⟩) ?_ ?_
          rotate_left
          · intro w'
            go_simp
            with_reducible rfl
          rotate_left
          · simp only [Act.put, List.setIfInBounds_toArray, List.set_cons_zero, List.set_cons_succ, i64_w, i32_w]
            rfl
          refine pure_ (i := 12) (N := some 70) (v := ?_) (a' := ?_) #[true, true, true, true, true, true, true, true, true, true, true, true, true, false] rfl rfl (by kernel_rfl) (fun _ _ _ h => h) (Or.inl ⟨by rfl, ?_⟩) ?_ ?_
          rotate_left
          · intro w'
            go_simp
            with_reducible rfl
          rotate_left
          · simp only [Act.put, List.setIfInBounds_toArray, List.set_cons_zero, List.set_cons_succ, i64_w, i32_w]
            rfl
          refine pure_ (i := 13) (N := some 9) (v := ?_) (a' := ?_) #[true, true, true, true, true, true, true, true, true, true, true, true, true, true] rfl rfl (by kernel_rfl) (fun _ _ _ h => h) (Or.inl ⟨by rfl, ?_⟩) ?_ ?_
          rotate_left
          · intro w'
            go_simp
            with_reducible rfl
          rotate_left
          · simp only [Act.put, List.setIfInBounds_toArray, List.set_cons_zero, List.set_cons_succ, i64_w, i32_w]
            rfl
          refine done_ (by kernel_rfl) ?_
          go_wp2_with fail
          go_roundw
          case rel => exact ⟨k + 1, _, la', ha', _, t2, t3, by omega, by go_num, by rw [HP.out], Drawn0.step HDR.out 1, Nat.le_trans (wz_child (List.getElem_mem _)) HZZ.out, SD.out.drew⟩
          case measure => simp [intOf]; omega
        · have hn1 : z.f3.length = 0 := by omega
          have hn2 : decide ((z.f3.length : Int) > 0) = false := decide_eq_false (by omega)
          have hn3 : decide ((0 : Int) < (z.f3.length : Int)) = false := hn2
          clear hn1
          go_wp2_with fail
          go_roundw
          case rel => exact ⟨k + 1, pa, la, ha, z, _, _, by omega, by go_num, rfl, HDR.out, HZZ.out, SS.out⟩
          case measure => simp [intOf]; omega
      · obtain rfl : k = ws.length := by omega
        have hki' : decide ((ws.length : Int) < (ws.length : Int)) = false := by simp
        have e0 := hS.c0
        have e1 := hS.c1
        have e2 := hS.c2
        have e3 := hS.c3
        obtain ⟨arr, harr⟩ := hS.row
        clear hS hdr
        have hf0 := SS.out.wf.op
        have hin := SS.out.inn
        have hl1 : w.heap.size < l1 := (HST.out.one _ rfl).1
        have hyl : w.heap.size < yb := (HST.out.yb yb rfl).1
        have PB := Aside0.mk (show pa.block = yb ∨ (l1 ≤ pa.block ∧ pa.block < h1) from hin.2.2)
        have PL := Aside0.mk (show w.heap.size ≤ pa.block by omega)
        have HYL := Aside0.mk hyl
        have HL1 := Aside0.mk hl1
        clear hin hl1 hyl
        have hmod : Int.tmod how 3 = how % 3 := Int.tmod_eq_emod_of_nonneg h0
        by_cases ho0 : how % 3 = 0
        · have ho0a : (how % 3 == 0) = true := beq_iff_eq.2 ho0
          have ho0b : (Int.tmod how 3 == 0) = true := by rw [hmod]; exact ho0a
          clear hmod
          clear ho0
          obtain ⟨x', v2', v3', s0, s1', s2, s3, hT', hwf', hcnt', hne'⟩ := SS.out.setOp ((z.f0 + 1) % 256) ⟨by omega, by omega⟩ (by omega)
          obtain ⟨P2, m2, P3, m3, rfl, rfl⟩ := OwnT_slices hT'
          have HHY := OwnT_Has hT' hwf' (by rw [hcnt']; exact CX40.out)
          have HNE := Aside0.mk hne'
          have WF0 : Below w.heap.size w (wr.setCell pa (.int .u8 ((z.f0 + 1) % 256))) ∧ ∀ b, b ≠ pa.block → (wr.setCell pa (.int .u8 ((z.f0 + 1) % 256))).heap[b]? = wr.heap[b]? := ⟨(below_then BXA.out BXA.out.size HDR.out.below).setCell PL.out _, fun b hb => heap_setCell_other wr pa b _ hb⟩
          have fz : wr.frozen? pa = false := by rw [SS.out.flat]; exact blk_frozen harr _
          clear hT' hwf' hcnt' hne' hf0
          have BXR := below_then BXA.out BXA.out.size HDR.out.below
          have BYR := below_then BYA.out BYA.out.size HDR.out.below
          obtain ⟨ix6, ik6⟩ := Ends HST.out HS5.out HT2.out HX.out IX5.out IK5.out CX40.out BYR (g := pa.block) PB.out WF0.2 WF0.1
          have iy6 : InBox yb x' P2 m2 P3 m3 (wr.setCell pa (.int .u8 ((z.f0 + 1) % 256))) := ⟨s0, s1', s2, s3, HHY⟩
          have G1 := Aside0.mk (Same_calls (cnt x) x x' A2 c2 A3 c3 P2 m2 P3 m3 (wr.setCell pa (.int .u8 ((z.f0 + 1) % 256))) (Nat.le_refl _) ix6.has iy6.has)
          rw [(sameX_ne HNE.out).1] at G1
          have J6 := Aside0.mk (And.intro ix6 (And.intro iy6 (And.intro ik6 WF0.1)))
          obtain ⟨x0, x1, x2, x3, _⟩ := ix6
          obtain ⟨y0, y1, y2, y3, _⟩ := iy6
          clear ik6 BXR BYR s0 s1' s2 s3 HHY WF0
          go_wp2_with fail
          obtain ⟨wf, hwf⟩ : ∃ q, q = wr.setCell pa (.int .u8 ((z.f0 + 1) % 256)) := ⟨_, rfl⟩
          rw [← hwf] at G1 J6 ⊢
          clear hwf x0 x1 x2 x3 y0 y1 y2 y3 fz e0 e1 e2 e3 harr
          (with_reducible refine G1.out.mono ?_)
          rintro e wg7 ⟨rfl, b7⟩
          obtain ⟨ix6, iy6, ik6, BF6⟩ := J6.out
          have ix7 := ix6.later b7
          have iy7 := iy6.later b7
          have ik7 := ik6.later b7
          have BF7 := below_then BF6 BF6.size b7
          have G2' := Aside0.mk (Same_calls (cnt x') x' x P2 m2 P3 m3 A2 c2 A3 c3 wg7 (Nat.le_refl _) iy7.has ix7.has)
          rw [(sameX_ne HNE.out).2] at G2'
          have J7 := Aside0.mk (And.intro ix7 (And.intro iy7 (And.intro ik7 BF7)))
          clear ix6 iy6 ik6 BF6 b7 ik7 BF7
          obtain ⟨x0, x1, x2, x3, _⟩ := ix7
          obtain ⟨y0, y1, y2, y3, _⟩ := iy7
          go_wp2_with fail
          (with_reducible refine G2'.out.mono ?_)
          rintro e wg8 ⟨rfl, b8⟩
          obtain ⟨ix7, iy7, ik7, BF7⟩ := J7.out
          have ix8 := ix7.later b8
          have ik8 := ik7.later b8
          have BF8 := below_then BF7 BF7.size b8
          have J8 := Aside0.mk (And.intro ix8 (And.intro ik8 BF8))
          clear ix7 iy7 ik7 BF7 b8 BF8 x0 x1 x2 x3 y0 y1 y2 y3
          obtain ⟨x0, x1, x2, x3, hx8⟩ := ix8
          obtain ⟨y0, y1, y2, y3, hk8⟩ := ik8
          have G3' := Aside0.mk (CG.out wg8 A2 c2 A3 c3 G2 r2 G3 r3 hx8 hk8)
          clear hx8 hk8
          go_wp2_with fail
          (with_reducible refine G3'.out.mono ?_)
          rintro e wg9 ⟨rfl, b9⟩
          have BF9 := Aside0.mk (below_then J8.out.2.2 J8.out.2.2.size b9)
          clear b9 x0 x1 x2 x3 y0 y1 y2 y3
          go_wp2_with fail
          (with_reducible refine (CO.out _).mono ?_)
          rintro e wga ⟨rfl, ba⟩
          have BFa := Aside0.mk (below_then BF9.out BF9.out.size ba)
          clear ba
          go_wp2
          go_ret
          exact ⟨rfl, BFa.out⟩
        · have ho0a : (how % 3 == 0) = false := beq_eq_false_iff_ne.2 ho0
          have ho0b : (Int.tmod how 3 == 0) = false := by rw [hmod]; exact ho0a
          clear ho0 hf0
          by_cases hb : how % 3 = 1 ∧ 0 < z.f2.length
          · have ho1a : (how % 3 == 1) = true := beq_iff_eq.2 hb.1
            have ho1b : (Int.tmod how 3 == 1) = true := by rw [hmod]; exact ho1a
            clear hmod
            have hn : 0 < z.f2.length := hb.2
            have hwz2 := wz_eq z
            have hwz3 := HZZ.out
            have hv0 : 0 ≤ how ∧ how ≤ 255 := ⟨HQ.out, HQ2.out⟩
            have hnl : z.f2.length ≤ 1048576 := by omega
            have hn1 : (0 : Int) < (z.f2.length : Int) := by omega
            have hn2 : decide ((z.f2.length : Int) > 0) = true := decide_eq_true hn1
            have hn3 : decide ((0 : Int) < (z.f2.length : Int)) = true := hn2
            have hr1 : (z.f2.length : Int) ≠ 0 := by omega
            have hr0 : ((z.f2.length : Int) == 0) = false := beq_eq_false_iff_ne.2 hr1
            have hr6 : ¬ z.f2 = [] := fun he => by rw [he] at hn; simp at hn
            have hr7 : ¬ z.f2.length = 0 := by omega
            have hr2 : Int.tmod how (z.f2.length : Int) = how % (z.f2.length : Int) := Int.tmod_eq_emod_of_nonneg hv0.1
            have hr3 : 0 ≤ how % (z.f2.length : Int) := Int.emod_nonneg _ hr1
            have hr4 : how % (z.f2.length : Int) < (z.f2.length : Int) := Int.emod_lt_of_pos _ hn1
            have hr8 : 0 ≤ Int.tmod how (z.f2.length : Int) := by rw [hr2]; exact hr3
            have hr9 : Int.tmod how (z.f2.length : Int) < (z.f2.length : Int) := by rw [hr2]; exact hr4
            have hv64 : wrap64 how = how := w64 (by omega) (by omega)
            obtain ⟨J, hJe⟩ : ∃ J, J = (Int.tmod how (z.f2.length : Int)).toNat := ⟨_, rfl⟩
            have hJ : J < z.f2.length := by omega
            have hvJ := SS.out.wf.nums z.f2[J] (List.getElem_mem hJ)
            obtain ⟨g, hz2, hgi, hcell, ⟨arrg, harrg⟩, x', v2', v3', s0, s1', s2, s3, hT', hwf', hcnt', hne'⟩ := SS.out.drew.setNum J hJ (wrap64 (z.f2[J] + 1)) (by unfold wrap64; omega) (by unfold wrap64; omega)
            obtain ⟨P2, m2, P3, m3, rfl, rfl⟩ := OwnT_slices hT'
            have HHY := OwnT_Has hT' hwf' (by rw [hcnt']; exact CX40.out)
            have HNE := Aside0.mk hne'
            have hcJ : wr.cell? ⟨g, J, none⟩ = some (.int .i64 z.f2[J]) := hcell J hJ
            have hfJ : wr.frozen? ⟨g, J, none⟩ = false := blk_frozen (w := wr) harrg J
            generalize z.f2[J] = vJ at *
            have WF0 : Below w.heap.size w (wr.drew.setCell ⟨g, J, none⟩ (.int .i64 (wrap64 (vJ + 1)))) ∧ ∀ b, b ≠ g → (wr.drew.setCell ⟨g, J, none⟩ (.int .i64 (wrap64 (vJ + 1)))).heap[b]? = wr.heap[b]? := ⟨(below_drew (below_then BXA.out BXA.out.size HDR.out.below)).setCell (Nat.le_of_lt (Nat.lt_of_lt_of_le HL1.out hgi.1)) _, fun b hb => heap_setCell_other wr.drew ⟨g, J, none⟩ b _ hb⟩
            have GB := Aside0.mk hgi
            subst hz2
            obtain ⟨za, hza⟩ : ∃ za : Addr, za = ⟨g, 0, none⟩ := ⟨_, rfl⟩
            have hadd : za.add (how % (z.f2.length : Int)).toNat = ⟨g, J, none⟩ := by
              rw [hza, hJe, hr2]
              unfold Addr.add
              split
              · rename_i hh
                rw [hh]
              · simp
            rw [← hza] at e2
            rw [← hadd] at hcJ hfJ
            have HPN := Aside0.mk hadd
            clear hT' hwf' hcnt' hne' hb hcell harrg hwz2 hwz3 hgi hvJ hza hadd harr
            have BXR := below_then BXA.out BXA.out.size HDR.out.below
            have BYR := below_then BYA.out BYA.out.size HDR.out.below
            obtain ⟨ix6, ik6⟩ := Ends HST.out HS5.out HT2.out HX.out IX5.out IK5.out CX40.out BYR (g := g) (Or.inr GB.out) WF0.2 WF0.1
            have iy6 : InBox yb x' P2 m2 P3 m3 (wr.drew.setCell ⟨g, J, none⟩ (.int .i64 (wrap64 (vJ + 1)))) := ⟨s0, s1', s2, s3, HHY⟩
            have G1 := Aside0.mk (Same_calls (cnt x) x x' A2 c2 A3 c3 P2 m2 P3 m3 (wr.drew.setCell ⟨g, J, none⟩ (.int .i64 (wrap64 (vJ + 1)))) (Nat.le_refl _) ix6.has iy6.has)
            rw [(sameX_ne HNE.out).1] at G1
            have J6 := Aside0.mk (And.intro ix6 (And.intro iy6 (And.intro ik6 WF0.1)))
            obtain ⟨x0, x1, x2, x3, _⟩ := ix6
            obtain ⟨y0, y1, y2, y3, _⟩ := iy6
            clear ik6 BXR BYR s0 s1' s2 s3 HHY WF0
            go_wp2_with fail
            refine start_ (n := 17) (S := fun w' => w'.cell? ⟨pa.block, pa.off + 2, none⟩ = some (.slice (some za) z.f2.length q2) ∧ w'.cell? (za.add (how % (z.f2.length : Int)).toNat) = some (.int .i64 vJ)) (ds := [16]) #[false, false, false, false, false, false, false, false, false, false, false, false, false, false, false, false, false] (by kernel_rfl) rfl rfl ⟨e2, hcJ⟩ (fun hHeld => ?_)
            refine pure_ (i := 0) (N := some 102) (v := ?_) (a' := ?_) #[true, false, false, false, false, false, false, false, false, false, false, false, false, false, false, false, false] rfl rfl (by kernel_rfl) (fun _ _ _ h => h) (Or.inl ⟨by rfl, ?_⟩) ?_ ?_
            rotate_left
            · intro w'
              go_simp
              with_reducible rfl
            rotate_left
            · simp only [Act.put, List.setIfInBounds_toArray, List.set_cons_zero, List.set_cons_succ, i64_w, i32_w]
              rfl
            refine pure_ (i := 1) (N := some 103) (v := ?_) (a' := ?_) #[true, true, false, false, false, false, false, false, false, false, false, false, false, false, false, false, false] rfl rfl (by kernel_rfl) (fun _ _ _ h => h) (Or.inl ⟨by rfl, ?_⟩) ?_ ?_
            rotate_left
            · intro w'
              go_simp
              with_reducible rfl
            rotate_left
            · simp only [Act.put, List.setIfInBounds_toArray, List.set_cons_zero, List.set_cons_succ, i64_w, i32_w]
              rfl
            refine pure_ (i := 2) (N := some 104) (v := ?_) (a' := ?_) #[true, true, true, false, false, false, false, false, false, false, false, false, false, false, false, false, false] rfl rfl (by kernel_rfl) (fun _ _ _ h => h) (Or.inl ⟨by rfl, ?_⟩) ?_ ?_
            rotate_left
            · intro w'
              go_simp
              with_reducible rfl
            rotate_left
            · simp only [Act.put, List.setIfInBounds_toArray, List.set_cons_zero, List.set_cons_succ, i64_w, i32_w]
              rfl
            refine pure_ (i := 4) (N := some 106) (v := ?_) (a' := ?_) #[true, true, true, false, true, false, false, false, false, false, false, false, false, false, false, false, false] rfl rfl (by kernel_rfl) (fun _ _ _ h => h) (Or.inl ⟨by rfl, ?_⟩) ?_ ?_
            rotate_left
            · intro w'
              go_simp
              with_reducible rfl
            rotate_left
            · simp only [Act.put, List.setIfInBounds_toArray, List.set_cons_zero, List.set_cons_succ, i64_w, i32_w]
              rfl
            refine pure_ (i := 5) (N := some 107) (v := ?_) (a' := ?_) #[true, true, true, false, true, true, false, false, false, false, false, false, false, false, false, false, false] rfl rfl (by kernel_rfl) (fun _ _ _ h => h) (Or.inl ⟨by rfl, ?_⟩) ?_ ?_
            rotate_left
            · intro w'
              go_simp
              with_reducible rfl
            rotate_left
            · simp only [Act.put, List.setIfInBounds_toArray, List.set_cons_zero, List.set_cons_succ, i64_w, i32_w]
              rfl
            refine pure_ (i := 6) (N := some 108) (v := ?_) (a' := ?_) #[true, true, true, false, true, true, true, false, false, false, false, false, false, false, false, false, false] rfl rfl (by kernel_rfl) (fun _ _ _ h => h) (Or.inl ⟨by rfl, ?_⟩) ?_ ?_
            rotate_left
            · intro w'
              go_simp
              with_reducible rfl
            rotate_left
            · simp only [Act.put, List.setIfInBounds_toArray, List.set_cons_zero, List.set_cons_succ, i64_w, i32_w]
              rfl
            refine pure_ (i := 7) (N := some 109) (v := ?_) (a' := ?_) #[true, true, true, false, true, true, true, true, false, false, false, false, false, false, false, false, false] rfl rfl (by kernel_rfl) (fun _ _ _ h => h) (Or.inl ⟨by rfl, ?_⟩) ?_ ?_
            rotate_left
            · intro w'
              go_simp
              with_reducible rfl
            rotate_left
            · simp only [Act.put, List.setIfInBounds_toArray, List.set_cons_zero, List.set_cons_succ, i64_w, i32_w]
              rfl
            refine pure_ (i := 8) (N := some 110) (v := ?_) (a' := ?_) #[true, true, true, false, true, true, true, true, true, false, false, false, false, false, false, false, false] rfl rfl (by kernel_rfl) (fun _ _ _ h => h) (Or.inl ⟨by rfl, ?_⟩) ?_ ?_
            rotate_left
            · intro w'
              go_simp
              with_reducible rfl
            rotate_left
            · simp only [Act.put, List.setIfInBounds_toArray, List.set_cons_zero, List.set_cons_succ, i64_w, i32_w]
              rfl
            refine take_ (i := 3) (N := some 105) (v := ?_) (a' := ?_) #[true, true, true, true, true, true, true, true, true, false, false, false, false, false, false, false, false] rfl rfl (by kernel_rfl) (fun _ _ _ h => h) (Or.inl ⟨by rfl, ?_⟩) hHeld ?_ ?_
            rotate_left
            · rintro w' ⟨s0, s1⟩
              go_simp
              with_reducible rfl
            rotate_left
            · simp only [Act.put, List.setIfInBounds_toArray, List.set_cons_zero, List.set_cons_succ, i64_w, i32_w]
              rfl
            refine take_ (i := 9) (N := some 111) (v := ?_) (a' := ?_) #[true, true, true, true, true, true, true, true, true, true, false, false, false, false, false, false, false] rfl rfl (by kernel_rfl) (fun _ _ _ h => h) (Or.inl ⟨by rfl, ?_⟩) hHeld ?_ ?_
            rotate_left
            · rintro w' ⟨s0, s1⟩
              go_simp
              with_reducible rfl
            rotate_left
            · simp only [Act.put, List.setIfInBounds_toArray, List.set_cons_zero, List.set_cons_succ, i64_w, i32_w]
              rfl
            refine pure_ (i := 10) (N := some 112) (v := ?_) (a' := ?_) #[true, true, true, true, true, true, true, true, true, true, true, false, false, false, false, false, false] rfl rfl (by kernel_rfl) (fun _ _ _ h => h) (Or.inl ⟨by rfl, ?_⟩) ?_ ?_
            rotate_left
            · intro w'
              go_simp
              with_reducible rfl
            rotate_left
            · simp only [Act.put, List.setIfInBounds_toArray, List.set_cons_zero, List.set_cons_succ, i64_w, i32_w]
              rfl
            refine pure_ (i := 11) (N := some 113) (v := ?_) (a' := ?_) #[true, true, true, true, true, true, true, true, true, true, true, true, false, false, false, false, false] rfl rfl (by kernel_rfl) (fun _ _ _ h => h) (Or.inl ⟨by rfl, ?_⟩) ?_ ?_
            rotate_left
            · intro w'
              go_simp
              with_reducible rfl
            rotate_left
            · simp only [Act.put, List.setIfInBounds_toArray, List.set_cons_zero, List.set_cons_succ, i64_w, i32_w]
              rfl
            refine pure_ (i := 12) (N := some 114) (v := ?_) (a' := ?_) #[true, true, true, true, true, true, true, true, true, true, true, true, true, false, false, false, false] rfl rfl (by kernel_rfl) (fun _ _ _ h => h) (Or.inl ⟨by rfl, ?_⟩) ?_ ?_
            rotate_left
            · intro w'
              go_simp
              with_reducible rfl
            rotate_left
            · simp only [Act.put, List.setIfInBounds_toArray, List.set_cons_zero, List.set_cons_succ, i64_w, i32_w]
              rfl
            refine take_ (i := 13) (N := some 115) (v := ?_) (a' := ?_) #[true, true, true, true, true, true, true, true, true, true, true, true, true, true, false, false, false] rfl rfl (by kernel_rfl) (fun _ _ _ h => h) (Or.inl ⟨by rfl, ?_⟩) hHeld ?_ ?_
            rotate_left
            · rintro w' ⟨s0, s1⟩
              go_simp
              with_reducible rfl
            rotate_left
            · simp only [Act.put, List.setIfInBounds_toArray, List.set_cons_zero, List.set_cons_succ, i64_w, i32_w]
              rfl
            refine pure_ (i := 14) (N := some 116) (v := ?_) (a' := ?_) #[true, true, true, true, true, true, true, true, true, true, true, true, true, true, true, false, false] rfl rfl (by kernel_rfl) (fun _ _ _ h => h) (Or.inl ⟨by rfl, ?_⟩) ?_ ?_
            rotate_left
            · intro w'
              go_simp
              with_reducible rfl
            rotate_left
            · simp only [Act.put, List.setIfInBounds_toArray, List.set_cons_zero, List.set_cons_succ, i64_w, i32_w]
              rfl
            refine pure_ (i := 15) (N := some 117) (v := ?_) (a' := ?_) #[true, true, true, true, true, true, true, true, true, true, true, true, true, true, true, true, false] rfl rfl (by kernel_rfl) (fun _ _ _ h => h) (Or.inl ⟨by rfl, ?_⟩) ?_ ?_
            rotate_left
            · intro w'
              go_simp
              with_reducible rfl
            rotate_left
            · simp only [Act.put, List.setIfInBounds_toArray, List.set_cons_zero, List.set_cons_succ, i64_w, i32_w]
              rfl
            refine last_ (i := 16) (N := none) #[true, true, true, true, true, true, true, true, true, true, true, true, true, true, true, true, true] rfl rfl (by kernel_rfl) (by decide) (fun K hK => ?_)
            refine skip_ (w1 := ?_) (by rfl) rfl ?_ ?_
            rotate_left
            · go_simp
              rfl
            refine hK.out _ _ ?_
            clear hK K
            refine done_ (by kernel_rfl) ?_
            rw [HPN.out]
            rw [show (wr.setCell ⟨g, J, none⟩ (.int .i64 (wrap64 (vJ + 1)))).drew = wr.drew.setCell ⟨g, J, none⟩ (.int .i64 (wrap64 (vJ + 1))) by first | rfl | (unfold World.setCell World.drew; rfl) | (unfold World.setCell World.drew; split <;> simp_all)]
            obtain ⟨wf, hwf⟩ : ∃ q, q = wr.drew.setCell ⟨g, J, none⟩ (.int .i64 (wrap64 (vJ + 1))) := ⟨_, rfl⟩
            rw [← hwf] at G1 J6 x0 x1 x2 x3 y0 y1 y2 y3 ⊢
            clear hwf hfJ hcJ e0 e1 e2 e3 hJe hr1 hr2 hr3 hr4 hr8 hr9 hn1 hn2 hn3 hr0 hr6 hr7
            go_wp2_with fail
            clear x0 x1 x2 x3 y0 y1 y2 y3
            (with_reducible refine G1.out.mono ?_)
            rintro e wg7 ⟨rfl, b7⟩
            obtain ⟨ix6, iy6, ik6, BF6⟩ := J6.out
            have ix7 := ix6.later b7
            have iy7 := iy6.later b7
            have ik7 := ik6.later b7
            have BF7 := below_then BF6 BF6.size b7
            have G2' := Aside0.mk (Same_calls (cnt x') x' x P2 m2 P3 m3 A2 c2 A3 c3 wg7 (Nat.le_refl _) iy7.has ix7.has)
            rw [(sameX_ne HNE.out).2] at G2'
            have J7 := Aside0.mk (And.intro ix7 (And.intro iy7 (And.intro ik7 BF7)))
            clear ix6 iy6 ik6 BF6 b7 ik7 BF7
            obtain ⟨x0, x1, x2, x3, _⟩ := ix7
            obtain ⟨y0, y1, y2, y3, _⟩ := iy7
            go_wp2_with fail
            (with_reducible refine G2'.out.mono ?_)
            rintro e wg8 ⟨rfl, b8⟩
            obtain ⟨ix7, iy7, ik7, BF7⟩ := J7.out
            have ix8 := ix7.later b8
            have ik8 := ik7.later b8
            have BF8 := below_then BF7 BF7.size b8
            have J8 := Aside0.mk (And.intro ix8 (And.intro ik8 BF8))
            clear ix7 iy7 ik7 BF7 b8 BF8 x0 x1 x2 x3 y0 y1 y2 y3
            obtain ⟨x0, x1, x2, x3, hx8⟩ := ix8
            obtain ⟨y0, y1, y2, y3, hk8⟩ := ik8
            have G3' := Aside0.mk (CG.out wg8 A2 c2 A3 c3 G2 r2 G3 r3 hx8 hk8)
            clear hx8 hk8
            go_wp2_with fail
            (with_reducible refine G3'.out.mono ?_)
            rintro e wg9 ⟨rfl, b9⟩
            have BF9 := Aside0.mk (below_then J8.out.2.2 J8.out.2.2.size b9)
            clear b9 x0 x1 x2 x3 y0 y1 y2 y3
            go_wp2_with fail
            (with_reducible refine (CO.out _).mono ?_)
            rintro e wga ⟨rfl, ba⟩
            have BFa := Aside0.mk (below_then BF9.out BF9.out.size ba)
            clear ba
            go_wp2
            go_ret
            exact ⟨rfl, BFa.out⟩
          · have ho1a := hb
            have hwz2 := wz_eq z
            have hwz3 := HZZ.out
            have hc1 : wr.cell? ⟨pa.block, pa.off + 1, none⟩ = some (.string z.f1) := e1
            obtain ⟨x', v2', v3', s0, s1', s2, s3, hT', hwf', hcnt', hne'⟩ := SS.out.setName (z.f1 ++ ⟨#[120]⟩) (by rw [ByteArray.size_append]; show z.f1.size + 1 ≤ _; omega) (fun he => by have := congrArg ByteArray.size he; rw [ByteArray.size_append] at this; have h2 : (ByteArray.mk #[120]).size = 1 := rfl; omega)
            obtain ⟨P2, m2, P3, m3, rfl, rfl⟩ := OwnT_slices hT'
            have HHY := OwnT_Has hT' hwf' (by rw [hcnt']; exact CX40.out)
            have HNE := Aside0.mk hne'
            have WF0 : Below w.heap.size w (wr.setCell ⟨pa.block, pa.off + 1, none⟩ (.string (z.f1 ++ ⟨#[120]⟩))) ∧ ∀ b, b ≠ pa.block → (wr.setCell ⟨pa.block, pa.off + 1, none⟩ (.string (z.f1 ++ ⟨#[120]⟩))).heap[b]? = wr.heap[b]? := ⟨(below_then BXA.out BXA.out.size HDR.out.below).setCell (p := ⟨pa.block, pa.off + 1, none⟩) PL.out _, fun b hb => heap_setCell_other wr ⟨pa.block, pa.off + 1, none⟩ b _ hb⟩
            have fz : wr.frozen? ⟨pa.block, pa.off + 1, none⟩ = false := blk_frozen harr _
            have hs1 : ¬ (9223372036854775807 < z.f1.size + (ByteArray.mk #[120]).size) := by show ¬ (9223372036854775807 < z.f1.size + 1); omega
            have hs2 : ¬ (9223372036854775807 < z.f1.size + 1) := hs1
            have hs3 : z.f1.size + 1 ≤ 9223372036854775807 := by omega
            have hs4 : z.f1.size + (ByteArray.mk #[120]).size ≤ 9223372036854775807 := hs3
            clear hT' hwf' hcnt' hne' hwz2 hwz3 ho1a
            by_cases hb1 : how % 3 = 1
            · have ho1a : (how % 3 == 1) = true := beq_iff_eq.2 hb1
              have ho1b : (Int.tmod how 3 == 1) = true := by rw [hmod]; exact ho1a
              clear hmod
              have hn1 : z.f2.length = 0 := by
                rcases Nat.eq_zero_or_pos z.f2.length with h | h
                · exact h
                · exact absurd ⟨hb1, h⟩ hb
              have hn2 : decide ((z.f2.length : Int) > 0) = false := decide_eq_false (by omega)
              have hn3 : decide ((0 : Int) < (z.f2.length : Int)) = false := hn2
              have hn4 : ¬ (0 < z.f2.length) := by omega
              clear hn1 hb hb1
              have BXR := below_then BXA.out BXA.out.size HDR.out.below
              have BYR := below_then BYA.out BYA.out.size HDR.out.below
              obtain ⟨ix6, ik6⟩ := Ends HST.out HS5.out HT2.out HX.out IX5.out IK5.out CX40.out BYR (g := pa.block) PB.out WF0.2 WF0.1
              have iy6 : InBox yb x' P2 m2 P3 m3 (wr.setCell ⟨pa.block, pa.off + 1, none⟩ (.string (z.f1 ++ ⟨#[120]⟩))) := ⟨s0, s1', s2, s3, HHY⟩
              have G1 := Aside0.mk (Same_calls (cnt x) x x' A2 c2 A3 c3 P2 m2 P3 m3 (wr.setCell ⟨pa.block, pa.off + 1, none⟩ (.string (z.f1 ++ ⟨#[120]⟩))) (Nat.le_refl _) ix6.has iy6.has)
              rw [(sameX_ne HNE.out).1] at G1
              have J6 := Aside0.mk (And.intro ix6 (And.intro iy6 (And.intro ik6 WF0.1)))
              obtain ⟨x0, x1, x2, x3, _⟩ := ix6
              obtain ⟨y0, y1, y2, y3, _⟩ := iy6
              clear ik6 BXR BYR s0 s1' s2 s3 HHY WF0
              go_wp2_with fail
              obtain ⟨wf, hwf⟩ : ∃ q, q = wr.setCell ⟨pa.block, pa.off + 1, none⟩ (.string (z.f1 ++ ⟨#[120]⟩)) := ⟨_, rfl⟩
              rw [← hwf] at G1 J6 ⊢
              clear hwf x0 x1 x2 x3 y0 y1 y2 y3 fz e0 e1 e2 e3 harr hs1 hs2 hs3 hs4
              (with_reducible refine G1.out.mono ?_)
              rintro e wg7 ⟨rfl, b7⟩
              obtain ⟨ix6, iy6, ik6, BF6⟩ := J6.out
              have ix7 := ix6.later b7
              have iy7 := iy6.later b7
              have ik7 := ik6.later b7
              have BF7 := below_then BF6 BF6.size b7
              have G2' := Aside0.mk (Same_calls (cnt x') x' x P2 m2 P3 m3 A2 c2 A3 c3 wg7 (Nat.le_refl _) iy7.has ix7.has)
              rw [(sameX_ne HNE.out).2] at G2'
              have J7 := Aside0.mk (And.intro ix7 (And.intro iy7 (And.intro ik7 BF7)))
              clear ix6 iy6 ik6 BF6 b7 ik7 BF7
              obtain ⟨x0, x1, x2, x3, _⟩ := ix7
              obtain ⟨y0, y1, y2, y3, _⟩ := iy7
              go_wp2_with fail
              (with_reducible refine G2'.out.mono ?_)
              rintro e wg8 ⟨rfl, b8⟩
              obtain ⟨ix7, iy7, ik7, BF7⟩ := J7.out
              have ix8 := ix7.later b8
              have ik8 := ik7.later b8
              have BF8 := below_then BF7 BF7.size b8
              have J8 := Aside0.mk (And.intro ix8 (And.intro ik8 BF8))
              clear ix7 iy7 ik7 BF7 b8 BF8 x0 x1 x2 x3 y0 y1 y2 y3
              obtain ⟨x0, x1, x2, x3, hx8⟩ := ix8
              obtain ⟨y0, y1, y2, y3, hk8⟩ := ik8
              have G3' := Aside0.mk (CG.out wg8 A2 c2 A3 c3 G2 r2 G3 r3 hx8 hk8)
              clear hx8 hk8
              go_wp2_with fail
              (with_reducible refine G3'.out.mono ?_)
              rintro e wg9 ⟨rfl, b9⟩
              have BF9 := Aside0.mk (below_then J8.out.2.2 J8.out.2.2.size b9)
              clear b9 x0 x1 x2 x3 y0 y1 y2 y3
              go_wp2_with fail
              (with_reducible refine (CO.out _).mono ?_)
              rintro e wga ⟨rfl, ba⟩
              have BFa := Aside0.mk (below_then BF9.out BF9.out.size ba)
              clear ba
              go_wp2
              go_ret
              exact ⟨rfl, BFa.out⟩
            · have ho1a : (how % 3 == 1) = false := beq_eq_false_iff_ne.2 hb1
              have ho1b : (Int.tmod how 3 == 1) = false := by rw [hmod]; exact ho1a
              clear hmod
              clear hb hb1
              have BXR := below_then BXA.out BXA.out.size HDR.out.below
              have BYR := below_then BYA.out BYA.out.size HDR.out.below
              obtain ⟨ix6, ik6⟩ := Ends HST.out HS5.out HT2.out HX.out IX5.out IK5.out CX40.out BYR (g := pa.block) PB.out WF0.2 WF0.1
              have iy6 : InBox yb x' P2 m2 P3 m3 (wr.setCell ⟨pa.block, pa.off + 1, none⟩ (.string (z.f1 ++ ⟨#[120]⟩))) := ⟨s0, s1', s2, s3, HHY⟩
              have G1 := Aside0.mk (Same_calls (cnt x) x x' A2 c2 A3 c3 P2 m2 P3 m3 (wr.setCell ⟨pa.block, pa.off + 1, none⟩ (.string (z.f1 ++ ⟨#[120]⟩))) (Nat.le_refl _) ix6.has iy6.has)
              rw [(sameX_ne HNE.out).1] at G1
              have J6 := Aside0.mk (And.intro ix6 (And.intro iy6 (And.intro ik6 WF0.1)))
              obtain ⟨x0, x1, x2, x3, _⟩ := ix6
              obtain ⟨y0, y1, y2, y3, _⟩ := iy6
              clear ik6 BXR BYR s0 s1' s2 s3 HHY WF0
              go_wp2_with fail
              obtain ⟨wf, hwf⟩ : ∃ q, q = wr.setCell ⟨pa.block, pa.off + 1, none⟩ (.string (z.f1 ++ ⟨#[120]⟩)) := ⟨_, rfl⟩
              rw [← hwf] at G1 J6 ⊢
              clear hwf x0 x1 x2 x3 y0 y1 y2 y3 fz e0 e1 e2 e3 harr hs1 hs2 hs3 hs4
              (with_reducible refine G1.out.mono ?_)
              rintro e wg7 ⟨rfl, b7⟩
              obtain ⟨ix6, iy6, ik6, BF6⟩ := J6.out
              have ix7 := ix6.later b7
              have iy7 := iy6.later b7
              have ik7 := ik6.later b7
              have BF7 := below_then BF6 BF6.size b7
              have G2' := Aside0.mk (Same_calls (cnt x') x' x P2 m2 P3 m3 A2 c2 A3 c3 wg7 (Nat.le_refl _) iy7.has ix7.has)
              rw [(sameX_ne HNE.out).2] at G2'
              have J7 := Aside0.mk (And.intro ix7 (And.intro iy7 (And.intro ik7 BF7)))
              clear ix6 iy6 ik6 BF6 b7 ik7 BF7
              obtain ⟨x0, x1, x2, x3, _⟩ := ix7
              obtain ⟨y0, y1, y2, y3, _⟩ := iy7
              go_wp2_with fail
              (with_reducible refine G2'.out.mono ?_)
              rintro e wg8 ⟨rfl, b8⟩
              obtain ⟨ix7, iy7, ik7, BF7⟩ := J7.out
              have ix8 := ix7.later b8
              have ik8 := ik7.later b8
              have BF8 := below_then BF7 BF7.size b8
              have J8 := Aside0.mk (And.intro ix8 (And.intro ik8 BF8))
              clear ix7 iy7 ik7 BF7 b8 BF8 x0 x1 x2 x3 y0 y1 y2 y3
              obtain ⟨x0, x1, x2, x3, hx8⟩ := ix8
              obtain ⟨y0, y1, y2, y3, hk8⟩ := ik8
              have G3' := Aside0.mk (CG.out wg8 A2 c2 A3 c3 G2 r2 G3 r3 hx8 hk8)
              clear hx8 hk8
              go_wp2_with fail
              (with_reducible refine G3'.out.mono ?_)
              rintro e wg9 ⟨rfl, b9⟩
              have BF9 := Aside0.mk (below_then J8.out.2.2 J8.out.2.2.size b9)
              clear b9 x0 x1 x2 x3 y0 y1 y2 y3
              go_wp2_with fail
              (with_reducible refine (CO.out _).mono ?_)
              rintro e wga ⟨rfl, ba⟩
              have BFa := Aside0.mk (below_then BF9.out BF9.out.size ba)
              clear ba
              go_wp2
              go_ret
              exact ⟨rfl, BFa.out⟩
  · rw [decide_eq_false s1] at CS0
    clear s1
    go_enter Tryd.func5, Tryd.ntmps5
    go_wp2_with fail
    (with_reducible refine CS0.out.mono ?_)
    rintro e w1 ⟨rfl, b1⟩
    have BX1 := Aside0.mk (below_then BX0.out BX0.out.size b1)
    clear b1
    go_wp2_with fail
    (with_reducible refine (CO.out _).mono ?_)
    rintro e wc ⟨rfl, b3⟩
    have BXc := Aside0.mk (below_then BX1.out BX1.out.size b3)
    clear b3
    go_wp2
    go_ret
    exact ⟨rfl, BXc.out⟩
end Go.Proofs.YtjeofffddbibeaaDoor.Ex
