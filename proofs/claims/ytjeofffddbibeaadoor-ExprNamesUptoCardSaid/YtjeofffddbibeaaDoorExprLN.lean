/-
  ExprNames, the law: the walk (expressions of at most 1000 parts).
-/
import Derived.Test.YtjeofffddbibeaaDoorExprL
namespace Go.Proofs.YtjeofffddbibeaaDoor.Ex
open Go Go.Maps Go.RowKit Go.Proofs.YtjeofffddbibeaaDoor.PExprTells Go.Proofs.YtjeofffddbibeaaDoorW.PrintWords Go.Proofs.YtjeofffddbibeaaDoorW.PrintLast Go.Proofs.YtjeofffddbibeaaDoorW.PrintMore
set_option linter.unusedVariables false
set_option linter.unusedSimpArgs false

theorem kS_at {w : World} {A : Option Addr} {xs : List ByteArray} (h : kS.C w A xs.length xs) (k : Nat) (hk : k < xs.length) : ∃ ad, A = some ad ∧ w.cell? (ad.add k) = some (.string xs[k]) := by
  have hr := Kd.reads_of_C (enc := Value.string) (d := ByteArray.empty) (h1 := fun _ => rfl) h
  obtain ⟨ad, hA, hc⟩ := hr.at_ (k : Int) (by omega) (by omega)
  refine ⟨ad, hA, ?_⟩
  rw [Int.toNat_natCast] at hc
  rw [hc]
  unfold rdOf
  rw [Int.toNat_natCast, List.getD_eq_getElem?_getD, List.getElem?_eq_getElem hk]
  rfl
theorem filter_snoc (a b : List ByteArray) (k : Nat) (hk : k < b.length) : a ++ (b.take (k + 1)).filter (newB a) = if newB a b[k] = true then (a ++ (b.take k).filter (newB a)) ++ [b[k]] else a ++ (b.take k).filter (newB a) := by
  rw [List.take_add_one, List.filter_append, List.getElem?_eq_getElem hk]
  by_cases h : newB a b[k] = true
  · rw [if_pos h]
    simp [h]
  · rw [if_neg h]
    simp [h]
theorem nameB_size {t : ByteArray} (h : nameB t = true) : t.size ≤ 140737488351232 := by
  have hs : t.size = t.data.toList.length := by simp
  rw [hs]
  unfold nameB at h
  cases hl : t.data.toList with
  | nil => simp
  | cons b l =>
    rw [hl] at h
    unfold nameL at h
    simp only [Bool.and_eq_true, decide_eq_true_eq] at h
    rw [List.length_cons]
    omega
set_option maxHeartbeats 8000000 in
set_option maxRecDepth 100000 in
theorem ExprNames_small (x y : X) (A2 : Option Addr) (c2 : Nat) (A3 : Option Addr) (c3 : Nat) (B2 : Option Addr) (d2 : Nat) (B3 : Option Addr) (d3 : Nat) (w : World) (hx : Has w x A2 c2 A3 c3) (hy : Has w y B2 d2 B3 d3)
    (h1 : cnt x ≤ 1000) (h2 : cnt y ≤ 1000) :
    Calls Tryd.prog 3 #[agg x A2 c2 A3 c3, agg y B2 d2 B3 d3] w fun e w' => e = .returned (.bool true) ∧ Below w.heap.size w w' := by
  have hcx : cnt x ≤ 1099511627776 := by omega
  have hcy : cnt y ≤ 1099511627776 := by omega
  have CO := Aside0.mk (fun w => awake_calls w)
  have ix := (InBox.new hx 25 w.heap.size rfl).a (.cells #[.int .u8 y.f0, .string y.f1, .slice B2 y.f2.length d2, .slice B3 y.f3.length d3] 25)
  have iy := InBox.new (hy.a (.cells #[.int .u8 x.f0, .string x.f1, .slice A2 x.f2.length c2, .slice A3 x.f3.length c3] 25)) 25 (w.heap.size + 1) (by simp)
  have BB : Below w.heap.size w ((w.alloc (.cells #[.int .u8 x.f0, .string x.f1, .slice A2 x.f2.length c2, .slice A3 x.f3.length c3] 25)).alloc (.cells #[.int .u8 y.f0, .string y.f1, .slice B2 y.f2.length d2, .slice B3 y.f3.length d3] 25)) := below_alloc (below_alloc (Below.refl _ _) _) _
  have CX := Aside0.mk (Count_calls x A2 c2 A3 c3 _ ix.has hcx)
  have IX := Aside0.mk ix
  have IY := Aside0.mk iy
  have BX := Aside0.mk BB
  have L1 := Aside0.mk h1
  have L2 := Aside0.mk h2
  have hd : decide ((cnt x : Int) > 1000) = false := decide_eq_false (by omega)
  have hd' : decide ((1000 : Int) < (cnt x : Int)) = false := hd
  have he : decide ((cnt y : Int) > 1000) = false := decide_eq_false (by omega)
  have he' : decide ((1000 : Int) < (cnt y : Int)) = false := he
  clear ix iy BB h1 h2
  go_enter Tryd.func3, Tryd.ntmps3
  go_wp2_with fail
  (with_reducible refine (CX.out).mono ?_)
  rintro e w1 ⟨rfl, b1⟩
  have BX := Aside0.mk (below_then BX.out BX.out.size b1)
  have IX := Aside0.mk (IX.out.later b1)
  have iy := IY.out.later b1
  have IY := Aside0.mk iy
  have q0 := iy.q0
  have q1 := iy.q1
  have q2 := iy.q2
  have q3 := iy.q3
  have CY := Aside0.mk (Count_calls y B2 d2 B3 d3 _ iy.has hcy)
  clear b1 iy
  go_wp2_with fail
  (with_reducible refine (CY.out).mono ?_)
  rintro e w2 ⟨rfl, b2⟩
  have BX := Aside0.mk (show Below w.heap.size w w2.drew from pw_below_drewN (below_then BX.out BX.out.size b2) 1)
  have ix2 : InBox w.heap.size x A2 c2 A3 c3 w2.drew := (IX.out.later b2).dr 1
  have iy2 : InBox (w.heap.size + 1) y B2 d2 B3 d3 w2.drew := (IY.out.later b2).dr 1
  clear b2 q0 q1 q2 q3 CX CY IX IY
  go_wp2_with fail
  refine start_ (n := 6) (S := fun w' => w'.cell? ⟨w.heap.size, 0, none⟩ = some (.int .u8 x.f0) ∧ w'.cell? ⟨w.heap.size, 1, none⟩ = some (.string x.f1) ∧ w'.cell? ⟨w.heap.size, 2, none⟩ = some (.slice A2 x.f2.length c2) ∧ w'.cell? ⟨w.heap.size, 3, none⟩ = some (.slice A3 x.f3.length c3) ∧ w'.cell? ⟨w.heap.size + 1, 0, none⟩ = some (.int .u8 y.f0) ∧ w'.cell? ⟨w.heap.size + 1, 1, none⟩ = some (.string y.f1) ∧ w'.cell? ⟨w.heap.size + 1, 2, none⟩ = some (.slice B2 y.f2.length d2) ∧ w'.cell? ⟨w.heap.size + 1, 3, none⟩ = some (.slice B3 y.f3.length d3)) (ds := []) #[false, false, false, false, false, false] (by kernel_rfl) rfl rfl ⟨ix2.q0, ix2.q1, ix2.q2, ix2.q3, iy2.q0, iy2.q1, iy2.q2, iy2.q3⟩ (fun hHeld => ?_)
  refine take_ (i := 0) (N := some 25) (v := ?_) (a' := ?_) #[true, false, false, false, false, false] rfl rfl (by kernel_rfl) (fun _ _ _ h => h) (Or.inl ⟨by rfl, ?_⟩) hHeld ?_ ?_
  rotate_left
  · rintro w' ⟨s0, s1, s2, s3, s4, s5, s6, s7⟩
    go_simp
    with_reducible rfl
  rotate_left
  · simp only [Act.put, List.setIfInBounds_toArray, List.set_cons_zero, List.set_cons_succ, i64_w, i32_w]
    rfl
  refine take_ (i := 2) (N := some 27) (v := ?_) (a' := ?_) #[true, false, true, false, false, false] rfl rfl (by kernel_rfl) (fun _ _ _ h => h) (Or.inl ⟨by rfl, ?_⟩) hHeld ?_ ?_
  rotate_left
  · rintro w' ⟨s0, s1, s2, s3, s4, s5, s6, s7⟩
    go_simp
    with_reducible rfl
  rotate_left
  · simp only [Act.put, List.setIfInBounds_toArray, List.set_cons_zero, List.set_cons_succ, i64_w, i32_w]
    rfl
  refine one_ (i := 1) (N := some 26) #[true, true, true, false, false, false] rfl rfl (by kernel_rfl) (by decide) (fun K hK => ?_)
  refine goes_ Tryd.func13 (by kernel_rfl) rfl #[agg x A2 c2 A3 c3] (by rfl) rfl rfl (by simp only [List.map_toArray, List.map_cons, List.map_nil]; rfl) ?_
  with_reducible refine (Names_rd x A2 c2 A3 c3 _ ix2.has hcx).mono ?_
  rintro e w3 ⟨A5, c5, rfl, hl5, hC5, b5⟩
  refine ⟨_, rfl, ?_⟩
  have ix3 := ix2.later b5
  have iy3 := iy2.later b5
  have BX := Aside0.mk (below_then BX.out BX.out.size b5)
  refine hK.out _ _ ⟨ix3.q0, ix3.q1, ix3.q2, ix3.q3, iy3.q0, iy3.q1, iy3.q2, iy3.q3⟩ (fun hHeld => ?_)
  clear hK K
  refine norm_ (a' := ?_) ?_ ?_
  rotate_left
  · show Act.put _ (some 26) _ = _
    simp only [Act.put, List.setIfInBounds_toArray, List.set_cons_zero, List.set_cons_succ, i64_w, i32_w]
    rfl
  refine one_ (i := 3) (N := some 28) #[true, true, true, true, false, false] rfl rfl (by kernel_rfl) (by decide) (fun K hK => ?_)
  refine goes_ Tryd.func13 (by kernel_rfl) rfl #[agg y B2 d2 B3 d3] (by rfl) rfl rfl (by simp only [List.map_toArray, List.map_cons, List.map_nil]; rfl) ?_
  with_reducible refine (Names_rd y B2 d2 B3 d3 _ iy3.has hcy).mono ?_
  rintro e w4 ⟨A6, c6, rfl, hl6, hC6, b6⟩
  refine ⟨_, rfl, ?_⟩
  have ix4 := ix3.later b6
  have iy4 := iy3.later b6
  have hC5 := Kd.C_below hC5 b6
  have BX := Aside0.mk (below_then BX.out BX.out.size b6)
  refine hK.out _ _ ⟨ix4.q0, ix4.q1, ix4.q2, ix4.q3, iy4.q0, iy4.q1, iy4.q2, iy4.q3⟩ (fun hHeld => ?_)
  clear hK K
  refine norm_ (a' := ?_) ?_ ?_
  rotate_left
  · show Act.put _ (some 28) _ = _
    simp only [Act.put, List.setIfInBounds_toArray, List.set_cons_zero, List.set_cons_succ, i64_w, i32_w]
    rfl
  refine pure_ (i := 4) (N := some 5) (v := ?_) (a' := ?_) #[true, true, true, true, true, false] rfl rfl (by kernel_rfl) (fun _ _ _ h => h) (Or.inl ⟨by rfl, ?_⟩) ?_ ?_
  rotate_left
  · intro w'
    go_simp
    with_reducible rfl
  rotate_left
  · simp only [Act.put, List.setIfInBounds_toArray, List.set_cons_zero, List.set_cons_succ, i64_w, i32_w]
    rfl
  refine pure_ (i := 5) (N := some 6) (v := ?_) (a' := ?_) #[true, true, true, true, true, true] rfl rfl (by kernel_rfl) (fun _ _ _ h => h) (Or.inl ⟨by rfl, ?_⟩) ?_ ?_
  rotate_left
  · intro w'
    go_simp
    with_reducible rfl
  rotate_left
  · simp only [Act.put, List.setIfInBounds_toArray, List.set_cons_zero, List.set_cons_succ, i64_w, i32_w]
    rfl
  refine done_ (by kernel_rfl) ?_

  have hz := names_two 10 [] x y
  have la := names_cnt x
  have lb := names_cnt y
  have hR0 := Aside0.mk (fun h : RightB x = true => right_has_names hx.wf h)
  have hR1 := Aside0.mk (fun (h : RightB x = true) t (ht : t ∈ addAll [] (namesX x)) => right_names h ht)
  generalize hza : addAll [] (namesX x) = a at *
  generalize hzb : addAll [] (namesX y) = b at *
  obtain ⟨l, hll⟩ : ∃ l, l = a ++ b.filter (newB a) := ⟨_, rfl⟩
  rw [← hll] at hz
  have HZ := Aside0.mk hz
  have HLL := Aside0.mk hll
  have wz : Wf (⟨10, nil8, [], [x, y]⟩ : X) := (Wf_eq _).2 ⟨⟨(by decide : (0 : Int) ≤ 10), (by decide : (10 : Int) ≤ 255)⟩, (by decide : nil8.size ≤ 140737488351232), (fun _ h => by cases h), WfL_of (fun u h => by
    rcases List.mem_cons.1 h with rfl | h
    · exact hx.wf
    · rcases List.mem_singleton.1 h with rfl
      exact hy.wf)⟩
  have cz : cnt (⟨10, nil8, [], [x, y]⟩ : X) ≤ 1099511627776 := by
    have := L1.out
    have := L2.out
    rw [cnt_eq]
    show 1 + cntL [x, y] ≤ _
    rw [cntL_cons, cntL_cons, cntL_nil]
    omega
  have j2 := C_two (w := w4.alloc (.cells #[.int .u8 x.f0, .string x.f1, .slice A2 x.f2.length c2, .slice A3 x.f3.length c3, .int .u8 y.f0, .string y.f1, .slice B2 y.f2.length d2, .slice B3 y.f3.length d3] 25)) (b := w4.heap.size) (x := x) (y := y) (ix4.a _).has (iy4.a _).has (by rw [World.cell?_alloc_at _ _ _ _ (by simp)]; rfl) (by rw [World.cell?_alloc_at _ _ _ _ (by simp)]; rfl) (by rw [World.cell?_alloc_at _ _ _ _ (by simp)]; rfl) (by rw [World.cell?_alloc_at _ _ _ _ (by simp)]; rfl) (by rw [World.cell?_alloc_at _ _ _ _ (by simp)]; rfl) (by rw [World.cell?_alloc_at _ _ _ _ (by simp)]; rfl) (by rw [World.cell?_alloc_at _ _ _ _ (by simp)]; rfl) (by rw [World.cell?_alloc_at _ _ _ _ (by simp)]; rfl)
  have J2 := Aside0.mk j2
  have WZ := Aside0.mk wz
  have CZ := Aside0.mk cz
  have q0 := ix4.q0
  have q1 := ix4.q1
  have q2 := ix4.q2
  have q3 := ix4.q3
  have k0 := iy4.q0
  have k1 := iy4.q1
  have k2 := iy4.q2
  have k3 := iy4.q3
  have IX := Aside0.mk (ix4.a (.cells #[.int .u8 x.f0, .string x.f1, .slice A2 x.f2.length c2, .slice A3 x.f3.length c3, .int .u8 y.f0, .string y.f1, .slice B2 y.f2.length d2, .slice B3 y.f3.length d3] 25))
  have H5 := Aside0.mk (Kd.C_below hC5 (below_alloc (Below.refl w4.heap.size w4) (.cells #[.int .u8 x.f0, .string x.f1, .slice A2 x.f2.length c2, .slice A3 x.f3.length c3, .int .u8 y.f0, .string y.f1, .slice B2 y.f2.length d2, .slice B3 y.f3.length d3] 25)))
  have H6 := Aside0.mk (Kd.C_below hC6 (below_alloc (Below.refl w4.heap.size w4) (.cells #[.int .u8 x.f0, .string x.f1, .slice A2 x.f2.length c2, .slice A3 x.f3.length c3, .int .u8 y.f0, .string y.f1, .slice B2 y.f2.length d2, .slice B3 y.f3.length d3] 25)))
  have BX := Aside0.mk (below_alloc BX.out (.cells #[.int .u8 x.f0, .string x.f1, .slice A2 x.f2.length c2, .slice A3 x.f3.length c3, .int .u8 y.f0, .string y.f1, .slice B2 y.f2.length d2, .slice B3 y.f3.length d3] 25))
  clear hll hz hC5 hC6 j2 wz cz hHeld ix2 iy2 ix3 iy3 ix4 iy4 b5 b6 hza hzb
  go_wp2_with fail
  (with_reducible refine (Made_calls _ _ _ _ _ _ _ _).mono ?_)
  rintro e w5 ⟨rfl, b⟩
  have IX := Aside0.mk (IX.out.later b)
  have H5 := Aside0.mk (Kd.C_below H5.out b)
  have H6 := Aside0.mk (Kd.C_below H6.out b)
  have BX := Aside0.mk (below_then BX.out BX.out.size b)
  have CC0 := Aside0.mk (Names_rd (⟨10, nil8, [], [x, y]⟩ : X) none 0 (some ⟨w4.heap.size, 0, none⟩) 2 w5 ⟨WZ.out, Nat.le_refl 0, Kd.C_nil _ _, Nat.le_refl 2, Kd.C_below J2.out b⟩ CZ.out)
  rw [HZ.out] at CC0
  have CC := Aside0.mk (show Calls _ _ #[.agg #[.int .u8 10, .string nil8, .slice none 0 0, .slice (some ⟨w4.heap.size, 0, none⟩) 2 2]] _ _ from CC0.out)
  clear CC0 b
  go_wp2_with fail
  (with_reducible refine (CC.out).mono ?_)
  rintro e w6 ⟨A7, c7, rfl, hl7, hC7, b⟩
  have IX := Aside0.mk (IX.out.later b)
  have H5 := Aside0.mk (Kd.C_below H5.out b)
  have H6 := Aside0.mk (Kd.C_below H6.out b)
  have BX := Aside0.mk (below_then BX.out BX.out.size b)
  have H7 := Aside0.mk hC7
  clear b CC hC7
  clear q0 q1 q2 q3 k0 k1 k2 k3
  have la5 : (0 + a.length) * 16 ≤ 140737488355328 := by have := L1.out; omega
  have hl62 : l.length ≤ 4611686018427387904 := by
    have h1 := List.length_filter_le (newB a) b
    have h2 := L1.out
    have h3 := L2.out
    rw [HLL.out, List.length_append]
    omega
  have HL62 := Aside0.mk hl62
  have H7C := Aside0.mk hl7
  clear hl62 hl7
  have CR := Aside0.mk (fun (w : World) (h : Has w x A2 c2 A3 c3) => Right_calls x A2 c2 A3 c3 w h (by have := L1.out; omega))
  generalize RightB x = r at *
  have lb5 : b.length ≤ 1000 := by have := L2.out; omega
  have LA := Aside0.mk la
  have LB := Aside0.mk lb
  have H5C := Aside0.mk hl5
  clear hcx hcy hd hd' he he' WZ CZ J2 hHeld hx hy IY la lb hl5
  go_wp2_with (first | ((with_reducible refine gate_builtin (b := .append) (xs := #[.tmp 34, .tmp 35]) rfl ?_); at_builtin; refine Kd.R_append_row Value.string nil8 (h1 := fun _ => rfl) (w0 := w6) w6.heap.size rfl (.tmp 34) (.tmp 35) 28 9 (.string nil8) 16 rfl Tryd.underlying28 info9 rfl (by omega) (.slice (some ⟨w6.heap.size, 0, none⟩) 0 0) ([] : List ByteArray) a A5 a.length c5 (fun _ => True) rfl rfl (fun _ _ => trivial) ⟨fun _ _ => trivial, OwnRow.lit w6 w6.heap.size (inner := []) (ps := []) (Reps.none _ _) (Nat.le_refl _) (by decide)⟩ (Kd.C_below H5.out (below_alloc (Below.refl _ _) _)) (below_alloc (Below.refl _ _) _) (Nat.le_of_lt (by simp)) la5 ?_; intro v7 w7 ho hb hg hat; rw [List.nil_append] at ho; have HO := Aside0.mk ho; have HB := Aside0.mk hb; clear ho hb hg hat))
  go_loopw [39, 8] (fun i v wr => ∃ k : Nat, k ≤ b.length ∧ i = .int .i64 k ∧ kS.R 9 wr w6.heap.size (fun _ => True) v (a ++ (b.take k).filter (newB a)) ∧ Below w6.heap.size w6 wr) (fun i _ _ => (b.length : Int).toNat - (intOf i).toNat)
  case atStart => exact ⟨0, Nat.zero_le _, rfl, by rw [List.take_zero, List.filter_nil, List.append_nil]; exact HO.out, HB.out⟩
  case round =>
    obtain ⟨k, hk, rfl, hr, hbr⟩ := hrel
    have HRR := Aside0.mk hr
    have HBR := Aside0.mk hbr
    clear hr hbr
    by_cases hkn : k < b.length
    · have hki : (k : Int) < (b.length : Int) := by omega
      have hki' : decide ((k : Int) < (b.length : Int)) = true := decide_eq_true hki
      obtain ⟨ad, hA, hc⟩ := kS_at (Kd.C_below H6.out HBR.out) k hkn
      subst hA
      have HC := Aside0.mk hc
      go_wp2_with fail
      go_loopw [45, 11] (fun j m w' => ∃ q : Nat, q ≤ a.length ∧ j = .int .i64 q ∧ m = .bool ((a.take q).any (eqB b[k])) ∧ w' = wr) (fun j _ _ => (a.length : Int).toNat - (intOf j).toNat)
      case atStart => exact ⟨0, Nat.zero_le _, rfl, rfl, rfl⟩
      case round =>
        obtain ⟨q, hq, rfl, rfl, rfl⟩ := hrel
        by_cases hqn : q < a.length
        · have hqi : (q : Int) < (a.length : Int) := by omega
          have hqi' : decide ((q : Int) < (a.length : Int)) = true := decide_eq_true hqi
          obtain ⟨ae, hE, hd⟩ := kS_at (Kd.C_below H5.out HBR.out) q hqn
          subst hE
          have hs : (a.take (q + 1)).any (eqB b[k]) = ((a.take q).any (eqB b[k]) || eqB b[k] a[q]) := by
            rw [List.take_add_one, List.any_append, List.getElem?_eq_getElem hqn]
            simp
          have HS := Aside0.mk hs
          clear hs
          generalize (a.take q).any (eqB b[k]) = met at *
          cases met
          · go_wp2_with fail
            go_roundw
            case rel => exact ⟨q + 1, by omega, by go_num, by rw [HS.out, Bool.false_or, eqB, Lib.toList_data, Lib.toList_data], by trivial⟩
            case measure => simp [intOf]; omega
          · go_wp2_with fail
            go_roundw
            case rel => exact ⟨q + 1, by omega, by go_num, by rw [HS.out]; rfl, by trivial⟩
            case measure => simp [intOf]; omega
        · obtain rfl : q = a.length := by omega
          have hqi' : decide ((a.length : Int) < (a.length : Int)) = false := by simp
          have hcut := filter_snoc a b k hkn
          have HF := Aside0.mk hcut
          have hn : newB a b[k] = !a.any (eqB b[k]) := rfl
          rw [List.take_length]
          rw [hn] at HF
          have hlen : ((a ++ (b.take k).filter (newB a)).length + 1) * 16 ≤ 140737488355328 := by
            have h1 := List.length_filter_le (newB a) (b.take k)
            have h2 := LA.out
            have h3 := LB.out
            have h4 := L1.out
            have h5 := L2.out
            rw [List.length_take] at h1
            rw [List.length_append]
            omega
          have HL := Aside0.mk hlen
          clear hcut hn hlen
          generalize a.any (eqB b[k]) = met at *
          cases met
          · go_wp2_with (first | ((with_reducible refine gate_builtin (b := .append) (xs := #[.tmp 58, .tmp 60]) rfl ?_); at_builtin; refine Kd.R_append kS (w0 := w6) w6.heap.size rfl (.tmp 58) (.tmp 60) 28 9 (.string nil8) 16 rfl Tryd.underlying28 info9 rfl (by decide) (by omega) _ (a ++ (b.take k).filter (newB a)) b[k] [.string b[k]] (fun _ => True) (fun _ => False) rfl rfl rfl (fun _ hk => hk.elim) (fun _ _ => trivial) HRR.out HBR.out HBR.out.size HL.out ?_; intro v8 w8 ho hb hg hat; have HO := Aside0.mk ho; have HB := Aside0.mk hb; clear ho hb hg hat))
            go_roundw
            case rel => exact ⟨k + 1, by omega, by go_num, by rw [HF.out]; exact HO.out, HB.out⟩
            case measure => simp [intOf]; omega
          · go_wp2_with fail
            go_roundw
            case rel => exact ⟨k + 1, by omega, by go_num, by rw [HF.out]; exact HRR.out, HBR.out⟩
            case measure => simp [intOf]; omega
    · obtain rfl : k = b.length := by omega
      have hr := HRR.out
      rw [List.take_length, ← HLL.out] at hr
      obtain ⟨Aw, cw, rfl, hcw, hCw⟩ := Kd.R_reads hr
      have hki' : decide ((b.length : Int) < (b.length : Int)) = false := by simp
      have H7 := Aside0.mk (Kd.C_below H7.out HBR.out)
      have H5 := Aside0.mk (Kd.C_below H5.out HBR.out)
      have IX := Aside0.mk (IX.out.later HBR.out)
      have BX := Aside0.mk (below_then BX.out BX.out.size HBR.out)
      have CT := Aside0.mk (Texts_calls l A7 c7 Aw cw wr H7.out H7C.out hCw hcw HL62.out)
      clear hr hCw HRR HBR
      go_wp2_with fail
      (with_reducible refine CT.out.mono ?_)
      rintro e w9 ⟨rfl, b9⟩
      have H5 := Aside0.mk (Kd.C_below H5.out b9)
      have ix := IX.out.later b9
      have IX := Aside0.mk ix
      have BX := Aside0.mk (below_then BX.out BX.out.size b9)
      have q0 := ix.q0
      have q1 := ix.q1
      have q2 := ix.q2
      have q3 := ix.q3
      have CX := Aside0.mk (CR.out _ ix.has)
      clear ix b9 CT
      go_wp2_with fail
      (with_reducible refine CX.out.mono ?_)
      rintro e w10 ⟨rfl, b10⟩
      have H5 := Aside0.mk (Kd.C_below H5.out b10)
      have IX := Aside0.mk (IX.out.later b10)
      have BX := Aside0.mk (below_then BX.out BX.out.size b10)
      clear q0 q1 q2 q3 CX b10
      cases r
      · go_wp2
        go_loopw [78] (fun i w' => ∃ q : Nat, q ≤ a.length ∧ i = .int .i64 q ∧ Below w10.heap.size w10 w') (fun i _ => (a.length : Int).toNat - (intOf i).toNat)
        case atStart => exact ⟨0, Nat.zero_le _, rfl, Below.refl _ _⟩
        case round =>
          obtain ⟨q, hq, rfl, hbr⟩ := hrel
          by_cases hqn : q < a.length
          · have hqi : (q : Int) < (a.length : Int) := by omega
            have hqi' : decide ((q : Int) < (a.length : Int)) = true := decide_eq_true hqi
            obtain ⟨ae, hE, hd⟩ := kS_at (Kd.C_below H5.out hbr) q hqn
            subst hE
            have ix := IX.out.later hbr
            have q0 := ix.q0
            have q1 := ix.q1
            have q2 := ix.q2
            have q3 := ix.q3
            have CX := Aside0.mk (CR.out _ ix.has)
            have HBR := Aside0.mk hbr
            clear ix hbr
            go_wp2_with fail
            (with_reducible refine CX.out.mono ?_)
            rintro e w11 ⟨rfl, b11⟩
            have HBR := Aside0.mk (below_then HBR.out HBR.out.size b11)
            clear b11 q0 q1 q2 q3 hd CX
            go_wp2_with fail
            go_roundw
            case rel => exact ⟨q + 1, by omega, by go_num, HBR.out⟩
            case measure => simp [intOf]; omega
          · obtain rfl : q = a.length := by omega
            have hqi' : decide ((a.length : Int) < (a.length : Int)) = false := by simp
            have BX := Aside0.mk (below_then BX.out BX.out.size hbr)
            clear hbr
            go_wp2_with fail
            (with_reducible refine (CO.out _).mono ?_)
            rintro e w12 ⟨rfl, b12⟩
            have BX := Aside0.mk (below_then BX.out BX.out.size b12)
            clear b12
            go_wp2
            go_ret
            exact ⟨rfl, BX.out⟩
      · have h0 := hR0.out rfl
        have hz0 : ((a.length : Int) == 0) = false := beq_eq_false_iff_ne.2 (by omega)
        clear h0
        go_wp2
        go_loopw [78] (fun i w' => ∃ q : Nat, q ≤ a.length ∧ i = .int .i64 q ∧ Below w10.heap.size w10 w') (fun i _ => (a.length : Int).toNat - (intOf i).toNat)
        case atStart => exact ⟨0, Nat.zero_le _, rfl, Below.refl _ _⟩
        case round =>
          obtain ⟨q, hq, rfl, hbr⟩ := hrel
          by_cases hqn : q < a.length
          · have hqi : (q : Int) < (a.length : Int) := by omega
            have hqi' : decide ((q : Int) < (a.length : Int)) = true := decide_eq_true hqi
            obtain ⟨ae, hE, hd⟩ := kS_at (Kd.C_below H5.out hbr) q hqn
            subst hE
            have hnm := Aside0.mk (hR1.out (by trivial) a[q] (List.getElem_mem hqn))
            have ix := IX.out.later hbr
            have q0 := ix.q0
            have q1 := ix.q1
            have q2 := ix.q2
            have q3 := ix.q3
            have CX := Aside0.mk (CR.out _ ix.has)
            have HBR := Aside0.mk hbr
            clear ix hbr
            go_wp2_with fail
            (with_reducible refine CX.out.mono ?_)
            rintro e w11 ⟨rfl, b11⟩
            have HBR := Aside0.mk (below_then HBR.out HBR.out.size b11)
            clear b11 q0 q1 q2 q3 hd CX
            go_wp2_with fail
            (with_reducible refine (Named_calls _ _).mono ?_)
            rintro e w12 ⟨rfl, b12⟩
            have HBR := Aside0.mk (below_then HBR.out HBR.out.size b12)
            have CC0 := Aside0.mk (Right_calls ⟨0, a[q], [], []⟩ none 0 none 0 w12 (has_leaf w12 a[q] (nameB_size hnm.out)) (by rw [cnt_eq]; show 1 + cntL [] ≤ _; rw [cntL_nil]; decide))
            rw [RightB_leaf, hnm.out] at CC0
            have CC := Aside0.mk (show Calls _ _ #[.agg #[.int .u8 0, .string a[q], .slice none 0 0, .slice none 0 0]] _ _ from CC0.out)
            clear CC0 b12
            go_wp2_with fail
            (with_reducible refine CC.out.mono ?_)
            rintro e w13 ⟨rfl, b13⟩
            have HBR := Aside0.mk (below_then HBR.out HBR.out.size b13)
            clear CC b13
            go_wp2_with fail
            go_roundw
            case rel => exact ⟨q + 1, by omega, by go_num, HBR.out⟩
            case measure => simp [intOf]; omega
          · obtain rfl : q = a.length := by omega
            have hqi' : decide ((a.length : Int) < (a.length : Int)) = false := by simp
            have BX := Aside0.mk (below_then BX.out BX.out.size hbr)
            clear hbr
            go_wp2_with fail
            (with_reducible refine (CO.out _).mono ?_)
            rintro e w12 ⟨rfl, b12⟩
            have BX := Aside0.mk (below_then BX.out BX.out.size b12)
            clear b12
            go_wp2
            go_ret
            exact ⟨rfl, BX.out⟩
end Go.Proofs.YtjeofffddbibeaaDoor.Ex
