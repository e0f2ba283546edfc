/-
  DateTexts walked: it returns true.
-/
import Derived.Test.YtnaaagaammimnaaGreatDoorDatBack
import Derived.Test.YtnaaagaammimnaaGreatDoorDatG
import Derived.Laws.BytesString
namespace Go.Proofs.YtnaaagaammimnaaGreatDoor.Civ
open Go Go.RowKit Go.Proofs.YtnaaagaammimnaaGreatDoor.PDateTells Go.Proofs.YtnaaagaammimnaaGreatDoorW.PrintWords Go.Proofs.YtnaaagaammimnaaGreatDoorW.PrintLast Go.Proofs.YtnaaagaammimnaaGreatDoorW.PrintMore Go.Proofs.YtnaaagaammimnaaGreatDoor.Ex Go.Sort
set_option linter.unusedVariables false
set_option linter.unusedSimpArgs false

theorem run_conv1 (w : World) (g : Nat) (c : Int) (h : w.cell? ⟨g, 0, none⟩ = some (.int .u8 c)) :
    (convert 40 9 (.slice (some ⟨g, 0, none⟩) 1 1)).run Tryz.prog w = .ok (.string ⟨#[UInt8.ofNat c.toNat]⟩) w := by
  rw [run_convert_bytes_string w 40 9 5 _ _ _ Tryz.underlying40 Tryz.underlying5 Tryz.underlying9]
  rw [run_bytesToString w ⟨g, 0, none⟩ 1 1 [c] (by simp [loadCells, loadCellsFrom, h, go_sem])]
  rfl
theorem toB_take (L : List UInt8) (k : Nat) : (toB L).extract 0 k = toB (L.take k) := by
  apply ByteArray.ext
  apply Array.toList_inj.1
  have := Lib.extract_from_zero (toB L) k
  rw [this]
  show L.toArray.toList.take k = (L.take k).toArray.toList
  simp
theorem toB_drop (L : List UInt8) (k : Nat) : (toB L).extract k (toB L).size = toB (L.drop k) := by
  apply ByteArray.ext
  apply Array.toList_inj.1
  have h : ((toB L).extract k (toB L).size).data.toList = ((toB L).data.toList.take (toB L).size).drop k := by rw [Lib.extract_data]; simp [List.drop_take]
  rw [h]
  show (L.toArray.toList.take L.toArray.size).drop k = (L.drop k).toArray.toList
  simp
theorem toB_app (a b : List UInt8) : toB a ++ toB b = toB (a ++ b) := by
  apply ByteArray.ext
  rw [ByteArray.data_append]
  show a.toArray ++ b.toArray = (a ++ b).toArray
  simp
theorem toB_inj {a b : List UInt8} (h : toB a = toB b) : a = b := by
  have := congrArg (fun x : ByteArray => x.data.toList) h
  simpa [toB] using this
theorem texts_bytes (L : List UInt8) : (toB L).size = L.length := by show L.toArray.size = _; simp
set_option maxHeartbeats 16000000 in
set_option maxRecDepth 100000 in
theorem DateTexts_walk (n a c : Int) (w : World) (hC : Cal w) (w0 : (Lit.int .i64 n).wf = true) (w1 : (Lit.int .u8 a).wf = true) (w2 : (Lit.int .u8 c).wf = true) :
    Calls Tryz.prog 6 #[.int .i64 n, .int .u8 a, .int .u8 c] w fun e w' => e = .returned (.bool true) ∧ Lt w w' := by
  have HC := Aside0.mk hC
  have CA := Aside0.mk awake4_lt
  have T := Aside0.mk (fun w hC => Text_lt n w hC)
  have ha : 0 ≤ a ∧ a ≤ 255 := by
    simp only [Lit.wf, Bool.and_eq_true, decide_eq_true_eq] at w1
    exact w1
  by_cases hn : In n
  · have hte : (textF n).2 = 0 := by unfold textF; rw [if_pos hn]
    rw [hte, text_form hn] at T
    obtain ⟨b1, b2, b3, b4, m1, m2, d1, d2, eL, _⟩ := form1_shape hn
    have hsz : (toB (form1 n)).size = (form1 n).length := texts_bytes _
    have hlen : 10 ≤ (form1 n).length ∧ (form1 n).length ≤ 11 := by
      rw [eL, List.length_append]
      rcases sgn_len (yrF n) with ⟨h, _⟩ | ⟨h, _⟩ <;> rw [h] <;> simp
    have HN := Aside0.mk hn
    have HSZ := Aside0.mk hsz
    have hemp : (toB (form1 n)).toList.isEmpty = false := by
      rw [toList_data', Bool.eq_false_iff]
      intro he
      rw [List.isEmpty_iff] at he
      have : (form1 n).toArray.toList = [] := he
      rw [List.toList_toArray] at this
      rw [this] at hlen
      simp at hlen
    generalize hs : toB (form1 n) = s at *
    have HS := Aside0.mk hs
    have hl1 : 10 ≤ s.size := by omega
    have hl2 : s.size ≤ 11 := by omega
    have hq0 := Int.emod_nonneg a (show (s.size : Int) ≠ 0 by omega)
    have hq1 := Int.emod_lt_of_pos a (show (0 : Int) < (s.size : Int) by omega)
    obtain ⟨k, hk⟩ : ∃ k : Nat, a % (s.size : Int) = (k : Int) := ⟨(a % (s.size : Int)).toNat, by omega⟩
    have htm : Int.tmod a (s.size : Int) = (k : Int) := by rw [Int.tmod_eq_emod_of_nonneg ha.1]; exact hk
    have hkl : k < s.size := by omega
    have hz1 : ((s.size : Int) == 0) = false := beq_eq_false_iff_ne.2 (by omega)
    have hw1 : wrap64 a = a := w64 (by omega) (by omega)
    have ha0 : 0 ≤ a := ha.1
    have HCa := Aside0.mk ha
    have hkle : k ≤ s.size := by omega
    obtain ⟨j, hj⟩ : ∃ j : Nat, j = k + 1 := ⟨_, rfl⟩
    have hwk : wrap64 ((k : Int) + 1) = (j : Int) := by rw [w64 (by omega) (by omega)]; omega
    have hjle : j ≤ s.size := by omega
    have hb1 : ¬ (9223372036854775807 < k + 1) := by omega
    have hb2 : ¬ (9223372036854775807 < k + 1 + (s.size - j)) := by omega
    have hb3 : ¬ (9223372036854775807 < k + (s.size - j)) := by omega
    have hb4 : ¬ (9223372036854775807 < k + 1 + (s.size - k)) := by omega
    have hb5 : ¬ (9223372036854775807 < s.size + 1) := by omega
    have hb6 : ¬ (9223372036854775807 < 1 + s.size) := by omega
    have hkL : k < (form1 n).length := by omega
    obtain ⟨o, ho⟩ : ∃ o, o = s.extract 0 k ++ ⟨#[UInt8.ofNat c.toNat]⟩ ++ s.extract j s.size := ⟨_, rfl⟩
    obtain ⟨t1, ht1⟩ : ∃ o, o = s.extract 0 k ++ s.extract j s.size := ⟨_, rfl⟩
    obtain ⟨t2, ht2⟩ : ∃ o, o = s.extract 0 k ++ ⟨#[UInt8.ofNat c.toNat]⟩ ++ s.extract k s.size := ⟨_, rfl⟩
    obtain ⟨t3, ht3⟩ : ∃ o, o = s ++ ⟨#[45]⟩ := ⟨_, rfl⟩
    obtain ⟨t4, ht4⟩ : ∃ o : ByteArray, o = ⟨#[32]⟩ ++ s := ⟨_, rfl⟩
    have c1 : (⟨#[UInt8.ofNat c.toNat]⟩ : ByteArray) = toB [UInt8.ofNat c.toNat] := rfl
    have c2 : (⟨#[45]⟩ : ByteArray) = toB [45] := rfl
    have c3 : (⟨#[32]⟩ : ByteArray) = toB [32] := rfl
    have lo : o = toB ((form1 n).take k ++ UInt8.ofNat c.toNat :: (form1 n).drop (k + 1)) := by rw [ho, c1, ← hs, toB_take, toB_drop, toB_app, toB_app, hj]; simp
    have l1 : t1 = toB ((form1 n).take k ++ (form1 n).drop (k + 1)) := by rw [ht1, ← hs, toB_take, toB_drop, toB_app, hj]
    have l2 : t2 = toB ((form1 n).take k ++ UInt8.ofNat c.toNat :: (form1 n).drop k) := by rw [ht2, c1, ← hs, toB_take, toB_drop, toB_app, toB_app]; simp
    have l3 : t3 = toB (form1 n ++ [45]) := by rw [ht3, c2, ← hs, toB_app]
    have l4 : t4 = toB (32 :: form1 n) := by rw [ht4, c3, ← hs, toB_app]; rfl
    have zo : o.size < 4294967281 := by rw [lo, texts_bytes]; simp; omega
    have z1 : t1.size < 4294967281 := by rw [l1, texts_bytes]; simp; omega
    have z2 : t2.size < 4294967281 := by rw [l2, texts_bytes]; simp; omega
    have z3 : t3.size < 4294967281 := by rw [l3, texts_bytes]; simp; omega
    have z4 : t4.size < 4294967281 := by rw [l4, texts_bytes]; simp; omega
    have RO := Aside0.mk (fun w hC => Read_lt o w hC zo)
    have R1 := Aside0.mk (fun w hC => Read_lt t1 w hC z1)
    have R2 := Aside0.mk (fun w hC => Read_lt t2 w hC z2)
    have R3 := Aside0.mk (fun w hC => Read_lt t3 w hC z3)
    have R4 := Aside0.mk (fun w hC => Read_lt t4 w hC z4)
    have fo : o ≠ s → (readF o).2 = 0 → (readF o).1 ≠ n := fun h0 h1 h2 => h0 (by
      have := other_law hn hkL (c := UInt8.ofNat c.toNat) (by rw [← lo]; exact Prod.ext h2 h1)
      rw [lo, this, hs])
    have f1 : (readF t1).2 = 0 → (readF t1).1 ≠ n := fun h1 h2 => less_law hn hkL (by rw [← l1]; exact Prod.ext h2 h1)
    have f2 : (readF t2).2 = 0 → (readF t2).1 ≠ n := fun h1 h2 => more_law hn hkL (c := UInt8.ofNat c.toNat) (by rw [← l2]; exact Prod.ext h2 h1)
    have f3 : (readF t3).2 = 0 → (readF t3).1 ≠ n := fun h1 h2 => behind_law hn (by rw [← l3]; exact Prod.ext h2 h1)
    have f4 : (readF t4).2 = 0 → (readF t4).1 ≠ n := fun h1 h2 => ahead_law hn (by rw [← l4]; exact Prod.ext h2 h1)
    have FO := Aside0.mk fo
    have F1 := Aside0.mk f1
    have F2 := Aside0.mk f2
    have F3 := Aside0.mk f3
    have F4 := Aside0.mk f4
    have HO := Aside0.mk ho
    have HT1 := Aside0.mk ht1
    have HT2 := Aside0.mk ht2
    have HT3 := Aside0.mk ht3
    have HT4 := Aside0.mk ht4
    clear c1 c2 c3 lo l1 l2 l3 l4 zo z1 z2 z3 z4 fo f1 f2 f3 f4 ho ht1 ht2 ht3 ht4 hkL
    have HJ := Aside0.mk hj
    have HK := Aside0.mk hkl
    clear hj hkl
    clear hq0 hq1 eL hsz hlen hn hte w0 w1 w2 ha hs
    go_enter Tryz.func6, Tryz.ntmps6
    go_wp2_with fail
    (with_reducible refine (T.out _ (by assumption)).mono ?_)
    rintro e w1 ⟨rfl, hl1'⟩
    go_wp2_with fail
    refine start_ (n := 13) (S := fun w' => True) (ds := []) #[false, false, false, false, false, false, false, false, false, false, false, false, false] (by kernel_rfl) rfl rfl trivial (fun hHeld => ?_)
    refine pure_ (i := 0) (N := some 38) (v := ?_) (a' := ?_) #[true, false, false, false, false, false, false, false, false, false, false, false, false] rfl rfl (by kernel_rfl) (fun _ _ _ h => h) (Or.inl ⟨by rfl, ?_⟩) ?_ ?_
    rotate_left
    · intro w'
      go_simp
      with_reducible rfl
    rotate_left
    · simp only [Act.put, List.setIfInBounds_toArray, List.set_cons_zero, List.set_cons_succ, i64_w, i32_w]
      rfl
    refine pure_ (i := 1) (N := some 39) (v := ?_) (a' := ?_) #[true, true, false, false, false, false, false, false, false, false, false, false, false] rfl rfl (by kernel_rfl) (fun _ _ _ h => h) (Or.inl ⟨by rfl, ?_⟩) ?_ ?_
    rotate_left
    · intro w'
      go_simp
      with_reducible rfl
    rotate_left
    · simp only [Act.put, List.setIfInBounds_toArray, List.set_cons_zero, List.set_cons_succ, i64_w, i32_w]
      rfl
    refine pure_ (i := 2) (N := some 40) (v := ?_) (a' := ?_) #[true, true, true, false, false, false, false, false, false, false, false, false, false] rfl rfl (by kernel_rfl) (fun _ _ _ h => h) (Or.inl ⟨by rfl, ?_⟩) ?_ ?_
    rotate_left
    · intro w'
      go_simp
      with_reducible rfl
    rotate_left
    · simp only [Act.put, List.setIfInBounds_toArray, List.set_cons_zero, List.set_cons_succ, i64_w, i32_w]
      rfl
    refine pure_ (i := 3) (N := some 41) (v := ?_) (a' := ?_) #[true, true, true, true, false, false, false, false, false, false, false, false, false] rfl rfl (by kernel_rfl) (fun _ _ _ h => h) (Or.inl ⟨by rfl, ?_⟩) ?_ ?_
    rotate_left
    · intro w'
      go_simp
      with_reducible rfl
    rotate_left
    · simp only [Act.put, List.setIfInBounds_toArray, List.set_cons_zero, List.set_cons_succ, i64_w, i32_w]
      rfl
    refine pure_ (i := 7) (N := some 45) (v := ?_) (a' := ?_) #[true, true, true, true, false, false, false, true, false, false, false, false, false] rfl rfl (by kernel_rfl) (fun _ _ _ h => h) (Or.inl ⟨by rfl, ?_⟩) ?_ ?_
    rotate_left
    · intro w'
      go_simp
      with_reducible rfl
    rotate_left
    · simp only [Act.put, List.setIfInBounds_toArray, List.set_cons_zero, List.set_cons_succ, i64_w, i32_w]
      rfl
    refine pure_ (i := 8) (N := some 46) (v := ?_) (a' := ?_) #[true, true, true, true, false, false, false, true, true, false, false, false, false] rfl rfl (by kernel_rfl) (fun _ _ _ h => h) (Or.inl ⟨by rfl, ?_⟩) ?_ ?_
    rotate_left
    · intro w'
      go_simp
      with_reducible rfl
    rotate_left
    · simp only [Act.put, List.setIfInBounds_toArray, List.set_cons_zero, List.set_cons_succ, i64_w, i32_w]
      rfl
    refine pure_ (i := 9) (N := some 47) (v := ?_) (a' := ?_) #[true, true, true, true, false, false, false, true, true, true, false, false, false] rfl rfl (by kernel_rfl) (fun _ _ _ h => h) (Or.inl ⟨by rfl, ?_⟩) ?_ ?_
    rotate_left
    · intro w'
      go_simp
      with_reducible rfl
    rotate_left
    · simp only [Act.put, List.setIfInBounds_toArray, List.set_cons_zero, List.set_cons_succ, i64_w, i32_w]
      rfl
    refine pure_ (i := 10) (N := some 48) (v := ?_) (a' := ?_) #[true, true, true, true, false, false, false, true, true, true, true, false, false] rfl rfl (by kernel_rfl) (fun _ _ _ h => h) (Or.inl ⟨by rfl, ?_⟩) ?_ ?_
    rotate_left
    · intro w'
      go_simp
      with_reducible rfl
    rotate_left
    · simp only [Act.put, List.setIfInBounds_toArray, List.set_cons_zero, List.set_cons_succ, i64_w, i32_w]
      rfl
    refine one_ (i := 4) (N := some 42) #[true, true, true, true, true, false, false, true, true, true, true, false, false] rfl rfl (by kernel_rfl) (by decide) (fun K hK => ?_)
    refine value_ (w1 := ?_) (v := ?_) (by rfl) rfl ?_ ?_
    rotate_left 2
    · go_simp
      constructor
      · rfl
      · rfl
    refine hK.out _ _ trivial (fun hHeld => ?_)
    clear hK K
    refine norm_ (a' := ?_) ?_ ?_
    rotate_left
    · show Act.put _ (some 42) _ = _
      simp only [Act.put, List.setIfInBounds_toArray, List.set_cons_zero, List.set_cons_succ, i64_w, i32_w]
      rfl
    refine one_ (i := 5) (N := some 43) #[true, true, true, true, true, true, false, true, true, true, true, false, false] rfl rfl (by kernel_rfl) (by decide) (fun K hK => ?_)
    refine value_ (w1 := ?_) (v := ?_) (by rfl) rfl ?_ ?_
    rotate_left 2
    · go_simp
      rw [run_conv1 (w1.alloc (.cells #[.int .u8 c] 5)).drew w1.heap.size c (cell_new _ _ _)]
      rfl
    refine hK.out _ _ trivial (fun hHeld => ?_)
    clear hK K
    refine norm_ (a' := ?_) ?_ ?_
    rotate_left
    · show Act.put _ (some 43) _ = _
      simp only [Act.put, List.setIfInBounds_toArray, List.set_cons_zero, List.set_cons_succ, i64_w, i32_w]
      rfl
    refine pure_ (i := 6) (N := some 44) (v := ?_) (a' := ?_) #[true, true, true, true, true, true, true, true, true, true, true, false, false] rfl rfl (by kernel_rfl) (fun _ _ _ h => h) (Or.inl ⟨by rfl, ?_⟩) ?_ ?_
    rotate_left
    · intro w'
      go_simp
      with_reducible rfl
    rotate_left
    · simp only [Act.put, List.setIfInBounds_toArray, List.set_cons_zero, List.set_cons_succ, i64_w, i32_w]
      rfl
    refine pure_ (i := 11) (N := some 49) (v := ?_) (a' := ?_) #[true, true, true, true, true, true, true, true, true, true, true, true, false] rfl rfl (by kernel_rfl) (fun _ _ _ h => h) (Or.inl ⟨by rfl, ?_⟩) ?_ ?_
    rotate_left
    · intro w'
      go_simp
      with_reducible rfl
    rotate_left
    · simp only [Act.put, List.setIfInBounds_toArray, List.set_cons_zero, List.set_cons_succ, i64_w, i32_w]
      rfl
    refine pure_ (i := 12) (N := some 10) (v := ?_) (a' := ?_) #[true, true, true, true, true, true, true, true, true, true, true, true, true] rfl rfl (by kernel_rfl) (fun _ _ _ h => h) (Or.inl ⟨by rfl, ?_⟩) ?_ ?_
    rotate_left
    · intro w'
      go_simp
      with_reducible rfl
    rotate_left
    · simp only [Act.put, List.setIfInBounds_toArray, List.set_cons_zero, List.set_cons_succ, i64_w, i32_w]
      rfl
    refine done_ (by kernel_rfl) ?_
    obtain ⟨w2, hw2⟩ : ∃ q, q = (w1.alloc (.cells #[.int .u8 c] 5)).drew := ⟨_, rfl⟩
    rw [← hw2]
    have hl2' : Lt w1 w2 := by rw [hw2]; exact (lt_new _ _ _).d1
    clear hw2
    rw [← HO.out]
    have hC2 := (HC.out.l hl1').l hl2'
    have HL2 := Aside0.mk (hl1'.trans hl2')
    clear hl1' hl2'
    go_wp2_with fail
    (with_reducible refine (RO.out _ (by assumption)).mono ?_)
    rintro e w3 ⟨rfl, hl3⟩
    have hC3 := hC2.l hl3
    have HL3 := Aside0.mk hl3
    clear hl3 hC2 hC
    generalize readF o = r at *
    obtain ⟨r1, r2⟩ := r
    by_cases g1 : o = s
    · have g1' : Aside0 (o = s) := ⟨g1⟩
      clear g1
      rw [g1'.out]
      have e1 : (s.toList == s.toList) = true := by simp
      go_wp2_with fail
      refine start_ (n := 26) (S := fun w' => True) (ds := []) #[false, false, false, false, false, false, false, false, false, false, false, false, false, false, false, false, false, false, false, false, false, false, false, false, false, false] (by kernel_rfl) rfl rfl trivial (fun hHeld => ?_)
      refine pure_ (i := 0) (N := some 67) (v := ?_) (a' := ?_) #[true, false, false, false, false, false, false, false, false, false, false, false, false, false, false, false, false, false, false, false, false, false, false, false, false, false] rfl rfl (by kernel_rfl) (fun _ _ _ h => h) (Or.inl ⟨by rfl, ?_⟩) ?_ ?_
      rotate_left
      · intro w'
        go_simp
        with_reducible rfl
      rotate_left
      · simp only [Act.put, List.setIfInBounds_toArray, List.set_cons_zero, List.set_cons_succ, i64_w, i32_w]
        rfl
      refine pure_ (i := 1) (N := some 68) (v := ?_) (a' := ?_) #[true, true, false, false, false, false, false, false, false, false, false, false, false, false, false, false, false, false, false, false, false, false, false, false, false, false] rfl rfl (by kernel_rfl) (fun _ _ _ h => h) (Or.inl ⟨by rfl, ?_⟩) ?_ ?_
      rotate_left
      · intro w'
        go_simp
        with_reducible rfl
      rotate_left
      · simp only [Act.put, List.setIfInBounds_toArray, List.set_cons_zero, List.set_cons_succ, i64_w, i32_w]
        rfl
      refine pure_ (i := 2) (N := some 69) (v := ?_) (a' := ?_) #[true, true, true, false, false, false, false, false, false, false, false, false, false, false, false, false, false, false, false, false, false, false, false, false, false, false] rfl rfl (by kernel_rfl) (fun _ _ _ h => h) (Or.inl ⟨by rfl, ?_⟩) ?_ ?_
      rotate_left
      · intro w'
        go_simp
        with_reducible rfl
      rotate_left
      · simp only [Act.put, List.setIfInBounds_toArray, List.set_cons_zero, List.set_cons_succ, i64_w, i32_w]
        rfl
      refine pure_ (i := 3) (N := some 70) (v := ?_) (a' := ?_) #[true, true, true, true, false, false, false, false, false, false, false, false, false, false, false, false, false, false, false, false, false, false, false, false, false, false] rfl rfl (by kernel_rfl) (fun _ _ _ h => h) (Or.inl ⟨by rfl, ?_⟩) ?_ ?_
      rotate_left
      · intro w'
        go_simp
        with_reducible rfl
      rotate_left
      · simp only [Act.put, List.setIfInBounds_toArray, List.set_cons_zero, List.set_cons_succ, i64_w, i32_w]
        rfl
      refine pure_ (i := 4) (N := some 71) (v := ?_) (a' := ?_) #[true, true, true, true, true, false, false, false, false, false, false, false, false, false, false, false, false, false, false, false, false, false, false, false, false, false] rfl rfl (by kernel_rfl) (fun _ _ _ h => h) (Or.inl ⟨by rfl, ?_⟩) ?_ ?_
      rotate_left
      · intro w'
        go_simp
        with_reducible rfl
      rotate_left
      · simp only [Act.put, List.setIfInBounds_toArray, List.set_cons_zero, List.set_cons_succ, i64_w, i32_w]
        rfl
      refine pure_ (i := 5) (N := some 72) (v := ?_) (a' := ?_) #[true, true, true, true, true, true, false, false, false, false, false, false, false, false, false, false, false, false, false, false, false, false, false, false, false, false] rfl rfl (by kernel_rfl) (fun _ _ _ h => h) (Or.inl ⟨by rfl, ?_⟩) ?_ ?_
      rotate_left
      · intro w'
        go_simp
        with_reducible rfl
      rotate_left
      · simp only [Act.put, List.setIfInBounds_toArray, List.set_cons_zero, List.set_cons_succ, i64_w, i32_w]
        rfl
      refine pure_ (i := 6) (N := some 73) (v := ?_) (a' := ?_) #[true, true, true, true, true, true, true, false, false, false, false, false, false, false, false, false, false, false, false, false, false, false, false, false, false, false] rfl rfl (by kernel_rfl) (fun _ _ _ h => h) (Or.inl ⟨by rfl, ?_⟩) ?_ ?_
      rotate_left
      · intro w'
        go_simp
        with_reducible rfl
      rotate_left
      · simp only [Act.put, List.setIfInBounds_toArray, List.set_cons_zero, List.set_cons_succ, i64_w, i32_w]
        rfl
      refine pure_ (i := 7) (N := some 74) (v := ?_) (a' := ?_) #[true, true, true, true, true, true, true, true, false, false, false, false, false, false, false, false, false, false, false, false, false, false, false, false, false, false] rfl rfl (by kernel_rfl) (fun _ _ _ h => h) (Or.inl ⟨by rfl, ?_⟩) ?_ ?_
      rotate_left
      · intro w'
        go_simp
        with_reducible rfl
      rotate_left
      · simp only [Act.put, List.setIfInBounds_toArray, List.set_cons_zero, List.set_cons_succ, i64_w, i32_w]
        rfl
      refine pure_ (i := 8) (N := some 75) (v := ?_) (a' := ?_) #[true, true, true, true, true, true, true, true, true, false, false, false, false, false, false, false, false, false, false, false, false, false, false, false, false, false] rfl rfl (by kernel_rfl) (fun _ _ _ h => h) (Or.inl ⟨by rfl, ?_⟩) ?_ ?_
      rotate_left
      · intro w'
        go_simp
        with_reducible rfl
      rotate_left
      · simp only [Act.put, List.setIfInBounds_toArray, List.set_cons_zero, List.set_cons_succ, i64_w, i32_w]
        rfl
      refine pure_ (i := 9) (N := some 76) (v := ?_) (a' := ?_) #[true, true, true, true, true, true, true, true, true, true, false, false, false, false, false, false, false, false, false, false, false, false, false, false, false, false] rfl rfl (by kernel_rfl) (fun _ _ _ h => h) (Or.inl ⟨by rfl, ?_⟩) ?_ ?_
      rotate_left
      · intro w'
        go_simp
        with_reducible rfl
      rotate_left
      · simp only [Act.put, List.setIfInBounds_toArray, List.set_cons_zero, List.set_cons_succ, i64_w, i32_w]
        rfl
      refine pure_ (i := 10) (N := some 77) (v := ?_) (a' := ?_) #[true, true, true, true, true, true, true, true, true, true, true, false, false, false, false, false, false, false, false, false, false, false, false, false, false, false] rfl rfl (by kernel_rfl) (fun _ _ _ h => h) (Or.inl ⟨by rfl, ?_⟩) ?_ ?_
      rotate_left
      · intro w'
        go_simp
        with_reducible rfl
      rotate_left
      · simp only [Act.put, List.setIfInBounds_toArray, List.set_cons_zero, List.set_cons_succ, i64_w, i32_w]
        rfl
      refine pure_ (i := 11) (N := some 78) (v := ?_) (a' := ?_) #[true, true, true, true, true, true, true, true, true, true, true, true, false, false, false, false, false, false, false, false, false, false, false, false, false, false] rfl rfl (by kernel_rfl) (fun _ _ _ h => h) (Or.inl ⟨by rfl, ?_⟩) ?_ ?_
      rotate_left
      · intro w'
        go_simp
        with_reducible rfl
      rotate_left
      · simp only [Act.put, List.setIfInBounds_toArray, List.set_cons_zero, List.set_cons_succ, i64_w, i32_w]
        rfl
      refine pure_ (i := 15) (N := some 82) (v := ?_) (a' := ?_) #[true, true, true, true, true, true, true, true, true, true, true, true, false, false, false, true, false, false, false, false, false, false, false, false, false, false] rfl rfl (by kernel_rfl) (fun _ _ _ h => h) (Or.inl ⟨by rfl, ?_⟩) ?_ ?_
      rotate_left
      · intro w'
        go_simp
        with_reducible rfl
      rotate_left
      · simp only [Act.put, List.setIfInBounds_toArray, List.set_cons_zero, List.set_cons_succ, i64_w, i32_w]
        rfl
      refine pure_ (i := 16) (N := some 83) (v := ?_) (a' := ?_) #[true, true, true, true, true, true, true, true, true, true, true, true, false, false, false, true, true, false, false, false, false, false, false, false, false, false] rfl rfl (by kernel_rfl) (fun _ _ _ h => h) (Or.inl ⟨by rfl, ?_⟩) ?_ ?_
      rotate_left
      · intro w'
        go_simp
        with_reducible rfl
      rotate_left
      · simp only [Act.put, List.setIfInBounds_toArray, List.set_cons_zero, List.set_cons_succ, i64_w, i32_w]
        rfl
      refine pure_ (i := 17) (N := some 84) (v := ?_) (a' := ?_) #[true, true, true, true, true, true, true, true, true, true, true, true, false, false, false, true, true, true, false, false, false, false, false, false, false, false] rfl rfl (by kernel_rfl) (fun _ _ _ h => h) (Or.inl ⟨by rfl, ?_⟩) ?_ ?_
      rotate_left
      · intro w'
        go_simp
        with_reducible rfl
      rotate_left
      · simp only [Act.put, List.setIfInBounds_toArray, List.set_cons_zero, List.set_cons_succ, i64_w, i32_w]
        rfl
      refine pure_ (i := 19) (N := some 86) (v := ?_) (a' := ?_) #[true, true, true, true, true, true, true, true, true, true, true, true, false, false, false, true, true, true, false, true, false, false, false, false, false, false] rfl rfl (by kernel_rfl) (fun _ _ _ h => h) (Or.inl ⟨by rfl, ?_⟩) ?_ ?_
      rotate_left
      · intro w'
        go_simp
        with_reducible rfl
      rotate_left
      · simp only [Act.put, List.setIfInBounds_toArray, List.set_cons_zero, List.set_cons_succ, i64_w, i32_w]
        rfl
      refine pure_ (i := 20) (N := some 87) (v := ?_) (a' := ?_) #[true, true, true, true, true, true, true, true, true, true, true, true, false, false, false, true, true, true, false, true, true, false, false, false, false, false] rfl rfl (by kernel_rfl) (fun _ _ _ h => h) (Or.inl ⟨by rfl, ?_⟩) ?_ ?_
      rotate_left
      · intro w'
        go_simp
        with_reducible rfl
      rotate_left
      · simp only [Act.put, List.setIfInBounds_toArray, List.set_cons_zero, List.set_cons_succ, i64_w, i32_w]
        rfl
      refine pure_ (i := 21) (N := some 88) (v := ?_) (a' := ?_) #[true, true, true, true, true, true, true, true, true, true, true, true, false, false, false, true, true, true, false, true, true, true, false, false, false, false] rfl rfl (by kernel_rfl) (fun _ _ _ h => h) (Or.inl ⟨by rfl, ?_⟩) ?_ ?_
      rotate_left
      · intro w'
        go_simp
        with_reducible rfl
      rotate_left
      · simp only [Act.put, List.setIfInBounds_toArray, List.set_cons_zero, List.set_cons_succ, i64_w, i32_w]
        rfl
      refine pure_ (i := 22) (N := some 89) (v := ?_) (a' := ?_) #[true, true, true, true, true, true, true, true, true, true, true, true, false, false, false, true, true, true, false, true, true, true, true, false, false, false] rfl rfl (by kernel_rfl) (fun _ _ _ h => h) (Or.inl ⟨by rfl, ?_⟩) ?_ ?_
      rotate_left
      · intro w'
        go_simp
        with_reducible rfl
      rotate_left
      · simp only [Act.put, List.setIfInBounds_toArray, List.set_cons_zero, List.set_cons_succ, i64_w, i32_w]
        rfl
      refine pure_ (i := 25) (N := some 92) (v := ?_) (a' := ?_) #[true, true, true, true, true, true, true, true, true, true, true, true, false, false, false, true, true, true, false, true, true, true, true, false, false, true] rfl rfl (by kernel_rfl) (fun _ _ _ h => h) (Or.inl ⟨by rfl, ?_⟩) ?_ ?_
      rotate_left
      · intro w'
        go_simp
        with_reducible rfl
      rotate_left
      · simp only [Act.put, List.setIfInBounds_toArray, List.set_cons_zero, List.set_cons_succ, i64_w, i32_w]
        rfl
      refine one_ (i := 12) (N := some 79) #[true, true, true, true, true, true, true, true, true, true, true, true, true, false, false, true, true, true, false, true, true, true, true, false, false, true] rfl rfl (by kernel_rfl) (by decide) (fun K hK => ?_)
      refine value_ (w1 := ?_) (v := ?_) (by rfl) rfl ?_ ?_
      rotate_left 2
      · go_simp
        constructor
        · rfl
        · rfl
      refine hK.out _ _ trivial (fun hHeld => ?_)
      clear hK K
      refine norm_ (a' := ?_) ?_ ?_
      rotate_left
      · show Act.put _ (some 79) _ = _
        simp only [Act.put, List.setIfInBounds_toArray, List.set_cons_zero, List.set_cons_succ, i64_w, i32_w]
        rfl
      refine one_ (i := 13) (N := some 80) #[true, true, true, true, true, true, true, true, true, true, true, true, true, true, false, true, true, true, false, true, true, true, true, false, false, true] rfl rfl (by kernel_rfl) (by decide) (fun K hK => ?_)
      refine value_ (w1 := ?_) (v := ?_) (by rfl) rfl ?_ ?_
      rotate_left 2
      · go_simp
        rw [run_conv1 (w3.alloc (.cells #[.int .u8 c] 5)).drew w3.heap.size c (cell_new _ _ _)]
        rfl
      refine hK.out _ _ trivial (fun hHeld => ?_)
      clear hK K
      refine norm_ (a' := ?_) ?_ ?_
      rotate_left
      · show Act.put _ (some 80) _ = _
        simp only [Act.put, List.setIfInBounds_toArray, List.set_cons_zero, List.set_cons_succ, i64_w, i32_w]
        rfl
      refine pure_ (i := 14) (N := some 81) (v := ?_) (a' := ?_) #[true, true, true, true, true, true, true, true, true, true, true, true, true, true, true, true, true, true, false, true, true, true, true, false, false, true] rfl rfl (by kernel_rfl) (fun _ _ _ h => h) (Or.inl ⟨by rfl, ?_⟩) ?_ ?_
      rotate_left
      · intro w'
        go_simp
        with_reducible rfl
      rotate_left
      · simp only [Act.put, List.setIfInBounds_toArray, List.set_cons_zero, List.set_cons_succ, i64_w, i32_w]
        rfl
      refine pure_ (i := 18) (N := some 85) (v := ?_) (a' := ?_) #[true, true, true, true, true, true, true, true, true, true, true, true, true, true, true, true, true, true, true, true, true, true, true, false, false, true] rfl rfl (by kernel_rfl) (fun _ _ _ h => h) (Or.inl ⟨by rfl, ?_⟩) ?_ ?_
      rotate_left
      · intro w'
        go_simp
        with_reducible rfl
      rotate_left
      · simp only [Act.put, List.setIfInBounds_toArray, List.set_cons_zero, List.set_cons_succ, i64_w, i32_w]
        rfl
      refine one_ (i := 23) (N := some 90) #[true, true, true, true, true, true, true, true, true, true, true, true, true, true, true, true, true, true, true, true, true, true, true, true, false, true] rfl rfl (by kernel_rfl) (by decide) (fun K hK => ?_)
      refine value_ (w1 := ?_) (v := ?_) (by rfl) rfl ?_ ?_
      rotate_left 2
      · go_simp
        constructor
        · rfl
        · rfl
      refine hK.out _ _ trivial (fun hHeld => ?_)
      clear hK K
      refine norm_ (a' := ?_) ?_ ?_
      rotate_left
      · show Act.put _ (some 90) _ = _
        simp only [Act.put, List.setIfInBounds_toArray, List.set_cons_zero, List.set_cons_succ, i64_w, i32_w]
        rfl
      refine pure_ (i := 24) (N := some 91) (v := ?_) (a' := ?_) #[true, true, true, true, true, true, true, true, true, true, true, true, true, true, true, true, true, true, true, true, true, true, true, true, true, true] rfl rfl (by kernel_rfl) (fun _ _ _ h => h) (Or.inl ⟨by rfl, ?_⟩) ?_ ?_
      rotate_left
      · intro w'
        go_simp
        with_reducible rfl
      rotate_left
      · simp only [Act.put, List.setIfInBounds_toArray, List.set_cons_zero, List.set_cons_succ, i64_w, i32_w]
        rfl
      refine done_ (by kernel_rfl) ?_
      rw [← HT1.out, ← HT2.out, ← HT3.out, ← HT4.out]
      have HC3 := Aside0.mk hC3
      obtain ⟨w4, hw4⟩ : ∃ q, q = ((w3.alloc (.cells #[.int .u8 c] 5)).alloc (.cells #[.string t1, .string t2, .string t3, .string t4] 9)).drew := ⟨_, rfl⟩
      have sc : ∀ i v, (#[.string t1, .string t2, .string t3, .string t4] : Array Value)[i]? = some v → w4.cell? ⟨w3.heap.size + 1, i, none⟩ = some v := fun i v h => by
        rw [hw4]
        show ((w3.alloc (.cells #[.int .u8 c] 5)).alloc (.cells #[.string t1, .string t2, .string t3, .string t4] 9)).cell? ⟨w3.heap.size + 1, i, none⟩ = some v
        rw [World.cell?_alloc_at _ _ _ _ (by simp)]
        exact h
      have hl4 : Lt w3 w4 := by rw [hw4]; exact ((lt_new _ _ _).trans (lt_new _ _ _)).d1
      rw [← hw4]
      have HSC := Aside0.mk sc
      have HL4 := Aside0.mk hl4
      clear hw4 sc hl4 hC3
      generalize w3.heap.size + 1 = B at *
      clear hemp hl1 hl2 hk htm hz1 hw1 ha0 hkle hwk hjle hb1 hb2 hb3 hb4 hb5 hb6
      try clear e1
      try clear e2
      try clear h2
      try clear h3
      go_wp2
      go_loopw [92] (fun i wr => ∃ m, m ≤ 4 ∧ i = .int .i64 (m : Nat) ∧ Lt w4 wr) (fun i _ => 4 - (intOf i).toNat)
      case atStart => exact ⟨0, Nat.zero_le _, rfl, Lt.refl _⟩
      case round =>
        obtain ⟨m, hm, rfl, hlr⟩ := hrel
        have HLR := Aside0.mk hlr
        have hCr := (HC3.out.l HL4.out).l hlr
        clear hlr
        rcases (show m = 0 ∨ m = 1 ∨ m = 2 ∨ m = 3 ∨ m = 4 by omega) with rfl | rfl | rfl | rfl | rfl
        · have s0 := cell_lt HLR.out (HSC.out 0 _ rfl)
          have f := F1.out
          go_wp2_with fail
          (with_reducible refine (R1.out _ (by assumption)).mono ?_)
          rintro e w5 ⟨rfl, hl5⟩
          generalize readF t1 = q at *
          obtain ⟨q1, q2⟩ := q
          by_cases g : q2 = 0
          · have h2 : ¬ q1 = n := f g
            have h3 : (q1 == n) = false := beq_eq_false_iff_ne.2 h2
            subst g
            clear f
            go_wp2_with fail
            go_roundw
            case rel => first | exact ⟨1, by omega, by go_num, HLR.out.trans hl5⟩ | exact ⟨_, _, _, _, _, _, _, _, _, _, _, _, _, _, _, _, _, _, _, _, _, ⟨1, by omega, by go_num, HLR.out.trans hl5⟩, rfl⟩
            case measure => simp [intOf]
          · have h3 : (q2 == 0) = false := beq_eq_false_iff_ne.2 g
            clear f
            go_wp2_with fail
            go_roundw
            case rel => first | exact ⟨1, by omega, by go_num, HLR.out.trans hl5⟩ | exact ⟨_, _, _, _, _, _, _, _, _, _, _, _, _, _, _, _, _, _, _, _, _, ⟨1, by omega, by go_num, HLR.out.trans hl5⟩, rfl⟩
            case measure => simp [intOf]
        · have s0 := cell_lt HLR.out (HSC.out 1 _ rfl)
          have f := F2.out
          go_wp2_with fail
          (with_reducible refine (R2.out _ (by assumption)).mono ?_)
          rintro e w5 ⟨rfl, hl5⟩
          generalize readF t2 = q at *
          obtain ⟨q1, q2⟩ := q
          by_cases g : q2 = 0
          · have h2 : ¬ q1 = n := f g
            have h3 : (q1 == n) = false := beq_eq_false_iff_ne.2 h2
            subst g
            clear f
            go_wp2_with fail
            go_roundw
            case rel => first | exact ⟨2, by omega, by go_num, HLR.out.trans hl5⟩ | exact ⟨_, _, _, _, _, _, _, _, _, _, _, _, _, _, _, _, _, _, _, _, _, ⟨2, by omega, by go_num, HLR.out.trans hl5⟩, rfl⟩
            case measure => simp [intOf]
          · have h3 : (q2 == 0) = false := beq_eq_false_iff_ne.2 g
            clear f
            go_wp2_with fail
            go_roundw
            case rel => first | exact ⟨2, by omega, by go_num, HLR.out.trans hl5⟩ | exact ⟨_, _, _, _, _, _, _, _, _, _, _, _, _, _, _, _, _, _, _, _, _, ⟨2, by omega, by go_num, HLR.out.trans hl5⟩, rfl⟩
            case measure => simp [intOf]
        · have s0 := cell_lt HLR.out (HSC.out 2 _ rfl)
          have f := F3.out
          go_wp2_with fail
          (with_reducible refine (R3.out _ (by assumption)).mono ?_)
          rintro e w5 ⟨rfl, hl5⟩
          generalize readF t3 = q at *
          obtain ⟨q1, q2⟩ := q
          by_cases g : q2 = 0
          · have h2 : ¬ q1 = n := f g
            have h3 : (q1 == n) = false := beq_eq_false_iff_ne.2 h2
            subst g
            clear f
            go_wp2_with fail
            go_roundw
            case rel => first | exact ⟨3, by omega, by go_num, HLR.out.trans hl5⟩ | exact ⟨_, _, _, _, _, _, _, _, _, _, _, _, _, _, _, _, _, _, _, _, _, ⟨3, by omega, by go_num, HLR.out.trans hl5⟩, rfl⟩
            case measure => simp [intOf]
          · have h3 : (q2 == 0) = false := beq_eq_false_iff_ne.2 g
            clear f
            go_wp2_with fail
            go_roundw
            case rel => first | exact ⟨3, by omega, by go_num, HLR.out.trans hl5⟩ | exact ⟨_, _, _, _, _, _, _, _, _, _, _, _, _, _, _, _, _, _, _, _, _, ⟨3, by omega, by go_num, HLR.out.trans hl5⟩, rfl⟩
            case measure => simp [intOf]
        · have s0 := cell_lt HLR.out (HSC.out 3 _ rfl)
          have f := F4.out
          go_wp2_with fail
          (with_reducible refine (R4.out _ (by assumption)).mono ?_)
          rintro e w5 ⟨rfl, hl5⟩
          generalize readF t4 = q at *
          obtain ⟨q1, q2⟩ := q
          by_cases g : q2 = 0
          · have h2 : ¬ q1 = n := f g
            have h3 : (q1 == n) = false := beq_eq_false_iff_ne.2 h2
            subst g
            clear f
            go_wp2_with fail
            go_roundw
            case rel => first | exact ⟨4, by omega, by go_num, HLR.out.trans hl5⟩ | exact ⟨_, _, _, _, _, _, _, _, _, _, _, _, _, _, _, _, _, _, _, _, _, ⟨4, by omega, by go_num, HLR.out.trans hl5⟩, rfl⟩
            case measure => simp [intOf]
          · have h3 : (q2 == 0) = false := beq_eq_false_iff_ne.2 g
            clear f
            go_wp2_with fail
            go_roundw
            case rel => first | exact ⟨4, by omega, by go_num, HLR.out.trans hl5⟩ | exact ⟨_, _, _, _, _, _, _, _, _, _, _, _, _, _, _, _, _, _, _, _, _, ⟨4, by omega, by go_num, HLR.out.trans hl5⟩, rfl⟩
            case measure => simp [intOf]
        · go_wp2_with fail
          (with_reducible refine (CA.out _ (by assumption)).mono ?_)
          rintro e w5 ⟨rfl, hl5⟩
          go_wp2
          go_ret
          exact ⟨rfl, HL2.out.trans (HL3.out.trans (HL4.out.trans (HLR.out.trans hl5)))⟩
    · have e1 : (o.toList == s.toList) = false := beq_eq_false_iff_ne.2 (fun h => g1 (by rw [toList_data', toList_data'] at h; exact ByteArray.ext (Array.toList_inj.1 h)))
      have e2 : ¬ (o.toList = s.toList) := by simpa using e1
      have h1 := FO.out g1
      clear g1
      by_cases g2 : r2 = 0
      · have h2 : ¬ r1 = n := h1 g2
        have h3 : (r1 == n) = false := beq_eq_false_iff_ne.2 h2
        subst g2
        clear h1
        go_wp2_with fail
        refine start_ (n := 26) (S := fun w' => True) (ds := []) #[false, false, false, false, false, false, false, false, false, false, false, false, false, false, false, false, false, false, false, false, false, false, false, false, false, false] (by kernel_rfl) rfl rfl trivial (fun hHeld => ?_)
        refine pure_ (i := 0) (N := some 67) (v := ?_) (a' := ?_) #[true, false, false, false, false, false, false, false, false, false, false, false, false, false, false, false, false, false, false, false, false, false, false, false, false, false] rfl rfl (by kernel_rfl) (fun _ _ _ h => h) (Or.inl ⟨by rfl, ?_⟩) ?_ ?_
        rotate_left
        · intro w'
          go_simp
          with_reducible rfl
        rotate_left
        · simp only [Act.put, List.setIfInBounds_toArray, List.set_cons_zero, List.set_cons_succ, i64_w, i32_w]
          rfl
        refine pure_ (i := 1) (N := some 68) (v := ?_) (a' := ?_) #[true, true, false, false, false, false, false, false, false, false, false, false, false, false, false, false, false, false, false, false, false, false, false, false, false, false] rfl rfl (by kernel_rfl) (fun _ _ _ h => h) (Or.inl ⟨by rfl, ?_⟩) ?_ ?_
        rotate_left
        · intro w'
          go_simp
          with_reducible rfl
        rotate_left
        · simp only [Act.put, List.setIfInBounds_toArray, List.set_cons_zero, List.set_cons_succ, i64_w, i32_w]
          rfl
        refine pure_ (i := 2) (N := some 69) (v := ?_) (a' := ?_) #[true, true, true, false, false, false, false, false, false, false, false, false, false, false, false, false, false, false, false, false, false, false, false, false, false, false] rfl rfl (by kernel_rfl) (fun _ _ _ h => h) (Or.inl ⟨by rfl, ?_⟩) ?_ ?_
        rotate_left
        · intro w'
          go_simp
          with_reducible rfl
        rotate_left
        · simp only [Act.put, List.setIfInBounds_toArray, List.set_cons_zero, List.set_cons_succ, i64_w, i32_w]
          rfl
        refine pure_ (i := 3) (N := some 70) (v := ?_) (a' := ?_) #[true, true, true, true, false, false, false, false, false, false, false, false, false, false, false, false, false, false, false, false, false, false, false, false, false, false] rfl rfl (by kernel_rfl) (fun _ _ _ h => h) (Or.inl ⟨by rfl, ?_⟩) ?_ ?_
        rotate_left
        · intro w'
          go_simp
          with_reducible rfl
        rotate_left
        · simp only [Act.put, List.setIfInBounds_toArray, List.set_cons_zero, List.set_cons_succ, i64_w, i32_w]
          rfl
        refine pure_ (i := 4) (N := some 71) (v := ?_) (a' := ?_) #[true, true, true, true, true, false, false, false, false, false, false, false, false, false, false, false, false, false, false, false, false, false, false, false, false, false] rfl rfl (by kernel_rfl) (fun _ _ _ h => h) (Or.inl ⟨by rfl, ?_⟩) ?_ ?_
        rotate_left
        · intro w'
          go_simp
          with_reducible rfl
        rotate_left
        · simp only [Act.put, List.setIfInBounds_toArray, List.set_cons_zero, List.set_cons_succ, i64_w, i32_w]
          rfl
        refine pure_ (i := 5) (N := some 72) (v := ?_) (a' := ?_) #[true, true, true, true, true, true, false, false, false, false, false, false, false, false, false, false, false, false, false, false, false, false, false, false, false, false] rfl rfl (by kernel_rfl) (fun _ _ _ h => h) (Or.inl ⟨by rfl, ?_⟩) ?_ ?_
        rotate_left
        · intro w'
          go_simp
          with_reducible rfl
        rotate_left
        · simp only [Act.put, List.setIfInBounds_toArray, List.set_cons_zero, List.set_cons_succ, i64_w, i32_w]
          rfl
        refine pure_ (i := 6) (N := some 73) (v := ?_) (a' := ?_) #[true, true, true, true, true, true, true, false, false, false, false, false, false, false, false, false, false, false, false, false, false, false, false, false, false, false] rfl rfl (by kernel_rfl) (fun _ _ _ h => h) (Or.inl ⟨by rfl, ?_⟩) ?_ ?_
        rotate_left
        · intro w'
          go_simp
          with_reducible rfl
        rotate_left
        · simp only [Act.put, List.setIfInBounds_toArray, List.set_cons_zero, List.set_cons_succ, i64_w, i32_w]
          rfl
        refine pure_ (i := 7) (N := some 74) (v := ?_) (a' := ?_) #[true, true, true, true, true, true, true, true, false, false, false, false, false, false, false, false, false, false, false, false, false, false, false, false, false, false] rfl rfl (by kernel_rfl) (fun _ _ _ h => h) (Or.inl ⟨by rfl, ?_⟩) ?_ ?_
        rotate_left
        · intro w'
          go_simp
          with_reducible rfl
        rotate_left
        · simp only [Act.put, List.setIfInBounds_toArray, List.set_cons_zero, List.set_cons_succ, i64_w, i32_w]
          rfl
        refine pure_ (i := 8) (N := some 75) (v := ?_) (a' := ?_) #[true, true, true, true, true, true, true, true, true, false, false, false, false, false, false, false, false, false, false, false, false, false, false, false, false, false] rfl rfl (by kernel_rfl) (fun _ _ _ h => h) (Or.inl ⟨by rfl, ?_⟩) ?_ ?_
        rotate_left
        · intro w'
          go_simp
          with_reducible rfl
        rotate_left
        · simp only [Act.put, List.setIfInBounds_toArray, List.set_cons_zero, List.set_cons_succ, i64_w, i32_w]
          rfl
        refine pure_ (i := 9) (N := some 76) (v := ?_) (a' := ?_) #[true, true, true, true, true, true, true, true, true, true, false, false, false, false, false, false, false, false, false, false, false, false, false, false, false, false] rfl rfl (by kernel_rfl) (fun _ _ _ h => h) (Or.inl ⟨by rfl, ?_⟩) ?_ ?_
        rotate_left
        · intro w'
          go_simp
          with_reducible rfl
        rotate_left
        · simp only [Act.put, List.setIfInBounds_toArray, List.set_cons_zero, List.set_cons_succ, i64_w, i32_w]
          rfl
        refine pure_ (i := 10) (N := some 77) (v := ?_) (a' := ?_) #[true, true, true, true, true, true, true, true, true, true, true, false, false, false, false, false, false, false, false, false, false, false, false, false, false, false] rfl rfl (by kernel_rfl) (fun _ _ _ h => h) (Or.inl ⟨by rfl, ?_⟩) ?_ ?_
        rotate_left
        · intro w'
          go_simp
          with_reducible rfl
        rotate_left
        · simp only [Act.put, List.setIfInBounds_toArray, List.set_cons_zero, List.set_cons_succ, i64_w, i32_w]
          rfl
        refine pure_ (i := 11) (N := some 78) (v := ?_) (a' := ?_) #[true, true, true, true, true, true, true, true, true, true, true, true, false, false, false, false, false, false, false, false, false, false, false, false, false, false] rfl rfl (by kernel_rfl) (fun _ _ _ h => h) (Or.inl ⟨by rfl, ?_⟩) ?_ ?_
        rotate_left
        · intro w'
          go_simp
          with_reducible rfl
        rotate_left
        · simp only [Act.put, List.setIfInBounds_toArray, List.set_cons_zero, List.set_cons_succ, i64_w, i32_w]
          rfl
        refine pure_ (i := 15) (N := some 82) (v := ?_) (a' := ?_) #[true, true, true, true, true, true, true, true, true, true, true, true, false, false, false, true, false, false, false, false, false, false, false, false, false, false] rfl rfl (by kernel_rfl) (fun _ _ _ h => h) (Or.inl ⟨by rfl, ?_⟩) ?_ ?_
        rotate_left
        · intro w'
          go_simp
          with_reducible rfl
        rotate_left
        · simp only [Act.put, List.setIfInBounds_toArray, List.set_cons_zero, List.set_cons_succ, i64_w, i32_w]
          rfl
        refine pure_ (i := 16) (N := some 83) (v := ?_) (a' := ?_) #[true, true, true, true, true, true, true, true, true, true, true, true, false, false, false, true, true, false, false, false, false, false, false, false, false, false] rfl rfl (by kernel_rfl) (fun _ _ _ h => h) (Or.inl ⟨by rfl, ?_⟩) ?_ ?_
        rotate_left
        · intro w'
          go_simp
          with_reducible rfl
        rotate_left
        · simp only [Act.put, List.setIfInBounds_toArray, List.set_cons_zero, List.set_cons_succ, i64_w, i32_w]
          rfl
        refine pure_ (i := 17) (N := some 84) (v := ?_) (a' := ?_) #[true, true, true, true, true, true, true, true, true, true, true, true, false, false, false, true, true, true, false, false, false, false, false, false, false, false] rfl rfl (by kernel_rfl) (fun _ _ _ h => h) (Or.inl ⟨by rfl, ?_⟩) ?_ ?_
        rotate_left
        · intro w'
          go_simp
          with_reducible rfl
        rotate_left
        · simp only [Act.put, List.setIfInBounds_toArray, List.set_cons_zero, List.set_cons_succ, i64_w, i32_w]
          rfl
        refine pure_ (i := 19) (N := some 86) (v := ?_) (a' := ?_) #[true, true, true, true, true, true, true, true, true, true, true, true, false, false, false, true, true, true, false, true, false, false, false, false, false, false] rfl rfl (by kernel_rfl) (fun _ _ _ h => h) (Or.inl ⟨by rfl, ?_⟩) ?_ ?_
        rotate_left
        · intro w'
          go_simp
          with_reducible rfl
        rotate_left
        · simp only [Act.put, List.setIfInBounds_toArray, List.set_cons_zero, List.set_cons_succ, i64_w, i32_w]
          rfl
        refine pure_ (i := 20) (N := some 87) (v := ?_) (a' := ?_) #[true, true, true, true, true, true, true, true, true, true, true, true, false, false, false, true, true, true, false, true, true, false, false, false, false, false] rfl rfl (by kernel_rfl) (fun _ _ _ h => h) (Or.inl ⟨by rfl, ?_⟩) ?_ ?_
        rotate_left
        · intro w'
          go_simp
          with_reducible rfl
        rotate_left
        · simp only [Act.put, List.setIfInBounds_toArray, List.set_cons_zero, List.set_cons_succ, i64_w, i32_w]
          rfl
        refine pure_ (i := 21) (N := some 88) (v := ?_) (a' := ?_) #[true, true, true, true, true, true, true, true, true, true, true, true, false, false, false, true, true, true, false, true, true, true, false, false, false, false] rfl rfl (by kernel_rfl) (fun _ _ _ h => h) (Or.inl ⟨by rfl, ?_⟩) ?_ ?_
        rotate_left
        · intro w'
          go_simp
          with_reducible rfl
        rotate_left
        · simp only [Act.put, List.setIfInBounds_toArray, List.set_cons_zero, List.set_cons_succ, i64_w, i32_w]
          rfl
        refine pure_ (i := 22) (N := some 89) (v := ?_) (a' := ?_) #[true, true, true, true, true, true, true, true, true, true, true, true, false, false, false, true, true, true, false, true, true, true, true, false, false, false] rfl rfl (by kernel_rfl) (fun _ _ _ h => h) (Or.inl ⟨by rfl, ?_⟩) ?_ ?_
        rotate_left
        · intro w'
          go_simp
          with_reducible rfl
        rotate_left
        · simp only [Act.put, List.setIfInBounds_toArray, List.set_cons_zero, List.set_cons_succ, i64_w, i32_w]
          rfl
        refine pure_ (i := 25) (N := some 92) (v := ?_) (a' := ?_) #[true, true, true, true, true, true, true, true, true, true, true, true, false, false, false, true, true, true, false, true, true, true, true, false, false, true] rfl rfl (by kernel_rfl) (fun _ _ _ h => h) (Or.inl ⟨by rfl, ?_⟩) ?_ ?_
        rotate_left
        · intro w'
          go_simp
          with_reducible rfl
        rotate_left
        · simp only [Act.put, List.setIfInBounds_toArray, List.set_cons_zero, List.set_cons_succ, i64_w, i32_w]
          rfl
        refine one_ (i := 12) (N := some 79) #[true, true, true, true, true, true, true, true, true, true, true, true, true, false, false, true, true, true, false, true, true, true, true, false, false, true] rfl rfl (by kernel_rfl) (by decide) (fun K hK => ?_)
        refine value_ (w1 := ?_) (v := ?_) (by rfl) rfl ?_ ?_
        rotate_left 2
        · go_simp
          constructor
          · rfl
          · rfl
        refine hK.out _ _ trivial (fun hHeld => ?_)
        clear hK K
        refine norm_ (a' := ?_) ?_ ?_
        rotate_left
        · show Act.put _ (some 79) _ = _
          simp only [Act.put, List.setIfInBounds_toArray, List.set_cons_zero, List.set_cons_succ, i64_w, i32_w]
          rfl
        refine one_ (i := 13) (N := some 80) #[true, true, true, true, true, true, true, true, true, true, true, true, true, true, false, true, true, true, false, true, true, true, true, false, false, true] rfl rfl (by kernel_rfl) (by decide) (fun K hK => ?_)
        refine value_ (w1 := ?_) (v := ?_) (by rfl) rfl ?_ ?_
        rotate_left 2
        · go_simp
          rw [run_conv1 (w3.alloc (.cells #[.int .u8 c] 5)).drew w3.heap.size c (cell_new _ _ _)]
          rfl
        refine hK.out _ _ trivial (fun hHeld => ?_)
        clear hK K
        refine norm_ (a' := ?_) ?_ ?_
        rotate_left
        · show Act.put _ (some 80) _ = _
          simp only [Act.put, List.setIfInBounds_toArray, List.set_cons_zero, List.set_cons_succ, i64_w, i32_w]
          rfl
        refine pure_ (i := 14) (N := some 81) (v := ?_) (a' := ?_) #[true, true, true, true, true, true, true, true, true, true, true, true, true, true, true, true, true, true, false, true, true, true, true, false, false, true] rfl rfl (by kernel_rfl) (fun _ _ _ h => h) (Or.inl ⟨by rfl, ?_⟩) ?_ ?_
        rotate_left
        · intro w'
          go_simp
          with_reducible rfl
        rotate_left
        · simp only [Act.put, List.setIfInBounds_toArray, List.set_cons_zero, List.set_cons_succ, i64_w, i32_w]
          rfl
        refine pure_ (i := 18) (N := some 85) (v := ?_) (a' := ?_) #[true, true, true, true, true, true, true, true, true, true, true, true, true, true, true, true, true, true, true, true, true, true, true, false, false, true] rfl rfl (by kernel_rfl) (fun _ _ _ h => h) (Or.inl ⟨by rfl, ?_⟩) ?_ ?_
        rotate_left
        · intro w'
          go_simp
          with_reducible rfl
        rotate_left
        · simp only [Act.put, List.setIfInBounds_toArray, List.set_cons_zero, List.set_cons_succ, i64_w, i32_w]
          rfl
        refine one_ (i := 23) (N := some 90) #[true, true, true, true, true, true, true, true, true, true, true, true, true, true, true, true, true, true, true, true, true, true, true, true, false, true] rfl rfl (by kernel_rfl) (by decide) (fun K hK => ?_)
        refine value_ (w1 := ?_) (v := ?_) (by rfl) rfl ?_ ?_
        rotate_left 2
        · go_simp
          constructor
          · rfl
          · rfl
        refine hK.out _ _ trivial (fun hHeld => ?_)
        clear hK K
        refine norm_ (a' := ?_) ?_ ?_
        rotate_left
        · show Act.put _ (some 90) _ = _
          simp only [Act.put, List.setIfInBounds_toArray, List.set_cons_zero, List.set_cons_succ, i64_w, i32_w]
          rfl
        refine pure_ (i := 24) (N := some 91) (v := ?_) (a' := ?_) #[true, true, true, true, true, true, true, true, true, true, true, true, true, true, true, true, true, true, true, true, true, true, true, true, true, true] rfl rfl (by kernel_rfl) (fun _ _ _ h => h) (Or.inl ⟨by rfl, ?_⟩) ?_ ?_
        rotate_left
        · intro w'
          go_simp
          with_reducible rfl
        rotate_left
        · simp only [Act.put, List.setIfInBounds_toArray, List.set_cons_zero, List.set_cons_succ, i64_w, i32_w]
          rfl
        refine done_ (by kernel_rfl) ?_
        rw [← HT1.out, ← HT2.out, ← HT3.out, ← HT4.out]
        have HC3 := Aside0.mk hC3
        obtain ⟨w4, hw4⟩ : ∃ q, q = ((w3.alloc (.cells #[.int .u8 c] 5)).alloc (.cells #[.string t1, .string t2, .string t3, .string t4] 9)).drew := ⟨_, rfl⟩
        have sc : ∀ i v, (#[.string t1, .string t2, .string t3, .string t4] : Array Value)[i]? = some v → w4.cell? ⟨w3.heap.size + 1, i, none⟩ = some v := fun i v h => by
          rw [hw4]
          show ((w3.alloc (.cells #[.int .u8 c] 5)).alloc (.cells #[.string t1, .string t2, .string t3, .string t4] 9)).cell? ⟨w3.heap.size + 1, i, none⟩ = some v
          rw [World.cell?_alloc_at _ _ _ _ (by simp)]
          exact h
        have hl4 : Lt w3 w4 := by rw [hw4]; exact ((lt_new _ _ _).trans (lt_new _ _ _)).d1
        rw [← hw4]
        have HSC := Aside0.mk sc
        have HL4 := Aside0.mk hl4
        clear hw4 sc hl4 hC3
        generalize w3.heap.size + 1 = B at *
        clear hemp hl1 hl2 hk htm hz1 hw1 ha0 hkle hwk hjle hb1 hb2 hb3 hb4 hb5 hb6
        try clear e1
        try clear e2
        try clear h2
        try clear h3
        go_wp2
        go_loopw [92] (fun i wr => ∃ m, m ≤ 4 ∧ i = .int .i64 (m : Nat) ∧ Lt w4 wr) (fun i _ => 4 - (intOf i).toNat)
        case atStart => exact ⟨0, Nat.zero_le _, rfl, Lt.refl _⟩
        case round =>
          obtain ⟨m, hm, rfl, hlr⟩ := hrel
          have HLR := Aside0.mk hlr
          have hCr := (HC3.out.l HL4.out).l hlr
          clear hlr
          rcases (show m = 0 ∨ m = 1 ∨ m = 2 ∨ m = 3 ∨ m = 4 by omega) with rfl | rfl | rfl | rfl | rfl
          · have s0 := cell_lt HLR.out (HSC.out 0 _ rfl)
            have f := F1.out
            go_wp2_with fail
            (with_reducible refine (R1.out _ (by assumption)).mono ?_)
            rintro e w5 ⟨rfl, hl5⟩
            generalize readF t1 = q at *
            obtain ⟨q1, q2⟩ := q
            by_cases g : q2 = 0
            · have h2 : ¬ q1 = n := f g
              have h3 : (q1 == n) = false := beq_eq_false_iff_ne.2 h2
              subst g
              clear f
              go_wp2_with fail
              go_roundw
              case rel => first | exact ⟨1, by omega, by go_num, HLR.out.trans hl5⟩ | exact ⟨_, _, _, _, _, _, _, _, _, _, _, _, _, _, _, _, _, _, _, _, _, ⟨1, by omega, by go_num, HLR.out.trans hl5⟩, rfl⟩
              case measure => simp [intOf]
            · have h3 : (q2 == 0) = false := beq_eq_false_iff_ne.2 g
              clear f
              go_wp2_with fail
              go_roundw
              case rel => first | exact ⟨1, by omega, by go_num, HLR.out.trans hl5⟩ | exact ⟨_, _, _, _, _, _, _, _, _, _, _, _, _, _, _, _, _, _, _, _, _, ⟨1, by omega, by go_num, HLR.out.trans hl5⟩, rfl⟩
              case measure => simp [intOf]
          · have s0 := cell_lt HLR.out (HSC.out 1 _ rfl)
            have f := F2.out
            go_wp2_with fail
            (with_reducible refine (R2.out _ (by assumption)).mono ?_)
            rintro e w5 ⟨rfl, hl5⟩
            generalize readF t2 = q at *
            obtain ⟨q1, q2⟩ := q
            by_cases g : q2 = 0
            · have h2 : ¬ q1 = n := f g
              have h3 : (q1 == n) = false := beq_eq_false_iff_ne.2 h2
              subst g
              clear f
              go_wp2_with fail
              go_roundw
              case rel => first | exact ⟨2, by omega, by go_num, HLR.out.trans hl5⟩ | exact ⟨_, _, _, _, _, _, _, _, _, _, _, _, _, _, _, _, _, _, _, _, _, ⟨2, by omega, by go_num, HLR.out.trans hl5⟩, rfl⟩
              case measure => simp [intOf]
            · have h3 : (q2 == 0) = false := beq_eq_false_iff_ne.2 g
              clear f
              go_wp2_with fail
              go_roundw
              case rel => first | exact ⟨2, by omega, by go_num, HLR.out.trans hl5⟩ | exact ⟨_, _, _, _, _, _, _, _, _, _, _, _, _, _, _, _, _, _, _, _, _, ⟨2, by omega, by go_num, HLR.out.trans hl5⟩, rfl⟩
              case measure => simp [intOf]
          · have s0 := cell_lt HLR.out (HSC.out 2 _ rfl)
            have f := F3.out
            go_wp2_with fail
            (with_reducible refine (R3.out _ (by assumption)).mono ?_)
            rintro e w5 ⟨rfl, hl5⟩
            generalize readF t3 = q at *
            obtain ⟨q1, q2⟩ := q
            by_cases g : q2 = 0
            · have h2 : ¬ q1 = n := f g
              have h3 : (q1 == n) = false := beq_eq_false_iff_ne.2 h2
              subst g
              clear f
              go_wp2_with fail
              go_roundw
              case rel => first | exact ⟨3, by omega, by go_num, HLR.out.trans hl5⟩ | exact ⟨_, _, _, _, _, _, _, _, _, _, _, _, _, _, _, _, _, _, _, _, _, ⟨3, by omega, by go_num, HLR.out.trans hl5⟩, rfl⟩
              case measure => simp [intOf]
            · have h3 : (q2 == 0) = false := beq_eq_false_iff_ne.2 g
              clear f
              go_wp2_with fail
              go_roundw
              case rel => first | exact ⟨3, by omega, by go_num, HLR.out.trans hl5⟩ | exact ⟨_, _, _, _, _, _, _, _, _, _, _, _, _, _, _, _, _, _, _, _, _, ⟨3, by omega, by go_num, HLR.out.trans hl5⟩, rfl⟩
              case measure => simp [intOf]
          · have s0 := cell_lt HLR.out (HSC.out 3 _ rfl)
            have f := F4.out
            go_wp2_with fail
            (with_reducible refine (R4.out _ (by assumption)).mono ?_)
            rintro e w5 ⟨rfl, hl5⟩
            generalize readF t4 = q at *
            obtain ⟨q1, q2⟩ := q
            by_cases g : q2 = 0
            · have h2 : ¬ q1 = n := f g
              have h3 : (q1 == n) = false := beq_eq_false_iff_ne.2 h2
              subst g
              clear f
              go_wp2_with fail
              go_roundw
              case rel => first | exact ⟨4, by omega, by go_num, HLR.out.trans hl5⟩ | exact ⟨_, _, _, _, _, _, _, _, _, _, _, _, _, _, _, _, _, _, _, _, _, ⟨4, by omega, by go_num, HLR.out.trans hl5⟩, rfl⟩
              case measure => simp [intOf]
            · have h3 : (q2 == 0) = false := beq_eq_false_iff_ne.2 g
              clear f
              go_wp2_with fail
              go_roundw
              case rel => first | exact ⟨4, by omega, by go_num, HLR.out.trans hl5⟩ | exact ⟨_, _, _, _, _, _, _, _, _, _, _, _, _, _, _, _, _, _, _, _, _, ⟨4, by omega, by go_num, HLR.out.trans hl5⟩, rfl⟩
              case measure => simp [intOf]
          · go_wp2_with fail
            (with_reducible refine (CA.out _ (by assumption)).mono ?_)
            rintro e w5 ⟨rfl, hl5⟩
            go_wp2
            go_ret
            exact ⟨rfl, HL2.out.trans (HL3.out.trans (HL4.out.trans (HLR.out.trans hl5)))⟩
      · have h3 : (r2 == 0) = false := beq_eq_false_iff_ne.2 g2
        clear h1
        go_wp2_with fail
        refine start_ (n := 26) (S := fun w' => True) (ds := []) #[false, false, false, false, false, false, false, false, false, false, false, false, false, false, false, false, false, false, false, false, false, false, false, false, false, false] (by kernel_rfl) rfl rfl trivial (fun hHeld => ?_)
        refine pure_ (i := 0) (N := some 67) (v := ?_) (a' := ?_) #[true, false, false, false, false, false, false, false, false, false, false, false, false, false, false, false, false, false, false, false, false, false, false, false, false, false] rfl rfl (by kernel_rfl) (fun _ _ _ h => h) (Or.inl ⟨by rfl, ?_⟩) ?_ ?_
        rotate_left
        · intro w'
          go_simp
          with_reducible rfl
        rotate_left
        · simp only [Act.put, List.setIfInBounds_toArray, List.set_cons_zero, List.set_cons_succ, i64_w, i32_w]
          rfl
        refine pure_ (i := 1) (N := some 68) (v := ?_) (a' := ?_) #[true, true, false, false, false, false, false, false, false, false, false, false, false, false, false, false, false, false, false, false, false, false, false, false, false, false] rfl rfl (by kernel_rfl) (fun _ _ _ h => h) (Or.inl ⟨by rfl, ?_⟩) ?_ ?_
        rotate_left
        · intro w'
          go_simp
          with_reducible rfl
        rotate_left
        · simp only [Act.put, List.setIfInBounds_toArray, List.set_cons_zero, List.set_cons_succ, i64_w, i32_w]
          rfl
        refine pure_ (i := 2) (N := some 69) (v := ?_) (a' := ?_) #[true, true, true, false, false, false, false, false, false, false, false, false, false, false, false, false, false, false, false, false, false, false, false, false, false, false] rfl rfl (by kernel_rfl) (fun _ _ _ h => h) (Or.inl ⟨by rfl, ?_⟩) ?_ ?_
        rotate_left
        · intro w'
          go_simp
          with_reducible rfl
        rotate_left
        · simp only [Act.put, List.setIfInBounds_toArray, List.set_cons_zero, List.set_cons_succ, i64_w, i32_w]
          rfl
        refine pure_ (i := 3) (N := some 70) (v := ?_) (a' := ?_) #[true, true, true, true, false, false, false, false, false, false, false, false, false, false, false, false, false, false, false, false, false, false, false, false, false, false] rfl rfl (by kernel_rfl) (fun _ _ _ h => h) (Or.inl ⟨by rfl, ?_⟩) ?_ ?_
        rotate_left
        · intro w'
          go_simp
          with_reducible rfl
        rotate_left
        · simp only [Act.put, List.setIfInBounds_toArray, List.set_cons_zero, List.set_cons_succ, i64_w, i32_w]
          rfl
        refine pure_ (i := 4) (N := some 71) (v := ?_) (a' := ?_) #[true, true, true, true, true, false, false, false, false, false, false, false, false, false, false, false, false, false, false, false, false, false, false, false, false, false] rfl rfl (by kernel_rfl) (fun _ _ _ h => h) (Or.inl ⟨by rfl, ?_⟩) ?_ ?_
        rotate_left
        · intro w'
          go_simp
          with_reducible rfl
        rotate_left
        · simp only [Act.put, List.setIfInBounds_toArray, List.set_cons_zero, List.set_cons_succ, i64_w, i32_w]
          rfl
        refine pure_ (i := 5) (N := some 72) (v := ?_) (a' := ?_) #[true, true, true, true, true, true, false, false, false, false, false, false, false, false, false, false, false, false, false, false, false, false, false, false, false, false] rfl rfl (by kernel_rfl) (fun _ _ _ h => h) (Or.inl ⟨by rfl, ?_⟩) ?_ ?_
        rotate_left
        · intro w'
          go_simp
          with_reducible rfl
        rotate_left
        · simp only [Act.put, List.setIfInBounds_toArray, List.set_cons_zero, List.set_cons_succ, i64_w, i32_w]
          rfl
        refine pure_ (i := 6) (N := some 73) (v := ?_) (a' := ?_) #[true, true, true, true, true, true, true, false, false, false, false, false, false, false, false, false, false, false, false, false, false, false, false, false, false, false] rfl rfl (by kernel_rfl) (fun _ _ _ h => h) (Or.inl ⟨by rfl, ?_⟩) ?_ ?_
        rotate_left
        · intro w'
          go_simp
          with_reducible rfl
        rotate_left
        · simp only [Act.put, List.setIfInBounds_toArray, List.set_cons_zero, List.set_cons_succ, i64_w, i32_w]
          rfl
        refine pure_ (i := 7) (N := some 74) (v := ?_) (a' := ?_) #[true, true, true, true, true, true, true, true, false, false, false, false, false, false, false, false, false, false, false, false, false, false, false, false, false, false] rfl rfl (by kernel_rfl) (fun _ _ _ h => h) (Or.inl ⟨by rfl, ?_⟩) ?_ ?_
        rotate_left
        · intro w'
          go_simp
          with_reducible rfl
        rotate_left
        · simp only [Act.put, List.setIfInBounds_toArray, List.set_cons_zero, List.set_cons_succ, i64_w, i32_w]
          rfl
        refine pure_ (i := 8) (N := some 75) (v := ?_) (a' := ?_) #[true, true, true, true, true, true, true, true, true, false, false, false, false, false, false, false, false, false, false, false, false, false, false, false, false, false] rfl rfl (by kernel_rfl) (fun _ _ _ h => h) (Or.inl ⟨by rfl, ?_⟩) ?_ ?_
        rotate_left
        · intro w'
          go_simp
          with_reducible rfl
        rotate_left
        · simp only [Act.put, List.setIfInBounds_toArray, List.set_cons_zero, List.set_cons_succ, i64_w, i32_w]
          rfl
        refine pure_ (i := 9) (N := some 76) (v := ?_) (a' := ?_) #[true, true, true, true, true, true, true, true, true, true, false, false, false, false, false, false, false, false, false, false, false, false, false, false, false, false] rfl rfl (by kernel_rfl) (fun _ _ _ h => h) (Or.inl ⟨by rfl, ?_⟩) ?_ ?_
        rotate_left
        · intro w'
          go_simp
          with_reducible rfl
        rotate_left
        · simp only [Act.put, List.setIfInBounds_toArray, List.set_cons_zero, List.set_cons_succ, i64_w, i32_w]
          rfl
        refine pure_ (i := 10) (N := some 77) (v := ?_) (a' := ?_) #[true, true, true, true, true, true, true, true, true, true, true, false, false, false, false, false, false, false, false, false, false, false, false, false, false, false] rfl rfl (by kernel_rfl) (fun _ _ _ h => h) (Or.inl ⟨by rfl, ?_⟩) ?_ ?_
        rotate_left
        · intro w'
          go_simp
          with_reducible rfl
        rotate_left
        · simp only [Act.put, List.setIfInBounds_toArray, List.set_cons_zero, List.set_cons_succ, i64_w, i32_w]
          rfl
        refine pure_ (i := 11) (N := some 78) (v := ?_) (a' := ?_) #[true, true, true, true, true, true, true, true, true, true, true, true, false, false, false, false, false, false, false, false, false, false, false, false, false, false] rfl rfl (by kernel_rfl) (fun _ _ _ h => h) (Or.inl ⟨by rfl, ?_⟩) ?_ ?_
        rotate_left
        · intro w'
          go_simp
          with_reducible rfl
        rotate_left
        · simp only [Act.put, List.setIfInBounds_toArray, List.set_cons_zero, List.set_cons_succ, i64_w, i32_w]
          rfl
        refine pure_ (i := 15) (N := some 82) (v := ?_) (a' := ?_) #[true, true, true, true, true, true, true, true, true, true, true, true, false, false, false, true, false, false, false, false, false, false, false, false, false, false] rfl rfl (by kernel_rfl) (fun _ _ _ h => h) (Or.inl ⟨by rfl, ?_⟩) ?_ ?_
        rotate_left
        · intro w'
          go_simp
          with_reducible rfl
        rotate_left
        · simp only [Act.put, List.setIfInBounds_toArray, List.set_cons_zero, List.set_cons_succ, i64_w, i32_w]
          rfl
        refine pure_ (i := 16) (N := some 83) (v := ?_) (a' := ?_) #[true, true, true, true, true, true, true, true, true, true, true, true, false, false, false, true, true, false, false, false, false, false, false, false, false, false] rfl rfl (by kernel_rfl) (fun _ _ _ h => h) (Or.inl ⟨by rfl, ?_⟩) ?_ ?_
        rotate_left
        · intro w'
          go_simp
          with_reducible rfl
        rotate_left
        · simp only [Act.put, List.setIfInBounds_toArray, List.set_cons_zero, List.set_cons_succ, i64_w, i32_w]
          rfl
        refine pure_ (i := 17) (N := some 84) (v := ?_) (a' := ?_) #[true, true, true, true, true, true, true, true, true, true, true, true, false, false, false, true, true, true, false, false, false, false, false, false, false, false] rfl rfl (by kernel_rfl) (fun _ _ _ h => h) (Or.inl ⟨by rfl, ?_⟩) ?_ ?_
        rotate_left
        · intro w'
          go_simp
          with_reducible rfl
        rotate_left
        · simp only [Act.put, List.setIfInBounds_toArray, List.set_cons_zero, List.set_cons_succ, i64_w, i32_w]
          rfl
        refine pure_ (i := 19) (N := some 86) (v := ?_) (a' := ?_) #[true, true, true, true, true, true, true, true, true, true, true, true, false, false, false, true, true, true, false, true, false, false, false, false, false, false] rfl rfl (by kernel_rfl) (fun _ _ _ h => h) (Or.inl ⟨by rfl, ?_⟩) ?_ ?_
        rotate_left
        · intro w'
          go_simp
          with_reducible rfl
        rotate_left
        · simp only [Act.put, List.setIfInBounds_toArray, List.set_cons_zero, List.set_cons_succ, i64_w, i32_w]
          rfl
        refine pure_ (i := 20) (N := some 87) (v := ?_) (a' := ?_) #[true, true, true, true, true, true, true, true, true, true, true, true, false, false, false, true, true, true, false, true, true, false, false, false, false, false] rfl rfl (by kernel_rfl) (fun _ _ _ h => h) (Or.inl ⟨by rfl, ?_⟩) ?_ ?_
        rotate_left
        · intro w'
          go_simp
          with_reducible rfl
        rotate_left
        · simp only [Act.put, List.setIfInBounds_toArray, List.set_cons_zero, List.set_cons_succ, i64_w, i32_w]
          rfl
        refine pure_ (i := 21) (N := some 88) (v := ?_) (a' := ?_) #[true, true, true, true, true, true, true, true, true, true, true, true, false, false, false, true, true, true, false, true, true, true, false, false, false, false] rfl rfl (by kernel_rfl) (fun _ _ _ h => h) (Or.inl ⟨by rfl, ?_⟩) ?_ ?_
        rotate_left
        · intro w'
          go_simp
          with_reducible rfl
        rotate_left
        · simp only [Act.put, List.setIfInBounds_toArray, List.set_cons_zero, List.set_cons_succ, i64_w, i32_w]
          rfl
        refine pure_ (i := 22) (N := some 89) (v := ?_) (a' := ?_) #[true, true, true, true, true, true, true, true, true, true, true, true, false, false, false, true, true, true, false, true, true, true, true, false, false, false] rfl rfl (by kernel_rfl) (fun _ _ _ h => h) (Or.inl ⟨by rfl, ?_⟩) ?_ ?_
        rotate_left
        · intro w'
          go_simp
          with_reducible rfl
        rotate_left
        · simp only [Act.put, List.setIfInBounds_toArray, List.set_cons_zero, List.set_cons_succ, i64_w, i32_w]
          rfl
        refine pure_ (i := 25) (N := some 92) (v := ?_) (a' := ?_) #[true, true, true, true, true, true, true, true, true, true, true, true, false, false, false, true, true, true, false, true, true, true, true, false, false, true] rfl rfl (by kernel_rfl) (fun _ _ _ h => h) (Or.inl ⟨by rfl, ?_⟩) ?_ ?_
        rotate_left
        · intro w'
          go_simp
          with_reducible rfl
        rotate_left
        · simp only [Act.put, List.setIfInBounds_toArray, List.set_cons_zero, List.set_cons_succ, i64_w, i32_w]
          rfl
        refine one_ (i := 12) (N := some 79) #[true, true, true, true, true, true, true, true, true, true, true, true, true, false, false, true, true, true, false, true, true, true, true, false, false, true] rfl rfl (by kernel_rfl) (by decide) (fun K hK => ?_)
        refine value_ (w1 := ?_) (v := ?_) (by rfl) rfl ?_ ?_
        rotate_left 2
        · go_simp
          constructor
          · rfl
          · rfl
        refine hK.out _ _ trivial (fun hHeld => ?_)
        clear hK K
        refine norm_ (a' := ?_) ?_ ?_
        rotate_left
        · show Act.put _ (some 79) _ = _
          simp only [Act.put, List.setIfInBounds_toArray, List.set_cons_zero, List.set_cons_succ, i64_w, i32_w]
          rfl
        refine one_ (i := 13) (N := some 80) #[true, true, true, true, true, true, true, true, true, true, true, true, true, true, false, true, true, true, false, true, true, true, true, false, false, true] rfl rfl (by kernel_rfl) (by decide) (fun K hK => ?_)
        refine value_ (w1 := ?_) (v := ?_) (by rfl) rfl ?_ ?_
        rotate_left 2
        · go_simp
          rw [run_conv1 (w3.alloc (.cells #[.int .u8 c] 5)).drew w3.heap.size c (cell_new _ _ _)]
          rfl
        refine hK.out _ _ trivial (fun hHeld => ?_)
        clear hK K
        refine norm_ (a' := ?_) ?_ ?_
        rotate_left
        · show Act.put _ (some 80) _ = _
          simp only [Act.put, List.setIfInBounds_toArray, List.set_cons_zero, List.set_cons_succ, i64_w, i32_w]
          rfl
        refine pure_ (i := 14) (N := some 81) (v := ?_) (a' := ?_) #[true, true, true, true, true, true, true, true, true, true, true, true, true, true, true, true, true, true, false, true, true, true, true, false, false, true] rfl rfl (by kernel_rfl) (fun _ _ _ h => h) (Or.inl ⟨by rfl, ?_⟩) ?_ ?_
        rotate_left
        · intro w'
          go_simp
          with_reducible rfl
        rotate_left
        · simp only [Act.put, List.setIfInBounds_toArray, List.set_cons_zero, List.set_cons_succ, i64_w, i32_w]
          rfl
        refine pure_ (i := 18) (N := some 85) (v := ?_) (a' := ?_) #[true, true, true, true, true, true, true, true, true, true, true, true, true, true, true, true, true, true, true, true, true, true, true, false, false, true] rfl rfl (by kernel_rfl) (fun _ _ _ h => h) (Or.inl ⟨by rfl, ?_⟩) ?_ ?_
        rotate_left
        · intro w'
          go_simp
          with_reducible rfl
        rotate_left
        · simp only [Act.put, List.setIfInBounds_toArray, List.set_cons_zero, List.set_cons_succ, i64_w, i32_w]
          rfl
        refine one_ (i := 23) (N := some 90) #[true, true, true, true, true, true, true, true, true, true, true, true, true, true, true, true, true, true, true, true, true, true, true, true, false, true] rfl rfl (by kernel_rfl) (by decide) (fun K hK => ?_)
        refine value_ (w1 := ?_) (v := ?_) (by rfl) rfl ?_ ?_
        rotate_left 2
        · go_simp
          constructor
          · rfl
          · rfl
        refine hK.out _ _ trivial (fun hHeld => ?_)
        clear hK K
        refine norm_ (a' := ?_) ?_ ?_
        rotate_left
        · show Act.put _ (some 90) _ = _
          simp only [Act.put, List.setIfInBounds_toArray, List.set_cons_zero, List.set_cons_succ, i64_w, i32_w]
          rfl
        refine pure_ (i := 24) (N := some 91) (v := ?_) (a' := ?_) #[true, true, true, true, true, true, true, true, true, true, true, true, true, true, true, true, true, true, true, true, true, true, true, true, true, true] rfl rfl (by kernel_rfl) (fun _ _ _ h => h) (Or.inl ⟨by rfl, ?_⟩) ?_ ?_
        rotate_left
        · intro w'
          go_simp
          with_reducible rfl
        rotate_left
        · simp only [Act.put, List.setIfInBounds_toArray, List.set_cons_zero, List.set_cons_succ, i64_w, i32_w]
          rfl
        refine done_ (by kernel_rfl) ?_
        rw [← HT1.out, ← HT2.out, ← HT3.out, ← HT4.out]
        have HC3 := Aside0.mk hC3
        obtain ⟨w4, hw4⟩ : ∃ q, q = ((w3.alloc (.cells #[.int .u8 c] 5)).alloc (.cells #[.string t1, .string t2, .string t3, .string t4] 9)).drew := ⟨_, rfl⟩
        have sc : ∀ i v, (#[.string t1, .string t2, .string t3, .string t4] : Array Value)[i]? = some v → w4.cell? ⟨w3.heap.size + 1, i, none⟩ = some v := fun i v h => by
          rw [hw4]
          show ((w3.alloc (.cells #[.int .u8 c] 5)).alloc (.cells #[.string t1, .string t2, .string t3, .string t4] 9)).cell? ⟨w3.heap.size + 1, i, none⟩ = some v
          rw [World.cell?_alloc_at _ _ _ _ (by simp)]
          exact h
        have hl4 : Lt w3 w4 := by rw [hw4]; exact ((lt_new _ _ _).trans (lt_new _ _ _)).d1
        rw [← hw4]
        have HSC := Aside0.mk sc
        have HL4 := Aside0.mk hl4
        clear hw4 sc hl4 hC3
        generalize w3.heap.size + 1 = B at *
        clear hemp hl1 hl2 hk htm hz1 hw1 ha0 hkle hwk hjle hb1 hb2 hb3 hb4 hb5 hb6
        try clear e1
        try clear e2
        try clear h2
        try clear h3
        go_wp2
        go_loopw [92] (fun i wr => ∃ m, m ≤ 4 ∧ i = .int .i64 (m : Nat) ∧ Lt w4 wr) (fun i _ => 4 - (intOf i).toNat)
        case atStart => exact ⟨0, Nat.zero_le _, rfl, Lt.refl _⟩
        case round =>
          obtain ⟨m, hm, rfl, hlr⟩ := hrel
          have HLR := Aside0.mk hlr
          have hCr := (HC3.out.l HL4.out).l hlr
          clear hlr
          rcases (show m = 0 ∨ m = 1 ∨ m = 2 ∨ m = 3 ∨ m = 4 by omega) with rfl | rfl | rfl | rfl | rfl
          · have s0 := cell_lt HLR.out (HSC.out 0 _ rfl)
            have f := F1.out
            go_wp2_with fail
            (with_reducible refine (R1.out _ (by assumption)).mono ?_)
            rintro e w5 ⟨rfl, hl5⟩
            generalize readF t1 = q at *
            obtain ⟨q1, q2⟩ := q
            by_cases g : q2 = 0
            · have h2 : ¬ q1 = n := f g
              have h3 : (q1 == n) = false := beq_eq_false_iff_ne.2 h2
              subst g
              clear f
              go_wp2_with fail
              go_roundw
              case rel => first | exact ⟨1, by omega, by go_num, HLR.out.trans hl5⟩ | exact ⟨_, _, _, _, _, _, _, _, _, _, _, _, _, _, _, _, _, _, _, _, _, ⟨1, by omega, by go_num, HLR.out.trans hl5⟩, rfl⟩
              case measure => simp [intOf]
            · have h3 : (q2 == 0) = false := beq_eq_false_iff_ne.2 g
              clear f
              go_wp2_with fail
              go_roundw
              case rel => first | exact ⟨1, by omega, by go_num, HLR.out.trans hl5⟩ | exact ⟨_, _, _, _, _, _, _, _, _, _, _, _, _, _, _, _, _, _, _, _, _, ⟨1, by omega, by go_num, HLR.out.trans hl5⟩, rfl⟩
              case measure => simp [intOf]
          · have s0 := cell_lt HLR.out (HSC.out 1 _ rfl)
            have f := F2.out
            go_wp2_with fail
            (with_reducible refine (R2.out _ (by assumption)).mono ?_)
            rintro e w5 ⟨rfl, hl5⟩
            generalize readF t2 = q at *
            obtain ⟨q1, q2⟩ := q
            by_cases g : q2 = 0
            · have h2 : ¬ q1 = n := f g
              have h3 : (q1 == n) = false := beq_eq_false_iff_ne.2 h2
              subst g
              clear f
              go_wp2_with fail
              go_roundw
              case rel => first | exact ⟨2, by omega, by go_num, HLR.out.trans hl5⟩ | exact ⟨_, _, _, _, _, _, _, _, _, _, _, _, _, _, _, _, _, _, _, _, _, ⟨2, by omega, by go_num, HLR.out.trans hl5⟩, rfl⟩
              case measure => simp [intOf]
            · have h3 : (q2 == 0) = false := beq_eq_false_iff_ne.2 g
              clear f
              go_wp2_with fail
              go_roundw
              case rel => first | exact ⟨2, by omega, by go_num, HLR.out.trans hl5⟩ | exact ⟨_, _, _, _, _, _, _, _, _, _, _, _, _, _, _, _, _, _, _, _, _, ⟨2, by omega, by go_num, HLR.out.trans hl5⟩, rfl⟩
              case measure => simp [intOf]
          · have s0 := cell_lt HLR.out (HSC.out 2 _ rfl)
            have f := F3.out
            go_wp2_with fail
            (with_reducible refine (R3.out _ (by assumption)).mono ?_)
            rintro e w5 ⟨rfl, hl5⟩
            generalize readF t3 = q at *
            obtain ⟨q1, q2⟩ := q
            by_cases g : q2 = 0
            · have h2 : ¬ q1 = n := f g
              have h3 : (q1 == n) = false := beq_eq_false_iff_ne.2 h2
              subst g
              clear f
              go_wp2_with fail
              go_roundw
              case rel => first | exact ⟨3, by omega, by go_num, HLR.out.trans hl5⟩ | exact ⟨_, _, _, _, _, _, _, _, _, _, _, _, _, _, _, _, _, _, _, _, _, ⟨3, by omega, by go_num, HLR.out.trans hl5⟩, rfl⟩
              case measure => simp [intOf]
            · have h3 : (q2 == 0) = false := beq_eq_false_iff_ne.2 g
              clear f
              go_wp2_with fail
              go_roundw
              case rel => first | exact ⟨3, by omega, by go_num, HLR.out.trans hl5⟩ | exact ⟨_, _, _, _, _, _, _, _, _, _, _, _, _, _, _, _, _, _, _, _, _, ⟨3, by omega, by go_num, HLR.out.trans hl5⟩, rfl⟩
              case measure => simp [intOf]
          · have s0 := cell_lt HLR.out (HSC.out 3 _ rfl)
            have f := F4.out
            go_wp2_with fail
            (with_reducible refine (R4.out _ (by assumption)).mono ?_)
            rintro e w5 ⟨rfl, hl5⟩
            generalize readF t4 = q at *
            obtain ⟨q1, q2⟩ := q
            by_cases g : q2 = 0
            · have h2 : ¬ q1 = n := f g
              have h3 : (q1 == n) = false := beq_eq_false_iff_ne.2 h2
              subst g
              clear f
              go_wp2_with fail
              go_roundw
              case rel => first | exact ⟨4, by omega, by go_num, HLR.out.trans hl5⟩ | exact ⟨_, _, _, _, _, _, _, _, _, _, _, _, _, _, _, _, _, _, _, _, _, ⟨4, by omega, by go_num, HLR.out.trans hl5⟩, rfl⟩
              case measure => simp [intOf]
            · have h3 : (q2 == 0) = false := beq_eq_false_iff_ne.2 g
              clear f
              go_wp2_with fail
              go_roundw
              case rel => first | exact ⟨4, by omega, by go_num, HLR.out.trans hl5⟩ | exact ⟨_, _, _, _, _, _, _, _, _, _, _, _, _, _, _, _, _, _, _, _, _, ⟨4, by omega, by go_num, HLR.out.trans hl5⟩, rfl⟩
              case measure => simp [intOf]
          · go_wp2_with fail
            (with_reducible refine (CA.out _ (by assumption)).mono ?_)
            rintro e w5 ⟨rfl, hl5⟩
            go_wp2
            go_ret
            exact ⟨rfl, HL2.out.trans (HL3.out.trans (HL4.out.trans (HLR.out.trans hl5)))⟩
  · have hte : textF n = (⟨#[]⟩, 30) := by unfold textF; rw [if_neg hn]
    rw [hte] at T
    clear hn hte w0 w1 w2
    have hC0 := HC.out
    go_enter Tryz.func6, Tryz.ntmps6
    go_wp2_with fail
    (with_reducible refine (T.out _ (by assumption)).mono ?_)
    rintro e w1 ⟨rfl, hl1⟩
    have hC1 := hC0.l hl1
    go_wp2_with fail
    (with_reducible refine (CA.out _ (by assumption)).mono ?_)
    rintro e w2 ⟨rfl, hl2⟩
    go_wp2
    go_ret
    exact ⟨rfl, hl1.trans hl2⟩
end Go.Proofs.YtnaaagaammimnaaGreatDoor.Civ
