/-
  Part 5 of what the row stands on, put together by a program: LxF, LxG, LxH, LxP, LxT, DatE, DatD, PLx9, DatK, PLx10.
-/
import Derived.Lib.AtoiAllCases
import Derived.Lib.ItoaMem
import Derived.Lib.ParseIntBTie
import Derived.Lib.SliceRun
import Derived.Test.YtcinojbfjiohjaaGreatDoorLtD
section
namespace Go.Proofs.YtcinojbfjiohjaaGreatDoor.Lx
open Go Go.RowKit Go.Proofs.YtcinojbfjiohjaaGreatDoor.PPrintTells Go.Proofs.YtcinojbfjiohjaaGreatDoor.Ex Go.Proofs.YtcinojbfjiohjaaGreatDoor.Civ Go.Proofs.YtcinojbfjiohjaaGreatDoorW.PrintWords Go.Proofs.YtcinojbfjiohjaaGreatDoorW.PrintLast Go.Proofs.YtcinojbfjiohjaaGreatDoorW.PrintMore
set_option linter.unusedVariables false
set_option linter.unusedSimpArgs false
abbrev AT : ByteArray := ⟨#[64]⟩
/-- A word's text, and whether the word is right. -/
def textT (t : Tok) : ByteArray × Bool :=
  if t.f0 = 1 then (t.f1, namedL t.f1.data.toList && decide (t.f2 = 0) && decide (spanN letterB t.f1.data.toList = t.f1.size))
  else if t.f0 = 2 then (⟨(Lib.itoa t.f2).toArray⟩, t.f1.toList.isEmpty)
  else if t.f0 = 3 then (AT ++ (textF t.f2).1, decide ((textF t.f2).2 = 0) && t.f1.toList.isEmpty)
  else if t.f0 = 4 then (t.f1, decide (t.f2 = 0) && decide (t.f1.size = 1) && t.f1.data.toList.all markB)
  else (nil8, false)
def rightT (t : Tok) : Bool := (textT t).2
theorem beq_nil (l : List UInt8) : (l == []) = l.isEmpty := by cases l <;> rfl
theorem textF_size (n : Int) : (textF n).1.size ≤ 200 := by
  unfold textF
  split
  · rename_i hn
    have hok := (date_ok hn).1
    have hm := hok.month
    have hd : 1 ≤ dyF n ∧ dyF n ≤ 31 := ⟨hok.2.2.2.2.1, by have := hok.2.2.2.2.2; have := len_le (yrF n) (moF n); omega⟩
    have hy0 := hok.1
    have hy1 := hok.2.1
    show (ymdL (yrF n) (moF n) (dyF n)).toArray.size ≤ 200
    rw [List.size_toArray]
    unfold ymdL
    split
    · have := partsL_len (-(yrF n)) (moF n) (dyF n) ⟨by omega, by omega⟩ hm hd
      rw [List.length_cons]
      omega
    · have := partsL_len (yrF n) (moF n) (dyF n) ⟨by omega, by omega⟩ hm hd
      omega
  · exact Nat.zero_le _
structure TB (t : Tok) (k : Nat) (w0 W : World) : Prop where
  tb : W.heap[k]? = some (tokC t)
  lt : Lt w0 W
theorem TB.l {t : Tok} {k : Nat} {w0 W W2 : World} (h : TB t k w0 W) (hl : Lt W W2) : TB t k w0 W2 := ⟨blk_lt_on hl h.tb, h.lt.trans hl⟩
set_option maxHeartbeats 16000000 in
set_option maxRecDepth 100000 in
theorem text_calls (t : Tok) (h64 : -9223372036854775808 ≤ t.f2 ∧ t.f2 ≤ 9223372036854775807) (hz : t.f1.size ≤ 9223372036854775807) (w : World) (hC : LCal w) :
    Calls Tryz.prog 69 #[tokV t] w fun e w' => e = .returned (.tuple #[.string (textT t).1, .bool (textT t).2]) ∧ Lt w w' := by
  have B0 := Aside0.mk (TB.mk (t := t) (blk_new w (tokC t)) ((Lt.refl w).a (tokC t)))
  have HC := Aside0.mk hC
  have LE : ∀ args w, (callFunc 88 args).run Tryz.prog w = .ok (.enter 88 args) w := fun args w => by kernel_rfl
  have CF := fun W (h : LCal W) => Aside0.mk (Tryz.strconv_FormatInt_10 t.f2 (by omega) (by omega) W h.cal.pow)
  have CT := fun W (h : LCal W) => Aside0.mk (Text_lt t.f2 W h.cal)
  have CN := fun W => Aside0.mk (named_calls t.f1 W (by omega))
  have CR := fun W => Aside0.mk (run_calls letterB _ LE letter_calls t.f1 0 (Nat.zero_le _) hz W)
  have SZ := Aside0.mk (show t.f1.data.toList.length = t.f1.size from Array.length_toList)
  obtain ⟨k, s, n⟩ := t
  dsimp only at B0 CF CT CN CR SZ hz h64
  rw [List.drop_zero, Nat.zero_add, show ((0 : Nat) : Int) = 0 from rfl] at CR
  clear hC LE

  by_cases k1 : k = 1
  · subst k1
    have hT : textT ⟨1, s, n⟩ = (s, namedL s.data.toList && decide (n = 0) && decide (spanN letterB s.data.toList = s.size)) := if_pos rfl
    rw [hT]
    clear hT h64 hz CF CT
    obtain ⟨m, hm⟩ : ∃ m, m = spanN letterB s.data.toList := ⟨_, rfl⟩
    rw [← hm] at CR ⊢
    clear hm
    have HM : decide (m = s.size) = ((m : Int) == (s.size : Int)) := by
      rw [Bool.eq_iff_iff, decide_eq_true_eq, beq_iff_eq]; omega
    rw [HM]
    clear HM
    generalize namedL s.data.toList = nb at *
    clear SZ
    cases nb with
    | false =>
      rw [Bool.false_and, Bool.false_and]
      go_enter Tryz.func69, Tryz.ntmps69
      obtain ⟨z0, z1, z2⟩ := cells3 B0.out.tb
      go_wp2_with fail
      (with_reducible refine (CN _).out.mono ?_)
      rintro e w1 ⟨rfl, hl⟩
      have B1 := Aside0.mk ((B0.out.l hl).l ((Lt.refl _).a (tokC ⟨1, s, 0⟩)))
      clear hl CN z0 z1 z2 B0
      go_wp2_with fail
      obtain ⟨w2, hw2⟩ : ∃ z : World, z = w1.alloc (tokC ⟨1, s, 0⟩) := ⟨_, rfl⟩
      rw [← hw2] at B1
      change Code.wp _ _ _ _ (w1.alloc (tokC ⟨1, s, 0⟩))
      rw [← hw2]
      clear hw2
      have B1 := Aside0.mk (B1.out.l (Lt.refl _).d1)
      refine start_ (n := 19) (S := fun w' => w'.cell? ⟨w.heap.size, 0, none⟩ = some (.int .u8 1) ∧ w'.cell? ⟨w.heap.size, 1, none⟩ = some (.string s) ∧ w'.cell? ⟨w.heap.size, 2, none⟩ = some (.int .i64 n)) (ds := []) #[false, false, false, false, false, false, false, false, false, false, false, false, false, false, false, false, false, false, false] (by kernel_rfl) rfl rfl ⟨(cells3 B1.out.tb).1, (cells3 B1.out.tb).2.1, (cells3 B1.out.tb).2.2⟩ (fun hHeld => ?_)
      refine pure_ (i := 0) (N := some 18) (v := ?_) (a' := ?_) #[true, false, false, false, false, false, false, false, false, false, false, false, false, false, false, false, false, false, false] rfl rfl (by kernel_rfl) (fun _ _ _ h => h) (Or.inl ⟨by rfl, ?_⟩) ?_ ?_
      rotate_left
      · intro w'
        go_simp
        with_reducible rfl
      rotate_left
      · simp only [Act.put, List.setIfInBounds_toArray, List.set_cons_zero, List.set_cons_succ, i64_w, i32_w]
        rfl
      refine pure_ (i := 2) (N := some 20) (v := ?_) (a' := ?_) #[true, false, true, false, false, false, false, false, false, false, false, false, false, false, false, false, false, false, false] rfl rfl (by kernel_rfl) (fun _ _ _ h => h) (Or.inl ⟨by rfl, ?_⟩) ?_ ?_
      rotate_left
      · intro w'
        go_simp
        with_reducible rfl
      rotate_left
      · simp only [Act.put, List.setIfInBounds_toArray, List.set_cons_zero, List.set_cons_succ, i64_w, i32_w]
        rfl
      refine pure_ (i := 3) (N := some 21) (v := ?_) (a' := ?_) #[true, false, true, true, false, false, false, false, false, false, false, false, false, false, false, false, false, false, false] rfl rfl (by kernel_rfl) (fun _ _ _ h => h) (Or.inl ⟨by rfl, ?_⟩) ?_ ?_
      rotate_left
      · intro w'
        go_simp
        with_reducible rfl
      rotate_left
      · simp only [Act.put, List.setIfInBounds_toArray, List.set_cons_zero, List.set_cons_succ, i64_w, i32_w]
        rfl
      refine pure_ (i := 4) (N := some 22) (v := undef) (a' := ?_) #[true, false, true, true, true, false, false, false, false, false, false, false, false, false, false, false, false, false, false] rfl rfl (by kernel_rfl) (fun _ _ _ h => h) (Or.inr ⟨by rfl, rfl⟩) ?_ ?_
      rotate_left
      · simp only [Act.put, List.setIfInBounds_toArray, List.set_cons_zero, List.set_cons_succ, i64_w, i32_w]
        rfl
      refine pure_ (i := 5) (N := some 23) (v := undef) (a' := ?_) #[true, false, true, true, true, true, false, false, false, false, false, false, false, false, false, false, false, false, false] rfl rfl (by kernel_rfl) (fun _ _ _ h => h) (Or.inr ⟨by rfl, rfl⟩) ?_ ?_
      rotate_left
      · simp only [Act.put, List.setIfInBounds_toArray, List.set_cons_zero, List.set_cons_succ, i64_w, i32_w]
        rfl
      refine pure_ (i := 6) (N := some 24) (v := undef) (a' := ?_) #[true, false, true, true, true, true, true, false, false, false, false, false, false, false, false, false, false, false, false] rfl rfl (by kernel_rfl) (fun _ _ _ h => h) (Or.inr ⟨by rfl, rfl⟩) ?_ ?_
      rotate_left
      · simp only [Act.put, List.setIfInBounds_toArray, List.set_cons_zero, List.set_cons_succ, i64_w, i32_w]
        rfl
      refine pure_ (i := 7) (N := some 25) (v := ?_) (a' := ?_) #[true, false, true, true, true, true, true, true, false, false, false, false, false, false, false, false, false, false, false] rfl rfl (by kernel_rfl) (fun _ _ _ h => h) (Or.inl ⟨by rfl, ?_⟩) ?_ ?_
      rotate_left
      · intro w'
        go_simp
        with_reducible rfl
      rotate_left
      · simp only [Act.put, List.setIfInBounds_toArray, List.set_cons_zero, List.set_cons_succ, i64_w, i32_w]
        rfl
      refine pure_ (i := 8) (N := some 26) (v := ?_) (a' := ?_) #[true, false, true, true, true, true, true, true, true, false, false, false, false, false, false, false, false, false, false] rfl rfl (by kernel_rfl) (fun _ _ _ h => h) (Or.inl ⟨by rfl, ?_⟩) ?_ ?_
      rotate_left
      · intro w'
        go_simp
        with_reducible rfl
      rotate_left
      · simp only [Act.put, List.setIfInBounds_toArray, List.set_cons_zero, List.set_cons_succ, i64_w, i32_w]
        rfl
      refine pure_ (i := 9) (N := some 27) (v := undef) (a' := ?_) #[true, false, true, true, true, true, true, true, true, true, false, false, false, false, false, false, false, false, false] rfl rfl (by kernel_rfl) (fun _ _ _ h => h) (Or.inr ⟨by rfl, rfl⟩) ?_ ?_
      rotate_left
      · simp only [Act.put, List.setIfInBounds_toArray, List.set_cons_zero, List.set_cons_succ, i64_w, i32_w]
        rfl
      refine pure_ (i := 10) (N := some 28) (v := undef) (a' := ?_) #[true, false, true, true, true, true, true, true, true, true, true, false, false, false, false, false, false, false, false] rfl rfl (by kernel_rfl) (fun _ _ _ h => h) (Or.inr ⟨by rfl, rfl⟩) ?_ ?_
      rotate_left
      · simp only [Act.put, List.setIfInBounds_toArray, List.set_cons_zero, List.set_cons_succ, i64_w, i32_w]
        rfl
      refine pure_ (i := 11) (N := some 29) (v := undef) (a' := ?_) #[true, false, true, true, true, true, true, true, true, true, true, true, false, false, false, false, false, false, false] rfl rfl (by kernel_rfl) (fun _ _ _ h => h) (Or.inr ⟨by rfl, rfl⟩) ?_ ?_
      rotate_left
      · simp only [Act.put, List.setIfInBounds_toArray, List.set_cons_zero, List.set_cons_succ, i64_w, i32_w]
        rfl
      refine pure_ (i := 12) (N := some 30) (v := undef) (a' := ?_) #[true, false, true, true, true, true, true, true, true, true, true, true, true, false, false, false, false, false, false] rfl rfl (by kernel_rfl) (fun _ _ _ h => h) (Or.inr ⟨by rfl, rfl⟩) ?_ ?_
      rotate_left
      · simp only [Act.put, List.setIfInBounds_toArray, List.set_cons_zero, List.set_cons_succ, i64_w, i32_w]
        rfl
      refine pure_ (i := 13) (N := some 31) (v := undef) (a' := ?_) #[true, false, true, true, true, true, true, true, true, true, true, true, true, true, false, false, false, false, false] rfl rfl (by kernel_rfl) (fun _ _ _ h => h) (Or.inr ⟨by rfl, rfl⟩) ?_ ?_
      rotate_left
      · simp only [Act.put, List.setIfInBounds_toArray, List.set_cons_zero, List.set_cons_succ, i64_w, i32_w]
        rfl
      refine pure_ (i := 14) (N := some 32) (v := undef) (a' := ?_) #[true, false, true, true, true, true, true, true, true, true, true, true, true, true, true, false, false, false, false] rfl rfl (by kernel_rfl) (fun _ _ _ h => h) (Or.inr ⟨by rfl, rfl⟩) ?_ ?_
      rotate_left
      · simp only [Act.put, List.setIfInBounds_toArray, List.set_cons_zero, List.set_cons_succ, i64_w, i32_w]
        rfl
      refine pure_ (i := 15) (N := some 33) (v := undef) (a' := ?_) #[true, false, true, true, true, true, true, true, true, true, true, true, true, true, true, true, false, false, false] rfl rfl (by kernel_rfl) (fun _ _ _ h => h) (Or.inr ⟨by rfl, rfl⟩) ?_ ?_
      rotate_left
      · simp only [Act.put, List.setIfInBounds_toArray, List.set_cons_zero, List.set_cons_succ, i64_w, i32_w]
        rfl
      refine pure_ (i := 16) (N := some 34) (v := ?_) (a' := ?_) #[true, false, true, true, true, true, true, true, true, true, true, true, true, true, true, true, true, false, false] rfl rfl (by kernel_rfl) (fun _ _ _ h => h) (Or.inl ⟨by rfl, ?_⟩) ?_ ?_
      rotate_left
      · intro w'
        go_simp
        with_reducible rfl
      rotate_left
      · simp only [Act.put, List.setIfInBounds_toArray, List.set_cons_zero, List.set_cons_succ, i64_w, i32_w]
        rfl
      refine take_ (i := 1) (N := some 19) (v := ?_) (a' := ?_) #[true, true, true, true, true, true, true, true, true, true, true, true, true, true, true, true, true, false, false] rfl rfl (by kernel_rfl) (fun _ _ _ h => h) (Or.inl ⟨by rfl, ?_⟩) hHeld ?_ ?_
      rotate_left
      · rintro w' ⟨s0, s1, s2⟩
        go_simp
        with_reducible rfl
      rotate_left
      · simp only [Act.put, List.setIfInBounds_toArray, List.set_cons_zero, List.set_cons_succ, i64_w, i32_w]
        rfl
      refine pure_ (i := 17) (N := some 2) (v := ?_) (a' := ?_) #[true, true, true, true, true, true, true, true, true, true, true, true, true, true, true, true, true, true, false] rfl rfl (by kernel_rfl) (fun _ _ _ h => h) (Or.inl ⟨by rfl, ?_⟩) ?_ ?_
      rotate_left
      · intro w'
        go_simp
        with_reducible rfl
      rotate_left
      · simp only [Act.put, List.setIfInBounds_toArray, List.set_cons_zero, List.set_cons_succ, i64_w, i32_w]
        rfl
      refine pure_ (i := 18) (N := some 3) (v := ?_) (a' := ?_) #[true, true, true, true, true, true, true, true, true, true, true, true, true, true, true, true, true, true, true] rfl rfl (by kernel_rfl) (fun _ _ _ h => h) (Or.inl ⟨by rfl, ?_⟩) ?_ ?_
      rotate_left
      · intro w'
        go_simp
        with_reducible rfl
      rotate_left
      · simp only [Act.put, List.setIfInBounds_toArray, List.set_cons_zero, List.set_cons_succ, i64_w, i32_w]
        rfl
      refine done_ (by kernel_rfl) ?_

      go_wp2_with fail
      go_ret2
      exact ⟨rfl, B1.out.lt⟩
    | true =>
      by_cases hn : n = 0
      · subst hn
        rw [decide_eq_true rfl, Bool.true_and, Bool.true_and]
        go_enter Tryz.func69, Tryz.ntmps69
        obtain ⟨z0, z1, z2⟩ := cells3 B0.out.tb
        go_wp2_with fail
        (with_reducible refine (CN _).out.mono ?_)
        rintro e w1 ⟨rfl, hl⟩
        have B1 := Aside0.mk ((B0.out.l hl).l ((Lt.refl _).a (tokC ⟨1, s, 0⟩)))
        clear hl CN z0 z1 z2 B0
        go_wp2_with fail
        obtain ⟨w2, hw2⟩ : ∃ z : World, z = w1.alloc (tokC ⟨1, s, 0⟩) := ⟨_, rfl⟩
        rw [← hw2] at B1
        change Code.wp _ _ _ _ (w1.alloc (tokC ⟨1, s, 0⟩))
        rw [← hw2]
        clear hw2
        have B1 := Aside0.mk (B1.out.l (Lt.refl _).d1)
        refine start_ (n := 19) (S := fun w' => w'.cell? ⟨w.heap.size, 0, none⟩ = some (.int .u8 1) ∧ w'.cell? ⟨w.heap.size, 1, none⟩ = some (.string s) ∧ w'.cell? ⟨w.heap.size, 2, none⟩ = some (.int .i64 0)) (ds := []) #[false, false, false, false, false, false, false, false, false, false, false, false, false, false, false, false, false, false, false] (by kernel_rfl) rfl rfl ⟨(cells3 B1.out.tb).1, (cells3 B1.out.tb).2.1, (cells3 B1.out.tb).2.2⟩ (fun hHeld => ?_)
        refine pure_ (i := 0) (N := some 18) (v := ?_) (a' := ?_) #[true, false, false, false, false, false, false, false, false, false, false, false, false, false, false, false, false, false, false] rfl rfl (by kernel_rfl) (fun _ _ _ h => h) (Or.inl ⟨by rfl, ?_⟩) ?_ ?_
        rotate_left
        · intro w'
          go_simp
          with_reducible rfl
        rotate_left
        · simp only [Act.put, List.setIfInBounds_toArray, List.set_cons_zero, List.set_cons_succ, i64_w, i32_w]
          rfl
        refine pure_ (i := 2) (N := some 20) (v := ?_) (a' := ?_) #[true, false, true, false, false, false, false, false, false, false, false, false, false, false, false, false, false, false, false] rfl rfl (by kernel_rfl) (fun _ _ _ h => h) (Or.inl ⟨by rfl, ?_⟩) ?_ ?_
        rotate_left
        · intro w'
          go_simp
          with_reducible rfl
        rotate_left
        · simp only [Act.put, List.setIfInBounds_toArray, List.set_cons_zero, List.set_cons_succ, i64_w, i32_w]
          rfl
        refine pure_ (i := 3) (N := some 21) (v := ?_) (a' := ?_) #[true, false, true, true, false, false, false, false, false, false, false, false, false, false, false, false, false, false, false] rfl rfl (by kernel_rfl) (fun _ _ _ h => h) (Or.inl ⟨by rfl, ?_⟩) ?_ ?_
        rotate_left
        · intro w'
          go_simp
          with_reducible rfl
        rotate_left
        · simp only [Act.put, List.setIfInBounds_toArray, List.set_cons_zero, List.set_cons_succ, i64_w, i32_w]
          rfl
        refine pure_ (i := 4) (N := some 22) (v := ?_) (a' := ?_) #[true, false, true, true, true, false, false, false, false, false, false, false, false, false, false, false, false, false, false] rfl rfl (by kernel_rfl) (fun _ _ _ h => h) (Or.inl ⟨by rfl, ?_⟩) ?_ ?_
        rotate_left
        · intro w'
          go_simp
          with_reducible rfl
        rotate_left
        · simp only [Act.put, List.setIfInBounds_toArray, List.set_cons_zero, List.set_cons_succ, i64_w, i32_w]
          rfl
        refine take_ (i := 1) (N := some 19) (v := ?_) (a' := ?_) #[true, true, true, true, true, false, false, false, false, false, false, false, false, false, false, false, false, false, false] rfl rfl (by kernel_rfl) (fun _ _ _ h => h) (Or.inl ⟨by rfl, ?_⟩) hHeld ?_ ?_
        rotate_left
        · rintro w' ⟨s0, s1, s2⟩
          go_simp
          with_reducible rfl
        rotate_left
        · simp only [Act.put, List.setIfInBounds_toArray, List.set_cons_zero, List.set_cons_succ, i64_w, i32_w]
          rfl
        refine take_ (i := 5) (N := some 23) (v := ?_) (a' := ?_) #[true, true, true, true, true, true, false, false, false, false, false, false, false, false, false, false, false, false, false] rfl rfl (by kernel_rfl) (fun _ _ _ h => h) (Or.inl ⟨by rfl, ?_⟩) hHeld ?_ ?_
        rotate_left
        · rintro w' ⟨s0, s1, s2⟩
          go_simp
          with_reducible rfl
        rotate_left
        · simp only [Act.put, List.setIfInBounds_toArray, List.set_cons_zero, List.set_cons_succ, i64_w, i32_w]
          rfl
        refine pure_ (i := 6) (N := some 24) (v := ?_) (a' := ?_) #[true, true, true, true, true, true, true, false, false, false, false, false, false, false, false, false, false, false, false] rfl rfl (by kernel_rfl) (fun _ _ _ h => h) (Or.inl ⟨by rfl, ?_⟩) ?_ ?_
        rotate_left
        · intro w'
          go_simp
          with_reducible rfl
        rotate_left
        · simp only [Act.put, List.setIfInBounds_toArray, List.set_cons_zero, List.set_cons_succ, i64_w, i32_w]
          rfl
        refine pure_ (i := 7) (N := some 25) (v := ?_) (a' := ?_) #[true, true, true, true, true, true, true, true, false, false, false, false, false, false, false, false, false, false, false] rfl rfl (by kernel_rfl) (fun _ _ _ h => h) (Or.inl ⟨by rfl, ?_⟩) ?_ ?_
        rotate_left
        · intro w'
          go_simp
          with_reducible rfl
        rotate_left
        · simp only [Act.put, List.setIfInBounds_toArray, List.set_cons_zero, List.set_cons_succ, i64_w, i32_w]
          rfl
        refine pure_ (i := 8) (N := some 26) (v := ?_) (a' := ?_) #[true, true, true, true, true, true, true, true, true, false, false, false, false, false, false, false, false, false, false] rfl rfl (by kernel_rfl) (fun _ _ _ h => h) (Or.inl ⟨by rfl, ?_⟩) ?_ ?_
        rotate_left
        · intro w'
          go_simp
          with_reducible rfl
        rotate_left
        · simp only [Act.put, List.setIfInBounds_toArray, List.set_cons_zero, List.set_cons_succ, i64_w, i32_w]
          rfl
        refine pure_ (i := 9) (N := some 27) (v := ?_) (a' := ?_) #[true, true, true, true, true, true, true, true, true, true, false, false, false, false, false, false, false, false, false] rfl rfl (by kernel_rfl) (fun _ _ _ h => h) (Or.inl ⟨by rfl, ?_⟩) ?_ ?_
        rotate_left
        · intro w'
          go_simp
          with_reducible rfl
        rotate_left
        · simp only [Act.put, List.setIfInBounds_toArray, List.set_cons_zero, List.set_cons_succ, i64_w, i32_w]
          rfl
        refine pure_ (i := 12) (N := some 30) (v := ?_) (a' := ?_) #[true, true, true, true, true, true, true, true, true, true, false, false, true, false, false, false, false, false, false] rfl rfl (by kernel_rfl) (fun _ _ _ h => h) (Or.inl ⟨by rfl, ?_⟩) ?_ ?_
        rotate_left
        · intro w'
          go_simp
          with_reducible rfl
        rotate_left
        · simp only [Act.put, List.setIfInBounds_toArray, List.set_cons_zero, List.set_cons_succ, i64_w, i32_w]
          rfl
        refine take_ (i := 10) (N := some 28) (v := ?_) (a' := ?_) #[true, true, true, true, true, true, true, true, true, true, true, false, true, false, false, false, false, false, false] rfl rfl (by kernel_rfl) (fun _ _ _ h => h) (Or.inl ⟨by rfl, ?_⟩) hHeld ?_ ?_
        rotate_left
        · rintro w' ⟨s0, s1, s2⟩
          go_simp
          with_reducible rfl
        rotate_left
        · simp only [Act.put, List.setIfInBounds_toArray, List.set_cons_zero, List.set_cons_succ, i64_w, i32_w]
          rfl
        refine take_ (i := 13) (N := some 31) (v := ?_) (a' := ?_) #[true, true, true, true, true, true, true, true, true, true, true, false, true, true, false, false, false, false, false] rfl rfl (by kernel_rfl) (fun _ _ _ h => h) (Or.inl ⟨by rfl, ?_⟩) hHeld ?_ ?_
        rotate_left
        · rintro w' ⟨s0, s1, s2⟩
          go_simp
          with_reducible rfl
        rotate_left
        · simp only [Act.put, List.setIfInBounds_toArray, List.set_cons_zero, List.set_cons_succ, i64_w, i32_w]
          rfl
        refine pure_ (i := 14) (N := some 32) (v := ?_) (a' := ?_) #[true, true, true, true, true, true, true, true, true, true, true, false, true, true, true, false, false, false, false] rfl rfl (by kernel_rfl) (fun _ _ _ h => h) (Or.inl ⟨by rfl, ?_⟩) ?_ ?_
        rotate_left
        · intro w'
          go_simp
          with_reducible rfl
        rotate_left
        · simp only [Act.put, List.setIfInBounds_toArray, List.set_cons_zero, List.set_cons_succ, i64_w, i32_w]
          rfl
        refine one_ (i := 11) (N := some 29) #[true, true, true, true, true, true, true, true, true, true, true, true, true, true, true, false, false, false, false] rfl rfl (by kernel_rfl) (by decide) (fun K hK => ?_)
        refine goes_ Tryz.func86 (by kernel_rfl) rfl #[.string s, .int .i64 0, .func (.func 88) #[] #[]] (by rfl) rfl rfl (by simp only [List.map_toArray, List.map_cons, List.map_nil]; rfl) ?_
        with_reducible refine ((CR _).out).mono ?_
        rintro e w3 ⟨rfl, hl⟩
        refine ⟨_, rfl, ?_⟩
        have B2 := Aside0.mk (B1.out.l hl)
        clear hl CR
        refine hK.out _ _ ⟨(cells3 B2.out.tb).1, (cells3 B2.out.tb).2.1, (cells3 B2.out.tb).2.2⟩ (fun hHeld => ?_)
        clear hK K
        refine norm_ (a' := ?_) ?_ ?_
        rotate_left
        · show Act.put _ (some 29) _ = _
          simp only [Act.put, List.setIfInBounds_toArray, List.set_cons_zero, List.set_cons_succ, i64_w, i32_w]
          rfl
        refine pure_ (i := 15) (N := some 33) (v := ?_) (a' := ?_) #[true, true, true, true, true, true, true, true, true, true, true, true, true, true, true, true, false, false, false] rfl rfl (by kernel_rfl) (fun _ _ _ h => h) (Or.inl ⟨by rfl, ?_⟩) ?_ ?_
        rotate_left
        · intro w'
          go_simp
          with_reducible rfl
        rotate_left
        · simp only [Act.put, List.setIfInBounds_toArray, List.set_cons_zero, List.set_cons_succ, i64_w, i32_w]
          rfl
        refine pure_ (i := 16) (N := some 34) (v := ?_) (a' := ?_) #[true, true, true, true, true, true, true, true, true, true, true, true, true, true, true, true, true, false, false] rfl rfl (by kernel_rfl) (fun _ _ _ h => h) (Or.inl ⟨by rfl, ?_⟩) ?_ ?_
        rotate_left
        · intro w'
          go_simp
          with_reducible rfl
        rotate_left
        · simp only [Act.put, List.setIfInBounds_toArray, List.set_cons_zero, List.set_cons_succ, i64_w, i32_w]
          rfl
        refine pure_ (i := 17) (N := some 2) (v := ?_) (a' := ?_) #[true, true, true, true, true, true, true, true, true, true, true, true, true, true, true, true, true, true, false] rfl rfl (by kernel_rfl) (fun _ _ _ h => h) (Or.inl ⟨by rfl, ?_⟩) ?_ ?_
        rotate_left
        · intro w'
          go_simp
          with_reducible rfl
        rotate_left
        · simp only [Act.put, List.setIfInBounds_toArray, List.set_cons_zero, List.set_cons_succ, i64_w, i32_w]
          rfl
        refine pure_ (i := 18) (N := some 3) (v := ?_) (a' := ?_) #[true, true, true, true, true, true, true, true, true, true, true, true, true, true, true, true, true, true, true] rfl rfl (by kernel_rfl) (fun _ _ _ h => h) (Or.inl ⟨by rfl, ?_⟩) ?_ ?_
        rotate_left
        · intro w'
          go_simp
          with_reducible rfl
        rotate_left
        · simp only [Act.put, List.setIfInBounds_toArray, List.set_cons_zero, List.set_cons_succ, i64_w, i32_w]
          rfl
        refine done_ (by kernel_rfl) ?_

        go_wp2_with fail
        go_ret2
        exact ⟨rfl, B2.out.lt⟩
      · have e1 : (n == 0) = false := beq_eq_false_iff_ne.2 hn
        rw [decide_eq_false hn, Bool.and_false, Bool.false_and]
        clear hn
        go_enter Tryz.func69, Tryz.ntmps69
        obtain ⟨z0, z1, z2⟩ := cells3 B0.out.tb
        go_wp2_with fail
        (with_reducible refine (CN _).out.mono ?_)
        rintro e w1 ⟨rfl, hl⟩
        have B1 := Aside0.mk ((B0.out.l hl).l ((Lt.refl _).a (tokC ⟨1, s, 0⟩)))
        clear hl CN z0 z1 z2 B0
        go_wp2_with fail
        obtain ⟨w2, hw2⟩ : ∃ z : World, z = w1.alloc (tokC ⟨1, s, 0⟩) := ⟨_, rfl⟩
        rw [← hw2] at B1
        change Code.wp _ _ _ _ (w1.alloc (tokC ⟨1, s, 0⟩))
        rw [← hw2]
        clear hw2
        have B1 := Aside0.mk (B1.out.l (Lt.refl _).d1)
        refine start_ (n := 19) (S := fun w' => w'.cell? ⟨w.heap.size, 0, none⟩ = some (.int .u8 1) ∧ w'.cell? ⟨w.heap.size, 1, none⟩ = some (.string s) ∧ w'.cell? ⟨w.heap.size, 2, none⟩ = some (.int .i64 n)) (ds := []) #[false, false, false, false, false, false, false, false, false, false, false, false, false, false, false, false, false, false, false] (by kernel_rfl) rfl rfl ⟨(cells3 B1.out.tb).1, (cells3 B1.out.tb).2.1, (cells3 B1.out.tb).2.2⟩ (fun hHeld => ?_)
        refine pure_ (i := 0) (N := some 18) (v := ?_) (a' := ?_) #[true, false, false, false, false, false, false, false, false, false, false, false, false, false, false, false, false, false, false] rfl rfl (by kernel_rfl) (fun _ _ _ h => h) (Or.inl ⟨by rfl, ?_⟩) ?_ ?_
        rotate_left
        · intro w'
          go_simp
          with_reducible rfl
        rotate_left
        · simp only [Act.put, List.setIfInBounds_toArray, List.set_cons_zero, List.set_cons_succ, i64_w, i32_w]
          rfl
        refine pure_ (i := 2) (N := some 20) (v := ?_) (a' := ?_) #[true, false, true, false, false, false, false, false, false, false, false, false, false, false, false, false, false, false, false] rfl rfl (by kernel_rfl) (fun _ _ _ h => h) (Or.inl ⟨by rfl, ?_⟩) ?_ ?_
        rotate_left
        · intro w'
          go_simp
          with_reducible rfl
        rotate_left
        · simp only [Act.put, List.setIfInBounds_toArray, List.set_cons_zero, List.set_cons_succ, i64_w, i32_w]
          rfl
        refine pure_ (i := 3) (N := some 21) (v := ?_) (a' := ?_) #[true, false, true, true, false, false, false, false, false, false, false, false, false, false, false, false, false, false, false] rfl rfl (by kernel_rfl) (fun _ _ _ h => h) (Or.inl ⟨by rfl, ?_⟩) ?_ ?_
        rotate_left
        · intro w'
          go_simp
          with_reducible rfl
        rotate_left
        · simp only [Act.put, List.setIfInBounds_toArray, List.set_cons_zero, List.set_cons_succ, i64_w, i32_w]
          rfl
        refine pure_ (i := 4) (N := some 22) (v := ?_) (a' := ?_) #[true, false, true, true, true, false, false, false, false, false, false, false, false, false, false, false, false, false, false] rfl rfl (by kernel_rfl) (fun _ _ _ h => h) (Or.inl ⟨by rfl, ?_⟩) ?_ ?_
        rotate_left
        · intro w'
          go_simp
          with_reducible rfl
        rotate_left
        · simp only [Act.put, List.setIfInBounds_toArray, List.set_cons_zero, List.set_cons_succ, i64_w, i32_w]
          rfl
        refine take_ (i := 1) (N := some 19) (v := ?_) (a' := ?_) #[true, true, true, true, true, false, false, false, false, false, false, false, false, false, false, false, false, false, false] rfl rfl (by kernel_rfl) (fun _ _ _ h => h) (Or.inl ⟨by rfl, ?_⟩) hHeld ?_ ?_
        rotate_left
        · rintro w' ⟨s0, s1, s2⟩
          go_simp
          with_reducible rfl
        rotate_left
        · simp only [Act.put, List.setIfInBounds_toArray, List.set_cons_zero, List.set_cons_succ, i64_w, i32_w]
          rfl
        refine take_ (i := 5) (N := some 23) (v := ?_) (a' := ?_) #[true, true, true, true, true, true, false, false, false, false, false, false, false, false, false, false, false, false, false] rfl rfl (by kernel_rfl) (fun _ _ _ h => h) (Or.inl ⟨by rfl, ?_⟩) hHeld ?_ ?_
        rotate_left
        · rintro w' ⟨s0, s1, s2⟩
          go_simp
          with_reducible rfl
        rotate_left
        · simp only [Act.put, List.setIfInBounds_toArray, List.set_cons_zero, List.set_cons_succ, i64_w, i32_w]
          rfl
        refine pure_ (i := 6) (N := some 24) (v := ?_) (a' := ?_) #[true, true, true, true, true, true, true, false, false, false, false, false, false, false, false, false, false, false, false] rfl rfl (by kernel_rfl) (fun _ _ _ h => h) (Or.inl ⟨by rfl, ?_⟩) ?_ ?_
        rotate_left
        · intro w'
          go_simp
          with_reducible rfl
        rotate_left
        · simp only [Act.put, List.setIfInBounds_toArray, List.set_cons_zero, List.set_cons_succ, i64_w, i32_w]
          rfl
        refine pure_ (i := 7) (N := some 25) (v := ?_) (a' := ?_) #[true, true, true, true, true, true, true, true, false, false, false, false, false, false, false, false, false, false, false] rfl rfl (by kernel_rfl) (fun _ _ _ h => h) (Or.inl ⟨by rfl, ?_⟩) ?_ ?_
        rotate_left
        · intro w'
          go_simp
          with_reducible rfl
        rotate_left
        · simp only [Act.put, List.setIfInBounds_toArray, List.set_cons_zero, List.set_cons_succ, i64_w, i32_w]
          rfl
        refine pure_ (i := 8) (N := some 26) (v := ?_) (a' := ?_) #[true, true, true, true, true, true, true, true, true, false, false, false, false, false, false, false, false, false, false] rfl rfl (by kernel_rfl) (fun _ _ _ h => h) (Or.inl ⟨by rfl, ?_⟩) ?_ ?_
        rotate_left
        · intro w'
          go_simp
          with_reducible rfl
        rotate_left
        · simp only [Act.put, List.setIfInBounds_toArray, List.set_cons_zero, List.set_cons_succ, i64_w, i32_w]
          rfl
        refine pure_ (i := 9) (N := some 27) (v := undef) (a' := ?_) #[true, true, true, true, true, true, true, true, true, true, false, false, false, false, false, false, false, false, false] rfl rfl (by kernel_rfl) (fun _ _ _ h => h) (Or.inr ⟨by rfl, rfl⟩) ?_ ?_
        rotate_left
        · simp only [Act.put, List.setIfInBounds_toArray, List.set_cons_zero, List.set_cons_succ, i64_w, i32_w]
          rfl
        refine pure_ (i := 10) (N := some 28) (v := undef) (a' := ?_) #[true, true, true, true, true, true, true, true, true, true, true, false, false, false, false, false, false, false, false] rfl rfl (by kernel_rfl) (fun _ _ _ h => h) (Or.inr ⟨by rfl, rfl⟩) ?_ ?_
        rotate_left
        · simp only [Act.put, List.setIfInBounds_toArray, List.set_cons_zero, List.set_cons_succ, i64_w, i32_w]
          rfl
        refine pure_ (i := 11) (N := some 29) (v := undef) (a' := ?_) #[true, true, true, true, true, true, true, true, true, true, true, true, false, false, false, false, false, false, false] rfl rfl (by kernel_rfl) (fun _ _ _ h => h) (Or.inr ⟨by rfl, rfl⟩) ?_ ?_
        rotate_left
        · simp only [Act.put, List.setIfInBounds_toArray, List.set_cons_zero, List.set_cons_succ, i64_w, i32_w]
          rfl
        refine pure_ (i := 12) (N := some 30) (v := undef) (a' := ?_) #[true, true, true, true, true, true, true, true, true, true, true, true, true, false, false, false, false, false, false] rfl rfl (by kernel_rfl) (fun _ _ _ h => h) (Or.inr ⟨by rfl, rfl⟩) ?_ ?_
        rotate_left
        · simp only [Act.put, List.setIfInBounds_toArray, List.set_cons_zero, List.set_cons_succ, i64_w, i32_w]
          rfl
        refine pure_ (i := 13) (N := some 31) (v := undef) (a' := ?_) #[true, true, true, true, true, true, true, true, true, true, true, true, true, true, false, false, false, false, false] rfl rfl (by kernel_rfl) (fun _ _ _ h => h) (Or.inr ⟨by rfl, rfl⟩) ?_ ?_
        rotate_left
        · simp only [Act.put, List.setIfInBounds_toArray, List.set_cons_zero, List.set_cons_succ, i64_w, i32_w]
          rfl
        refine pure_ (i := 14) (N := some 32) (v := undef) (a' := ?_) #[true, true, true, true, true, true, true, true, true, true, true, true, true, true, true, false, false, false, false] rfl rfl (by kernel_rfl) (fun _ _ _ h => h) (Or.inr ⟨by rfl, rfl⟩) ?_ ?_
        rotate_left
        · simp only [Act.put, List.setIfInBounds_toArray, List.set_cons_zero, List.set_cons_succ, i64_w, i32_w]
          rfl
        refine pure_ (i := 15) (N := some 33) (v := undef) (a' := ?_) #[true, true, true, true, true, true, true, true, true, true, true, true, true, true, true, true, false, false, false] rfl rfl (by kernel_rfl) (fun _ _ _ h => h) (Or.inr ⟨by rfl, rfl⟩) ?_ ?_
        rotate_left
        · simp only [Act.put, List.setIfInBounds_toArray, List.set_cons_zero, List.set_cons_succ, i64_w, i32_w]
          rfl
        refine pure_ (i := 16) (N := some 34) (v := ?_) (a' := ?_) #[true, true, true, true, true, true, true, true, true, true, true, true, true, true, true, true, true, false, false] rfl rfl (by kernel_rfl) (fun _ _ _ h => h) (Or.inl ⟨by rfl, ?_⟩) ?_ ?_
        rotate_left
        · intro w'
          go_simp
          with_reducible rfl
        rotate_left
        · simp only [Act.put, List.setIfInBounds_toArray, List.set_cons_zero, List.set_cons_succ, i64_w, i32_w]
          rfl
        refine pure_ (i := 17) (N := some 2) (v := ?_) (a' := ?_) #[true, true, true, true, true, true, true, true, true, true, true, true, true, true, true, true, true, true, false] rfl rfl (by kernel_rfl) (fun _ _ _ h => h) (Or.inl ⟨by rfl, ?_⟩) ?_ ?_
        rotate_left
        · intro w'
          go_simp
          with_reducible rfl
        rotate_left
        · simp only [Act.put, List.setIfInBounds_toArray, List.set_cons_zero, List.set_cons_succ, i64_w, i32_w]
          rfl
        refine pure_ (i := 18) (N := some 3) (v := ?_) (a' := ?_) #[true, true, true, true, true, true, true, true, true, true, true, true, true, true, true, true, true, true, true] rfl rfl (by kernel_rfl) (fun _ _ _ h => h) (Or.inl ⟨by rfl, ?_⟩) ?_ ?_
        rotate_left
        · intro w'
          go_simp
          with_reducible rfl
        rotate_left
        · simp only [Act.put, List.setIfInBounds_toArray, List.set_cons_zero, List.set_cons_succ, i64_w, i32_w]
          rfl
        refine done_ (by kernel_rfl) ?_

        go_wp2_with fail
        go_ret2
        exact ⟨rfl, B1.out.lt⟩
  · have ek1 : (k == 1) = false := beq_eq_false_iff_ne.2 k1
    by_cases k2 : k = 2
    · subst k2
      have hT : textT ⟨2, s, n⟩ = (⟨(Lib.itoa n).toArray⟩, s.toList.isEmpty) := by
        unfold textT
        dsimp only
        rw [if_neg (show ¬ ((2 : Int) = 1) by decide), if_pos rfl]
      rw [hT]
      clear hT h64 hz CT CN CR SZ k1
      generalize (⟨(Lib.itoa n).toArray⟩ : ByteArray) = T at *
      go_enter Tryz.func69, Tryz.ntmps69
      obtain ⟨z0, z1, z2⟩ := cells3 B0.out.tb
      go_wp2_with fail
      clear z0 z1 z2
      have B1 := Aside0.mk (B0.out.l (Lt.refl _).d1)
      refine start_ (n := 8) (S := fun w' => w'.cell? ⟨w.heap.size, 0, none⟩ = some (.int .u8 2) ∧ w'.cell? ⟨w.heap.size, 1, none⟩ = some (.string s) ∧ w'.cell? ⟨w.heap.size, 2, none⟩ = some (.int .i64 n)) (ds := []) #[false, false, false, false, false, false, false, false] (by kernel_rfl) rfl rfl ⟨(cells3 B1.out.tb).1, (cells3 B1.out.tb).2.1, (cells3 B1.out.tb).2.2⟩ (fun hHeld => ?_)
      refine pure_ (i := 0) (N := some 37) (v := ?_) (a' := ?_) #[true, false, false, false, false, false, false, false] rfl rfl (by kernel_rfl) (fun _ _ _ h => h) (Or.inl ⟨by rfl, ?_⟩) ?_ ?_
      rotate_left
      · intro w'
        go_simp
        with_reducible rfl
      rotate_left
      · simp only [Act.put, List.setIfInBounds_toArray, List.set_cons_zero, List.set_cons_succ, i64_w, i32_w]
        rfl
      refine pure_ (i := 3) (N := some 40) (v := ?_) (a' := ?_) #[true, false, false, true, false, false, false, false] rfl rfl (by kernel_rfl) (fun _ _ _ h => h) (Or.inl ⟨by rfl, ?_⟩) ?_ ?_
      rotate_left
      · intro w'
        go_simp
        with_reducible rfl
      rotate_left
      · simp only [Act.put, List.setIfInBounds_toArray, List.set_cons_zero, List.set_cons_succ, i64_w, i32_w]
        rfl
      refine take_ (i := 1) (N := some 38) (v := ?_) (a' := ?_) #[true, true, false, true, false, false, false, false] rfl rfl (by kernel_rfl) (fun _ _ _ h => h) (Or.inl ⟨by rfl, ?_⟩) hHeld ?_ ?_
      rotate_left
      · rintro w' ⟨s0, s1, s2⟩
        go_simp
        with_reducible rfl
      rotate_left
      · simp only [Act.put, List.setIfInBounds_toArray, List.set_cons_zero, List.set_cons_succ, i64_w, i32_w]
        rfl
      refine take_ (i := 4) (N := some 41) (v := ?_) (a' := ?_) #[true, true, false, true, true, false, false, false] rfl rfl (by kernel_rfl) (fun _ _ _ h => h) (Or.inl ⟨by rfl, ?_⟩) hHeld ?_ ?_
      rotate_left
      · rintro w' ⟨s0, s1, s2⟩
        go_simp
        with_reducible rfl
      rotate_left
      · simp only [Act.put, List.setIfInBounds_toArray, List.set_cons_zero, List.set_cons_succ, i64_w, i32_w]
        rfl
      refine pure_ (i := 5) (N := some 42) (v := ?_) (a' := ?_) #[true, true, false, true, true, true, false, false] rfl rfl (by kernel_rfl) (fun _ _ _ h => h) (Or.inl ⟨by rfl, ?_⟩) ?_ ?_
      rotate_left
      · intro w'
        go_simp
        with_reducible rfl
      rotate_left
      · simp only [Act.put, List.setIfInBounds_toArray, List.set_cons_zero, List.set_cons_succ, i64_w, i32_w]
        rfl
      refine one_ (i := 2) (N := some 39) #[true, true, true, true, true, true, false, false] rfl rfl (by kernel_rfl) (by decide) (fun K hK => ?_)
      refine goes_ Tryz.func100 (by kernel_rfl) rfl #[.int .i64 n, .int .i64 10] (by rfl) rfl rfl (by simp only [List.map_toArray, List.map_cons, List.map_nil]; rfl) ?_
      with_reducible refine ((CF _ (HC.out.l B1.out.lt)).out).mono ?_
      rintro e w3 ⟨rfl, kk, os, hw⟩
      refine ⟨_, rfl, ?_⟩
      have B2 := Aside0.mk (B1.out.l (hw ▸ lt_grow _ _ _))
      clear hw CF
      refine hK.out _ _ ⟨(cells3 B2.out.tb).1, (cells3 B2.out.tb).2.1, (cells3 B2.out.tb).2.2⟩ (fun hHeld => ?_)
      clear hK K
      refine norm_ (a' := ?_) ?_ ?_
      rotate_left
      · show Act.put _ (some 39) _ = _
        simp only [Act.put, List.setIfInBounds_toArray, List.set_cons_zero, List.set_cons_succ, i64_w, i32_w]
        rfl
      refine pure_ (i := 6) (N := some 2) (v := ?_) (a' := ?_) #[true, true, true, true, true, true, true, false] rfl rfl (by kernel_rfl) (fun _ _ _ h => h) (Or.inl ⟨by rfl, ?_⟩) ?_ ?_
      rotate_left
      · intro w'
        go_simp
        with_reducible rfl
      rotate_left
      · simp only [Act.put, List.setIfInBounds_toArray, List.set_cons_zero, List.set_cons_succ, i64_w, i32_w]
        rfl
      refine pure_ (i := 7) (N := some 3) (v := ?_) (a' := ?_) #[true, true, true, true, true, true, true, true] rfl rfl (by kernel_rfl) (fun _ _ _ h => h) (Or.inl ⟨by rfl, ?_⟩) ?_ ?_
      rotate_left
      · intro w'
        go_simp
        with_reducible rfl
      rotate_left
      · simp only [Act.put, List.setIfInBounds_toArray, List.set_cons_zero, List.set_cons_succ, i64_w, i32_w]
        rfl
      refine done_ (by kernel_rfl) ?_

      go_wp2_with fail
      go_ret2
      exact ⟨rfl, B2.out.lt⟩
    · have ek2 : (k == 2) = false := beq_eq_false_iff_ne.2 k2
      by_cases k3 : k = 3
      · subst k3
        have hT : textT ⟨3, s, n⟩ = (AT ++ (textF n).1, decide ((textF n).2 = 0) && s.toList.isEmpty) := by
          unfold textT
          dsimp only
          rw [if_neg (show ¬ ((3 : Int) = 1) by decide), if_neg (show ¬ ((3 : Int) = 2) by decide), if_pos rfl]
        rw [hT]
        clear hT h64 hz CF CN CR SZ k1 k2
        obtain ⟨T, e0, hTe⟩ : ∃ T e0, textF n = (T, e0) := ⟨_, _, rfl⟩
        have hts := textF_size n
        rw [hTe] at CT hts ⊢
        dsimp only at CT hts ⊢
        clear hTe
        have hsum : ¬ (9223372036854775807 < 1 + T.size) := by omega
        have HD : decide (e0 = 0) = (e0 == 0) := rfl
        rw [HD]
        clear HD
        by_cases he : e0 = 0
        · have he1 : (e0 == 0) = true := beq_iff_eq.2 he
          rw [he1, Bool.true_and]
          clear he
          go_enter Tryz.func69, Tryz.ntmps69
          obtain ⟨z0, z1, z2⟩ := cells3 B0.out.tb
          go_wp2_with fail
          (with_reducible refine (CT _ (HC.out.l B0.out.lt)).out.mono ?_)
          rintro e w1 ⟨rfl, hl⟩
          have B1 := Aside0.mk ((B0.out.l hl).l (Lt.refl _).d1)
          clear hl CT z0 z1 z2 B0
          go_wp2_with fail
          refine start_ (n := 11) (S := fun w' => w'.cell? ⟨w.heap.size, 0, none⟩ = some (.int .u8 3) ∧ w'.cell? ⟨w.heap.size, 1, none⟩ = some (.string s) ∧ w'.cell? ⟨w.heap.size, 2, none⟩ = some (.int .i64 n)) (ds := []) #[false, false, false, false, false, false, false, false, false, false, false] (by kernel_rfl) rfl rfl ⟨(cells3 B1.out.tb).1, (cells3 B1.out.tb).2.1, (cells3 B1.out.tb).2.2⟩ (fun hHeld => ?_)
          refine pure_ (i := 0) (N := some 51) (v := ?_) (a' := ?_) #[true, false, false, false, false, false, false, false, false, false, false] rfl rfl (by kernel_rfl) (fun _ _ _ h => h) (Or.inl ⟨by rfl, ?_⟩) ?_ ?_
          rotate_left
          · intro w'
            go_simp
            with_reducible rfl
          rotate_left
          · simp only [Act.put, List.setIfInBounds_toArray, List.set_cons_zero, List.set_cons_succ, i64_w, i32_w]
            rfl
          refine pure_ (i := 1) (N := some 52) (v := ?_) (a' := ?_) #[true, true, false, false, false, false, false, false, false, false, false] rfl rfl (by kernel_rfl) (fun _ _ _ h => h) (Or.inl ⟨by rfl, ?_⟩) ?_ ?_
          rotate_left
          · intro w'
            go_simp
            with_reducible rfl
          rotate_left
          · simp only [Act.put, List.setIfInBounds_toArray, List.set_cons_zero, List.set_cons_succ, i64_w, i32_w]
            rfl
          refine pure_ (i := 2) (N := some 53) (v := ?_) (a' := ?_) #[true, true, true, false, false, false, false, false, false, false, false] rfl rfl (by kernel_rfl) (fun _ _ _ h => h) (Or.inl ⟨by rfl, ?_⟩) ?_ ?_
          rotate_left
          · intro w'
            go_simp
            with_reducible rfl
          rotate_left
          · simp only [Act.put, List.setIfInBounds_toArray, List.set_cons_zero, List.set_cons_succ, i64_w, i32_w]
            rfl
          refine pure_ (i := 3) (N := some 54) (v := ?_) (a' := ?_) #[true, true, true, true, false, false, false, false, false, false, false] rfl rfl (by kernel_rfl) (fun _ _ _ h => h) (Or.inl ⟨by rfl, ?_⟩) ?_ ?_
          rotate_left
          · intro w'
            go_simp
            with_reducible rfl
          rotate_left
          · simp only [Act.put, List.setIfInBounds_toArray, List.set_cons_zero, List.set_cons_succ, i64_w, i32_w]
            rfl
          refine pure_ (i := 4) (N := some 55) (v := ?_) (a' := ?_) #[true, true, true, true, true, false, false, false, false, false, false] rfl rfl (by kernel_rfl) (fun _ _ _ h => h) (Or.inl ⟨by rfl, ?_⟩) ?_ ?_
          rotate_left
          · intro w'
            go_simp
            with_reducible rfl
          rotate_left
          · simp only [Act.put, List.setIfInBounds_toArray, List.set_cons_zero, List.set_cons_succ, i64_w, i32_w]
            rfl
          refine pure_ (i := 5) (N := some 56) (v := ?_) (a' := ?_) #[true, true, true, true, true, true, false, false, false, false, false] rfl rfl (by kernel_rfl) (fun _ _ _ h => h) (Or.inl ⟨by rfl, ?_⟩) ?_ ?_
          rotate_left
          · intro w'
            go_simp
            with_reducible rfl
          rotate_left
          · simp only [Act.put, List.setIfInBounds_toArray, List.set_cons_zero, List.set_cons_succ, i64_w, i32_w]
            rfl
          refine pure_ (i := 9) (N := some 2) (v := ?_) (a' := ?_) #[true, true, true, true, true, true, false, false, false, true, false] rfl rfl (by kernel_rfl) (fun _ _ _ h => h) (Or.inl ⟨by rfl, ?_⟩) ?_ ?_
          rotate_left
          · intro w'
            go_simp
            with_reducible rfl
          rotate_left
          · simp only [Act.put, List.setIfInBounds_toArray, List.set_cons_zero, List.set_cons_succ, i64_w, i32_w]
            rfl
          refine take_ (i := 6) (N := some 57) (v := ?_) (a' := ?_) #[true, true, true, true, true, true, true, false, false, true, false] rfl rfl (by kernel_rfl) (fun _ _ _ h => h) (Or.inl ⟨by rfl, ?_⟩) hHeld ?_ ?_
          rotate_left
          · rintro w' ⟨s0, s1, s2⟩
            go_simp
            with_reducible rfl
          rotate_left
          · simp only [Act.put, List.setIfInBounds_toArray, List.set_cons_zero, List.set_cons_succ, i64_w, i32_w]
            rfl
          refine pure_ (i := 7) (N := some 58) (v := ?_) (a' := ?_) #[true, true, true, true, true, true, true, true, false, true, false] rfl rfl (by kernel_rfl) (fun _ _ _ h => h) (Or.inl ⟨by rfl, ?_⟩) ?_ ?_
          rotate_left
          · intro w'
            go_simp
            with_reducible rfl
          rotate_left
          · simp only [Act.put, List.setIfInBounds_toArray, List.set_cons_zero, List.set_cons_succ, i64_w, i32_w]
            rfl
          refine pure_ (i := 8) (N := some 59) (v := ?_) (a' := ?_) #[true, true, true, true, true, true, true, true, true, true, false] rfl rfl (by kernel_rfl) (fun _ _ _ h => h) (Or.inl ⟨by rfl, ?_⟩) ?_ ?_
          rotate_left
          · intro w'
            go_simp
            with_reducible rfl
          rotate_left
          · simp only [Act.put, List.setIfInBounds_toArray, List.set_cons_zero, List.set_cons_succ, i64_w, i32_w]
            rfl
          refine pure_ (i := 10) (N := some 3) (v := ?_) (a' := ?_) #[true, true, true, true, true, true, true, true, true, true, true] rfl rfl (by kernel_rfl) (fun _ _ _ h => h) (Or.inl ⟨by rfl, ?_⟩) ?_ ?_
          rotate_left
          · intro w'
            go_simp
            with_reducible rfl
          rotate_left
          · simp only [Act.put, List.setIfInBounds_toArray, List.set_cons_zero, List.set_cons_succ, i64_w, i32_w]
            rfl
          refine done_ (by kernel_rfl) ?_

          go_wp2_with fail
          go_ret2
          exact ⟨rfl, B1.out.lt⟩
        · have he1 : (e0 == 0) = false := beq_eq_false_iff_ne.2 he
          rw [he1, Bool.false_and]
          clear he
          go_enter Tryz.func69, Tryz.ntmps69
          obtain ⟨z0, z1, z2⟩ := cells3 B0.out.tb
          go_wp2_with fail
          (with_reducible refine (CT _ (HC.out.l B0.out.lt)).out.mono ?_)
          rintro e w1 ⟨rfl, hl⟩
          have B1 := Aside0.mk ((B0.out.l hl).l (Lt.refl _).d1)
          clear hl CT z0 z1 z2 B0
          go_wp2_with fail
          refine start_ (n := 11) (S := fun w' => w'.cell? ⟨w.heap.size, 0, none⟩ = some (.int .u8 3) ∧ w'.cell? ⟨w.heap.size, 1, none⟩ = some (.string s) ∧ w'.cell? ⟨w.heap.size, 2, none⟩ = some (.int .i64 n)) (ds := []) #[false, false, false, false, false, false, false, false, false, false, false] (by kernel_rfl) rfl rfl ⟨(cells3 B1.out.tb).1, (cells3 B1.out.tb).2.1, (cells3 B1.out.tb).2.2⟩ (fun hHeld => ?_)
          refine pure_ (i := 0) (N := some 51) (v := ?_) (a' := ?_) #[true, false, false, false, false, false, false, false, false, false, false] rfl rfl (by kernel_rfl) (fun _ _ _ h => h) (Or.inl ⟨by rfl, ?_⟩) ?_ ?_
          rotate_left
          · intro w'
            go_simp
            with_reducible rfl
          rotate_left
          · simp only [Act.put, List.setIfInBounds_toArray, List.set_cons_zero, List.set_cons_succ, i64_w, i32_w]
            rfl
          refine pure_ (i := 1) (N := some 52) (v := ?_) (a' := ?_) #[true, true, false, false, false, false, false, false, false, false, false] rfl rfl (by kernel_rfl) (fun _ _ _ h => h) (Or.inl ⟨by rfl, ?_⟩) ?_ ?_
          rotate_left
          · intro w'
            go_simp
            with_reducible rfl
          rotate_left
          · simp only [Act.put, List.setIfInBounds_toArray, List.set_cons_zero, List.set_cons_succ, i64_w, i32_w]
            rfl
          refine pure_ (i := 2) (N := some 53) (v := ?_) (a' := ?_) #[true, true, true, false, false, false, false, false, false, false, false] rfl rfl (by kernel_rfl) (fun _ _ _ h => h) (Or.inl ⟨by rfl, ?_⟩) ?_ ?_
          rotate_left
          · intro w'
            go_simp
            with_reducible rfl
          rotate_left
          · simp only [Act.put, List.setIfInBounds_toArray, List.set_cons_zero, List.set_cons_succ, i64_w, i32_w]
            rfl
          refine pure_ (i := 3) (N := some 54) (v := ?_) (a' := ?_) #[true, true, true, true, false, false, false, false, false, false, false] rfl rfl (by kernel_rfl) (fun _ _ _ h => h) (Or.inl ⟨by rfl, ?_⟩) ?_ ?_
          rotate_left
          · intro w'
            go_simp
            with_reducible rfl
          rotate_left
          · simp only [Act.put, List.setIfInBounds_toArray, List.set_cons_zero, List.set_cons_succ, i64_w, i32_w]
            rfl
          refine pure_ (i := 4) (N := some 55) (v := ?_) (a' := ?_) #[true, true, true, true, true, false, false, false, false, false, false] rfl rfl (by kernel_rfl) (fun _ _ _ h => h) (Or.inl ⟨by rfl, ?_⟩) ?_ ?_
          rotate_left
          · intro w'
            go_simp
            with_reducible rfl
          rotate_left
          · simp only [Act.put, List.setIfInBounds_toArray, List.set_cons_zero, List.set_cons_succ, i64_w, i32_w]
            rfl
          refine pure_ (i := 5) (N := some 56) (v := undef) (a' := ?_) #[true, true, true, true, true, true, false, false, false, false, false] rfl rfl (by kernel_rfl) (fun _ _ _ h => h) (Or.inr ⟨by rfl, rfl⟩) ?_ ?_
          rotate_left
          · simp only [Act.put, List.setIfInBounds_toArray, List.set_cons_zero, List.set_cons_succ, i64_w, i32_w]
            rfl
          refine pure_ (i := 6) (N := some 57) (v := undef) (a' := ?_) #[true, true, true, true, true, true, true, false, false, false, false] rfl rfl (by kernel_rfl) (fun _ _ _ h => h) (Or.inr ⟨by rfl, rfl⟩) ?_ ?_
          rotate_left
          · simp only [Act.put, List.setIfInBounds_toArray, List.set_cons_zero, List.set_cons_succ, i64_w, i32_w]
            rfl
          refine pure_ (i := 7) (N := some 58) (v := undef) (a' := ?_) #[true, true, true, true, true, true, true, true, false, false, false] rfl rfl (by kernel_rfl) (fun _ _ _ h => h) (Or.inr ⟨by rfl, rfl⟩) ?_ ?_
          rotate_left
          · simp only [Act.put, List.setIfInBounds_toArray, List.set_cons_zero, List.set_cons_succ, i64_w, i32_w]
            rfl
          refine pure_ (i := 8) (N := some 59) (v := ?_) (a' := ?_) #[true, true, true, true, true, true, true, true, true, false, false] rfl rfl (by kernel_rfl) (fun _ _ _ h => h) (Or.inl ⟨by rfl, ?_⟩) ?_ ?_
          rotate_left
          · intro w'
            go_simp
            with_reducible rfl
          rotate_left
          · simp only [Act.put, List.setIfInBounds_toArray, List.set_cons_zero, List.set_cons_succ, i64_w, i32_w]
            rfl
          refine pure_ (i := 9) (N := some 2) (v := ?_) (a' := ?_) #[true, true, true, true, true, true, true, true, true, true, false] rfl rfl (by kernel_rfl) (fun _ _ _ h => h) (Or.inl ⟨by rfl, ?_⟩) ?_ ?_
          rotate_left
          · intro w'
            go_simp
            with_reducible rfl
          rotate_left
          · simp only [Act.put, List.setIfInBounds_toArray, List.set_cons_zero, List.set_cons_succ, i64_w, i32_w]
            rfl
          refine pure_ (i := 10) (N := some 3) (v := ?_) (a' := ?_) #[true, true, true, true, true, true, true, true, true, true, true] rfl rfl (by kernel_rfl) (fun _ _ _ h => h) (Or.inl ⟨by rfl, ?_⟩) ?_ ?_
          rotate_left
          · intro w'
            go_simp
            with_reducible rfl
          rotate_left
          · simp only [Act.put, List.setIfInBounds_toArray, List.set_cons_zero, List.set_cons_succ, i64_w, i32_w]
            rfl
          refine done_ (by kernel_rfl) ?_

          go_wp2_with fail
          go_ret2
          exact ⟨rfl, B1.out.lt⟩
      · have ek3 : (k == 3) = false := beq_eq_false_iff_ne.2 k3
        by_cases k4 : k = 4
        · subst k4
          have hT : textT ⟨4, s, n⟩ = (s, decide (n = 0) && decide (s.size = 1) && s.data.toList.all markB) := by
            unfold textT
            dsimp only
            rw [if_neg (show ¬ ((4 : Int) = 1) by decide), if_neg (show ¬ ((4 : Int) = 2) by decide), if_neg (show ¬ ((4 : Int) = 3) by decide), if_pos rfl]
          rw [hT]
          have HD : decide (s.size = 1) = ((s.size : Int) == 1) := by rw [Bool.eq_iff_iff]; simp; omega
          rw [HD]
          clear hT h64 hz CF CN CR CT k1 k2 k3
          by_cases hn : n = 0
          · subst hn
            rw [decide_eq_true rfl, Bool.true_and]
            by_cases h1 : s.size = 1
            · obtain ⟨b, hb⟩ : ∃ b, s.data.toList = [b] := by
                have := SZ.out
                rw [h1] at this
                exact List.length_eq_one_iff.1 this
              have hs : s = ⟨#[b]⟩ := by
                cases s with
                | mk a => rw [show a = #[b] from Array.toList_inj.1 hb]
              have e1 : ((s.size : Int) == 1) = true := beq_iff_eq.2 (by omega)
              have HM : s.data.toList.all markB = decide (0 ≤ Lib.indexByte MARKS.data.toList b) := by
                rw [hb, List.all_cons, List.all_nil, Bool.and_true, Bool.eq_iff_iff, decide_eq_true_eq]
                exact (indexByte_ge marksL b).symm
              rw [e1, Bool.true_and, HM]
              have CC := fun W => Aside0.mk (Tryz.strings_Contains_one MARKS b W)
              rw [← hs] at CC
              generalize decide (0 ≤ Lib.indexByte MARKS.data.toList b) = r at *
              clear HD HM hb hs h1 SZ
              go_enter Tryz.func69, Tryz.ntmps69
              obtain ⟨z0, z1, z2⟩ := cells3 B0.out.tb
              go_wp2_with fail
              clear z0 z1 z2
              have B1 := Aside0.mk (B0.out.l (Lt.refl _).d1)
              refine start_ (n := 18) (S := fun w' => w'.cell? ⟨w.heap.size, 0, none⟩ = some (.int .u8 4) ∧ w'.cell? ⟨w.heap.size, 1, none⟩ = some (.string s) ∧ w'.cell? ⟨w.heap.size, 2, none⟩ = some (.int .i64 0)) (ds := []) #[false, false, false, false, false, false, false, false, false, false, false, false, false, false, false, false, false, false] (by kernel_rfl) rfl rfl ⟨(cells3 B1.out.tb).1, (cells3 B1.out.tb).2.1, (cells3 B1.out.tb).2.2⟩ (fun hHeld => ?_)
              refine pure_ (i := 0) (N := some 62) (v := ?_) (a' := ?_) #[true, false, false, false, false, false, false, false, false, false, false, false, false, false, false, false, false, false] rfl rfl (by kernel_rfl) (fun _ _ _ h => h) (Or.inl ⟨by rfl, ?_⟩) ?_ ?_
              rotate_left
              · intro w'
                go_simp
                with_reducible rfl
              rotate_left
              · simp only [Act.put, List.setIfInBounds_toArray, List.set_cons_zero, List.set_cons_succ, i64_w, i32_w]
                rfl
              refine pure_ (i := 2) (N := some 64) (v := ?_) (a' := ?_) #[true, false, true, false, false, false, false, false, false, false, false, false, false, false, false, false, false, false] rfl rfl (by kernel_rfl) (fun _ _ _ h => h) (Or.inl ⟨by rfl, ?_⟩) ?_ ?_
              rotate_left
              · intro w'
                go_simp
                with_reducible rfl
              rotate_left
              · simp only [Act.put, List.setIfInBounds_toArray, List.set_cons_zero, List.set_cons_succ, i64_w, i32_w]
                rfl
              refine take_ (i := 1) (N := some 63) (v := ?_) (a' := ?_) #[true, true, true, false, false, false, false, false, false, false, false, false, false, false, false, false, false, false] rfl rfl (by kernel_rfl) (fun _ _ _ h => h) (Or.inl ⟨by rfl, ?_⟩) hHeld ?_ ?_
              rotate_left
              · rintro w' ⟨s0, s1, s2⟩
                go_simp
                with_reducible rfl
              rotate_left
              · simp only [Act.put, List.setIfInBounds_toArray, List.set_cons_zero, List.set_cons_succ, i64_w, i32_w]
                rfl
              refine take_ (i := 3) (N := some 65) (v := ?_) (a' := ?_) #[true, true, true, true, false, false, false, false, false, false, false, false, false, false, false, false, false, false] rfl rfl (by kernel_rfl) (fun _ _ _ h => h) (Or.inl ⟨by rfl, ?_⟩) hHeld ?_ ?_
              rotate_left
              · rintro w' ⟨s0, s1, s2⟩
                go_simp
                with_reducible rfl
              rotate_left
              · simp only [Act.put, List.setIfInBounds_toArray, List.set_cons_zero, List.set_cons_succ, i64_w, i32_w]
                rfl
              refine pure_ (i := 4) (N := some 66) (v := ?_) (a' := ?_) #[true, true, true, true, true, false, false, false, false, false, false, false, false, false, false, false, false, false] rfl rfl (by kernel_rfl) (fun _ _ _ h => h) (Or.inl ⟨by rfl, ?_⟩) ?_ ?_
              rotate_left
              · intro w'
                go_simp
                with_reducible rfl
              rotate_left
              · simp only [Act.put, List.setIfInBounds_toArray, List.set_cons_zero, List.set_cons_succ, i64_w, i32_w]
                rfl
              refine pure_ (i := 5) (N := some 67) (v := ?_) (a' := ?_) #[true, true, true, true, true, true, false, false, false, false, false, false, false, false, false, false, false, false] rfl rfl (by kernel_rfl) (fun _ _ _ h => h) (Or.inl ⟨by rfl, ?_⟩) ?_ ?_
              rotate_left
              · intro w'
                go_simp
                with_reducible rfl
              rotate_left
              · simp only [Act.put, List.setIfInBounds_toArray, List.set_cons_zero, List.set_cons_succ, i64_w, i32_w]
                rfl
              refine pure_ (i := 6) (N := some 68) (v := ?_) (a' := ?_) #[true, true, true, true, true, true, true, false, false, false, false, false, false, false, false, false, false, false] rfl rfl (by kernel_rfl) (fun _ _ _ h => h) (Or.inl ⟨by rfl, ?_⟩) ?_ ?_
              rotate_left
              · intro w'
                go_simp
                with_reducible rfl
              rotate_left
              · simp only [Act.put, List.setIfInBounds_toArray, List.set_cons_zero, List.set_cons_succ, i64_w, i32_w]
                rfl
              refine take_ (i := 7) (N := some 69) (v := ?_) (a' := ?_) #[true, true, true, true, true, true, true, true, false, false, false, false, false, false, false, false, false, false] rfl rfl (by kernel_rfl) (fun _ _ _ h => h) (Or.inl ⟨by rfl, ?_⟩) hHeld ?_ ?_
              rotate_left
              · rintro w' ⟨s0, s1, s2⟩
                go_simp
                with_reducible rfl
              rotate_left
              · simp only [Act.put, List.setIfInBounds_toArray, List.set_cons_zero, List.set_cons_succ, i64_w, i32_w]
                rfl
              refine pure_ (i := 8) (N := some 70) (v := ?_) (a' := ?_) #[true, true, true, true, true, true, true, true, true, false, false, false, false, false, false, false, false, false] rfl rfl (by kernel_rfl) (fun _ _ _ h => h) (Or.inl ⟨by rfl, ?_⟩) ?_ ?_
              rotate_left
              · intro w'
                go_simp
                with_reducible rfl
              rotate_left
              · simp only [Act.put, List.setIfInBounds_toArray, List.set_cons_zero, List.set_cons_succ, i64_w, i32_w]
                rfl
              refine pure_ (i := 9) (N := some 71) (v := ?_) (a' := ?_) #[true, true, true, true, true, true, true, true, true, true, false, false, false, false, false, false, false, false] rfl rfl (by kernel_rfl) (fun _ _ _ h => h) (Or.inl ⟨by rfl, ?_⟩) ?_ ?_
              rotate_left
              · intro w'
                go_simp
                with_reducible rfl
              rotate_left
              · simp only [Act.put, List.setIfInBounds_toArray, List.set_cons_zero, List.set_cons_succ, i64_w, i32_w]
                rfl
              refine pure_ (i := 10) (N := some 72) (v := ?_) (a' := ?_) #[true, true, true, true, true, true, true, true, true, true, true, false, false, false, false, false, false, false] rfl rfl (by kernel_rfl) (fun _ _ _ h => h) (Or.inl ⟨by rfl, ?_⟩) ?_ ?_
              rotate_left
              · intro w'
                go_simp
                with_reducible rfl
              rotate_left
              · simp only [Act.put, List.setIfInBounds_toArray, List.set_cons_zero, List.set_cons_succ, i64_w, i32_w]
                rfl
              refine pure_ (i := 11) (N := some 73) (v := ?_) (a' := ?_) #[true, true, true, true, true, true, true, true, true, true, true, true, false, false, false, false, false, false] rfl rfl (by kernel_rfl) (fun _ _ _ h => h) (Or.inl ⟨by rfl, ?_⟩) ?_ ?_
              rotate_left
              · intro w'
                go_simp
                with_reducible rfl
              rotate_left
              · simp only [Act.put, List.setIfInBounds_toArray, List.set_cons_zero, List.set_cons_succ, i64_w, i32_w]
                rfl
              refine pure_ (i := 12) (N := some 74) (v := ?_) (a' := ?_) #[true, true, true, true, true, true, true, true, true, true, true, true, true, false, false, false, false, false] rfl rfl (by kernel_rfl) (fun _ _ _ h => h) (Or.inl ⟨by rfl, ?_⟩) ?_ ?_
              rotate_left
              · intro w'
                go_simp
                with_reducible rfl
              rotate_left
              · simp only [Act.put, List.setIfInBounds_toArray, List.set_cons_zero, List.set_cons_succ, i64_w, i32_w]
                rfl
              refine take_ (i := 13) (N := some 75) (v := ?_) (a' := ?_) #[true, true, true, true, true, true, true, true, true, true, true, true, true, true, false, false, false, false] rfl rfl (by kernel_rfl) (fun _ _ _ h => h) (Or.inl ⟨by rfl, ?_⟩) hHeld ?_ ?_
              rotate_left
              · rintro w' ⟨s0, s1, s2⟩
                go_simp
                with_reducible rfl
              rotate_left
              · simp only [Act.put, List.setIfInBounds_toArray, List.set_cons_zero, List.set_cons_succ, i64_w, i32_w]
                rfl
              refine one_ (i := 14) (N := some 76) #[true, true, true, true, true, true, true, true, true, true, true, true, true, true, true, false, false, false] rfl rfl (by kernel_rfl) (by decide) (fun K hK => ?_)
              refine goes_ Tryz.func56 (by kernel_rfl) rfl #[.string MARKS, .string s] (by rfl) rfl rfl (by simp only [List.map_toArray, List.map_cons, List.map_nil]; rfl) ?_
              with_reducible refine ((CC _).out).mono ?_
              rintro e w3 ⟨rfl, rfl⟩
              refine ⟨_, rfl, ?_⟩
              refine hK.out _ _ ⟨(cells3 B1.out.tb).1, (cells3 B1.out.tb).2.1, (cells3 B1.out.tb).2.2⟩ (fun hHeld => ?_)
              clear hK K
              refine norm_ (a' := ?_) ?_ ?_
              rotate_left
              · show Act.put _ (some 76) _ = _
                simp only [Act.put, List.setIfInBounds_toArray, List.set_cons_zero, List.set_cons_succ, i64_w, i32_w]
                rfl
              refine pure_ (i := 15) (N := some 77) (v := ?_) (a' := ?_) #[true, true, true, true, true, true, true, true, true, true, true, true, true, true, true, true, false, false] rfl rfl (by kernel_rfl) (fun _ _ _ h => h) (Or.inl ⟨by rfl, ?_⟩) ?_ ?_
              rotate_left
              · intro w'
                go_simp
                with_reducible rfl
              rotate_left
              · simp only [Act.put, List.setIfInBounds_toArray, List.set_cons_zero, List.set_cons_succ, i64_w, i32_w]
                rfl
              refine pure_ (i := 16) (N := some 2) (v := ?_) (a' := ?_) #[true, true, true, true, true, true, true, true, true, true, true, true, true, true, true, true, true, false] rfl rfl (by kernel_rfl) (fun _ _ _ h => h) (Or.inl ⟨by rfl, ?_⟩) ?_ ?_
              rotate_left
              · intro w'
                go_simp
                with_reducible rfl
              rotate_left
              · simp only [Act.put, List.setIfInBounds_toArray, List.set_cons_zero, List.set_cons_succ, i64_w, i32_w]
                rfl
              refine pure_ (i := 17) (N := some 3) (v := ?_) (a' := ?_) #[true, true, true, true, true, true, true, true, true, true, true, true, true, true, true, true, true, true] rfl rfl (by kernel_rfl) (fun _ _ _ h => h) (Or.inl ⟨by rfl, ?_⟩) ?_ ?_
              rotate_left
              · intro w'
                go_simp
                with_reducible rfl
              rotate_left
              · simp only [Act.put, List.setIfInBounds_toArray, List.set_cons_zero, List.set_cons_succ, i64_w, i32_w]
                rfl
              refine done_ (by kernel_rfl) ?_

              go_wp2_with fail
              go_ret2
              exact ⟨rfl, B1.out.lt⟩
            · have e1 : ((s.size : Int) == 1) = false := beq_eq_false_iff_ne.2 (by omega)
              rw [e1, Bool.false_and]
              clear HD h1 SZ
              go_enter Tryz.func69, Tryz.ntmps69
              obtain ⟨z0, z1, z2⟩ := cells3 B0.out.tb
              go_wp2_with fail
              clear z0 z1 z2
              have B1 := Aside0.mk (B0.out.l (Lt.refl _).d1)
              refine start_ (n := 18) (S := fun w' => w'.cell? ⟨w.heap.size, 0, none⟩ = some (.int .u8 4) ∧ w'.cell? ⟨w.heap.size, 1, none⟩ = some (.string s) ∧ w'.cell? ⟨w.heap.size, 2, none⟩ = some (.int .i64 0)) (ds := []) #[false, false, false, false, false, false, false, false, false, false, false, false, false, false, false, false, false, false] (by kernel_rfl) rfl rfl ⟨(cells3 B1.out.tb).1, (cells3 B1.out.tb).2.1, (cells3 B1.out.tb).2.2⟩ (fun hHeld => ?_)
              refine pure_ (i := 0) (N := some 62) (v := ?_) (a' := ?_) #[true, false, false, false, false, false, false, false, false, false, false, false, false, false, false, false, false, false] rfl rfl (by kernel_rfl) (fun _ _ _ h => h) (Or.inl ⟨by rfl, ?_⟩) ?_ ?_
              rotate_left
              · intro w'
                go_simp
                with_reducible rfl
              rotate_left
              · simp only [Act.put, List.setIfInBounds_toArray, List.set_cons_zero, List.set_cons_succ, i64_w, i32_w]
                rfl
              refine pure_ (i := 2) (N := some 64) (v := ?_) (a' := ?_) #[true, false, true, false, false, false, false, false, false, false, false, false, false, false, false, false, false, false] rfl rfl (by kernel_rfl) (fun _ _ _ h => h) (Or.inl ⟨by rfl, ?_⟩) ?_ ?_
              rotate_left
              · intro w'
                go_simp
                with_reducible rfl
              rotate_left
              · simp only [Act.put, List.setIfInBounds_toArray, List.set_cons_zero, List.set_cons_succ, i64_w, i32_w]
                rfl
              refine take_ (i := 1) (N := some 63) (v := ?_) (a' := ?_) #[true, true, true, false, false, false, false, false, false, false, false, false, false, false, false, false, false, false] rfl rfl (by kernel_rfl) (fun _ _ _ h => h) (Or.inl ⟨by rfl, ?_⟩) hHeld ?_ ?_
              rotate_left
              · rintro w' ⟨s0, s1, s2⟩
                go_simp
                with_reducible rfl
              rotate_left
              · simp only [Act.put, List.setIfInBounds_toArray, List.set_cons_zero, List.set_cons_succ, i64_w, i32_w]
                rfl
              refine take_ (i := 3) (N := some 65) (v := ?_) (a' := ?_) #[true, true, true, true, false, false, false, false, false, false, false, false, false, false, false, false, false, false] rfl rfl (by kernel_rfl) (fun _ _ _ h => h) (Or.inl ⟨by rfl, ?_⟩) hHeld ?_ ?_
              rotate_left
              · rintro w' ⟨s0, s1, s2⟩
                go_simp
                with_reducible rfl
              rotate_left
              · simp only [Act.put, List.setIfInBounds_toArray, List.set_cons_zero, List.set_cons_succ, i64_w, i32_w]
                rfl
              refine pure_ (i := 4) (N := some 66) (v := ?_) (a' := ?_) #[true, true, true, true, true, false, false, false, false, false, false, false, false, false, false, false, false, false] rfl rfl (by kernel_rfl) (fun _ _ _ h => h) (Or.inl ⟨by rfl, ?_⟩) ?_ ?_
              rotate_left
              · intro w'
                go_simp
                with_reducible rfl
              rotate_left
              · simp only [Act.put, List.setIfInBounds_toArray, List.set_cons_zero, List.set_cons_succ, i64_w, i32_w]
                rfl
              refine pure_ (i := 5) (N := some 67) (v := ?_) (a' := ?_) #[true, true, true, true, true, true, false, false, false, false, false, false, false, false, false, false, false, false] rfl rfl (by kernel_rfl) (fun _ _ _ h => h) (Or.inl ⟨by rfl, ?_⟩) ?_ ?_
              rotate_left
              · intro w'
                go_simp
                with_reducible rfl
              rotate_left
              · simp only [Act.put, List.setIfInBounds_toArray, List.set_cons_zero, List.set_cons_succ, i64_w, i32_w]
                rfl
              refine pure_ (i := 6) (N := some 68) (v := ?_) (a' := ?_) #[true, true, true, true, true, true, true, false, false, false, false, false, false, false, false, false, false, false] rfl rfl (by kernel_rfl) (fun _ _ _ h => h) (Or.inl ⟨by rfl, ?_⟩) ?_ ?_
              rotate_left
              · intro w'
                go_simp
                with_reducible rfl
              rotate_left
              · simp only [Act.put, List.setIfInBounds_toArray, List.set_cons_zero, List.set_cons_succ, i64_w, i32_w]
                rfl
              refine take_ (i := 7) (N := some 69) (v := ?_) (a' := ?_) #[true, true, true, true, true, true, true, true, false, false, false, false, false, false, false, false, false, false] rfl rfl (by kernel_rfl) (fun _ _ _ h => h) (Or.inl ⟨by rfl, ?_⟩) hHeld ?_ ?_
              rotate_left
              · rintro w' ⟨s0, s1, s2⟩
                go_simp
                with_reducible rfl
              rotate_left
              · simp only [Act.put, List.setIfInBounds_toArray, List.set_cons_zero, List.set_cons_succ, i64_w, i32_w]
                rfl
              refine pure_ (i := 8) (N := some 70) (v := ?_) (a' := ?_) #[true, true, true, true, true, true, true, true, true, false, false, false, false, false, false, false, false, false] rfl rfl (by kernel_rfl) (fun _ _ _ h => h) (Or.inl ⟨by rfl, ?_⟩) ?_ ?_
              rotate_left
              · intro w'
                go_simp
                with_reducible rfl
              rotate_left
              · simp only [Act.put, List.setIfInBounds_toArray, List.set_cons_zero, List.set_cons_succ, i64_w, i32_w]
                rfl
              refine pure_ (i := 9) (N := some 71) (v := ?_) (a' := ?_) #[true, true, true, true, true, true, true, true, true, true, false, false, false, false, false, false, false, false] rfl rfl (by kernel_rfl) (fun _ _ _ h => h) (Or.inl ⟨by rfl, ?_⟩) ?_ ?_
              rotate_left
              · intro w'
                go_simp
                with_reducible rfl
              rotate_left
              · simp only [Act.put, List.setIfInBounds_toArray, List.set_cons_zero, List.set_cons_succ, i64_w, i32_w]
                rfl
              refine pure_ (i := 10) (N := some 72) (v := ?_) (a' := ?_) #[true, true, true, true, true, true, true, true, true, true, true, false, false, false, false, false, false, false] rfl rfl (by kernel_rfl) (fun _ _ _ h => h) (Or.inl ⟨by rfl, ?_⟩) ?_ ?_
              rotate_left
              · intro w'
                go_simp
                with_reducible rfl
              rotate_left
              · simp only [Act.put, List.setIfInBounds_toArray, List.set_cons_zero, List.set_cons_succ, i64_w, i32_w]
                rfl
              refine pure_ (i := 11) (N := some 73) (v := ?_) (a' := ?_) #[true, true, true, true, true, true, true, true, true, true, true, true, false, false, false, false, false, false] rfl rfl (by kernel_rfl) (fun _ _ _ h => h) (Or.inl ⟨by rfl, ?_⟩) ?_ ?_
              rotate_left
              · intro w'
                go_simp
                with_reducible rfl
              rotate_left
              · simp only [Act.put, List.setIfInBounds_toArray, List.set_cons_zero, List.set_cons_succ, i64_w, i32_w]
                rfl
              refine pure_ (i := 12) (N := some 74) (v := undef) (a' := ?_) #[true, true, true, true, true, true, true, true, true, true, true, true, true, false, false, false, false, false] rfl rfl (by kernel_rfl) (fun _ _ _ h => h) (Or.inr ⟨by rfl, rfl⟩) ?_ ?_
              rotate_left
              · simp only [Act.put, List.setIfInBounds_toArray, List.set_cons_zero, List.set_cons_succ, i64_w, i32_w]
                rfl
              refine pure_ (i := 13) (N := some 75) (v := undef) (a' := ?_) #[true, true, true, true, true, true, true, true, true, true, true, true, true, true, false, false, false, false] rfl rfl (by kernel_rfl) (fun _ _ _ h => h) (Or.inr ⟨by rfl, rfl⟩) ?_ ?_
              rotate_left
              · simp only [Act.put, List.setIfInBounds_toArray, List.set_cons_zero, List.set_cons_succ, i64_w, i32_w]
                rfl
              refine pure_ (i := 14) (N := some 76) (v := undef) (a' := ?_) #[true, true, true, true, true, true, true, true, true, true, true, true, true, true, true, false, false, false] rfl rfl (by kernel_rfl) (fun _ _ _ h => h) (Or.inr ⟨by rfl, rfl⟩) ?_ ?_
              rotate_left
              · simp only [Act.put, List.setIfInBounds_toArray, List.set_cons_zero, List.set_cons_succ, i64_w, i32_w]
                rfl
              refine pure_ (i := 15) (N := some 77) (v := ?_) (a' := ?_) #[true, true, true, true, true, true, true, true, true, true, true, true, true, true, true, true, false, false] rfl rfl (by kernel_rfl) (fun _ _ _ h => h) (Or.inl ⟨by rfl, ?_⟩) ?_ ?_
              rotate_left
              · intro w'
                go_simp
                with_reducible rfl
              rotate_left
              · simp only [Act.put, List.setIfInBounds_toArray, List.set_cons_zero, List.set_cons_succ, i64_w, i32_w]
                rfl
              refine pure_ (i := 16) (N := some 2) (v := ?_) (a' := ?_) #[true, true, true, true, true, true, true, true, true, true, true, true, true, true, true, true, true, false] rfl rfl (by kernel_rfl) (fun _ _ _ h => h) (Or.inl ⟨by rfl, ?_⟩) ?_ ?_
              rotate_left
              · intro w'
                go_simp
                with_reducible rfl
              rotate_left
              · simp only [Act.put, List.setIfInBounds_toArray, List.set_cons_zero, List.set_cons_succ, i64_w, i32_w]
                rfl
              refine pure_ (i := 17) (N := some 3) (v := ?_) (a' := ?_) #[true, true, true, true, true, true, true, true, true, true, true, true, true, true, true, true, true, true] rfl rfl (by kernel_rfl) (fun _ _ _ h => h) (Or.inl ⟨by rfl, ?_⟩) ?_ ?_
              rotate_left
              · intro w'
                go_simp
                with_reducible rfl
              rotate_left
              · simp only [Act.put, List.setIfInBounds_toArray, List.set_cons_zero, List.set_cons_succ, i64_w, i32_w]
                rfl
              refine done_ (by kernel_rfl) ?_

              go_wp2_with fail
              go_ret2
              exact ⟨rfl, B1.out.lt⟩
          · have e1 : (n == 0) = false := beq_eq_false_iff_ne.2 hn
            rw [decide_eq_false hn, Bool.false_and, Bool.false_and]
            clear hn HD SZ
            go_enter Tryz.func69, Tryz.ntmps69
            obtain ⟨z0, z1, z2⟩ := cells3 B0.out.tb
            go_wp2_with fail
            clear z0 z1 z2
            have B1 := Aside0.mk (B0.out.l (Lt.refl _).d1)
            refine start_ (n := 18) (S := fun w' => w'.cell? ⟨w.heap.size, 0, none⟩ = some (.int .u8 4) ∧ w'.cell? ⟨w.heap.size, 1, none⟩ = some (.string s) ∧ w'.cell? ⟨w.heap.size, 2, none⟩ = some (.int .i64 n)) (ds := []) #[false, false, false, false, false, false, false, false, false, false, false, false, false, false, false, false, false, false] (by kernel_rfl) rfl rfl ⟨(cells3 B1.out.tb).1, (cells3 B1.out.tb).2.1, (cells3 B1.out.tb).2.2⟩ (fun hHeld => ?_)
            refine pure_ (i := 0) (N := some 62) (v := ?_) (a' := ?_) #[true, false, false, false, false, false, false, false, false, false, false, false, false, false, false, false, false, false] rfl rfl (by kernel_rfl) (fun _ _ _ h => h) (Or.inl ⟨by rfl, ?_⟩) ?_ ?_
            rotate_left
            · intro w'
              go_simp
              with_reducible rfl
            rotate_left
            · simp only [Act.put, List.setIfInBounds_toArray, List.set_cons_zero, List.set_cons_succ, i64_w, i32_w]
              rfl
            refine pure_ (i := 2) (N := some 64) (v := ?_) (a' := ?_) #[true, false, true, false, false, false, false, false, false, false, false, false, false, false, false, false, false, false] rfl rfl (by kernel_rfl) (fun _ _ _ h => h) (Or.inl ⟨by rfl, ?_⟩) ?_ ?_
            rotate_left
            · intro w'
              go_simp
              with_reducible rfl
            rotate_left
            · simp only [Act.put, List.setIfInBounds_toArray, List.set_cons_zero, List.set_cons_succ, i64_w, i32_w]
              rfl
            refine take_ (i := 1) (N := some 63) (v := ?_) (a' := ?_) #[true, true, true, false, false, false, false, false, false, false, false, false, false, false, false, false, false, false] rfl rfl (by kernel_rfl) (fun _ _ _ h => h) (Or.inl ⟨by rfl, ?_⟩) hHeld ?_ ?_
            rotate_left
            · rintro w' ⟨s0, s1, s2⟩
              go_simp
              with_reducible rfl
            rotate_left
            · simp only [Act.put, List.setIfInBounds_toArray, List.set_cons_zero, List.set_cons_succ, i64_w, i32_w]
              rfl
            refine take_ (i := 3) (N := some 65) (v := ?_) (a' := ?_) #[true, true, true, true, false, false, false, false, false, false, false, false, false, false, false, false, false, false] rfl rfl (by kernel_rfl) (fun _ _ _ h => h) (Or.inl ⟨by rfl, ?_⟩) hHeld ?_ ?_
            rotate_left
            · rintro w' ⟨s0, s1, s2⟩
              go_simp
              with_reducible rfl
            rotate_left
            · simp only [Act.put, List.setIfInBounds_toArray, List.set_cons_zero, List.set_cons_succ, i64_w, i32_w]
              rfl
            refine pure_ (i := 4) (N := some 66) (v := ?_) (a' := ?_) #[true, true, true, true, true, false, false, false, false, false, false, false, false, false, false, false, false, false] rfl rfl (by kernel_rfl) (fun _ _ _ h => h) (Or.inl ⟨by rfl, ?_⟩) ?_ ?_
            rotate_left
            · intro w'
              go_simp
              with_reducible rfl
            rotate_left
            · simp only [Act.put, List.setIfInBounds_toArray, List.set_cons_zero, List.set_cons_succ, i64_w, i32_w]
              rfl
            refine pure_ (i := 5) (N := some 67) (v := ?_) (a' := ?_) #[true, true, true, true, true, true, false, false, false, false, false, false, false, false, false, false, false, false] rfl rfl (by kernel_rfl) (fun _ _ _ h => h) (Or.inl ⟨by rfl, ?_⟩) ?_ ?_
            rotate_left
            · intro w'
              go_simp
              with_reducible rfl
            rotate_left
            · simp only [Act.put, List.setIfInBounds_toArray, List.set_cons_zero, List.set_cons_succ, i64_w, i32_w]
              rfl
            refine pure_ (i := 6) (N := some 68) (v := undef) (a' := ?_) #[true, true, true, true, true, true, true, false, false, false, false, false, false, false, false, false, false, false] rfl rfl (by kernel_rfl) (fun _ _ _ h => h) (Or.inr ⟨by rfl, rfl⟩) ?_ ?_
            rotate_left
            · simp only [Act.put, List.setIfInBounds_toArray, List.set_cons_zero, List.set_cons_succ, i64_w, i32_w]
              rfl
            refine pure_ (i := 7) (N := some 69) (v := undef) (a' := ?_) #[true, true, true, true, true, true, true, true, false, false, false, false, false, false, false, false, false, false] rfl rfl (by kernel_rfl) (fun _ _ _ h => h) (Or.inr ⟨by rfl, rfl⟩) ?_ ?_
            rotate_left
            · simp only [Act.put, List.setIfInBounds_toArray, List.set_cons_zero, List.set_cons_succ, i64_w, i32_w]
              rfl
            refine pure_ (i := 8) (N := some 70) (v := undef) (a' := ?_) #[true, true, true, true, true, true, true, true, true, false, false, false, false, false, false, false, false, false] rfl rfl (by kernel_rfl) (fun _ _ _ h => h) (Or.inr ⟨by rfl, rfl⟩) ?_ ?_
            rotate_left
            · simp only [Act.put, List.setIfInBounds_toArray, List.set_cons_zero, List.set_cons_succ, i64_w, i32_w]
              rfl
            refine pure_ (i := 9) (N := some 71) (v := undef) (a' := ?_) #[true, true, true, true, true, true, true, true, true, true, false, false, false, false, false, false, false, false] rfl rfl (by kernel_rfl) (fun _ _ _ h => h) (Or.inr ⟨by rfl, rfl⟩) ?_ ?_
            rotate_left
            · simp only [Act.put, List.setIfInBounds_toArray, List.set_cons_zero, List.set_cons_succ, i64_w, i32_w]
              rfl
            refine pure_ (i := 10) (N := some 72) (v := ?_) (a' := ?_) #[true, true, true, true, true, true, true, true, true, true, true, false, false, false, false, false, false, false] rfl rfl (by kernel_rfl) (fun _ _ _ h => h) (Or.inl ⟨by rfl, ?_⟩) ?_ ?_
            rotate_left
            · intro w'
              go_simp
              with_reducible rfl
            rotate_left
            · simp only [Act.put, List.setIfInBounds_toArray, List.set_cons_zero, List.set_cons_succ, i64_w, i32_w]
              rfl
            refine pure_ (i := 11) (N := some 73) (v := ?_) (a' := ?_) #[true, true, true, true, true, true, true, true, true, true, true, true, false, false, false, false, false, false] rfl rfl (by kernel_rfl) (fun _ _ _ h => h) (Or.inl ⟨by rfl, ?_⟩) ?_ ?_
            rotate_left
            · intro w'
              go_simp
              with_reducible rfl
            rotate_left
            · simp only [Act.put, List.setIfInBounds_toArray, List.set_cons_zero, List.set_cons_succ, i64_w, i32_w]
              rfl
            refine pure_ (i := 12) (N := some 74) (v := undef) (a' := ?_) #[true, true, true, true, true, true, true, true, true, true, true, true, true, false, false, false, false, false] rfl rfl (by kernel_rfl) (fun _ _ _ h => h) (Or.inr ⟨by rfl, rfl⟩) ?_ ?_
            rotate_left
            · simp only [Act.put, List.setIfInBounds_toArray, List.set_cons_zero, List.set_cons_succ, i64_w, i32_w]
              rfl
            refine pure_ (i := 13) (N := some 75) (v := undef) (a' := ?_) #[true, true, true, true, true, true, true, true, true, true, true, true, true, true, false, false, false, false] rfl rfl (by kernel_rfl) (fun _ _ _ h => h) (Or.inr ⟨by rfl, rfl⟩) ?_ ?_
            rotate_left
            · simp only [Act.put, List.setIfInBounds_toArray, List.set_cons_zero, List.set_cons_succ, i64_w, i32_w]
              rfl
            refine pure_ (i := 14) (N := some 76) (v := undef) (a' := ?_) #[true, true, true, true, true, true, true, true, true, true, true, true, true, true, true, false, false, false] rfl rfl (by kernel_rfl) (fun _ _ _ h => h) (Or.inr ⟨by rfl, rfl⟩) ?_ ?_
            rotate_left
            · simp only [Act.put, List.setIfInBounds_toArray, List.set_cons_zero, List.set_cons_succ, i64_w, i32_w]
              rfl
            refine pure_ (i := 15) (N := some 77) (v := ?_) (a' := ?_) #[true, true, true, true, true, true, true, true, true, true, true, true, true, true, true, true, false, false] rfl rfl (by kernel_rfl) (fun _ _ _ h => h) (Or.inl ⟨by rfl, ?_⟩) ?_ ?_
            rotate_left
            · intro w'
              go_simp
              with_reducible rfl
            rotate_left
            · simp only [Act.put, List.setIfInBounds_toArray, List.set_cons_zero, List.set_cons_succ, i64_w, i32_w]
              rfl
            refine pure_ (i := 16) (N := some 2) (v := ?_) (a' := ?_) #[true, true, true, true, true, true, true, true, true, true, true, true, true, true, true, true, true, false] rfl rfl (by kernel_rfl) (fun _ _ _ h => h) (Or.inl ⟨by rfl, ?_⟩) ?_ ?_
            rotate_left
            · intro w'
              go_simp
              with_reducible rfl
            rotate_left
            · simp only [Act.put, List.setIfInBounds_toArray, List.set_cons_zero, List.set_cons_succ, i64_w, i32_w]
              rfl
            refine pure_ (i := 17) (N := some 3) (v := ?_) (a' := ?_) #[true, true, true, true, true, true, true, true, true, true, true, true, true, true, true, true, true, true] rfl rfl (by kernel_rfl) (fun _ _ _ h => h) (Or.inl ⟨by rfl, ?_⟩) ?_ ?_
            rotate_left
            · intro w'
              go_simp
              with_reducible rfl
            rotate_left
            · simp only [Act.put, List.setIfInBounds_toArray, List.set_cons_zero, List.set_cons_succ, i64_w, i32_w]
              rfl
            refine done_ (by kernel_rfl) ?_

            go_wp2_with fail
            go_ret2
            exact ⟨rfl, B1.out.lt⟩
        · have ek4 : (k == 4) = false := beq_eq_false_iff_ne.2 k4
          have hT : textT ⟨k, s, n⟩ = (nil8, false) := by
            unfold textT
            rw [if_neg k1, if_neg k2, if_neg k3, if_neg k4]
          rw [hT]
          clear hT h64 hz CF CN CR CT k1 k2 k3 k4 SZ
          go_enter Tryz.func69, Tryz.ntmps69
          obtain ⟨z0, z1, z2⟩ := cells3 B0.out.tb
          go_wp2_with fail
          go_ret2
          exact ⟨rfl, B0.out.lt⟩
end Go.Proofs.YtcinojbfjiohjaaGreatDoor.Lx
end

section
namespace Go.Proofs.YtcinojbfjiohjaaGreatDoor.Lx
open Go Go.RowKit Go.Proofs.YtcinojbfjiohjaaGreatDoor.PPrintTells Go.Proofs.YtcinojbfjiohjaaGreatDoor.Ex Go.Proofs.YtcinojbfjiohjaaGreatDoor.Civ Go.Proofs.YtcinojbfjiohjaaGreatDoorW.PrintWords Go.Proofs.YtcinojbfjiohjaaGreatDoorW.PrintLast Go.Proofs.YtcinojbfjiohjaaGreatDoorW.PrintMore
set_option linter.unusedVariables false
set_option linter.unusedSimpArgs false
/-- What a word in memory meets. -/
structure TokW (t : Tok) : Prop where
  n0 : -9223372036854775808 ≤ t.f2
  n1 : t.f2 ≤ 9223372036854775807
  sz : t.f1.size ≤ 9223372036854775807
theorem Right_calls (t : Tok) (h : TokW t) (w : World) (hC : LCal w) :
    Calls Tryz.prog 27 #[tokV t] w fun e w' => e = .returned (.bool (rightT t)) ∧ Lt w w' := by
  have CT := Aside0.mk (text_calls t ⟨h.n0, h.n1⟩ h.sz (w.alloc (tokC t)) (hC.l ((Lt.refl w).a _)))
  have hr : rightT t = (textT t).2 := rfl
  rw [hr]
  obtain ⟨s, b, hsb⟩ : ∃ s b, textT t = (s, b) := ⟨_, _, rfl⟩
  rw [hsb] at CT ⊢
  dsimp only at CT ⊢
  have HB := Aside0.mk ((Lt.refl w).a (tokC t))
  clear hsb hr hC
  go_enter Tryz.func27, Tryz.ntmps27
  go_wp2_with fail
  (with_reducible refine CT.out.mono ?_)
  rintro e w1 ⟨rfl, hl⟩
  have HB := Aside0.mk (HB.out.trans hl)
  go_wp2
  go_ret
  exact ⟨rfl, HB.out⟩
theorem del_calls (t : Tok) (h : TokW t) (w : World) (hC : LCal w) :
    Calls Tryz.prog 74 #[tokV t] w fun e w' => e = .returned (.bool (!rightT t)) ∧ Lt w w' := by
  have CT := Aside0.mk (Right_calls t h (w.alloc (tokC t)) (hC.l ((Lt.refl w).a _)))
  generalize rightT t = b at *
  have HB := Aside0.mk ((Lt.refl w).a (tokC t))
  clear hC
  go_enter Tryz.func74, Tryz.ntmps74
  go_wp2_with fail
  (with_reducible refine CT.out.mono ?_)
  rintro e w1 ⟨rfl, hl⟩
  have HB := Aside0.mk (HB.out.trans hl)
  go_wp2
  go_ret
  exact ⟨rfl, HB.out⟩
/-- A row's cells, word by word. -/
theorem tok_at {w : World} {A : Option Addr} {L : List Tok} (h : Kd.C kTk w A L.length L) (i : Nat) (hi : i < L.length) :
    ∃ ad, A = some ad ∧ w.cell? (ad.add (i * 3)) = some (.int .u8 L[i].f0) ∧ w.cell? ⟨(ad.add (i * 3)).block, (ad.add (i * 3)).off + 1, none⟩ = some (.string L[i].f1) ∧ w.cell? ⟨(ad.add (i * 3)).block, (ad.add (i * 3)).off + 2, none⟩ = some (.int .i64 L[i].f2) := by
  obtain ⟨ad, hA, e0, e1, e2⟩ := at_T51 h (i : Int) (by omega) (by omega)
  have er : rd_T51 L (i : Int) = L[i] := by
    unfold rd_T51
    rw [Int.toNat_natCast, List.getD_eq_getElem?_getD, List.getElem?_eq_getElem hi]
    rfl
  rw [er] at e0 e1 e2
  rw [Int.toNat_natCast] at e0 e1 e2
  exact ⟨ad, hA, e0, e1, e2⟩
set_option maxHeartbeats 8000000 in
set_option maxRecDepth 100000 in
/-- No word is to go. -/
theorem IndexFunc_none (L : List Tok) (A : Option Addr) (c : Nat) (w : World) (hC : LCal w) (hL : Kd.C kTk w A L.length L) (hc : L.length ≤ c) (hW : ∀ t ∈ L, TokW t) (hR : ∀ t ∈ L, rightT t = true) :
    Calls Tryz.prog 120 #[.slice A L.length c, .func (.func 74) #[] #[]] w fun e w' => e = .returned (.int .i64 (-1)) ∧ Lt w w' := by
  have eg : ∀ args w, (callFunc 74 args).run Tryz.prog w = .ok (.enter 74 args) w := fun args w => by kernel_rfl
  have hm := hL.2.1
  have HC := Aside0.mk hC
  have HL := Aside0.mk hL
  have HW := Aside0.mk hW
  have HR := Aside0.mk hR
  obtain ⟨N, hN⟩ : ∃ N, N = L.length := ⟨_, rfl⟩
  have HN := Aside0.mk hN
  rw [← hN] at hm hc ⊢
  clear hC hL hW hR hN
  go_enter Tryz.func120, Tryz.ntmps120
  go_wp2_with fail
  go_loopw [8] (fun i wr => ∃ k : Nat, k ≤ N ∧ i = .int .i64 (k : Int) ∧ Lt w wr) (fun i _ => N - (intOf i).toNat)
  case atStart => exact ⟨0, Nat.zero_le _, rfl, Lt.refl _⟩
  case round =>
    obtain ⟨k, hk, rfl, hlt⟩ := hrel
    have HT := Aside0.mk hlt
    clear hlt
    by_cases hkn : k < N
    · have h1 : (k : Int) < (N : Int) := by omega
      have h2 : decide ((k : Int) < (N : Int)) = true := decide_eq_true h1
      obtain ⟨ad, rfl, c0, c1, c2⟩ := tok_at HL.out k (by have := HN.out; omega)
      have hmem : L[k]'(by have := HN.out; omega) ∈ L := List.getElem_mem _
      obtain ⟨t, ht⟩ : ∃ t, t = L[k]'(by have := HN.out; omega) := ⟨_, rfl⟩
      rw [← ht] at c0 c1 c2 hmem
      have d0 := cell_lt HT.out c0
      have d1 := cell_lt HT.out c1
      have d2 := cell_lt HT.out c2
      have CD := Aside0.mk (del_calls t (HW.out t hmem) wr (HC.out.l HT.out))
      rw [HR.out t hmem] at CD
      clear c0 c1 c2 ht hmem
      go_wp2_with fail
      (with_reducible refine CD.out.mono ?_)
      rintro e w1 ⟨rfl, hl⟩
      have HT := Aside0.mk (HT.out.trans hl)
      clear hl CD d0 d1 d2
      go_wp2
      go_roundw
      case rel => exact ⟨k + 1, by omega, by go_num, HT.out⟩
      case measure => simp [intOf]; omega
    · obtain rfl : k = N := by omega
      have h1 : ¬ (k : Int) < (k : Int) := by omega
      have h2 : decide ((k : Int) < (k : Int)) = false := decide_eq_false h1
      go_wp2_with fail
      go_ret
      exact ⟨rfl, HT.out⟩
theorem DeleteFunc_none (L : List Tok) (A : Option Addr) (c : Nat) (w : World) (hC : LCal w) (hL : Kd.C kTk w A L.length L) (hc : L.length ≤ c) (hW : ∀ t ∈ L, TokW t) (hR : ∀ t ∈ L, rightT t = true) :
    Calls Tryz.prog 72 #[.slice A L.length c, .func (.func 74) #[] #[]] w fun e w' => e = .returned (.slice A L.length c) ∧ Lt w w' := by
  have CI := Aside0.mk (IndexFunc_none L A c w hC hL hc hW hR)
  generalize L.length = N at *
  clear hC hL hW hR
  go_enter Tryz.func72, Tryz.ntmps72
  go_wp2_with fail
  (with_reducible refine CI.out.mono ?_)
  rintro e w1 ⟨rfl, hl⟩
  go_wp2
  go_ret
  exact ⟨rfl, hl⟩
theorem own_litT (W : World) (base : Nat) (hb : base ≤ W.heap.size) : OwnRow (kTk.M (W.alloc (.cells #[] TT)) base (fun k => True ∧ some k ≠ (Value.slice (some ⟨W.heap.size, 0, none⟩) 0 0).ownBlock)) TT 3 (W.alloc (.cells #[] TT)) base (.slice (some ⟨W.heap.size, 0, none⟩) 0 0) [] :=
  OwnRow.lit W base (inner := []) (ps := ([] : List Tok)) (Reps.none _ _) hb (by simp)
set_option maxHeartbeats 8000000 in
set_option maxRecDepth 100000 in
/-- A row's copy. -/
theorem Clone_calls (L : List Tok) (A : Option Addr) (c : Nat) (w : World) (hL : Kd.C kTk w A L.length L) (hc : L.length ≤ c) (hm : L.length ≤ 1099511627776) :
    Calls Tryz.prog 73 #[.slice A L.length c] w fun e w' => ∃ v, e = .returned v ∧ Kd.R kTk TT w' w.heap.size (fun _ => True) v L ∧ Lt w w' := by
  have HL := Aside0.mk hL
  obtain ⟨N, hN⟩ : ∃ N, N = L.length := ⟨_, rfl⟩
  have HN := Aside0.mk hN
  have hz : A = none → L = [] := fun h => by
    rcases Nat.eq_zero_or_pos L.length with h0 | h0
    · exact List.eq_nil_of_length_eq_zero h0
    · obtain ⟨ad, hA, _⟩ := tok_at hL 0 h0
      rw [h] at hA
      cases hA
  rw [← hN] at hm hc HL ⊢
  clear hL hN
  cases A with
  | none =>
    have h0 := hz rfl
    subst h0
    obtain rfl : N = 0 := HN.out
    clear hz HL
    have eN : ∀ W : World, (binOp .eql 32 (.slice none 0 c) (.slice none 0 0)).run Tryz.prog W = .ok (.bool true) W := fun W => Lib.run_eql_slice_nil W _ _ none 0 c 0 0 Tryz.underlying32
    go_enter Tryz.func73, Tryz.ntmps73
    go_wp2_with fail
    go_ret
    exact ⟨_, rfl, Kd.R_nil _ _ _ _ _, Lt.refl _⟩
  | some ad =>
    clear hz
    have eN : ∀ W : World, (binOp .eql 32 (.slice (some ad) N c) (.slice none 0 0)).run Tryz.prog W = .ok (.bool false) W := fun W => Lib.run_eql_slice_nil W _ _ (some ad) N c 0 0 Tryz.underlying32
    go_enter Tryz.func73, Tryz.ntmps73
    go_wp2_with ((with_reducible refine gate_builtin (b := .append) (xs := #[.tmp 5, .tmp 6]) rfl ?_); at_builtin; refine Kd.R_append_rows kTk (w0 := w) w.heap.size rfl (.tmp 5) (.tmp 6) 32 TT (.agg #[.int .u8 0, .string nil8, .int .i64 0]) 32 rfl Tryz.underlying32 info_tkz rfl (by decide) (by omega) (.slice (some ⟨w.heap.size, 0, none⟩) 0 0) ([] : List Tok) L (some ad) N c (fun _ => True) (fun _ => False) rfl rfl ⟨fun _ _ => trivial, own_litT _ _ (Nat.le_refl _)⟩ (Kd.C_below HL.out (below_alloc (Below.refl _ _) _)) (fun y cs hk => by rw [k51_open hk]; exact k51_mkM _ _ _ y) (fun _ hk => hk.elim) (fun _ _ => trivial) (below_alloc (Below.refl _ _) _) (below_alloc (Below.refl _ _) _).size (by rw [List.length_nil]; omega) ?_; intro v1 wa ho hb hg hat; rw [List.nil_append] at ho; have HO := Aside0.mk ho; have HB := Aside0.mk (Lt.mk hb); clear ho hb hg hat)
    go_ret
    exact ⟨_, rfl, HO.out, HB.out⟩
end Go.Proofs.YtcinojbfjiohjaaGreatDoor.Lx
end

section
namespace Go.Proofs.YtcinojbfjiohjaaGreatDoor.Lx
open Go Go.RowKit Go.Proofs.YtcinojbfjiohjaaGreatDoor.PPrintTells Go.Proofs.YtcinojbfjiohjaaGreatDoor.Ex Go.Proofs.YtcinojbfjiohjaaGreatDoor.Civ Go.Proofs.YtcinojbfjiohjaaGreatDoorW.PrintWords Go.Proofs.YtcinojbfjiohjaaGreatDoorW.PrintLast Go.Proofs.YtcinojbfjiohjaaGreatDoorW.PrintMore
set_option linter.unusedVariables false
set_option linter.unusedSimpArgs false
abbrev kS : Kd ByteArray := Kd.string
abbrev SS : TypeId := 9
abbrev BLK : ByteArray := ⟨#[32]⟩
/-- The texts of words, a blank between. -/
def textL (L : List Tok) : ByteArray := toB (Lib.join (L.map (fun t => (textT t).1.data.toList)) [32])
theorem str_at {w : World} {A : Option Addr} {X : List ByteArray} (h : Kd.C kS w A X.length X) (i : Nat) (hi : i < X.length) : ∃ ad, A = some ad ∧ w.cell? (ad.add i) = some (.string X[i]) := by
  obtain ⟨ad, c, hA, hl, hK, hc⟩ := Kd.C_get h nil8 (i : Int) (by omega) (by omega)
  have e : X.getD (i : Int).toNat nil8 = X[i] := by
    rw [Int.toNat_natCast, List.getD_eq_getElem?_getD, List.getElem?_eq_getElem hi]
    rfl
  rw [e] at hK
  have hc0 : c = [.string X[i]] := hK
  subst hc0
  have h1 := hc 0 _ rfl
  rw [Int.toNat_natCast] at h1
  refine ⟨ad, hA, ?_⟩
  have e2 : i * kS.sz + 0 = i := by show i * 1 + 0 = i; omega
  rw [e2] at h1
  exact h1
theorem joined_calls (X : List ByteArray) (A : Option Addr) (c : Nat) (w : World) (hX : Kd.R kS SS w 0 (fun _ => True) (.slice A X.length c) X) (hN : X.length ≤ 140737488355328) (hlen : (Lib.join (X.map (·.data.toList)) [32]).length ≤ 140737488355328) :
    Calls Tryz.prog 75 #[.slice A X.length c] w fun e w' => e = .returned (.string (toB (Lib.join (X.map (·.data.toList)) [32]))) ∧ Lt w w' := by
  have hJ : Calls Tryz.prog 121 #[.slice A X.length c, .string BLK] w fun e w' => e = .returned (.string (toB (Lib.join (X.map (·.data.toList)) [32]))) ∧ Lt w w' := by
    obtain ⟨_, hc, hC⟩ := Kd.R_reads' hX
    rcases Nat.eq_zero_or_pos X.length with h0 | h0
    · obtain rfl : X = [] := List.eq_nil_of_length_eq_zero h0
      exact (Tryz.strings_Join_none A c BLK w).mono fun e w' ⟨he, hw⟩ => ⟨he, hw ▸ Lt.refl _⟩
    · obtain ⟨g, cap, hv, _, hg, _⟩ := Kd.R_form hX h0
      injection hv with hA _ hcc
      subst hA
      subst hcc
      refine (Tryz.strings_Join g 0 c X BLK w (fun k x hk => ?_) hg hN hc hlen).mono fun e w' ⟨he, hw⟩ => ⟨he, ⟨hw⟩⟩
      obtain ⟨hi, rfl⟩ := List.getElem?_eq_some_iff.1 hk
      obtain ⟨ad, hA, h1⟩ := str_at hC k hi
      obtain rfl := Option.some.inj hA
      by_cases hk0 : k = 0
      · subst hk0
        simpa [Addr.add] using h1
      · simpa [Addr.add, hk0] using h1
  generalize toB (Lib.join (X.map (·.data.toList)) [32]) = T at *
  generalize X.length = N at *
  have HJ := Aside0.mk hJ
  clear hJ hX hN hlen
  go_enter Tryz.func75, Tryz.ntmps75
  go_wp2_with fail
  (with_reducible refine HJ.out.mono ?_)
  rintro e w1 ⟨rfl, hl⟩
  go_wp2
  go_ret
  exact ⟨rfl, hl⟩
/-- A right word's text is short. -/
theorem right_short {t : Tok} (h : TokW t) (hR : rightT t = true) : (textT t).1.size ≤ 300 := by
  have hR : (textT t).2 = true := hR
  obtain ⟨k, s, n⟩ := t
  unfold textT at hR ⊢
  dsimp only at hR ⊢
  by_cases k1 : k = 1
  · rw [if_pos k1] at hR ⊢
    simp only [Bool.and_eq_true] at hR
    have h1 := hR.1.1
    have hs : s.size = s.data.toList.length := (Array.length_toList).symm
    cases hL : s.data.toList with
    | nil => rw [hL] at hs; dsimp only; rw [hs]; simp
    | cons b l =>
      rw [hL] at h1 hs
      unfold namedL at h1
      simp only [Bool.and_eq_true, decide_eq_true_eq] at h1
      rw [List.length_cons] at hs
      dsimp only
      omega
  · rw [if_neg k1] at hR ⊢
    by_cases k2 : k = 2
    · rw [if_pos k2]
      show (Lib.itoa n).toArray.size ≤ 300
      rw [List.size_toArray]
      have h0 := h.n0
      have h1 := h.n1
      have hd := decDigits_len 20
      unfold Lib.itoa
      split
      · have := hd n.natAbs (by dsimp only at h0; omega) (by omega)
        rw [List.length_cons]
        omega
      · have := hd n.toNat (by dsimp only at h1; omega) (by omega)
        omega
    · rw [if_neg k2] at hR ⊢
      by_cases k3 : k = 3
      · rw [if_pos k3]
        have := textF_size n
        dsimp only
        rw [ByteArray.size_append]
        show 1 + _ ≤ 300
        omega
      · rw [if_neg k3] at hR ⊢
        by_cases k4 : k = 4
        · rw [if_pos k4] at hR ⊢
          simp only [Bool.and_eq_true, decide_eq_true_eq] at hR
          dsimp only
          omega
        · rw [if_neg k4]
          exact Nat.zero_le _
theorem joinTail_len (X : List (List UInt8)) (h : ∀ x ∈ X, x.length ≤ 300) : (Lib.joinTail [32] X).length ≤ 301 * X.length := by
  induction X with
  | nil => exact Nat.zero_le _
  | cons x X ih =>
    have h1 := h x (by simp)
    have h2 := ih (fun y hy => h y (by simp [hy]))
    unfold Lib.joinTail at h2 ⊢
    rw [List.map_cons, List.flatten_cons, List.length_append, List.length_append, List.length_cons]
    simp only [List.length_cons, List.length_nil]
    omega
theorem join_len (X : List (List UInt8)) (h : ∀ x ∈ X, x.length ≤ 300) : (Lib.join X [32]).length ≤ 301 * X.length := by
  cases X with
  | nil => exact Nat.zero_le _
  | cons x X =>
    rw [Lib.join_cons, List.length_append]
    have h1 := h x (by simp)
    have h2 := joinTail_len X (fun y hy => h y (by simp [hy]))
    rw [List.length_cons]
    omega
theorem info_str : (Tryz.prog.info? SS).map (fun i => (i.zero, i.size, i.bytes)) = some (some (.string nil8), 1, 16) := by kernel_rfl
set_option maxHeartbeats 16000000 in
set_option maxRecDepth 100000 in
theorem Text_right (L : List Tok) (A : Option Addr) (c : Nat) (w : World) (hC : LCal w) (hL : Kd.C kTk w A L.length L) (hc : L.length ≤ c) (hm : L.length ≤ 4294967296) (hW : ∀ t ∈ L, TokW t) (hR : ∀ t ∈ L, rightT t = true) :
    Calls Tryz.prog 30 #[.slice A L.length c] w fun e w' => e = .returned (.string (textL L)) ∧ Lt w w' := by
  have CC := Aside0.mk (Clone_calls L A c w hL hc (by omega))
  have HC := Aside0.mk hC
  have HW := Aside0.mk hW
  have HR := Aside0.mk hR
  have CD := fun B d W h1 h2 h3 => Aside0.mk (DeleteFunc_none L B d W h1 h2 h3 hW hR)
  have HJ := Aside0.mk (show (Lib.join (L.map (fun t => (textT t).1.data.toList)) [32]).length ≤ 140737488355328 from by
    have h := join_len (L.map (fun t => (textT t).1.data.toList)) (fun x hx => by
      obtain ⟨t, ht, rfl⟩ := List.mem_map.1 hx
      have := right_short (hW t ht) (hR t ht)
      rw [Array.length_toList]
      exact this)
    rw [List.length_map] at h
    omega)
  obtain ⟨N, hN⟩ : ∃ N, N = L.length := ⟨_, rfl⟩
  have HN := Aside0.mk hN
  rw [← hN] at hm hc CC CD ⊢
  clear hC hL hW hR hN
  go_enter Tryz.func30, Tryz.ntmps30
  go_wp2_with fail
  (with_reducible refine CC.out.mono ?_)
  rintro e w1 ⟨v, rfl, ho, hl⟩
  obtain ⟨B, d, rfl, hd, hCC⟩ := Kd.R_reads ho
  rw [← HN.out] at hd hCC ⊢
  have HK := Aside0.mk hCC
  have HT := Aside0.mk hl
  clear ho hl hCC CC
  go_wp2_with fail
  (with_reducible refine (CD _ _ _ (HC.out.l HT.out) HK.out hd).out.mono ?_)
  rintro e w2 ⟨rfl, hl⟩
  have HK := Aside0.mk (Kd.C_below HK.out hl.out)
  have HT := Aside0.mk (HT.out.trans hl)
  clear hl CD
  go_wp2_with fail
  go_loopw [3, 12] (fun v i wr => ∃ k : Nat, k ≤ N ∧ i = .int .i64 (k : Int) ∧ Lt w2 wr ∧ Kd.R kS SS wr w2.heap.size (fun _ => True) v ((L.take k).map fun t => (textT t).1)) (fun _ i _ => N - (intOf i).toNat)
  case atStart => exact ⟨0, Nat.zero_le _, rfl, Lt.refl _, Kd.R_nil _ _ _ _ _⟩
  case round =>
    obtain ⟨k, hk, rfl, hlt2, hr⟩ := hrel
    have HT0 := HT
    have HT := Aside0.mk (HT.out.trans hlt2)
    have HT2 := Aside0.mk hlt2
    have HRR := Aside0.mk hr
    obtain ⟨Av, cv, rfl⟩ := Kd.R_slice hr
    clear hlt2 hr
    obtain ⟨M, hM⟩ : ∃ M, M = ((L.take k).map fun t => (textT t).1).length := ⟨_, rfl⟩
    have hMk : M = k := by rw [hM, List.length_map, List.length_take, ← HN.out, Nat.min_eq_left hk]
    rw [← hM] at HRR ⊢
    have HMK := Aside0.mk hMk
    clear hM hMk
    by_cases hkn : k < N
    · have h1 : (k : Int) < (N : Int) := by omega
      have h2 : decide ((k : Int) < (N : Int)) = true := decide_eq_true h1
      obtain ⟨ad, rfl, c0, c1, c2⟩ := tok_at (by rw [← HN.out]; exact HK.out) k (by have := HN.out; omega)
      have hmem : L[k]'(by have := HN.out; omega) ∈ L := List.getElem_mem _
      have htk : (L.take (k + 1)).map (fun t => (textT t).1) = (L.take k).map (fun t => (textT t).1) ++ [(textT (L[k]'(by have := HN.out; omega))).1] := by
        rw [List.take_succ_eq_append_getElem (by have := HN.out; omega), List.map_append]
        rfl
      obtain ⟨t, ht⟩ : ∃ t, t = L[k]'(by have := HN.out; omega) := ⟨_, rfl⟩
      rw [← ht] at c0 c1 c2 hmem htk
      have d0 := cell_lt HT2.out c0
      have d1 := cell_lt HT2.out c1
      have d2 := cell_lt HT2.out c2
      have CT := Aside0.mk (text_calls t ⟨(HW.out t hmem).n0, (HW.out t hmem).n1⟩ (HW.out t hmem).sz (wr.alloc (tokC t)) (HC.out.l (HT.out.a _)))
      have HTK := Aside0.mk htk
      obtain ⟨tx, b, htx⟩ : ∃ tx b, textT t = (tx, b) := ⟨_, _, rfl⟩
      rw [htx] at CT HTK
      dsimp only at CT HTK
      clear c0 c1 c2 ht hmem htk htx
      go_wp2_with fail
      (with_reducible refine CT.out.mono ?_)
      rintro e w3 ⟨rfl, hl⟩
      have HRR := Aside0.mk (Kd.R_below HRR.out (((Lt.refl _).a (tokC t)).trans hl).out)
      have HT := Aside0.mk ((HT.out.a (tokC t)).trans hl)
      have HT2 := Aside0.mk ((HT2.out.a (tokC t)).trans hl)
      clear hl CT d0 d1 d2
      go_wp2_with ((with_reducible refine gate_builtin (b := .append) (xs := #[.tmp 21, .tmp 23]) rfl ?_); at_builtin; refine Kd.R_append kS (w0 := w2) w2.heap.size rfl (.tmp 21) (.tmp 23) 38 SS (.string nil8) 16 rfl Tryz.underlying38 info_str rfl (by decide) (by omega) (.slice Av M cv) ((L.take k).map fun t => (textT t).1) tx [.string tx] (fun _ => True) (fun _ => False) rfl rfl ?aP (fun _ hk => hk.elim) ?aF ?aO ?aB ?aS ?aL ?_; (case aP => exact rfl); (case aF => exact fun _ _ => trivial); (case aO => exact HRR.out); (case aB => exact HT2.out.out); (case aS => exact HT2.out.out.size); (case aL => rw [List.length_map, List.length_take, ← HN.out, Nat.min_eq_left hk]; omega); intro v1 wa ho hb hg hat; have HO := Aside0.mk ho; have HT2 := Aside0.mk (Lt.mk hb); clear ho hb hg hat)
      go_roundw
      case rel => exact ⟨k + 1, by omega, by go_num, HT2.out, by rw [HTK.out]; exact HO.out⟩
      case measure => simp [intOf]; omega
    · obtain rfl : k = N := by omega
      have h1 : ¬ (k : Int) < (k : Int) := by omega
      have h2 : decide ((k : Int) < (k : Int)) = false := decide_eq_false h1
      have hall : L.take k = L := by rw [HN.out, List.take_length]
      rw [hall] at HRR
      have CJ := Aside0.mk (joined_calls (L.map fun t => (textT t).1) Av cv wr (by rw [List.length_map, ← HN.out, ← HMK.out]; exact Kd.R_lower HRR.out (Nat.zero_le _)) (by rw [List.length_map, ← HN.out]; omega) (by rw [List.map_map]; exact HJ.out))
      have eL : (L.map fun t => (textT t).1).length = M := by rw [List.length_map, ← HN.out, HMK.out]
      rw [eL, List.map_map] at CJ
      have eT : toB (Lib.join (L.map ((fun x => x.data.toList) ∘ fun t => (textT t).1)) [32]) = textL L := rfl
      rw [eT] at CJ
      clear hall eL eT HRR
      go_wp2_with fail
      (with_reducible refine CJ.out.mono ?_)
      rintro e w3 ⟨rfl, hl⟩
      go_wp2
      go_ret
      exact ⟨rfl, HT.out.trans hl⟩
end Go.Proofs.YtcinojbfjiohjaaGreatDoor.Lx
end

section
namespace Go.Proofs.YtcinojbfjiohjaaGreatDoor.Lx
open Go Go.RowKit Go.Proofs.YtcinojbfjiohjaaGreatDoor.PPrintTells Go.Proofs.YtcinojbfjiohjaaGreatDoor.Ex Go.Proofs.YtcinojbfjiohjaaGreatDoor.Civ
set_option linter.unusedVariables false
set_option linter.unusedSimpArgs false
/-- A run is not longer, nor shorter, where the line is cut behind it. -/
theorem span_cut (p : UInt8 → Bool) : ∀ (l : List UInt8) (m : Nat), spanN p l ≤ m → spanN p (l.take m) = spanN p l
  | [], m, _ => by rw [List.take_nil]
  | b :: l, m, h => by
    by_cases hb : p b = true
    · have e : spanN p (b :: l) = spanN p l + 1 := by show (if p b = true then spanN p l + 1 else 0) = _; rw [if_pos hb]
      rw [e] at h ⊢
      obtain ⟨m, rfl⟩ : ∃ k, m = k + 1 := ⟨m - 1, by omega⟩
      rw [List.take_succ_cons]
      show (if p b = true then spanN p (l.take m) + 1 else 0) = _
      rw [if_pos hb, span_cut p l m (by omega)]
    · have e : ∀ r, spanN p (b :: r) = 0 := fun r => by show (if p b = true then spanN p r + 1 else 0) = _; rw [if_neg hb]
      rw [e]
      cases m with
      | zero => rfl
      | succ m => rw [List.take_succ_cons, e]
theorem take_cut (l : List UInt8) (k m : Nat) (h : k ≤ m) : (l.take m).take k = l.take k := by rw [List.take_take, Nat.min_eq_left h]
/-- Where a word begins, it does where the line is cut behind it. -/
theorem next_cut (b : UInt8) (l : List UInt8) (m : Nat) (h : (nextL (b :: l)).2.2 = true) (hm : (nextL (b :: l)).2.1 ≤ m + 1) : nextL (b :: l.take m) = nextL (b :: l) := by
  by_cases hmk : markB b = true
  · show (if markB b = true then _ else _) = (if markB b = true then _ else _)
    rw [if_pos hmk, if_pos hmk]
  · rw [nextL_else hmk] at h hm ⊢
    rw [nextL_else hmk]
    by_cases h64 : b.toNat = 64
    · rw [if_pos h64] at h hm ⊢
      rw [if_pos h64]
      have h1 : spanN dashB l ≤ m := by dsimp only at hm; omega
      rw [span_cut _ _ _ h1, take_cut _ _ _ h1]
    · rw [if_neg h64] at h hm ⊢
      rw [if_neg h64]
      by_cases hd : b.toNat = 45 ∨ digitB b = true
      · rw [if_pos hd] at h hm ⊢
        rw [if_pos hd]
        have h1 : spanN letterB l ≤ m := by dsimp only at hm; omega
        rw [span_cut _ _ _ h1, take_cut _ _ _ h1]
      · rw [if_neg hd] at h hm ⊢
        rw [if_neg hd]
        have h1 : spanN letterB (b :: l) ≤ m + 1 := hm
        have e : b :: l.take m = (b :: l).take (m + 1) := (List.take_succ_cons ..).symm
        rw [e, span_cut _ _ _ h1, take_cut _ _ _ h1]
/-- What is ahead of an error has words; the error begins there. -/
theorem place (n : Nat) : ∀ (l : List UInt8), l.length ≤ n → ∀ a : Nat, (lexL l).2 = (a : Int) → a < l.length ∧ (lexL (l.take a)).2 = -1 ∧ (lexL (l.drop a)).2 = 0 := by
  induction n with
  | zero =>
    intro l h a ha
    obtain rfl : l = [] := List.eq_nil_of_length_eq_zero (by omega)
    rw [lexL_nil] at ha
    exact absurd ha (by show ¬ ((-1 : Int) = (a : Int)); omega)
  | succ n ih =>
    intro l h a ha
    cases l with
    | nil =>
      rw [lexL_nil] at ha
      exact absurd ha (by show ¬ ((-1 : Int) = (a : Int)); omega)
    | cons b l =>
      rw [List.length_cons] at h
      have hcons : ∀ (t : List Tok) (k : Nat) (r : List Tok × Int), -1 ≤ r.2 → (consE t k r).2 = (a : Int) → ∃ e : Nat, r.2 = (e : Int) ∧ a = e + k := fun t k r hr h => by
        unfold consE at h
        split at h
        · exact absurd h (by show ¬ ((-1 : Int) = (a : Int)); omega)
        · rename_i hne
          have h : r.2 + (k : Int) = (a : Int) := h
          exact ⟨r.2.toNat, by omega, by omega⟩
      have hm1 : ∀ (t : List Tok) (k : Nat) (r : List Tok × Int), r.2 = -1 → (consE t k r).2 = -1 := fun t k r h => by
        unfold consE
        rw [if_pos h]
      rw [lexL_cons] at ha
      by_cases hbl : blankB b = true
      · rw [if_pos hbl] at ha
        obtain ⟨e, he, rfl⟩ := hcons _ _ _ (lexL_ge _) ha
        obtain ⟨h1, h2, h3⟩ := ih l (by omega) e he
        refine ⟨by rw [List.length_cons]; omega, ?_, ?_⟩
        · rw [List.take_succ_cons, lexL_cons, if_pos hbl]
          exact hm1 _ _ _ h2
        · rw [List.drop_succ_cons]
          exact h3
      · rw [if_neg hbl] at ha
        by_cases hok : (nextL (b :: l)).2.2 = true
        · rw [if_pos hok] at ha
          obtain ⟨e, he, rfl⟩ := hcons _ _ _ (lexL_ge _) ha
          obtain ⟨p1, p2⟩ := next_pos hok
          obtain ⟨h1, h2, h3⟩ := ih (l.drop ((nextL (b :: l)).2.1 - 1)) (by rw [List.length_drop]; omega) e he
          rw [List.length_drop] at h1
          obtain ⟨k, hk⟩ : ∃ k, (nextL (b :: l)).2.1 = k + 1 := ⟨(nextL (b :: l)).2.1 - 1, by omega⟩
          refine ⟨by rw [List.length_cons]; omega, ?_, ?_⟩
          · have hc := next_cut b l (e + k) hok (by omega)
            rw [hk, show e + (k + 1) = (e + k) + 1 by omega, List.take_succ_cons, lexL_cons, if_neg hbl, hc, if_pos hok, hk]
            apply hm1
            rw [hk] at h2
            have e1 : (l.take (e + k)).drop (k + 1 - 1) = (l.drop (k + 1 - 1)).take e := by
              rw [show k + 1 - 1 = k by omega, List.drop_take]
              congr 1
              omega
            rw [e1]
            exact h2
          · rw [hk, show e + (k + 1) = (e + k) + 1 by omega, List.drop_succ_cons]
            rw [hk, show k + 1 - 1 = k by omega, List.drop_drop] at h3
            rw [show e + k = k + e by omega]
            exact h3
        · rw [if_neg hok] at ha
          have h0 : a = 0 := by have : (0 : Int) = (a : Int) := ha; omega
          subst h0
          refine ⟨by simp, by rw [List.take_zero]; rfl, ?_⟩
          rw [List.drop_zero, lexL_cons, if_neg hbl, if_neg hok]
end Go.Proofs.YtcinojbfjiohjaaGreatDoor.Lx
end

section
namespace Go.Proofs.YtcinojbfjiohjaaGreatDoor.Lx
open Go Go.RowKit Go.Proofs.YtcinojbfjiohjaaGreatDoor.PPrintTells Go.Proofs.YtcinojbfjiohjaaGreatDoor.Ex Go.Proofs.YtcinojbfjiohjaaGreatDoor.Civ
set_option linter.unusedVariables false
set_option linter.unusedSimpArgs false
/-- A run ends where what follows does not go on. -/
theorem span_all (p : UInt8 → Bool) : ∀ (l r : List UInt8), l.all p = true → (∀ b, r.head? = some b → p b = false) → spanN p (l ++ r) = l.length
  | [], r, _, h => by
    cases r with
    | nil => rfl
    | cons b r =>
      show (if p b = true then spanN p r + 1 else 0) = 0
      rw [h b rfl]
      rfl
  | b :: l, r, ha, h => by
    rw [List.all_cons, Bool.and_eq_true] at ha
    show (if p b = true then spanN p (l ++ r) + 1 else 0) = _
    rw [if_pos ha.1, span_all p l r ha.2 h]
    rfl
theorem span_full (p : UInt8 → Bool) : ∀ l : List UInt8, spanN p l = l.length → l.all p = true
  | [], _ => rfl
  | b :: l, h => by
    by_cases hb : p b = true
    · have e : spanN p (b :: l) = spanN p l + 1 := by show (if p b = true then spanN p l + 1 else 0) = _; rw [if_pos hb]
      rw [e, List.length_cons] at h
      rw [List.all_cons, hb, span_full p l (by omega)]
      rfl
    · have e : spanN p (b :: l) = 0 := by show (if p b = true then spanN p l + 1 else 0) = _; rw [if_neg hb]
      rw [e, List.length_cons] at h
      omega
theorem all_imp {p q : UInt8 → Bool} (h : ∀ b, p b = true → q b = true) {l : List UInt8} (hl : l.all p = true) : l.all q = true :=
  List.all_eq_true.2 fun b hb => h b (List.all_eq_true.1 hl b hb)
theorem digit_letter (b : UInt8) (h : digitB b = true) : letterB b = true := by unfold letterB; rw [h, Bool.or_true]
theorem digit_dash (b : UInt8) (h : digitB b = true) : dashB b = true := by unfold dashB; rw [digit_letter b h, Bool.or_true]
theorem first_digit (b : UInt8) (h : b.toNat = 45 ∨ digitB b = true) : markB b = false ∧ b.toNat ≠ 64 ∧ blankB b = false := by
  have := byte_all (fun b => !(decide (b.toNat = 45) || digitB b) || (!markB b && decide (b.toNat ≠ 64) && !blankB b)) (by decide +kernel) b
  have e : (decide (b.toNat = 45) || digitB b) = true := by rw [Bool.or_eq_true, decide_eq_true_eq]; exact h
  rw [e] at this
  simpa [and_assoc] using this
theorem first_alpha (b : UInt8) (h : letterB b = true) (hd : digitB b = false) : markB b = false ∧ b.toNat ≠ 64 ∧ blankB b = false ∧ b.toNat ≠ 45 := by
  have := byte_all (fun b => !(letterB b && !digitB b) || (!markB b && decide (b.toNat ≠ 64) && !blankB b && decide (b.toNat ≠ 45))) (by decide +kernel) b
  rw [h, hd] at this
  simpa [and_assoc] using this
theorem mark_blank (b : UInt8) (h : markB b = true) : blankB b = false := by
  have := byte_all (fun b => !markB b || !blankB b) (by decide +kernel) b
  rw [h] at this
  simpa using this
theorem dash_letter (b : UInt8) (h : dashB b = false) : letterB b = false := by
  unfold dashB at h
  rw [Bool.or_eq_false_iff] at h
  exact h.2
theorem decFrom_le : ∀ (l : List UInt8) (acc u : Nat), Lib.decFrom acc l = some u → acc ≤ u
  | [], acc, u, h => by
    have h : some acc = some u := h
    injection h with h
    omega
  | b :: l, acc, u, h => by
    rw [Lib.decFrom] at h
    cases hd : Lib.digitVal b with
    | none => rw [hd] at h; cases h
    | some d =>
      rw [hd] at h
      have := decFrom_le l _ u h
      omega
theorem uint_dec : ∀ (l : List UInt8) (acc u : Nat), l.all digitB = true → Lib.decFrom acc l = some u → u < 18446744073709551616 → Lib.parseUint10 acc l = .ok u
  | [], acc, u, _, h, _ => by
    have h : some acc = some u := h
    injection h with h
    rw [h]
    rfl
  | b :: l, acc, u, ha, h, hu => by
    rw [List.all_cons, Bool.and_eq_true] at ha
    have hb : 48 ≤ b.toNat ∧ b.toNat ≤ 57 := by
      have := ha.1
      unfold digitB at this
      rw [Bool.and_eq_true, decide_eq_true_eq, decide_eq_true_eq] at this
      exact this
    have hd : Lib.digitVal b = some (b.toNat - 48) := by unfold Lib.digitVal; rw [if_pos hb]
    rw [Lib.decFrom, hd] at h
    have h : Lib.decFrom (acc * 10 + (b.toNat - 48)) l = some u := h
    have hle := decFrom_le l _ u h
    rw [Lib.parseUint10, if_pos hb, if_neg (by omega), if_neg (by omega)]
    exact uint_dec l _ u ha.2 h hu
theorem dec_first (u : Nat) : ∃ c r, Lib.decDigits u = c :: r ∧ digitB c = true ∧ r.all digitB = true := by
  have h := (decDigits_spec u).1
  cases hd : Lib.decDigits u with
  | nil =>
    exfalso
    by_cases h : u < 10
    · rw [Lib.decDigits_one h] at hd; cases hd
    · rw [Lib.decDigits, dif_neg h] at hd
      simp at hd
  | cons c r =>
    rw [hd, List.all_cons, Bool.and_eq_true] at h
    exact ⟨c, r, rfl, h.1, h.2⟩
theorem mag_dec (u : Nat) (hu : u < 18446744073709551616) : Lib.parseMag (Lib.decDigits u) = .ok u := by
  obtain ⟨c, r, h, _⟩ := dec_first u
  obtain ⟨s1, s2⟩ := decDigits_spec u
  unfold Lib.parseMag
  rw [if_neg (by rw [h]; exact List.cons_ne_nil _ _)]
  exact uint_dec _ 0 u s1 (by rw [s2, Nat.zero_mul, Nat.zero_add]) hu
theorem parse_itoa (n : Int) (h0 : -9223372036854775808 ≤ n) (h1 : n ≤ 9223372036854775807) : Lib.parseIntB 64 (Lib.itoa n) = .ok n := by
  rw [Lib.parseIntB_64]
  by_cases hn : n < 0
  · obtain ⟨u, rfl⟩ : ∃ u : Nat, n = -(u : Int) := ⟨n.natAbs, by omega⟩
    rw [Lib.itoa_neg u (by omega), Lib.atoiAll_minus, mag_dec u (by omega)]
    show (if 9223372036854775808 < u then _ else _) = _
    rw [if_neg (by omega)]
  · obtain ⟨u, rfl⟩ : ∃ u : Nat, n = (u : Int) := ⟨n.toNat, by omega⟩
    have hm := mag_dec u (by omega)
    rw [Lib.itoa_nonneg u]
    obtain ⟨c, r, h, hc, _⟩ := dec_first u
    rw [h] at hm ⊢
    have h45 : c.toNat ≠ 43 ∧ c.toNat ≠ 45 := by
      unfold digitB at hc
      rw [Bool.and_eq_true, decide_eq_true_eq, decide_eq_true_eq] at hc
      omega
    rw [Lib.atoiAll_plain c r h45.1 h45.2, hm]
    show (if 9223372036854775808 ≤ u then _ else _) = _
    rw [if_neg (by omega)]
theorem itoa_first (n : Int) : ∃ b l, Lib.itoa n = b :: l ∧ (b.toNat = 45 ∨ digitB b = true) ∧ l.all digitB = true := by
  by_cases hn : n < 0
  · obtain ⟨u, rfl⟩ : ∃ u : Nat, n = -(u : Int) := ⟨n.natAbs, by omega⟩
    rw [Lib.itoa_neg u (by omega)]
    exact ⟨45, _, rfl, .inl rfl, (decDigits_spec u).1⟩
  · obtain ⟨u, rfl⟩ : ∃ u : Nat, n = (u : Int) := ⟨n.toNat, by omega⟩
    rw [Lib.itoa_nonneg u]
    obtain ⟨c, r, h, hc, hr⟩ := dec_first u
    exact ⟨c, r, h, .inr hc, hr⟩
theorem pad_dash (n : Int) (k : Nat) (h0 : 0 ≤ n) (h1 : n < 10 ^ k) (hk : 1 ≤ k) : (padF n k).all dashB = true := all_imp digit_dash (padF_spec n k h0 h1 hk).2.1
theorem text_dash {n : Int} (hn : In n) : (textF n).1.data.toList.all dashB = true := by
  have hok := (date_ok hn).1
  have hm := hok.month
  have hd : 1 ≤ dyF n ∧ dyF n ≤ 31 := ⟨hok.2.2.2.2.1, by have := hok.2.2.2.2.2; have := len_le (yrF n) (moF n); omega⟩
  have hy0 := hok.1
  have hy1 := hok.2.1
  have ht : (textF n).1 = ⟨(ymdL (yrF n) (moF n) (dyF n)).toArray⟩ := by unfold textF; rw [if_pos hn]
  rw [ht]
  show ((ymdL (yrF n) (moF n) (dyF n)).toArray.toList).all dashB = true
  rw [List.toList_toArray]
  have key : ∀ z : Int, 0 ≤ z → z ≤ 9999 → (partsL z (moF n) (dyF n)).all dashB = true := by
    intro z hz0 hz1
    rw [partsL_eq]
    have p1 := pad_dash z 4 hz0 (by omega) (by omega)
    have p2 := pad_dash (moF n) 2 (by omega) (by omega) (by omega)
    have p3 := pad_dash (dyF n) 2 (by omega) (by omega) (by omega)
    simp only [List.all_append, List.all_cons, List.all_nil, p1, p2, p3, Bool.and_true, Bool.true_and]
    decide
  unfold ymdL
  split
  · rw [List.all_cons, key _ (by omega) (by omega)]
    decide
  · exact key _ (by omega) (by omega)
theorem size_nil {s : ByteArray} (h : s.toList.isEmpty = true) : s = nil8 := by
  rw [Lib.toList_data] at h
  cases s with
  | mk a =>
    have h : a.toList = [] := List.isEmpty_iff.1 h
    rw [show a = #[] from Array.toList_eq_nil_iff.1 h]
theorem next_text (t : Tok) (hW : TokW t) (hR : rightT t = true) (r : List UInt8) (hr : ∀ b, r.head? = some b → dashB b = false) :
    ∃ b l, (textT t).1.data.toList = b :: l ∧ blankB b = false ∧ nextL (b :: (l ++ r)) = (t, l.length + 1, true) := by
  have hr2 : ∀ b, r.head? = some b → letterB b = false := fun b h => dash_letter b (hr b h)
  obtain ⟨n0, n1, _⟩ := hW
  obtain ⟨k, s, n⟩ := t
  dsimp only at n0 n1
  unfold rightT at hR
  unfold textT at hR ⊢
  dsimp only at hR ⊢
  by_cases k1 : k = 1
  · subst k1
    rw [if_pos rfl] at hR ⊢
    dsimp only at hR ⊢
    rw [Bool.and_eq_true, Bool.and_eq_true, decide_eq_true_eq, decide_eq_true_eq] at hR
    obtain ⟨⟨h1, rfl⟩, h3⟩ := hR
    cases hL : s.data.toList with
    | nil => rw [hL] at h1; cases h1
    | cons b l =>
      have hsz : s.size = (b :: l).length := by rw [← hL]; exact (Array.length_toList).symm
      rw [hL, hsz] at h3
      rw [hL] at h1
      have hall := span_full _ _ h3
      have hd : digitB b = false := by
        have h1 : (decide (l.length < 30) && !digitB b) = true := h1
        rw [Bool.and_eq_true] at h1
        simpa using h1.2
      have hb : letterB b = true := by rw [List.all_cons, Bool.and_eq_true] at hall; exact hall.1
      obtain ⟨f1, f2, f3, f4⟩ := first_alpha b hb hd
      refine ⟨b, l, rfl, f3, ?_⟩
      have hsp : spanN letterB (b :: (l ++ r)) = l.length + 1 := span_all letterB (b :: l) r hall hr2
      have htk : (b :: (l ++ r)).take (l.length + 1) = b :: l := by
        rw [List.take_succ_cons, List.take_left]
      rw [nextL_else (by rw [f1]; decide), if_neg f2, if_neg (by rw [hd]; simpa using f4), hsp, htk, h1]
      have hs : toB (b :: l) = s := by
        cases s with
        | mk a =>
          have hL : a.toList = b :: l := hL
          show (⟨(b :: l).toArray⟩ : ByteArray) = _
          rw [← hL]
      rw [hs]
  · rw [if_neg k1] at hR ⊢
    by_cases k2 : k = 2
    · subst k2
      rw [if_pos rfl] at hR ⊢
      dsimp only at hR ⊢
      obtain rfl := size_nil hR
      obtain ⟨b, l, h, hb, hl⟩ := itoa_first n
      have hp := parse_itoa n n0 n1
      obtain ⟨f1, f2, f3⟩ := first_digit b hb
      refine ⟨b, l, by show (Lib.itoa n).toArray.toList = _; rw [List.toList_toArray, h], f3, ?_⟩
      have hsp : spanN letterB (l ++ r) = l.length := span_all letterB l r (all_imp digit_letter hl) hr2
      rw [nextL_else (by rw [f1]; decide), if_neg f2, if_pos hb, hsp, List.take_left]
      have hN : numT (b :: l) = (n, true) := by
        unfold numT
        rw [← h, hp]
        show (n, decide (Lib.itoa n = Lib.itoa n)) = _
        rw [decide_eq_true rfl]
      rw [hN]
    · rw [if_neg k2] at hR ⊢
      by_cases k3 : k = 3
      · subst k3
        rw [if_pos rfl] at hR ⊢
        dsimp only at hR ⊢
        rw [Bool.and_eq_true, decide_eq_true_eq] at hR
        obtain ⟨h1, h2⟩ := hR
        obtain rfl := size_nil h2
        have hn : In n := by
          unfold textF at h1
          split at h1
          · assumption
          · cases h1
        have hall := text_dash hn
        have hread := text_read hn
        obtain ⟨D, hD⟩ : ∃ D, D = (textF n).1.data.toList := ⟨_, rfl⟩
        have hT : (AT ++ (textF n).1).data.toList = 64 :: D := by
          rw [ByteArray.data_append, Array.toList_append, ← hD]
          rfl
        have hB : toB D = (textF n).1 := by
          cases hx : (textF n).1 with
          | mk a =>
            rw [hx] at hD
            show (⟨D.toArray⟩ : ByteArray) = _
            rw [hD]
        rw [← hD] at hall
        refine ⟨64, D, hT, by decide, ?_⟩
        have hsp : spanN dashB (D ++ r) = D.length := span_all dashB D r hall hr
        rw [nextL_else (by decide), if_pos (by decide), hsp, List.take_left, hB, hread]
        rfl
      · rw [if_neg k3] at hR ⊢
        by_cases k4 : k = 4
        · subst k4
          rw [if_pos rfl] at hR ⊢
          dsimp only at hR ⊢
          rw [Bool.and_eq_true, Bool.and_eq_true, decide_eq_true_eq, decide_eq_true_eq] at hR
          obtain ⟨⟨rfl, h2⟩, h3⟩ := hR
          have hsz : s.data.toList.length = 1 := by rw [← h2]; exact Array.length_toList
          obtain ⟨b, hb⟩ := List.length_eq_one_iff.1 hsz
          rw [hb, List.all_cons, Bool.and_eq_true] at h3
          refine ⟨b, [], hb, mark_blank b h3.1, ?_⟩
          show (if markB b = true then _ else _) = _
          rw [if_pos h3.1]
          have hs : toB [b] = s := by
            cases s with
            | mk a =>
              have hL : a.toList = [b] := hb
              show (⟨[b].toArray⟩ : ByteArray) = _
              rw [← hL]
          rw [hs]
          rfl
        · rw [if_neg k4] at hR
          cases hR
end Go.Proofs.YtcinojbfjiohjaaGreatDoor.Lx
end

section
namespace Go.Proofs.YtcinojbfjiohjaaGreatDoor.Civ
open Go Go.RowKit Go.Proofs.YtcinojbfjiohjaaGreatDoor.PPrintTells Go.Proofs.YtcinojbfjiohjaaGreatDoorW.PrintWords Go.Proofs.YtcinojbfjiohjaaGreatDoorW.PrintLast Go.Proofs.YtcinojbfjiohjaaGreatDoorW.PrintMore
set_option linter.unusedVariables false
set_option linter.unusedSimpArgs false
theorem inside_r (y : Int) : epactref04_inside.f y = some (decide (InY y)) := by
  unfold epactref04_inside.f InY
  by_cases h1 : -9999 ≤ y <;> by_cases h2 : y ≤ 9999 <;> simp [h1, h2]
theorem beg_in {y : Int} (h : InY y) : -4371587 ≤ beg y ∧ beg y ≤ 2932896 := by
  have := in_year h (Int.le_refl _) (by have := beg_lt_succ y; omega)
  exact this
theorem first_r (k : Nat) (y : Int) (hk : 1000000 ≤ k) (h0 : -9999 ≤ y) (h1 : y ≤ 10000) : epactref04_first.f k y = some (fst y) := by
  unfold epactref04_first.f
  rw [inside_r, Option.bind_some]
  by_cases hy : InY y
  · rw [if_pos (decide_eq_true hy), rDays_f k y 1 4 (by omega), daysF_ok ((ok_1 y 4 (by omega)).2 hy), dn_fourth, Option.bind_some, rWeekday_f, Option.bind_some]
    have hb := beg_in hy
    have hw := wdF_bd (beg y + 3)
    show some (wrap64 (wrap64 (beg y + 3 - wdF (beg y + 3)) + 1)) = _
    rw [w64 (x := beg y + 3 - wdF (beg y + 3)) (by omega) (by omega), w64 (by omega) (by omega)]
    unfold fst wdF
    congr 1
    omega
  · obtain rfl : y = 10000 := by unfold InY at hy; omega
    rw [if_neg (by simp [hy]), if_pos (by omega), rDays_f k 9999 12 31 (by omega), Option.bind_some, rWeekday_f, Option.bind_some]
    decide +kernel
theorem fst_bd {y : Int} (h0 : -9999 ≤ y) (h1 : y ≤ 10000) : -4371600 ≤ fst y ∧ fst y ≤ 2932910 := by
  have h := (fst_step y).2.2
  have h2 := beg_mono h0
  have h3 := beg_mono h1
  rw [beg_min] at h2
  rw [beg_max] at h3
  omega
theorem week_l0 (k : Nat) (n y z : Int) (hk : 1000000 ≤ k) (hn : In n) (hz0 : -10002 ≤ z) (hz1 : z ≤ 10002) (hy0 : -10000 ≤ y) (hy1 : y ≤ 10000) :
    epactref04_Week.l0 (k + 1) n y z = if z ≤ y + 1 then (if InY z ∧ wyr n = z then some (weekF n) else epactref04_Week.l0 k n y (z + 1)) else some (0, 0, 0, 30) := by
  rw [epactref04_Week.l0, w64 (x := y + 1) (by omega) (by omega)]
  by_cases hle : z ≤ y + 1
  · rw [if_pos hle, if_pos hle, inside_r, Option.bind_some, w64 (x := z + 1) (by omega) (by omega)]
    by_cases hi : InY z
    · have hi0 := hi.1
      have hi1 := hi.2
      rw [if_pos (decide_eq_true hi), first_r k z hk hi0 (by omega), Option.bind_some, first_r k (z + 1) hk (by omega) (by omega)]
      have hsp := wyr_spec n
      by_cases h1 : fst z ≤ n
      · rw [if_pos h1, Option.bind_some]
        by_cases h2 : n < fst (z + 1)
        · have hw : wyr n = z := wyr_of h1 h2
          have hs := fst_step z
          have b1 := fst_bd hi0 (show z ≤ 10000 by omega)
          have hnn := hn.1
          have hnn' := hn.2
          rw [if_pos h2, Option.bind_some, if_pos ⟨hi, hw⟩, weekF_in hn (by rw [hw]; exact hi), hw, w64 (x := n - fst z) (by omega) (by omega), tdiv_pos _ _ (by omega), tmod_pos _ _ (by omega), w64 (x := (n - fst z) / 7) (by omega) (by omega), w64 (x := (n - fst z) / 7 + 1) (by omega) (by omega), w64 (x := (n - fst z) % 7 + 1) (by omega) (by omega)]
          have hwd := wdF_fst n
          rw [hw] at hwd
          rw [hwd]
        · rw [if_neg h2, if_neg (fun h => h2 (by rw [← h.2]; exact hsp.2))]
      · rw [if_neg h1, if_neg (fun h => h1 (by rw [← h.2]; exact hsp.1))]
    · rw [if_neg (by simp [hi]), if_neg (fun h => hi h.1)]
  · rw [if_neg hle, if_neg hle]
theorem Week_r (k : Nat) (n : Int) (hk : 1000010 ≤ k) : epactref04_Week.f k n = some (weekF n) := by
  unfold epactref04_Week.f
  rw [rDate_f k n (by omega), Option.bind_some]
  by_cases hn : In n
  · rw [dateF_in hn]
    have hy := yrF_range hn
    have h1 : wrap64 (yrF n - 1) = yrF n - 1 := w64 (by omega) (by omega)
    show (if (0 : Int) = 0 then epactref04_Week.l0 k n (yrF n) (wrap64 (yrF n - 1)) else some (0, 0, 0, 30)) = _
    rw [if_pos rfl, h1]
    obtain ⟨m, rfl⟩ : ∃ m, k = m + 1 + 1 + 1 + 1 := ⟨k - 4, by omega⟩
    have hw : wyr n = yrF n - 1 ∨ wyr n = yrF n ∨ wyr n = yrF n + 1 := by
      unfold wyr
      split
      · exact .inl rfl
      · split
        · exact .inr (.inr rfl)
        · exact .inr (.inl rfl)
    have hno : ¬ InY (wyr n) → weekF n = (0, 0, 0, 30) := fun h => weekF_not (fun h' => h h'.2)
    rw [week_l0 _ n _ _ (by omega) hn (by omega) (by omega) (by omega) (by omega), if_pos (by omega)]
    by_cases c1 : InY (yrF n - 1) ∧ wyr n = yrF n - 1
    · rw [if_pos c1]
    rw [if_neg c1, week_l0 _ n _ _ (by omega) hn (by omega) (by omega) (by omega) (by omega), if_pos (by omega)]
    by_cases c2 : InY (yrF n - 1 + 1) ∧ wyr n = yrF n - 1 + 1
    · rw [if_pos c2]
    rw [if_neg c2, week_l0 _ n _ _ (by omega) hn (by omega) (by omega) (by omega) (by omega), if_pos (by omega)]
    by_cases c3 : InY (yrF n - 1 + 1 + 1) ∧ wyr n = yrF n - 1 + 1 + 1
    · rw [if_pos c3]
    rw [if_neg c3, week_l0 _ n _ _ (by omega) hn (by omega) (by omega) (by omega) (by omega), if_neg (by omega), hno]
    intro hi
    rcases hw with h | h | h
    · exact c1 ⟨by rw [← h]; exact hi, h⟩
    · exact c2 ⟨by rw [show yrF n - 1 + 1 = yrF n by omega, ← h]; exact hi, by omega⟩
    · exact c3 ⟨by rw [show yrF n - 1 + 1 + 1 = yrF n + 1 by omega, ← h]; exact hi, by omega⟩
  · rw [dateF_not hn, weekF_not (fun h => hn h.1)]
    rfl
theorem Nth_r (k : Nat) (n : Int) (hk : 1000000 ≤ k) : epactref04_Nth.f k n = some (nthF n) := by
  unfold epactref04_Nth.f
  rw [rDate_f k n (by omega), Option.bind_some]
  by_cases hn : In n
  · rw [dateF_in hn, nthF_in hn]
    have hy := yrF_range hn
    have hs := yrF_spec n
    have hb := beg_succ (yrF n)
    have hl := lp_bd (yrF n)
    show (if (0 : Int) = 0 then (epactref03_Days.f k (yrF n) 1 1).bind _ else _) = _
    rw [if_pos rfl, rDays_f k (yrF n) 1 1 (by omega), daysF_ok ((ok_1 (yrF n) 1 (by omega)).2 hy), dn_first, Option.bind_some]
    show some (yrF n, wrap64 (wrap64 (n - beg (yrF n)) + 1), (0 : Int)) = _
    rw [w64 (x := n - beg (yrF n)) (by omega) (by omega), w64 (by omega) (by omega)]
  · rw [dateF_not hn, nthF_not hn]
    rfl
end Go.Proofs.YtcinojbfjiohjaaGreatDoor.Civ
end

section
namespace Go.Proofs.YtcinojbfjiohjaaGreatDoor.Civ
open Go Go.RowKit Go.Proofs.YtcinojbfjiohjaaGreatDoor.PPrintTells Go.Proofs.YtcinojbfjiohjaaGreatDoorW.PrintWords Go.Proofs.YtcinojbfjiohjaaGreatDoorW.PrintLast Go.Proofs.YtcinojbfjiohjaaGreatDoorW.PrintMore Go.Proofs.YtcinojbfjiohjaaGreatDoor.Ex
set_option linter.unusedVariables false
set_option linter.unusedSimpArgs false
theorem toB_app (a b : List UInt8) : toB a ++ toB b = toB (a ++ b) := by
  apply ByteArray.ext
  rw [ByteArray.data_append]
  show a.toArray ++ b.toArray = (a ++ b).toArray
  simp
theorem texts_bytes (L : List UInt8) : (toB L).size = L.length := by show L.toArray.size = _; simp
/-- The last so many digits. -/
def digs : Nat → Nat → List UInt8
  | 0, _ => []
  | m + 1, x => digs m (x / 10) ++ [UInt8.ofNat (48 + x % 10)]
theorem digs_spec (m : Nat) : ∀ x, (digs m x).length = m ∧ (digs m x).all digitB = true ∧ ∀ acc, Lib.decFrom acc (digs m x) = some (acc * 10 ^ m + x % 10 ^ m) := by
  induction m with
  | zero => intro x; exact ⟨rfl, rfl, fun acc => by simp [digs, Lib.decFrom, Nat.mod_one]⟩
  | succ m ih =>
    intro x
    obtain ⟨a, b, c⟩ := ih (x / 10)
    have hd := digit_of (x % 10) (by omega)
    refine ⟨by rw [digs, List.length_append, a]; rfl, by rw [digs, List.all_append, b, List.all_cons, hd.1]; rfl, fun acc => ?_⟩
    rw [digs, decFrom_append, c]
    show Lib.decFrom _ [UInt8.ofNat (48 + x % 10)] = _
    rw [Lib.decFrom, hd.2.1]
    show some _ = _
    congr 1
    rw [Nat.pow_succ, Nat.add_mul, Nat.mul_assoc, show x % (10 ^ m * 10) = x % (10 * 10 ^ m) by rw [Nat.mul_comm], Nat.mod_mul]
    rw [Nat.mul_comm (x / 10 % 10 ^ m) 10]
    omega
theorem digs_pad (m : Nat) (n : Int) (hm : 1 ≤ m) (h0 : 0 ≤ n) (h1 : n < 10 ^ m) : digs m n.toNat = padF n m := by
  obtain ⟨a, b, c⟩ := digs_spec m n.toNat
  have hne : digs m n.toNat ≠ [] := fun he => by rw [he] at a; simp at a; omega
  have hv : natv (digs m n.toNat) = n := by
    rw [natv_val hne]
    unfold val
    rw [c]
    have h2 : n.toNat < 10 ^ m := by
      have : (n.toNat : Int) = n := by omega
      have h3 : ((n.toNat : Nat) : Int) < ((10 ^ m : Nat) : Int) := by rw [this]; push_cast; exact h1
      exact_mod_cast h3
    rw [Nat.mod_eq_of_lt h2]
    show (((0 * 10 ^ m + n.toNat : Nat)) : Int) = n
    rw [Nat.zero_mul, Nat.zero_add]
    omega
  have hp := (pad_of hm a b).1
  rw [hv] at hp
  exact hp.symm
theorem digits_l0 (j : Nat) : ∀ (k : Nat) (x : Int) (many i : Int) (acc : List UInt8), j < k → 0 ≤ x → x ≤ 100000 → many = i + j → 0 ≤ i → many ≤ 100 → (acc.length : Int) ≤ i →
    epactref04_digits.l0 k x many (toB acc) i = some (toB (digs j x.toNat ++ acc)) := by
  induction j with
  | zero =>
    intro k x many i acc hk h0 h1 hm hi hm2 ha
    obtain ⟨k, rfl⟩ : ∃ m, k = m + 1 := ⟨k - 1, by omega⟩
    rw [epactref04_digits.l0, if_neg (by omega)]
    rfl
  | succ j ih =>
    intro k x many i acc hk h0 h1 hm hi hm2 ha
    obtain ⟨k, rfl⟩ : ∃ m, k = m + 1 := ⟨k - 1, by omega⟩
    have hmod := Int.emod_nonneg x (show (10 : Int) ≠ 0 by omega)
    have hmod2 := Int.emod_lt_of_pos x (show (0 : Int) < 10 by omega)
    have e1 : Int.tmod x 10 = x % 10 := tmod_pos _ _ h0
    have e2 : Int.tdiv x 10 = x / 10 := tdiv_pos _ _ h0
    have hs : strOfNums [(48 + ((Int.tmod x 10) % 256)) % 256] = toB [UInt8.ofNat (48 + x.toNat % 10)] := by
      rw [e1]
      unfold strOfNums toB
      have : ((48 + x % 10 % 256) % 256).toNat = 48 + x.toNat % 10 := by omega
      simp only [List.map_cons, List.map_nil, this]
    rw [epactref04_digits.l0, if_pos (by omega), Option.bind_some, hs, texts_bytes, texts_bytes, if_pos (by simp; omega), toB_app, e2, w64 (x := x / 10) (by omega) (by omega), w64 (x := i + 1) (by omega) (by omega)]
    rw [ih k (x / 10) many (i + 1) _ (by omega) (by omega) (by omega) (by omega) (by omega) hm2 (by simp; omega)]
    have : (x / 10).toNat = x.toNat / 10 := by omega
    rw [this, digs, List.append_assoc]
theorem digits_r (k : Nat) (n : Int) (m : Nat) (hk : 100 ≤ k) (hm : 1 ≤ m) (hm2 : m ≤ 4) (h0 : 0 ≤ n) (h1 : n < 10 ^ m) : epactref04_digits.f k n (m : Nat) = some (toB (padF n m)) := by
  unfold epactref04_digits.f
  have hb : n ≤ 100000 := by
    rcases (show m = 1 ∨ m = 2 ∨ m = 3 ∨ m = 4 by omega) with rfl | rfl | rfl | rfl <;> omega
  have := digits_l0 m k n m 0 [] (by omega) h0 hb (by omega) (by omega) (by omega) (by simp)
  rw [List.append_nil, digs_pad m n hm h0 h1] at this
  exact this
theorem year_r (k : Nat) (y : Int) (hk : 100 ≤ k) (hy : InY y) : epactref04_year.f k y = some (toB (yearL y)) := by
  obtain ⟨h0, h1⟩ := hy
  unfold epactref04_year.f yearL
  by_cases h : y < 0
  · have hp := padF_spec (-y) 4 (by omega) (by omega) (by omega)
    rw [if_pos h, if_pos h, w64 (x := -y) (by omega) (by omega)]
    have := digits_r k (-y) 4 hk (by omega) (by omega) (by omega) (by omega)
    rw [show ((4 : Nat) : Int) = 4 from rfl] at this
    rw [this, Option.bind_some, texts_bytes, if_pos (by omega)]
    show some (toB [45] ++ toB (padF (-y) 4)) = _
    rw [toB_app]
    rfl
  · rw [if_neg h, if_neg h]
    have := digits_r k y 4 hk (by omega) (by omega) (by omega) (by omega)
    rw [show ((4 : Nat) : Int) = 4 from rfl] at this
    rw [this]
    rfl
theorem yearL_len {y : Int} (h : InY y) : (yearL y).length ≤ 5 := by
  obtain ⟨a, b, c, d, e, _⟩ := yearL_shape h
  rw [e, List.length_append]
  rcases sgn_len y with ⟨l, _⟩ | ⟨l, _⟩ <;> rw [l] <;> simp
theorem Texts_r (k : Nat) (n : Int) (hk : 1000010 ≤ k) : epactref04_Texts.f k n = some ((textsL n).map toB) := by
  unfold epactref04_Texts.f textsL
  rw [rDate_f k n (by omega), Option.bind_some]
  by_cases hn : In n
  · rw [dateF_in hn, if_pos hn]
    have hok := (date_ok hn).1
    have hm := hok.month
    have hd : 1 ≤ dyF n ∧ dyF n ≤ 31 := ⟨hok.2.2.2.2.1, by have := hok.2.2.2.2.2; have := len_le (yrF n) (moF n); omega⟩
    have hy : InY (yrF n) := yrF_range hn
    have hs := yrF_spec n
    have hbs := beg_succ (yrF n)
    have hlp := lp_bd (yrF n)
    have D1 := digits_r k (moF n) 2 (by omega) (by omega) (by omega) (by omega) (by omega)
    have D2 := digits_r k (dyF n) 2 (by omega) (by omega) (by omega) (by omega) (by omega)
    have D3 := digits_r k (n - beg (yrF n) + 1) 3 (by omega) (by omega) (by omega) (by omega) (by omega)
    have l0 := yearL_len hy
    have l1 := (padF_spec (moF n) 2 (by omega) (by omega) (by omega)).1
    have l2 := (padF_spec (dyF n) 2 (by omega) (by omega) (by omega)).1
    have l3 := (padF_spec (n - beg (yrF n) + 1) 3 (by omega) (by omega) (by omega)).1
    rw [show ((2 : Nat) : Int) = 2 from rfl] at D1 D2
    rw [show ((3 : Nat) : Int) = 3 from rfl] at D3
    have c1 : (⟨#[45]⟩ : ByteArray) = toB [45] := rfl
    have c2 : (⟨#[45, 87]⟩ : ByteArray) = toB [45, 87] := rfl
    simp only [c1, c2]
    simp only [if_true, year_r k (yrF n) (by omega) hy, Option.bind_some, D1, D2, toB_app, texts_bytes, Nth_r k n (by omega), nthF_in hn, D3, Week_r k n (by omega)]
    rw [if_pos (by omega), if_pos (by simp [l1]; omega), if_pos (by simp [l1]; omega), if_pos (by simp [l1, l2]; omega), if_pos (by omega), if_pos (by simp [l3]; omega), if_pos (by simp)]
    by_cases hi : InY (wyr n)
    · rw [weekF_in hn hi, if_pos rfl]
      have hsp := wyr_spec n
      have hst := fst_step (wyr n)
      have hwd := wdF_bd n
      have D4 := digits_r k ((n - fst (wyr n)) / 7 + 1) 2 (by omega) (by omega) (by omega) (by omega) (by omega)
      have D5 := digits_r k (wdF n) 1 (by omega) (by omega) (by omega) (by omega) (by omega)
      have l4 := (padF_spec ((n - fst (wyr n)) / 7 + 1) 2 (by omega) (by omega) (by omega)).1
      have l5 := (padF_spec (wdF n) 1 (by omega) (by omega) (by omega)).1
      have l6 := yearL_len hi
      rw [show ((2 : Nat) : Int) = 2 from rfl] at D4
      rw [show ((1 : Nat) : Int) = 1 from rfl] at D5
      simp only [year_r k (wyr n) (by omega) hi, Option.bind_some, D4, D5, toB_app, texts_bytes]
      rw [if_pos (by omega), if_pos (by simp [l4]; omega), if_pos (by simp [l4]; omega), if_pos (by simp [l4, l5]; omega), if_pos (by simp), if_pos hi]
      unfold form1 form2 form3
      simp [List.append_assoc]
    · rw [weekF_not (fun h => hi h.2), if_neg (by decide), if_neg hi]
      unfold form1 form2
      simp [List.append_assoc]
  · rw [dateF_not hn, if_neg hn]
    rfl
end Go.Proofs.YtcinojbfjiohjaaGreatDoor.Civ
end

section
namespace Go.Proofs.YtcinojbfjiohjaaGreatDoor.PPrintTells
open Go.RowKit Go.Proofs.YtcinojbfjiohjaaGreatDoorW.PrintWords Go.Proofs.YtcinojbfjiohjaaGreatDoorW.PrintLast Go.Proofs.YtcinojbfjiohjaaGreatDoorW.PrintMore
attribute [local go_sem] max2_int min2_int max_two min_two max_three min_three max_four min_four   -- for this text's walks alone
set_option linter.unusedVariables false
set_option linter.unusedSimpArgs false
def epactref04_number.l0 : Nat → ByteArray → Int → Int → Option (Int)
  | 0, _, _, _ => none
  | k + 1, x0, x3, x4 => if x4 < (x0.size : Int) then (if 0 ≤ x4 then (if (bt x0 x4) < 48 then (some (-1)) else (if (bt x0 x4) > 57 then (some (-1)) else (epactref04_number.l0 k x0 (wrap64 ((wrap64 (x3 * 10)) + (((bt x0 x4) - 48) % 256))) (wrap64 (x4 + 1))))) else (none)) else (some x3)
def epactref04_number.f (k : Nat) (a0 : ByteArray) : Option (Int) := epactref04_number.l0 k a0 0 0
theorem epactref04_number.mono_l : ∀ k, (∀ y0 y1 y2, LeO (epactref04_number.l0 k y0 y1 y2) (epactref04_number.l0 (k + 1) y0 y1 y2))
  | 0 => fun _ _ _ r h => by simp [epactref04_number.l0] at h
  | k + 1 => by
    have ih0 := epactref04_number.mono_l k
    · intro y0 y1 y2
      unfold epactref04_number.l0
      repeat' first
      | (with_reducible exact ih0 _ _ _)
      | (with_reducible exact LeO.refl _)
      | (with_reducible exact LeO.none _)
      | (with_reducible refine LeO.ite ?_ ?_)
      | (with_reducible refine LeO.bind ?_ (fun _ => ?_))
      | exact ih0 _ _ _
      | exact LeO.none _
      | refine LeO.ite ?_ ?_
      | refine LeO.bind ?_ (fun _ => ?_)
theorem epactref04_number.mono : ∀ a0 k, LeO (epactref04_number.f k a0) (epactref04_number.f (k + 1) a0) := by
  intro a0 k
  have ih0 := epactref04_number.mono_l k
  unfold epactref04_number.f
  repeat' first
      | (with_reducible exact ih0 _ _ _)
      | (with_reducible exact LeO.refl _)
      | (with_reducible exact LeO.none _)
      | (with_reducible refine LeO.ite ?_ ?_)
      | (with_reducible refine LeO.bind ?_ (fun _ => ?_))
      | exact ih0 _ _ _
      | exact LeO.none _
      | refine LeO.ite ?_ ?_
      | refine LeO.bind ?_ (fun _ => ?_)
set_option maxHeartbeats 8000000 in
set_option maxRecDepth 100000 in
theorem epactref04_number.calls (k : Nat) (a0 : ByteArray) (r : Int) (w : World) (h : epactref04_number.f k a0 = some r) :
    Calls Tryz.prog 145 #[.string a0] w fun e w' => e = .returned (.int .i64 r) ∧ Drawn0 w w' := by
  have H : (epactref04_number.l0 k a0 0 0) = some r := h
  clear h
  have H' := Aside0.mk H
  clear H
  go_enter Tryz.func145, Tryz.ntmps145
  go_wp2
  go_loopg [3, 4] k (fun kq v3 v4 w' => ∃ (x3_1 : Int) (x4_1 : Int), v3 = .int .i64 x3_1 ∧ v4 = .int .i64 x4_1 ∧ Aside0 (epactref04_number.l0 kq a0 x3_1 x4_1 = some r) ∧ Aside0 (kq ≤ k) ∧ Drawn0 w w')
  case atStart => exact ⟨(0), (0), (by first | rfl | (simp; done) | (simp [*]; done)), (by first | rfl | (simp; done) | (simp [*]; done)), H', ⟨Nat.le_refl _⟩, by repeat (first | exact Drawn0.refl _ | apply Drawn0.step)⟩
  case round =>
    clear H'
    try clear c1
    obtain ⟨x3_1, x4_1, rfl, rfl, HA, HK1, ⟨m1, rfl⟩⟩ := hrel
    cases gk with
    | zero => exact absurd HA.out (by simp [epactref04_number.l0])
    | succ k1 =>
      have H := HA.out
      clear HA
      simp only [epactref04_number.l0] at H
      by_cases c2 : x4_1 < (a0.size : Int)
      · rw [if_pos c2] at H
        have c2b0 : decide (x4_1 < (a0.size : Int)) = true := decide_eq_true c2
        clear c2
        by_cases c3 : 0 ≤ x4_1
        · rw [if_pos c3] at H
          have c3b0 : decide (0 ≤ x4_1) = true := decide_eq_true c3
          clear c3
          by_cases c5 : (bt a0 x4_1) < 48
          · rw [if_pos c5] at H
            have c5b0 : decide ((bt a0 x4_1) < 48) = true := decide_eq_true c5
            clear c5
            obtain rfl := Option.some.inj H
            have p4 : 0 ≤ (x4_1 : Int) := of_decide_eq_true (by first | (with_reducible assumption) | assumption)
            have q4 : x4_1 < (a0.size : Int) := of_decide_eq_true (by first | (with_reducible assumption) | assumption)
            have hx4 := bt_at a0 x4_1
            replace p4 := eq_true p4
            replace q4 := eq_true q4
            go_wp2
            go_ret
            exact ⟨by first | rfl | (simp; done) | (simp [*]; done), by repeat (first | exact Drawn0.refl _ | apply Drawn0.step)⟩
          · rw [if_neg c5] at H
            have c5b0 : decide ((bt a0 x4_1) < 48) = false := decide_eq_false c5
            clear c5
            by_cases c7 : (bt a0 x4_1) > 57
            · rw [if_pos c7] at H
              have c7b0 : decide (57 < (bt a0 x4_1)) = true := decide_eq_true c7
              clear c7
              obtain rfl := Option.some.inj H
              have p4 : 0 ≤ (x4_1 : Int) := of_decide_eq_true (by first | (with_reducible assumption) | assumption)
              have q4 : x4_1 < (a0.size : Int) := of_decide_eq_true (by first | (with_reducible assumption) | assumption)
              have hx4 := bt_at a0 x4_1
              replace p4 := eq_true p4
              replace q4 := eq_true q4
              have p6 : 0 ≤ (x4_1 : Int) := of_decide_eq_true (by first | (with_reducible assumption) | assumption)
              have q6 : x4_1 < (a0.size : Int) := of_decide_eq_true (by first | (with_reducible assumption) | assumption)
              have hx6 := bt_at a0 x4_1
              replace p6 := eq_true p6
              replace q6 := eq_true q6
              go_wp2
              go_ret
              exact ⟨by first | rfl | (simp; done) | (simp [*]; done), by repeat (first | exact Drawn0.refl _ | apply Drawn0.step)⟩
            · rw [if_neg c7] at H
              have c7b0 : decide (57 < (bt a0 x4_1)) = false := decide_eq_false c7
              clear c7
              have H' := Aside0.mk H
              clear H
              have p4 : 0 ≤ (x4_1 : Int) := of_decide_eq_true (by first | (with_reducible assumption) | assumption)
              have q4 : x4_1 < (a0.size : Int) := of_decide_eq_true (by first | (with_reducible assumption) | assumption)
              have hx4 := bt_at a0 x4_1
              replace p4 := eq_true p4
              replace q4 := eq_true q4
              have p6 : 0 ≤ (x4_1 : Int) := of_decide_eq_true (by first | (with_reducible assumption) | assumption)
              have q6 : x4_1 < (a0.size : Int) := of_decide_eq_true (by first | (with_reducible assumption) | assumption)
              have hx6 := bt_at a0 x4_1
              replace p6 := eq_true p6
              replace q6 := eq_true q6
              have p8 : 0 ≤ (x4_1 : Int) := of_decide_eq_true (by first | (with_reducible assumption) | assumption)
              have q8 : x4_1 < (a0.size : Int) := of_decide_eq_true (by first | (with_reducible assumption) | assumption)
              have hx8 := bt_at a0 x4_1
              replace p8 := eq_true p8
              replace q8 := eq_true q8
              go_wp2
              go_roundg k1
              case measure => have := HK1.out; omega
              case rel => exact ⟨(wrap64 ((wrap64 (x3_1 * 10)) + (((bt a0 x4_1) - 48) % 256))), (wrap64 (x4_1 + 1)), (by first | rfl | (simp; done) | (simp [*]; done)), (by first | rfl | (simp; done) | (simp [*]; done)), H', ⟨by have := HK1.out; omega⟩, by repeat (first | exact Drawn0.refl _ | apply Drawn0.step)⟩
        · rw [if_neg c3] at H
          exact absurd H (by simp)
      · rw [if_neg c2] at H
        have c2b0 : decide (x4_1 < (a0.size : Int)) = false := decide_eq_false c2
        clear c2
        obtain rfl := Option.some.inj H
        go_wp2
        go_ret
        exact ⟨by first | rfl | (simp; done) | (simp [*]; done), by repeat (first | exact Drawn0.refl _ | apply Drawn0.step)⟩
mutual
def epactref04_Read.j0 : Nat → ByteArray → Int → Bool → Option (Int × Int)
  | 0, _, _, _ => none
  | k + 1, x0, x4, x18 => if x18 = true then (epactref04_Read.j1 k x0 1) else (epactref04_Read.j1 k x0 x4)
def epactref04_Read.j1 : Nat → ByteArray → Int → Option (Int × Int)
  | 0, _, _ => none
  | k + 1, x0, x4 => if (x0.size : Int) < (wrap64 (x4 + 8)) then (some (0, 30)) else (if 0 ≤ x4 then (if x4 ≤ (wrap64 (x4 + 4)) then (if (wrap64 (x4 + 4)) ≤ (x0.size : Int) then ((epactref04_number.f k (x0.extract (x4 : Int).toNat ((wrap64 (x4 + 4)) : Int).toNat)).bind fun t235 => (if t235 < 0 then (some (0, 30)) else (if x4 = 1 then (epactref04_Read.j2 k x0 (wrap64 (-t235))) else (epactref04_Read.j2 k x0 t235)))) else (none)) else (none)) else (none))
def epactref04_Read.j2 : Nat → ByteArray → Int → Option (Int × Int)
  | 0, _, _ => none
  | k + 1, x0, x5 => (epactref03_Days.f k x5 1 1).bind fun bt236 => (if bt236.2 = 0 then (epactref04_Read.l0 k x0 bt236.1 (wrap64 (bt236.1 - 7))) else (some (0, 30)))
def epactref04_Read.l0 : Nat → ByteArray → Int → Int → Option (Int × Int)
  | 0, _, _, _ => none
  | k + 1, x0, x6, x8 => if x8 < (wrap64 (x6 + 373)) then ((epactref04_Texts.f k x8).bind fun t238 => (epactref04_Read.l1 k x0 x6 x8 t238 0)) else (some (0, 30))
def epactref04_Read.l1 : Nat → ByteArray → Int → Int → List ByteArray → Int → Option (Int × Int)
  | 0, _, _, _, _, _ => none
  | k + 1, x0, x6, x8, x9, x10 => if x10 < (x9.length : Int) then (if 0 ≤ x10 then (if (rdOf ByteArray.empty x9 x10).toList = x0.toList then (some (x8, 0)) else (epactref04_Read.l1 k x0 x6 x8 x9 (wrap64 (x10 + 1)))) else (none)) else (epactref04_Read.l0 k x0 x6 (wrap64 (x8 + 1)))
end
def epactref04_Read.f (k : Nat) (a0 : ByteArray) : Option (Int × Int) := if (a0.size : Int) > 0 then (if 0 < (a0.size : Int) then (epactref04_Read.j0 k a0 0 ((bt a0 0) == 45)) else (none)) else (epactref04_Read.j0 k a0 0 false)
theorem epactref04_Read.mono_l : ∀ k, (∀ y0 y1 y2, LeO (epactref04_Read.j0 k y0 y1 y2) (epactref04_Read.j0 (k + 1) y0 y1 y2)) ∧ (∀ y0 y1, LeO (epactref04_Read.j1 k y0 y1) (epactref04_Read.j1 (k + 1) y0 y1)) ∧ (∀ y0 y1, LeO (epactref04_Read.j2 k y0 y1) (epactref04_Read.j2 (k + 1) y0 y1)) ∧ (∀ y0 y1 y2, LeO (epactref04_Read.l0 k y0 y1 y2) (epactref04_Read.l0 (k + 1) y0 y1 y2)) ∧ (∀ y0 y1 y2 y3 y4, LeO (epactref04_Read.l1 k y0 y1 y2 y3 y4) (epactref04_Read.l1 (k + 1) y0 y1 y2 y3 y4))
  | 0 => ⟨fun _ _ _ r h => by simp [epactref04_Read.j0] at h, fun _ _ r h => by simp [epactref04_Read.j1] at h, fun _ _ r h => by simp [epactref04_Read.j2] at h, fun _ _ _ r h => by simp [epactref04_Read.l0] at h, fun _ _ _ _ _ r h => by simp [epactref04_Read.l1] at h⟩
  | k + 1 => by
    obtain ⟨ih0, ih1, ih2, ih3, ih4⟩ := epactref04_Read.mono_l k
    refine ⟨?_, ?_, ?_, ?_, ?_⟩
    · intro y0 y1 y2
      unfold epactref04_Read.j0
      repeat' first
      | (with_reducible exact ih0 _ _ _)
      | (with_reducible exact ih1 _ _)
      | (with_reducible exact ih2 _ _)
      | (with_reducible exact ih3 _ _ _)
      | (with_reducible exact ih4 _ _ _ _ _)
      | (with_reducible exact epactref03_Days.mono _ _ _ _)
      | (with_reducible exact epactref04_Texts.mono _ _)
      | (with_reducible exact epactref04_number.mono _ _)
      | (with_reducible exact LeO.refl _)
      | (with_reducible exact LeO.none _)
      | (with_reducible refine LeO.ite ?_ ?_)
      | (with_reducible refine LeO.bind ?_ (fun _ => ?_))
      | exact ih0 _ _ _
      | exact ih1 _ _
      | exact ih2 _ _
      | exact ih3 _ _ _
      | exact ih4 _ _ _ _ _
      | exact epactref03_Days.mono _ _ _ _
      | exact epactref04_Texts.mono _ _
      | exact epactref04_number.mono _ _
      | exact LeO.none _
      | refine LeO.ite ?_ ?_
      | refine LeO.bind ?_ (fun _ => ?_)
    · intro y0 y1
      unfold epactref04_Read.j1
      repeat' first
      | (with_reducible exact ih0 _ _ _)
      | (with_reducible exact ih1 _ _)
      | (with_reducible exact ih2 _ _)
      | (with_reducible exact ih3 _ _ _)
      | (with_reducible exact ih4 _ _ _ _ _)
      | (with_reducible exact epactref03_Days.mono _ _ _ _)
      | (with_reducible exact epactref04_Texts.mono _ _)
      | (with_reducible exact epactref04_number.mono _ _)
      | (with_reducible exact LeO.refl _)
      | (with_reducible exact LeO.none _)
      | (with_reducible refine LeO.ite ?_ ?_)
      | (with_reducible refine LeO.bind ?_ (fun _ => ?_))
      | exact ih0 _ _ _
      | exact ih1 _ _
      | exact ih2 _ _
      | exact ih3 _ _ _
      | exact ih4 _ _ _ _ _
      | exact epactref03_Days.mono _ _ _ _
      | exact epactref04_Texts.mono _ _
      | exact epactref04_number.mono _ _
      | exact LeO.none _
      | refine LeO.ite ?_ ?_
      | refine LeO.bind ?_ (fun _ => ?_)
    · intro y0 y1
      unfold epactref04_Read.j2
      repeat' first
      | (with_reducible exact ih0 _ _ _)
      | (with_reducible exact ih1 _ _)
      | (with_reducible exact ih2 _ _)
      | (with_reducible exact ih3 _ _ _)
      | (with_reducible exact ih4 _ _ _ _ _)
      | (with_reducible exact epactref03_Days.mono _ _ _ _)
      | (with_reducible exact epactref04_Texts.mono _ _)
      | (with_reducible exact epactref04_number.mono _ _)
      | (with_reducible exact LeO.refl _)
      | (with_reducible exact LeO.none _)
      | (with_reducible refine LeO.ite ?_ ?_)
      | (with_reducible refine LeO.bind ?_ (fun _ => ?_))
      | exact ih0 _ _ _
      | exact ih1 _ _
      | exact ih2 _ _
      | exact ih3 _ _ _
      | exact ih4 _ _ _ _ _
      | exact epactref03_Days.mono _ _ _ _
      | exact epactref04_Texts.mono _ _
      | exact epactref04_number.mono _ _
      | exact LeO.none _
      | refine LeO.ite ?_ ?_
      | refine LeO.bind ?_ (fun _ => ?_)
    · intro y0 y1 y2
      unfold epactref04_Read.l0
      repeat' first
      | (with_reducible exact ih0 _ _ _)
      | (with_reducible exact ih1 _ _)
      | (with_reducible exact ih2 _ _)
      | (with_reducible exact ih3 _ _ _)
      | (with_reducible exact ih4 _ _ _ _ _)
      | (with_reducible exact epactref03_Days.mono _ _ _ _)
      | (with_reducible exact epactref04_Texts.mono _ _)
      | (with_reducible exact epactref04_number.mono _ _)
      | (with_reducible exact LeO.refl _)
      | (with_reducible exact LeO.none _)
      | (with_reducible refine LeO.ite ?_ ?_)
      | (with_reducible refine LeO.bind ?_ (fun _ => ?_))
      | exact ih0 _ _ _
      | exact ih1 _ _
      | exact ih2 _ _
      | exact ih3 _ _ _
      | exact ih4 _ _ _ _ _
      | exact epactref03_Days.mono _ _ _ _
      | exact epactref04_Texts.mono _ _
      | exact epactref04_number.mono _ _
      | exact LeO.none _
      | refine LeO.ite ?_ ?_
      | refine LeO.bind ?_ (fun _ => ?_)
    · intro y0 y1 y2 y3 y4
      unfold epactref04_Read.l1
      repeat' first
      | (with_reducible exact ih0 _ _ _)
      | (with_reducible exact ih1 _ _)
      | (with_reducible exact ih2 _ _)
      | (with_reducible exact ih3 _ _ _)
      | (with_reducible exact ih4 _ _ _ _ _)
      | (with_reducible exact epactref03_Days.mono _ _ _ _)
      | (with_reducible exact epactref04_Texts.mono _ _)
      | (with_reducible exact epactref04_number.mono _ _)
      | (with_reducible exact LeO.refl _)
      | (with_reducible exact LeO.none _)
      | (with_reducible refine LeO.ite ?_ ?_)
      | (with_reducible refine LeO.bind ?_ (fun _ => ?_))
      | exact ih0 _ _ _
      | exact ih1 _ _
      | exact ih2 _ _
      | exact ih3 _ _ _
      | exact ih4 _ _ _ _ _
      | exact epactref03_Days.mono _ _ _ _
      | exact epactref04_Texts.mono _ _
      | exact epactref04_number.mono _ _
      | exact LeO.none _
      | refine LeO.ite ?_ ?_
      | refine LeO.bind ?_ (fun _ => ?_)
theorem epactref04_Read.mono : ∀ a0 k, LeO (epactref04_Read.f k a0) (epactref04_Read.f (k + 1) a0) := by
  intro a0 k
  obtain ⟨ih0, ih1, ih2, ih3, ih4⟩ := epactref04_Read.mono_l k
  unfold epactref04_Read.f
  repeat' first
      | (with_reducible exact ih0 _ _ _)
      | (with_reducible exact ih1 _ _)
      | (with_reducible exact ih2 _ _)
      | (with_reducible exact ih3 _ _ _)
      | (with_reducible exact ih4 _ _ _ _ _)
      | (with_reducible exact epactref03_Days.mono _ _ _ _)
      | (with_reducible exact epactref04_Texts.mono _ _)
      | (with_reducible exact epactref04_number.mono _ _)
      | (with_reducible exact LeO.refl _)
      | (with_reducible exact LeO.none _)
      | (with_reducible refine LeO.ite ?_ ?_)
      | (with_reducible refine LeO.bind ?_ (fun _ => ?_))
      | exact ih0 _ _ _
      | exact ih1 _ _
      | exact ih2 _ _
      | exact ih3 _ _ _
      | exact ih4 _ _ _ _ _
      | exact epactref03_Days.mono _ _ _ _
      | exact epactref04_Texts.mono _ _
      | exact epactref04_number.mono _ _
      | exact LeO.none _
      | refine LeO.ite ?_ ?_
      | refine LeO.bind ?_ (fun _ => ?_)
set_option maxHeartbeats 8000000 in
set_option maxRecDepth 100000 in
theorem epactref04_Read.calls (k : Nat) (a0 : ByteArray) (r1 : Int) (r2 : Int) (w : World) (h : epactref04_Read.f k a0 = some (r1, r2)) :
    Calls Tryz.prog 111 #[.string a0] w fun e w' => e = .returned (.tuple #[.int .i64 r1, .int .i64 r2]) ∧ Below w.heap.size w w' := by
  have HB := Aside0.mk (Below.refl w.heap.size w)
  have H : (if (a0.size : Int) > 0 then (if 0 < (a0.size : Int) then (epactref04_Read.j0 k a0 0 ((bt a0 0) == 45)) else (none)) else (epactref04_Read.j0 k a0 0 false)) = some (r1, r2) := h
  clear h
  have HC2 := Aside0.mk H
  clear H
  go_enter Tryz.func111, Tryz.ntmps111
  go_upto_region 2 with (fail)
  go_cut [18] (fun v18 wc => ∃ (kq : Nat) (x18_1 : Bool), v18 = .bool x18_1 ∧ Aside0 (epactref04_Read.j0 kq a0 0 x18_1 = some (r1, r2)) ∧ Aside0 (kq ≤ k) ∧ Aside0 (Below w.heap.size w wc))
  case first =>
    have H := HC2.out
    clear HC2
    by_cases c3 : (a0.size : Int) > 0
    · rw [if_pos c3] at H
      have c3b0 : decide (0 < (a0.size : Int)) = true := decide_eq_true c3
      have c3b1 : decide (0 < a0.size) = true := decide_eq_true (by omega)
      clear c3
      (first | rw [c3b0] | (simp only [i64_w, i32_w]; rw [c3b0]) | skip)
      by_cases c4 : 0 < (a0.size : Int)
      · rw [if_pos c4] at H
        have c4b0 : decide (0 < (a0.size : Int)) = true := decide_eq_true c4
        have c4b1 : decide (0 < a0.size) = true := decide_eq_true (by omega)
        clear c4
        have H' := Aside0.mk H
        clear H
        have p5 : 0 ≤ (0 : Int) := (by omega)
        have q5 : 0 < a0.size := (by have : (0 : Int) < (a0.size : Int) := of_decide_eq_true (by first | (with_reducible assumption) | assumption); omega)
        have hx5 : ∀ h : 0 < a0.size, ((a0[0]'h).toNat : Int) = bt a0 0 := bt_at a0 0
        clear p5
        have qi5 : (0 < (a0.size : Int)) = True := eq_true (of_decide_eq_true (by first | (with_reducible assumption) | assumption))
        replace q5 := eq_true q5
        go_wp2
        go_meet
        case rel => exact ⟨_, (((bt a0 0) == 45)), (by first | rfl | (simp; done) | (simp [*]; done)), H', ⟨by first | omega | exact Nat.le_refl _⟩, ⟨by repeat (first | (with_reducible first | exact HB.out | apply below_alloc | apply pw_below_drewN | apply below_drew1) | exact HB.out)⟩⟩
      · rw [if_neg c4] at H
        exact absurd H (by simp)
    · rw [if_neg c3] at H
      have c3b0 : decide (0 < (a0.size : Int)) = false := decide_eq_false c3
      have c3b1 : decide (0 < a0.size) = false := decide_eq_false (by omega)
      clear c3
      (first | rw [c3b0] | (simp only [i64_w, i32_w]; rw [c3b0]) | skip)
      have H' := Aside0.mk H
      clear H
      go_wp2
      go_meet
      case rel => exact ⟨_, (false), (by first | rfl | (simp; done) | (simp [*]; done)), H', ⟨by first | omega | exact Nat.le_refl _⟩, ⟨by repeat (first | (with_reducible first | exact HB.out | apply below_alloc | apply pw_below_drewN | apply below_drew1) | exact HB.out)⟩⟩
  case rest =>
    clear HC2
    try clear c1
    try clear p2
    try clear c3
    try clear c3b0
    try clear c3b1
    try clear c4
    try clear c4b0
    try clear c4b1
    try clear p5
    try clear q5
    try clear hx5
    try clear qi5
    try clear p5
    try clear q5
    obtain ⟨kq, x18_1, rfl, HA, HJ1, HB⟩ := hcut
    cases kq with
    | zero => exact absurd HA.out (by simp [epactref04_Read.j0])
    | succ kj1 =>
      have H := HA.out
      clear HA
      simp only [epactref04_Read.j0] at H
      have HC6 := Aside0.mk H
      clear H
      go_upto_if 18 with (fail)
      go_cut [4] (fun v4 wc => ∃ (kq : Nat) (x4_5 : Int), v4 = .int .i64 x4_5 ∧ Aside0 (epactref04_Read.j1 kq a0 x4_5 = some (r1, r2)) ∧ Aside0 (kq ≤ kj1) ∧ Aside0 (Below w.heap.size w wc))
      case first =>
        have H := HC6.out
        clear HC6
        by_cases c7 : x18_1 = true
        · subst c7
          have H1 : (epactref04_Read.j1 kj1 a0 1) = some (r1, r2) := by rw [if_pos rfl] at H; exact H
          clear H
          have H := H1
          clear H1
          have H' := Aside0.mk H
          clear H
          go_wp2
          go_meet
          case rel => exact ⟨_, (1), (by first | rfl | (simp; done) | (simp [*]; done)), H', ⟨by have := HJ1.out; first | omega | exact Nat.le_refl _⟩, ⟨by repeat (first | (with_reducible first | exact HB.out | apply below_alloc | apply pw_below_drewN | apply below_drew1) | exact HB.out)⟩⟩
        · replace c7 := Bool.eq_false_iff.mpr c7
          subst c7
          have H1 : (epactref04_Read.j1 kj1 a0 0) = some (r1, r2) := by rw [if_neg (show ¬ (false = true) by decide)] at H; exact H
          clear H
          have H := H1
          clear H1
          have H' := Aside0.mk H
          clear H
          go_wp2
          go_meet
          case rel => exact ⟨_, (0), (by first | rfl | (simp; done) | (simp [*]; done)), H', ⟨by have := HJ1.out; first | omega | exact Nat.le_refl _⟩, ⟨by repeat (first | (with_reducible first | exact HB.out | apply below_alloc | apply pw_below_drewN | apply below_drew1) | exact HB.out)⟩⟩
      case rest =>
        clear HC6
        try clear c1
        try clear p2
        try clear c3
        try clear c3b0
        try clear c3b1
        try clear c4
        try clear c4b0
        try clear c4b1
        try clear p5
        try clear q5
        try clear hx5
        try clear qi5
        try clear c7
        try clear p2
        try clear p5
        try clear q5
        obtain ⟨kq, x4_5, rfl, HA, HJ5, HB⟩ := hcut
        cases kq with
        | zero => exact absurd HA.out (by simp [epactref04_Read.j1])
        | succ kj5 =>
          have H := HA.out
          clear HA
          simp only [epactref04_Read.j1] at H
          by_cases c8 : (a0.size : Int) < (wrap64 (x4_5 + 8))
          · rw [if_pos c8] at H
            have c8b0 : decide ((a0.size : Int) < (wrap64 (x4_5 + 8))) = true := decide_eq_true c8
            clear c8
            simp only [Option.some.injEq, Prod.mk.injEq] at H
            obtain ⟨rfl, rfl⟩ := H
            go_wp2
            go_ret2
            exact ⟨by first | rfl | (simp [errW_none, errW_some] <;> rfl) | (simp [*, errW_none, errW_some] <;> rfl), by repeat (first | (with_reducible first | exact HB.out | apply below_alloc | apply pw_below_drewN | apply below_drew1) | exact HB.out)⟩
          · rw [if_neg c8] at H
            have c8b0 : decide ((a0.size : Int) < (wrap64 (x4_5 + 8))) = false := decide_eq_false c8
            clear c8
            by_cases c9 : 0 ≤ x4_5
            · rw [if_pos c9] at H
              have c9b0 := eq_true c9
              have c9b1 : decide (0 ≤ x4_5) = true := decide_eq_true c9
              clear c9
              by_cases c10 : x4_5 ≤ (wrap64 (x4_5 + 4))
              · rw [if_pos c10] at H
                have c10b0 := eq_true c10
                have c10b1 : decide (x4_5 ≤ (wrap64 (x4_5 + 4))) = true := decide_eq_true c10
                by_cases c11 : (wrap64 (x4_5 + 4)) ≤ (a0.size : Int)
                · rw [if_pos c11] at H
                  have c11b0 := eq_true c11
                  have c11b1 : decide ((wrap64 (x4_5 + 4)) ≤ (a0.size : Int)) = true := decide_eq_true c11
                  replace H := Option.bind_eq_some_iff.mp H
                  obtain ⟨t235, A120, H⟩ := H
                  replace H : (if t235 < 0 then (some (0, 30)) else (if x4_5 = 1 then (epactref04_Read.j2 kj5 a0 (wrap64 (-t235))) else (epactref04_Read.j2 kj5 a0 t235))) = some (r1, r2) := H
                  have A12 := Aside0.mk A120
                  clear A120
                  by_cases c13 : t235 < 0
                  · rw [if_pos c13] at H
                    have c13b0 : decide (t235 < 0) = true := decide_eq_true c13
                    clear c13
                    simp only [Option.some.injEq, Prod.mk.injEq] at H
                    obtain ⟨rfl, rfl⟩ := H
                    go_wp2_with (first | ((with_reducible refine gate_callee (f := 145) rfl ?_); refine goesL_ (some 29) rfl rfl Tryz.func145 (by kernel_rfl) rfl #[.string (a0.extract (x4_5 : Int).toNat ((wrap64 (x4_5 + 4)) : Int).toNat)] rfl (by (try simp only [List.map_toArray, List.map_cons, List.map_nil]); first | done | rfl | (simp only [List.length_drop, List.length_take]; rfl)) ?_; (with_reducible refine (epactref04_number.calls kj5 (a0.extract (x4_5 : Int).toNat ((wrap64 (x4_5 + 4)) : Int).toNat) t235 _ A12.out).mono ?_); rintro e w' ⟨rfl, ⟨nd, rfl⟩⟩; refine ⟨_, rfl, ?_⟩))
                    go_ret2
                    exact ⟨by first | rfl | (simp [errW_none, errW_some] <;> rfl) | (simp [*, errW_none, errW_some] <;> rfl), by repeat (first | (with_reducible first | exact HB.out | apply below_alloc | apply pw_below_drewN | apply below_drew1) | exact HB.out)⟩
                  · rw [if_neg c13] at H
                    have c13b0 : decide (t235 < 0) = false := decide_eq_false c13
                    clear c13
                    have HC14 := Aside0.mk H
                    clear H
                    go_upto_if 33 with (first | ((with_reducible refine gate_callee (f := 145) rfl ?_); refine goesL_ (some 29) rfl rfl Tryz.func145 (by kernel_rfl) rfl #[.string (a0.extract (x4_5 : Int).toNat ((wrap64 (x4_5 + 4)) : Int).toNat)] rfl (by (try simp only [List.map_toArray, List.map_cons, List.map_nil]); first | done | rfl | (simp only [List.length_drop, List.length_take]; rfl)) ?_; (with_reducible refine (epactref04_number.calls kj5 (a0.extract (x4_5 : Int).toNat ((wrap64 (x4_5 + 4)) : Int).toNat) t235 _ A12.out).mono ?_); rintro e w' ⟨rfl, ⟨nd, rfl⟩⟩; refine ⟨_, rfl, ?_⟩))
                    (try simp only [Act.put, List.setIfInBounds_toArray, List.set_cons_zero, List.set_cons_succ])
                    go_cut [5] (fun v5 wc => ∃ (kq : Nat) (x5_13 : Int), v5 = .int .i64 x5_13 ∧ Aside0 (epactref04_Read.j2 kq a0 x5_13 = some (r1, r2)) ∧ Aside0 (kq ≤ kj5) ∧ Aside0 (Below w.heap.size w wc))
                    case first =>
                      have H := HC14.out
                      clear HC14
                      by_cases c15 : x4_5 = 1
                      · rw [if_pos c15] at H
                        have c15b0 : (x4_5 == 1) = true := beq_iff_eq.mpr c15
                        have c15b1 : (x4_5 != 1) = false := bne_eq_false_iff_eq.mpr c15
                        clear c15
                        (first | rw [c15b0] | (simp only [i64_w, i32_w]; rw [c15b0]) | skip)
                        have H' := Aside0.mk H
                        clear H
                        go_wp2
                        go_meet
                        case rel => exact ⟨_, (wrap64 (-t235)), (by first | rfl | (simp; done) | (simp [*]; done)), H', ⟨by have := HJ1.out; have := HJ5.out; first | omega | exact Nat.le_refl _⟩, ⟨by repeat (first | (with_reducible first | exact HB.out | apply below_alloc | apply pw_below_drewN | apply below_drew1) | exact HB.out)⟩⟩
                      · rw [if_neg c15] at H
                        have c15b0 : (x4_5 == 1) = false := beq_eq_false_iff_ne.mpr c15
                        have c15b1 : (x4_5 != 1) = true := bne_iff_ne.mpr c15
                        (first | rw [c15b0] | (simp only [i64_w, i32_w]; rw [c15b0]) | skip)
                        have H' := Aside0.mk H
                        clear H
                        go_wp2
                        go_meet
                        case rel => exact ⟨_, (t235), (by first | rfl | (simp; done) | (simp [*]; done)), H', ⟨by have := HJ1.out; have := HJ5.out; first | omega | exact Nat.le_refl _⟩, ⟨by repeat (first | (with_reducible first | exact HB.out | apply below_alloc | apply pw_below_drewN | apply below_drew1) | exact HB.out)⟩⟩
                    case rest =>
                      clear HC14
                      try clear c1
                      try clear p2
                      try clear c3
                      try clear c3b0
                      try clear c3b1
                      try clear c4
                      try clear c4b0
                      try clear c4b1
                      try clear p5
                      try clear q5
                      try clear hx5
                      try clear qi5
                      try clear p6
                      try clear c7
                      try clear c8
                      try clear c8b0
                      try clear c9
                      try clear c9b0
                      try clear c9b1
                      try clear c10
                      try clear c10b0
                      try clear c10b1
                      try clear c11
                      try clear c11b0
                      try clear c11b1
                      try clear c13
                      try clear c13b0
                      try clear c14
                      try clear c15
                      try clear c15b0
                      try clear c15b1
                      try clear p2
                      try clear p5
                      try clear q5
                      obtain ⟨kq, x5_13, rfl, HA, HJ13, HB⟩ := hcut
                      cases kq with
                      | zero => exact absurd HA.out (by simp [epactref04_Read.j2])
                      | succ kj13 =>
                        have H := HA.out
                        clear HA
                        simp only [epactref04_Read.j2] at H
                        replace H := Option.bind_eq_some_iff.mp H
                        obtain ⟨⟨t236, t237⟩, A160, H⟩ := H
                        replace H : (if t237 = 0 then (epactref04_Read.l0 kj13 a0 t236 (wrap64 (t236 - 7))) else (some (0, 30))) = some (r1, r2) := H
                        have A16 := Aside0.mk A160
                        clear A160
                        by_cases c17 : t237 = 0
                        · rw [if_pos c17] at H
                          have c17b0 : (t237 == 0) = true := beq_iff_eq.mpr c17
                          have c17b1 : (t237 != 0) = false := bne_eq_false_iff_eq.mpr c17
                          clear c17
                          have H' := Aside0.mk H
                          clear H
                          go_wp2_with (first | ((with_reducible refine gate_callee (f := 146) rfl ?_); refine goesL_ (some 38) rfl rfl Tryz.func146 (by kernel_rfl) rfl #[.int .i64 x5_13, .int .i64 1, .int .i64 1] rfl (by (try simp only [List.map_toArray, List.map_cons, List.map_nil]); first | done | rfl | (simp only [List.length_drop, List.length_take]; rfl)) ?_; (with_reducible refine (epactref03_Days.calls kj13 x5_13 1 1 t236 t237 _ A16.out).mono ?_); rintro e w' ⟨rfl, ⟨nd, rfl⟩⟩; refine ⟨_, rfl, ?_⟩))
                          go_loopg [8] kj13 (fun kq v8 w' => ∃ (x8_4 : Int), v8 = .int .i64 x8_4 ∧ Aside0 (epactref04_Read.l0 kq a0 t236 x8_4 = some (r1, r2)) ∧ Aside0 (kq ≤ kj13) ∧ Aside0 (Below w.heap.size w w'))
                          case atStart => exact ⟨(wrap64 (t236 - 7)), (by first | rfl | (simp; done) | (simp [*]; done)), H', ⟨Nat.le_refl _⟩, ⟨by repeat (first | (with_reducible first | exact HB.out | apply below_alloc | apply pw_below_drewN | apply below_drew1) | exact HB.out)⟩⟩
                          case round =>
                            clear H'
                            try clear c1
                            try clear p2
                            try clear c3
                            try clear c3b0
                            try clear c3b1
                            try clear c4
                            try clear c4b0
                            try clear c4b1
                            try clear p5
                            try clear q5
                            try clear hx5
                            try clear qi5
                            try clear p6
                            try clear c7
                            try clear c8
                            try clear c8b0
                            try clear c9
                            try clear c9b0
                            try clear c9b1
                            try clear c10
                            try clear c10b0
                            try clear c10b1
                            try clear c11
                            try clear c11b0
                            try clear c11b1
                            try clear c13
                            try clear c13b0
                            try clear c14
                            try clear c15
                            try clear c15b0
                            try clear c15b1
                            try clear c17
                            try clear c17b0
                            try clear c17b1
                            try clear p2
                            try clear p5
                            try clear p6
                            try clear q5
                            obtain ⟨x8_4, rfl, HA, HK4, HB⟩ := hrel
                            cases gk with
                            | zero => exact absurd HA.out (by simp [epactref04_Read.l0])
                            | succ k4 =>
                              have H := HA.out
                              clear HA
                              simp only [epactref04_Read.l0] at H
                              by_cases c18 : x8_4 < (wrap64 (t236 + 373))
                              · rw [if_pos c18] at H
                                have c18b0 : decide (x8_4 < (wrap64 (t236 + 373))) = true := decide_eq_true c18
                                clear c18
                                replace H := Option.bind_eq_some_iff.mp H
                                obtain ⟨t238, A190, H⟩ := H
                                replace H : (epactref04_Read.l1 k4 a0 t236 x8_4 t238 0) = some (r1, r2) := H
                                have A19 := Aside0.mk A190
                                clear A190
                                have H' := Aside0.mk H
                                clear H
                                go_wp2_with (first | ((with_reducible refine gate_callee (f := 70) rfl ?_); refine goesL_ (some 52) rfl rfl Tryz.func70 (by kernel_rfl) rfl #[.int .i64 x8_4] rfl (by (try simp only [List.map_toArray, List.map_cons, List.map_nil]); first | done | rfl | (simp only [List.length_drop, List.length_take]; rfl)) ?_; (with_reducible refine (epactref04_Texts.calls k4 x8_4 t238 _ A19.out).mono ?_); rintro e w20 ⟨v239, rfl, ho0, hb⟩; refine ⟨_, rfl, ?_⟩; have n0_ := Aside0.mk (Kd.R_lower ho0 (below_size (by repeat (first | (with_reducible first | exact HB.out | apply below_alloc | apply pw_below_drewN | apply below_drew1) | exact HB.out)))); have n1_ := Aside0.mk (below_step (by repeat (first | (with_reducible first | exact HB.out | apply below_alloc | apply pw_below_drewN | apply below_drew1) | exact HB.out)) hb); clear HB; have HO240 := n0_; have HB := n1_; clear n0_ n1_; (try clear hb); (try clear hb2); (try clear hk); (try clear hi); (try clear ho0)))
                                go_loopg [10] k4 (fun kq v10 w' => ∃ (x10_5 : Int), v10 = .int .i64 x10_5 ∧ Aside0 (epactref04_Read.l1 kq a0 t236 x8_4 t238 x10_5 = some (r1, r2)) ∧ Aside0 (kq ≤ k4) ∧ Aside0 (Kd.R Kd.string 9 w' w.heap.size (fun _ => True) v239 t238) ∧ Aside0 (Below w.heap.size w w'))
                                case atStart => exact ⟨(0), (by first | rfl | (simp; done) | (simp [*]; done)), H', ⟨Nat.le_refl _⟩, ⟨by (with_reducible repeat (first | apply Kd.R_alloc | apply Kd.R_drewN | apply Kd.R_drew)); exact HO240.out⟩, ⟨by repeat (first | (with_reducible first | exact HB.out | apply below_alloc | apply pw_below_drewN | apply below_drew1) | exact HB.out)⟩⟩
                                case round =>
                                  clear H'
                                  try clear c1
                                  try clear p2
                                  try clear c3
                                  try clear c3b0
                                  try clear c3b1
                                  try clear c4
                                  try clear c4b0
                                  try clear c4b1
                                  try clear p5
                                  try clear q5
                                  try clear hx5
                                  try clear qi5
                                  try clear p6
                                  try clear c7
                                  try clear c8
                                  try clear c8b0
                                  try clear c9
                                  try clear c9b0
                                  try clear c9b1
                                  try clear c10
                                  try clear c10b0
                                  try clear c10b1
                                  try clear c11
                                  try clear c11b0
                                  try clear c11b1
                                  try clear c13
                                  try clear c13b0
                                  try clear c14
                                  try clear c15
                                  try clear c15b0
                                  try clear c15b1
                                  try clear c17
                                  try clear c17b0
                                  try clear c17b1
                                  try clear c18
                                  try clear c18b0
                                  try clear p2
                                  try clear p5
                                  try clear p6
                                  try clear q5
                                  obtain ⟨x10_5, rfl, HA, HK5, HO_9, HB⟩ := hrel
                                  cases gk with
                                  | zero => exact absurd HA.out (by simp [epactref04_Read.l1])
                                  | succ k5 =>
                                    have H := HA.out
                                    clear HA
                                    simp only [epactref04_Read.l1] at H
                                    by_cases c21 : x10_5 < (t238.length : Int)
                                    · rw [if_pos c21] at H
                                      have c21b0 : decide (x10_5 < (t238.length : Int)) = true := decide_eq_true c21
                                      clear c21
                                      by_cases c22 : 0 ≤ x10_5
                                      · rw [if_pos c22] at H
                                        have c22b0 : decide (0 ≤ x10_5) = true := decide_eq_true c22
                                        clear c22
                                        by_cases c23 : (rdOf ByteArray.empty t238 x10_5).toList = a0.toList
                                        · rw [if_pos c23] at H
                                          have c23b0 : ((rdOf ByteArray.empty t238 x10_5).toList == a0.toList) = true := beq_iff_eq.mpr c23
                                          have c23b1 : ((rdOf ByteArray.empty t238 x10_5).toList != a0.toList) = false := bne_eq_false_iff_eq.mpr c23
                                          clear c23
                                          simp only [Option.some.injEq, Prod.mk.injEq] at H
                                          obtain ⟨rfl, rfl⟩ := H
                                          obtain ⟨Ao24, co24, eo24⟩ := Kd.R_slice HO_9.out
                                          subst eo24
                                          have p241 : 0 ≤ (x10_5 : Int) := of_decide_eq_true (by first | (with_reducible assumption) | assumption)
                                          have q241 : x10_5 < (t238.length : Int) := of_decide_eq_true (by first | (with_reducible assumption) | assumption)
                                          obtain ⟨ad241, e241, hx241_0⟩ := Kd.at_string (Kd.R_reads' HO_9.out).2.2 x10_5 p241 q241
                                          cases e241
                                          replace p241 := eq_true p241
                                          replace q241 := eq_true q241
                                          go_wp2
                                          go_ret2
                                          exact ⟨by first | rfl | (simp [errW_none, errW_some] <;> rfl) | (simp [*, errW_none, errW_some] <;> rfl), by repeat (first | (with_reducible first | exact HB.out | apply below_alloc | apply pw_below_drewN | apply below_drew1) | exact HB.out)⟩
                                        · rw [if_neg c23] at H
                                          have c23b0 : ((rdOf ByteArray.empty t238 x10_5).toList == a0.toList) = false := beq_eq_false_iff_ne.mpr c23
                                          have c23b1 : ((rdOf ByteArray.empty t238 x10_5).toList != a0.toList) = true := bne_iff_ne.mpr c23
                                          have H' := Aside0.mk H
                                          clear H
                                          obtain ⟨Ao25, co25, eo25⟩ := Kd.R_slice HO_9.out
                                          subst eo25
                                          have p241 : 0 ≤ (x10_5 : Int) := of_decide_eq_true (by first | (with_reducible assumption) | assumption)
                                          have q241 : x10_5 < (t238.length : Int) := of_decide_eq_true (by first | (with_reducible assumption) | assumption)
                                          obtain ⟨ad241, e241, hx241_0⟩ := Kd.at_string (Kd.R_reads' HO_9.out).2.2 x10_5 p241 q241
                                          cases e241
                                          replace p241 := eq_true p241
                                          replace q241 := eq_true q241
                                          go_wp2
                                          go_roundg k5
                                          case measure => have := HJ1.out; have := HJ5.out; have := HJ13.out; have := HK4.out; have := HK5.out; omega
                                          case rel => exact ⟨(wrap64 (x10_5 + 1)), (by first | rfl | (simp; done) | (simp [*]; done)), H', ⟨by have := HJ1.out; have := HJ5.out; have := HJ13.out; have := HK4.out; have := HK5.out; omega⟩, ⟨by (with_reducible repeat (first | apply Kd.R_alloc | apply Kd.R_drewN | apply Kd.R_drew)); exact HO_9.out⟩, ⟨by repeat (first | (with_reducible first | exact HB.out | apply below_alloc | apply pw_below_drewN | apply below_drew1) | exact HB.out)⟩⟩
                                      · rw [if_neg c22] at H
                                        exact absurd H (by simp)
                                    · rw [if_neg c21] at H
                                      have c21b0 : decide (x10_5 < (t238.length : Int)) = false := decide_eq_false c21
                                      clear c21
                                      have H' := Aside0.mk H
                                      clear H
                                      obtain ⟨Ao26, co26, eo26⟩ := Kd.R_slice HO_9.out
                                      subst eo26
                                      go_wp2
                                      go_roundg k5
                                      case measure => have := HJ1.out; have := HJ5.out; have := HJ13.out; have := HK4.out; have := HK5.out; omega
                                      case rel => exact ⟨(wrap64 (x8_4 + 1)), (by first | rfl | (simp; done) | (simp [*]; done)), H', ⟨by have := HJ1.out; have := HJ5.out; have := HJ13.out; have := HK4.out; have := HK5.out; omega⟩, ⟨by repeat (first | (with_reducible first | exact HB.out | apply below_alloc | apply pw_below_drewN | apply below_drew1) | exact HB.out)⟩⟩
                              · rw [if_neg c18] at H
                                have c18b0 : decide (x8_4 < (wrap64 (t236 + 373))) = false := decide_eq_false c18
                                clear c18
                                simp only [Option.some.injEq, Prod.mk.injEq] at H
                                obtain ⟨rfl, rfl⟩ := H
                                go_wp2
                                go_ret2
                                exact ⟨by first | rfl | (simp [errW_none, errW_some] <;> rfl) | (simp [*, errW_none, errW_some] <;> rfl), by repeat (first | (with_reducible first | exact HB.out | apply below_alloc | apply pw_below_drewN | apply below_drew1) | exact HB.out)⟩
                        · rw [if_neg c17] at H
                          have c17b0 : (t237 == 0) = false := beq_eq_false_iff_ne.mpr c17
                          have c17b1 : (t237 != 0) = true := bne_iff_ne.mpr c17
                          simp only [Option.some.injEq, Prod.mk.injEq] at H
                          obtain ⟨rfl, rfl⟩ := H
                          go_wp2_with (first | ((with_reducible refine gate_callee (f := 146) rfl ?_); refine goesL_ (some 38) rfl rfl Tryz.func146 (by kernel_rfl) rfl #[.int .i64 x5_13, .int .i64 1, .int .i64 1] rfl (by (try simp only [List.map_toArray, List.map_cons, List.map_nil]); first | done | rfl | (simp only [List.length_drop, List.length_take]; rfl)) ?_; (with_reducible refine (epactref03_Days.calls kj13 x5_13 1 1 t236 t237 _ A16.out).mono ?_); rintro e w' ⟨rfl, ⟨nd, rfl⟩⟩; refine ⟨_, rfl, ?_⟩))
                          go_ret2
                          exact ⟨by first | rfl | (simp [errW_none, errW_some] <;> rfl) | (simp [*, errW_none, errW_some] <;> rfl), by repeat (first | (with_reducible first | exact HB.out | apply below_alloc | apply pw_below_drewN | apply below_drew1) | exact HB.out)⟩
                · rw [if_neg c11] at H
                  exact absurd H (by simp)
              · rw [if_neg c10] at H
                exact absurd H (by simp)
            · rw [if_neg c9] at H
              exact absurd H (by simp)
def epactref10_digit.f (a0 : Int) : Option (Bool) := if a0 ≥ 48 then (some (decide (a0 ≤ 57))) else (some false)
set_option maxHeartbeats 8000000 in
set_option maxRecDepth 100000 in
theorem epactref10_digit.calls (a0 : Int) (r : Bool) (w : World) (h : epactref10_digit.f a0 = some r) :
    Calls Tryz.prog 112 #[.int .u8 a0] w fun e w' => e = .returned (.bool r) ∧ Drawn0 w w' := by
  have H : (if a0 ≥ 48 then (some (decide (a0 ≤ 57))) else (some false)) = some r := h
  clear h
  by_cases c2 : a0 ≥ 48
  · rw [if_pos c2] at H
    have c2b0 : decide (48 ≤ a0) = true := decide_eq_true c2
    clear c2
    obtain rfl := Option.some.inj H
    go_enter Tryz.func112, Tryz.ntmps112
    go_wp2
    go_ret
    exact ⟨by first | rfl | (simp; done) | (simp [*]; done), by repeat (first | exact Drawn0.refl _ | apply Drawn0.step)⟩
  · rw [if_neg c2] at H
    have c2b0 : decide (48 ≤ a0) = false := decide_eq_false c2
    clear c2
    obtain rfl := Option.some.inj H
    go_enter Tryz.func112, Tryz.ntmps112
    go_wp2
    go_ret
    exact ⟨by first | rfl | (simp; done) | (simp [*]; done), by repeat (first | exact Drawn0.refl _ | apply Drawn0.step)⟩
end Go.Proofs.YtcinojbfjiohjaaGreatDoor.PPrintTells
end

section
namespace Go.Proofs.YtcinojbfjiohjaaGreatDoor.Civ
open Go Go.RowKit Go.Proofs.YtcinojbfjiohjaaGreatDoor.PPrintTells Go.Proofs.YtcinojbfjiohjaaGreatDoorW.PrintWords Go.Proofs.YtcinojbfjiohjaaGreatDoorW.PrintLast Go.Proofs.YtcinojbfjiohjaaGreatDoorW.PrintMore Go.Proofs.YtcinojbfjiohjaaGreatDoor.Ex
set_option linter.unusedVariables false
set_option linter.unusedSimpArgs false
theorem bt_toB (l : List UInt8) (i : Nat) (h : i < l.length) : bt (toB l) (i : Nat) = (l[i].toNat : Int) := by
  unfold bt
  have hs : ((i : Nat) : Int).toNat < (toB l).size := by rw [texts_bytes]; omega
  rw [dif_pos hs]
  have : (toB l)[((i : Nat) : Int).toNat]'hs = l[i] := by
    rfl
  exact congrArg (fun x : UInt8 => (x.toNat : Int)) this
theorem digitVal_none {b : UInt8} (h : ¬ (48 ≤ b.toNat ∧ b.toNat ≤ 57)) : Lib.digitVal b = none := by unfold Lib.digitVal; rw [if_neg h]
theorem digitVal_some {b : UInt8} (h : 48 ≤ b.toNat ∧ b.toNat ≤ 57) : Lib.digitVal b = some (b.toNat - 48) := by unfold Lib.digitVal; rw [if_pos h]
def numR : Option Nat → Int
  | some v => v
  | none => -1
theorem number_l0 (q : List UInt8) : ∀ (k : Nat) (p : List UInt8) (a : Nat), q.length < k → p.length + q.length ≤ 10 → (a + 1) * 10 ^ q.length ≤ 1000000000000 →
    epactref04_number.l0 k (toB (p ++ q)) (a : Nat) (p.length : Nat) = some (numR (Lib.decFrom a q)) := by
  induction q with
  | nil =>
    intro k p a hk _ _
    obtain ⟨k, rfl⟩ : ∃ m, k = m + 1 := ⟨k - 1, by omega⟩
    rw [epactref04_number.l0, texts_bytes, if_neg (by simp)]
    rfl
  | cons b q ih =>
    intro k p a hk hl ha
    obtain ⟨k, rfl⟩ : ∃ m, k = m + 1 := ⟨k - 1, by omega⟩
    have hb : bt (toB (p ++ b :: q)) (p.length : Nat) = (b.toNat : Int) := by
      rw [bt_toB _ _ (by simp)]
      simp
    have hbl := b.toNat_lt
    have ha' : a < 1000000000000 := by
      have : (a + 1) * 1 ≤ (a + 1) * 10 ^ (b :: q).length := Nat.mul_le_mul_left _ (Nat.one_le_pow _ _ (by omega))
      omega
    rw [epactref04_number.l0, texts_bytes, if_pos (by simp; omega), if_pos (by omega), hb]
    by_cases h1 : b.toNat < 48
    · rw [if_pos (by omega), Lib.decFrom, digitVal_none (by omega)]
      rfl
    · rw [if_neg (by omega)]
      by_cases h2 : 57 < b.toNat
      · rw [if_pos (by omega), Lib.decFrom, digitVal_none (by omega)]
        rfl
      · rw [if_neg (by omega), w64 (x := (a : Int) * 10) (by omega) (by omega)]
        have e1 : wrap64 ((a : Int) * 10 + ((b.toNat : Int) - 48) % 256) = ((a * 10 + (b.toNat - 48) : Nat) : Int) := by
          rw [w64 (by omega) (by omega)]
          omega
        have e2 : wrap64 ((p.length : Int) + 1) = (((p ++ [b]).length : Nat) : Int) := by
          rw [w64 (by simp at hl; omega) (by simp at hl; omega)]
          simp
        have e3 : p ++ b :: q = (p ++ [b]) ++ q := by simp
        rw [e1, e2, e3, ih k (p ++ [b]) _ (by simp at hk; omega) (by simp at hl ⊢; omega) ?_, Lib.decFrom, digitVal_some (by omega)]
        rw [List.length_cons, Nat.pow_succ, Nat.mul_comm (10 ^ q.length) 10, ← Nat.mul_assoc] at ha
        exact Nat.le_trans (Nat.mul_le_mul_right _ (by omega)) ha
theorem decFrom_none (l : List UInt8) : ∀ acc, ¬ l.all digitB = true → Lib.decFrom acc l = none := by
  induction l with
  | nil => intro acc h; exact absurd rfl h
  | cons b l ih =>
    intro acc h
    rw [Lib.decFrom]
    by_cases hb : 48 ≤ b.toNat ∧ b.toNat ≤ 57
    · rw [digitVal_some hb]
      refine ih _ (fun hh => h ?_)
      rw [List.all_cons, hh, Bool.and_true]
      unfold digitB
      rw [decide_eq_true hb.1, decide_eq_true hb.2]
      rfl
    · rw [digitVal_none hb]
theorem number_r (k : Nat) (l : List UInt8) (hk : 100 ≤ k) (hl : l.length = 4) : epactref04_number.f k (toB l) = some (if l.all digitB = true then natv l else -1) := by
  unfold epactref04_number.f
  have h := number_l0 l k [] 0 (by omega) (by simp; omega) (by rw [hl]; decide)
  rw [List.nil_append] at h
  rw [show ((0 : Nat) : Int) = 0 from rfl, show ((([] : List UInt8).length : Nat) : Int) = 0 from rfl] at h
  rw [h]
  by_cases ha : l.all digitB = true
  · rw [if_pos ha, (val_acc l ha).2, natv_val (fun he => by rw [he] at hl; simp at hl)]
    show some (((0 * 10 ^ l.length + val l : Nat)) : Int) = _
    rw [Nat.zero_mul, Nat.zero_add]
  · rw [if_neg ha, decFrom_none l 0 ha]
    rfl
theorem toList_toB (l : List UInt8) : (toB l).toList = l := by rw [toList_data']; exact toB_list l
theorem read_l1 (l : List UInt8) (T : List (List UInt8)) (x6 x8 : Int) (hx : wrap64 (x8 + 1) = x8 + 1) (hT : T.length ≤ 100) (j : Nat) : ∀ (m idx : Nat), T.length = idx + j →
    epactref04_Read.l1 (m + j + 1) (toB l) x6 x8 (T.map toB) (idx : Nat) = if l ∈ T.drop idx then some (x8, 0) else epactref04_Read.l0 m (toB l) x6 (x8 + 1) := by
  induction j with
  | zero =>
    intro m idx h
    rw [epactref04_Read.l1, List.length_map, if_neg (by omega), List.drop_eq_nil_of_le (by omega), if_neg (by simp), hx]
  | succ j ih =>
    intro m idx h
    have hlt : idx < T.length := by omega
    have hr : (rdOf ByteArray.empty (T.map toB) (idx : Nat)).toList = T[idx] := by
      unfold rdOf
      rw [Int.toNat_natCast, List.getD_eq_getElem?_getD, List.getElem?_map, List.getElem?_eq_getElem hlt]
      exact toList_toB _
    rw [show m + (j + 1) + 1 = (m + j + 1) + 1 by omega, epactref04_Read.l1, List.length_map, if_pos (by omega), if_pos (by omega), hr, toList_toB, List.drop_eq_getElem_cons hlt]
    by_cases hh : T[idx] = l
    · rw [if_pos hh, if_pos (by rw [hh]; simp)]
    · have e : wrap64 ((idx : Int) + 1) = ((idx + 1 : Nat) : Int) := by rw [w64 (by omega) (by omega)]; omega
      rw [if_neg hh, e, ih m (idx + 1) (by omega)]
      by_cases hm : l ∈ T.drop (idx + 1)
      · rw [if_pos hm, if_pos (List.mem_cons_of_mem _ hm)]
      · rw [if_neg hm, if_neg (fun h' => by
          rcases List.mem_cons.1 h' with h1 | h1
          · exact hh h1.symm
          · exact hm h1)]
theorem textsL_len (n : Int) : (textsL n).length ≤ 3 := by
  unfold textsL
  split
  · split <;> simp
  · simp
theorem read_l0 (l : List UInt8) (x6 x8 : Int) (h0 : -4400000 ≤ x6) (h1 : x6 ≤ 4400000) (h2 : -4400000 ≤ x8) (h3 : x8 ≤ 4400000) (k : Nat) (hk : 1000020 ≤ k) :
    ∃ m, k ≤ m + 5 ∧ epactref04_Read.l0 k (toB l) x6 x8 = if x8 < x6 + 373 then (if l ∈ textsL x8 then some (x8, 0) else epactref04_Read.l0 m (toB l) x6 (x8 + 1)) else some (0, 30) := by
  have hl := textsL_len x8
  obtain ⟨m, rfl⟩ : ∃ m, k = (m + (textsL x8).length + 1) + 1 := ⟨k - (textsL x8).length - 2, by omega⟩
  refine ⟨m, by omega, ?_⟩
  have h := read_l1 l (textsL x8) x6 x8 (w64 (by omega) (by omega)) (by omega) (textsL x8).length m 0 (by omega)
  rw [show ((0 : Nat) : Int) = 0 from rfl, List.drop_zero] at h
  rw [epactref04_Read.l0, w64 (x := x6 + 373) (by omega) (by omega), Texts_r _ x8 (by omega), Option.bind_some, h]
theorem read_hit (l : List UInt8) (x6 n0 : Int) (h0 : -4400000 ≤ x6) (h1 : x6 ≤ 4399000) (hn : n0 < x6 + 373) (hm : l ∈ textsL n0) (hu : ∀ n, l ∈ textsL n → n = n0) (c : Nat) :
    ∀ (k : Nat) (x8 : Int), n0 - x8 = c → -4400000 ≤ x8 → 1000020 + 5 * c ≤ k → epactref04_Read.l0 k (toB l) x6 x8 = some (n0, 0) := by
  induction c with
  | zero =>
    intro k x8 hc hx hk
    obtain rfl : x8 = n0 := by omega
    obtain ⟨m, _, h⟩ := read_l0 l x6 x8 h0 (by omega) hx (by omega) k (by omega)
    rw [h, if_pos hn, if_pos hm]
  | succ c ih =>
    intro k x8 hc hx hk
    obtain ⟨m, hm', h⟩ := read_l0 l x6 x8 h0 (by omega) hx (by omega) k (by omega)
    rw [h, if_pos (by omega), if_neg (fun h' => by have := hu x8 h'; omega)]
    exact ih m (x8 + 1) (by omega) (by omega) (by omega)
theorem read_miss (l : List UInt8) (x6 : Int) (h0 : -4400000 ≤ x6) (h1 : x6 ≤ 4399000) (hu : ∀ n, l ∉ textsL n) (c : Nat) :
    ∀ (k : Nat) (x8 : Int), x6 + 373 - x8 = c → -4400000 ≤ x8 → 1000020 + 5 * c ≤ k → epactref04_Read.l0 k (toB l) x6 x8 = some (0, 30) := by
  induction c with
  | zero =>
    intro k x8 hc hx hk
    obtain ⟨m, _, h⟩ := read_l0 l x6 x8 h0 (by omega) hx (by omega) k (by omega)
    rw [h, if_neg (by omega)]
  | succ c ih =>
    intro k x8 hc hx hk
    obtain ⟨m, hm', h⟩ := read_l0 l x6 x8 h0 (by omega) hx (by omega) k (by omega)
    rw [h, if_pos (by omega), if_neg (hu x8)]
    exact ih m (x8 + 1) (by omega) (by omega) (by omega)
/-- The sign and the digits of the year ahead. -/
theorem year_at {y : Int} (hy : InY y) (rest : List UInt8) : ∃ b l', yearL y ++ 45 :: rest = b :: l' ∧ (b = 45 ↔ y < 0) ∧ (y < 0 → ((b :: l').drop 1).take 4 = padF (-y) 4) ∧ (¬ y < 0 → ((b :: l').drop 0).take 4 = padF y 4) := by
  obtain ⟨h0, h1⟩ := hy
  unfold yearL
  by_cases h : y < 0
  · have hp := padF_spec (-y) 4 (by omega) (by omega) (by omega)
    rw [if_pos h]
    refine ⟨45, padF (-y) 4 ++ 45 :: rest, rfl, ⟨fun _ => h, fun _ => rfl⟩, fun _ => ?_, fun hh => absurd h hh⟩
    show (padF (-y) 4 ++ 45 :: rest).take 4 = _
    rw [List.take_append_of_le_length (by omega), List.take_of_length_le (by omega)]
  · have hp := padF_spec y 4 (by omega) (by omega) (by omega)
    rw [if_neg h]
    cases hq : padF y 4 with
    | nil => rw [hq] at hp; simp at hp
    | cons b l =>
      have hb : digitB b = true := by
        have := hp.2.1
        rw [hq, List.all_cons, Bool.and_eq_true] at this
        exact this.1
      have hlen : (b :: l).length = 4 := by rw [← hq]; exact hp.1
      refine ⟨b, l ++ 45 :: rest, rfl, ⟨fun he => absurd he (digit_ne hb).1, fun hh => absurd hh h⟩, fun hh => absurd hh h, fun _ => ?_⟩
      show ((b :: l) ++ 45 :: rest).take 4 = _
      rw [List.take_append_of_le_length (by omega), List.take_of_length_le (by omega)]
theorem ext_toB (l : List UInt8) (i j : Nat) : (toB l).extract i j = toB ((l.drop i).take (j - i)) := by
  apply ByteArray.ext
  apply Array.toList_inj.1
  have h : ((toB l).extract i j).data.toList = ((toB l).data.toList.drop i).take (j - i) := by rw [Lib.extract_data]; first | done | simp
  rw [h, toB_list]
  exact (toB_list _).symm
/-- From the year on: the search says what Read says. -/
theorem Read_j2 (l : List UInt8) (y : Int) (hy : InY y) (hw : ∀ n, l ∈ textsL n → beg y - 7 ≤ n ∧ n < beg y + 373) (k : Nat) (hk : 1010000 ≤ k) :
    epactref04_Read.j2 k (toB l) y = some (readF (toB l)) := by
  obtain ⟨k, rfl⟩ : ∃ m, k = m + 1 := ⟨k - 1, by omega⟩
  have hb := beg_in hy
  rw [epactref04_Read.j2, rDays_f k y 1 1 (by omega), daysF_ok ((ok_1 y 1 (by omega)).2 hy), dn_first, Option.bind_some]
  show (if (0 : Int) = 0 then epactref04_Read.l0 k (toB l) (beg y) (wrap64 (beg y - 7)) else _) = _
  rw [if_pos rfl, w64 (x := beg y - 7) (by omega) (by omega)]
  rcases readF_err (toB l) with h | h
  · obtain ⟨n0, h0⟩ : ∃ n0, readF (toB l) = (n0, 0) := ⟨(readF (toB l)).1, Prod.ext rfl h⟩
    have hm := read_texts h0
    have hww := hw n0 hm
    rw [h0]
    refine read_hit l (beg y) n0 (by omega) (by omega) hww.2 hm (fun n hn => ?_) (n0 - (beg y - 7)).toNat k (beg y - 7) (by omega) (by omega) (by omega)
    have := texts_read hn
    rw [h0] at this
    exact ((Prod.mk.inj this).1).symm
  · rw [h]
    refine read_miss l (beg y) (by omega) (by omega) (fun n hn => ?_) 380 k (beg y - 7) (by omega) (by omega) (by omega)
    have := texts_read hn
    rw [h] at this
    have := (Prod.mk.inj this).2
    omega
theorem Read_r (l : List UInt8) (hl : l.length ≤ 1000) : epactref04_Read.f 2000000 (toB l) = some (readF (toB l)) := by
  cases l with
  | nil =>
    have h1 : readF (toB []) = (0, 30) := by decide +kernel
    rw [h1]
    unfold epactref04_Read.f
    rw [if_neg (by rw [texts_bytes]; simp), show (2000000 : Nat) = 1999998 + 1 + 1 from rfl, epactref04_Read.j0, if_neg (by simp), epactref04_Read.j1, if_pos (by rw [texts_bytes]; unfold wrap64; decide)]
  | cons b l' =>
    have hsz : ((toB (b :: l')).size : Int) = (l'.length : Int) + 1 := by rw [texts_bytes, List.length_cons]; omega
    have hbt : bt (toB (b :: l')) 0 = (b.toNat : Int) := bt_toB (b :: l') 0 (by simp)
    have hlen : (l'.length : Int) ≤ 1000 := by simp at hl; omega
    unfold epactref04_Read.f
    rw [if_pos (by omega), if_pos (by omega), hbt, show (2000000 : Nat) = 1999998 + 1 + 1 from rfl, epactref04_Read.j0]
    -- what a text of a day has ahead
    have hyr : ∀ n, b :: l' ∈ textsL n → ∃ y, InY y ∧ (b = 45 ↔ y < 0) ∧ (y < 0 → (l'.take 4) = padF (-y) 4) ∧ (¬ y < 0 → (b :: l').take 4 = padF y 4) ∧ beg y - 7 ≤ n ∧ n < beg y + 373 ∧ (y < 0 → 9 ≤ l'.length + 1) ∧ 8 ≤ l'.length + 1 := by
      intro n hn
      obtain ⟨y, rest, hy, e, hr, hb1, hb2⟩ := texts_year hn
      obtain ⟨b', l'', e', q1, q2, q3⟩ := year_at hy rest
      rw [e'] at e
      obtain ⟨rfl, rfl⟩ := List.cons.inj e
      have hlt : (yearL y ++ 45 :: rest).length = l'.length + 1 := by rw [e']; rfl
      obtain ⟨h0, h1⟩ := hy
      refine ⟨y, ⟨h0, h1⟩, q1, q2, q3, hb1, hb2, fun hneg => ?_, ?_⟩
      · have hp := padF_spec (-y) 4 (by omega) (by omega) (by omega)
        rw [List.length_append, List.length_cons] at hlt
        unfold yearL at hlt
        rw [if_pos hneg, List.length_cons, hp.1] at hlt
        omega
      · have hyl : 4 ≤ (yearL y).length := by
          unfold yearL
          split
          · have hp := padF_spec (-y) 4 (by omega) (by omega) (by omega)
            rw [List.length_cons, hp.1]; omega
          · have hp := padF_spec y 4 (by omega) (by omega) (by omega)
            omega
        rw [List.length_append, List.length_cons] at hlt
        omega
    have herr : (∀ n, b :: l' ∉ textsL n) → readF (toB (b :: l')) = (0, 30) := by
      intro h
      rcases readF_err (toB (b :: l')) with h1 | h1
      · exact absurd (read_texts (show readF (toB (b :: l')) = ((readF (toB (b :: l'))).1, 0) from Prod.ext rfl h1)) (h _)
      · exact h1
    by_cases hb : b = 45
    · subst hb
      rw [if_pos (by decide), epactref04_Read.j1, hsz, show wrap64 ((1 : Int) + 8) = 9 from by unfold wrap64; omega, show wrap64 ((1 : Int) + 4) = 5 from by unfold wrap64; omega]
      by_cases h1 : (l'.length : Int) + 1 < 9
      · rw [if_pos h1, herr (fun n hn => by
          obtain ⟨y, hy, q1, _, _, _, _, q6, _⟩ := hyr n hn
          have := q6 (q1.1 rfl)
          omega)]
      · rw [if_neg h1, if_pos (by omega), if_pos (by omega), if_pos (by omega), ext_toB]
        show (epactref04_number.f _ (toB ((l'.drop 0).take 4))).bind _ = _
        rw [List.drop_zero, number_r _ _ (by omega) (by rw [List.length_take]; omega), Option.bind_some]
        by_cases ha : (l'.take 4).all digitB = true
        · obtain ⟨p1, p2, p3⟩ := pad_of (l := l'.take 4) (k := 4) (by omega) (by rw [List.length_take]; omega) ha
          rw [if_pos ha, if_neg (by omega), if_pos rfl, w64 (x := -natv (l'.take 4)) (by omega) (by omega)]
          refine Read_j2 _ _ ⟨by omega, by omega⟩ (fun n hn => ?_) _ (by omega)
          obtain ⟨y, hy, q1, q2, _, q4, q5, _⟩ := hyr n hn
          have hneg := q1.1 rfl
          have hv := q2 hneg
          have hp := padF_spec (-y) 4 (by omega) (by have := hy.1; omega) (by omega)
          rw [hv, hp.2.2, Int.neg_neg]
          exact ⟨q4, q5⟩
        · rw [if_neg ha, if_pos (by omega), herr (fun n hn => by
            obtain ⟨y, hy, q1, q2, _⟩ := hyr n hn
            have hneg := q1.1 rfl
            have hv := q2 hneg
            have hp := padF_spec (-y) 4 (by omega) (by have := hy.1; omega) (by omega)
            rw [hv] at ha
            exact ha hp.2.1)]
    · have hbn : ((b.toNat : Int) == 45) = false := beq_eq_false_iff_ne.2 (fun h => hb (UInt8.toNat_inj.1 (show b.toNat = (45 : UInt8).toNat from (show b.toNat = 45 by omega))))
      rw [hbn, if_neg (by simp), epactref04_Read.j1, hsz, show wrap64 ((0 : Int) + 8) = 8 from by unfold wrap64; omega, show wrap64 ((0 : Int) + 4) = 4 from by unfold wrap64; omega]
      by_cases h1 : (l'.length : Int) + 1 < 8
      · rw [if_pos h1, herr (fun n hn => by
          obtain ⟨y, hy, q1, _, _, _, _, _, q7⟩ := hyr n hn
          omega)]
      · rw [if_neg h1, if_pos (by omega), if_pos (by omega), if_pos (by omega), ext_toB]
        show (epactref04_number.f _ (toB (((b :: l').drop 0).take 4))).bind _ = _
        rw [List.drop_zero, number_r _ _ (by omega) (by rw [List.length_take, List.length_cons]; omega), Option.bind_some]
        by_cases ha : ((b :: l').take 4).all digitB = true
        · obtain ⟨p1, p2, p3⟩ := pad_of (l := (b :: l').take 4) (k := 4) (by omega) (by rw [List.length_take, List.length_cons]; omega) ha
          rw [if_pos ha, if_neg (by omega), if_neg (by decide)]
          refine Read_j2 _ _ ⟨by omega, by omega⟩ (fun n hn => ?_) _ (by omega)
          obtain ⟨y, hy, q1, _, q3, q4, q5, _⟩ := hyr n hn
          have hneg : ¬ y < 0 := fun h => hb (q1.2 h)
          have hv := q3 hneg
          have hp := padF_spec y 4 (by omega) (by have := hy.2; omega) (by omega)
          rw [hv, hp.2.2]
          exact ⟨q4, q5⟩
        · rw [if_neg ha, if_pos (by omega), herr (fun n hn => by
            obtain ⟨y, hy, q1, _, q3, _⟩ := hyr n hn
            have hneg : ¬ y < 0 := fun h => hb (q1.2 h)
            have hv := q3 hneg
            have hp := padF_spec y 4 (by omega) (by have := hy.2; omega) (by omega)
            rw [hv] at ha
            exact ha hp.2.1)]
end Go.Proofs.YtcinojbfjiohjaaGreatDoor.Civ
end

section
namespace Go.Proofs.YtcinojbfjiohjaaGreatDoor.PPrintTells
open Go.RowKit Go.Proofs.YtcinojbfjiohjaaGreatDoorW.PrintWords Go.Proofs.YtcinojbfjiohjaaGreatDoorW.PrintLast Go.Proofs.YtcinojbfjiohjaaGreatDoorW.PrintMore
attribute [local go_sem] max2_int min2_int max_two min_two max_three min_three max_four min_four   -- for this text's walks alone
set_option linter.unusedVariables false
set_option linter.unusedSimpArgs false
mutual
def epactref10_number.j0 : Nat → ByteArray → Bool → Option (Int × Bool)
  | 0, _, _ => none
  | k + 1, x0, x4 => if x4 = true then (if 1 ≤ (x0.size : Int) then (epactref10_number.j1 k x4 (x0.extract 1 x0.size)) else (none)) else (epactref10_number.j1 k x4 x0)
def epactref10_number.j1 : Nat → Bool → ByteArray → Option (Int × Bool)
  | 0, _, _ => none
  | k + 1, x4, x5 => if x5.toList = ([] : List UInt8) then (epactref10_number.j2 k x4 x5 true) else (if 0 < (x5.size : Int) then (if (bt x5 0) = 48 then (if (x5.size : Int) > 1 then (epactref10_number.j2 k x4 x5 true) else (epactref10_number.j2 k x4 x5 x4)) else (epactref10_number.j2 k x4 x5 false)) else (none))
def epactref10_number.j2 : Nat → Bool → ByteArray → Bool → Option (Int × Bool)
  | 0, _, _, _ => none
  | k + 1, x4, x5, x34 => if x34 = true then (some (0, false)) else (epactref10_number.l0 k x4 x5 0 0)
def epactref10_number.l0 : Nat → Bool → ByteArray → Int → Int → Option (Int × Bool)
  | 0, _, _, _, _ => none
  | k + 1, x4, x5, x6, x7 => if x7 < (x5.size : Int) then (if 0 ≤ x7 then ((epactref10_digit.f (bt x5 x7)).bind fun t242 => (if t242 = true then (if x6 > 922337203685477580 then (some (0, false)) else (epactref10_number.l0 k x4 x5 (IntKind.u64.wrap ((IntKind.u64.wrap (x6 * 10)) + (((bt x5 x7) - 48) % 256))) (wrap64 (x7 + 1)))) else (some (0, false)))) else (none)) else (if x4 = true then (if x6 ≤ 9223372036854775808 then (some (wrap64 (IntKind.u64.wrap (-x6)), true)) else (some (wrap64 (x6), false))) else (some (wrap64 (x6), decide (x6 ≤ 9223372036854775807))))
end
def epactref10_number.f (k : Nat) (a0 : ByteArray) : Option (Int × Bool) := if (a0.size : Int) > 0 then (if 0 < (a0.size : Int) then (epactref10_number.j0 k a0 ((bt a0 0) == 45)) else (none)) else (epactref10_number.j0 k a0 false)
set_option maxHeartbeats 8000000 in
set_option maxRecDepth 100000 in
theorem epactref10_number.calls (k : Nat) (a0 : ByteArray) (r1 : Int) (r2 : Bool) (w : World) (h : epactref10_number.f k a0 = some (r1, r2)) :
    Calls Tryz.prog 113 #[.string a0] w fun e w' => e = .returned (.tuple #[.int .i64 r1, .bool r2]) ∧ Drawn0 w w' := by
  have H : (if (a0.size : Int) > 0 then (if 0 < (a0.size : Int) then (epactref10_number.j0 k a0 ((bt a0 0) == 45)) else (none)) else (epactref10_number.j0 k a0 false)) = some (r1, r2) := h
  clear h
  have HC2 := Aside0.mk H
  clear H
  go_enter Tryz.func113, Tryz.ntmps113
  go_upto_region 1 with (fail)
  go_cut [4] (fun v4 wc => ∃ (kq : Nat) (x4_1 : Bool), v4 = .bool x4_1 ∧ Aside0 (epactref10_number.j0 kq a0 x4_1 = some (r1, r2)) ∧ Aside0 (kq ≤ k) ∧ Drawn0 w wc)
  case first =>
    have H := HC2.out
    clear HC2
    by_cases c3 : (a0.size : Int) > 0
    · rw [if_pos c3] at H
      have c3b0 : decide (0 < (a0.size : Int)) = true := decide_eq_true c3
      have c3b1 : decide (0 < a0.size) = true := decide_eq_true (by omega)
      clear c3
      (first | rw [c3b0] | (simp only [i64_w, i32_w]; rw [c3b0]) | skip)
      by_cases c4 : 0 < (a0.size : Int)
      · rw [if_pos c4] at H
        have c4b0 : decide (0 < (a0.size : Int)) = true := decide_eq_true c4
        have c4b1 : decide (0 < a0.size) = true := decide_eq_true (by omega)
        clear c4
        have H' := Aside0.mk H
        clear H
        have p5 : 0 ≤ (0 : Int) := (by omega)
        have q5 : 0 < a0.size := (by have : (0 : Int) < (a0.size : Int) := of_decide_eq_true (by first | (with_reducible assumption) | assumption); omega)
        have hx5 : ∀ h : 0 < a0.size, ((a0[0]'h).toNat : Int) = bt a0 0 := bt_at a0 0
        clear p5
        have qi5 : (0 < (a0.size : Int)) = True := eq_true (of_decide_eq_true (by first | (with_reducible assumption) | assumption))
        replace q5 := eq_true q5
        go_wp2
        go_meet
        case rel => exact ⟨_, (((bt a0 0) == 45)), (by first | rfl | (simp; done) | (simp [*]; done)), H', ⟨by first | omega | exact Nat.le_refl _⟩, by repeat (first | exact Drawn0.refl _ | apply Drawn0.step)⟩
      · rw [if_neg c4] at H
        exact absurd H (by simp)
    · rw [if_neg c3] at H
      have c3b0 : decide (0 < (a0.size : Int)) = false := decide_eq_false c3
      have c3b1 : decide (0 < a0.size) = false := decide_eq_false (by omega)
      clear c3
      (first | rw [c3b0] | (simp only [i64_w, i32_w]; rw [c3b0]) | skip)
      have H' := Aside0.mk H
      clear H
      go_wp2
      go_meet
      case rel => exact ⟨_, (false), (by first | rfl | (simp; done) | (simp [*]; done)), H', ⟨by first | omega | exact Nat.le_refl _⟩, by repeat (first | exact Drawn0.refl _ | apply Drawn0.step)⟩
  case rest =>
    clear HC2
    try clear c1
    try clear p2
    try clear c3
    try clear c3b0
    try clear c3b1
    try clear c4
    try clear c4b0
    try clear c4b1
    try clear p5
    try clear q5
    try clear hx5
    try clear qi5
    try clear p5
    try clear q5
    obtain ⟨kq, x4_1, rfl, HA, HJ1, ⟨mc1, rfl⟩⟩ := hcut
    cases kq with
    | zero => exact absurd HA.out (by simp [epactref10_number.j0])
    | succ kj1 =>
      have H := HA.out
      clear HA
      simp only [epactref10_number.j0] at H
      have HC6 := Aside0.mk H
      clear H
      go_upto_if 17 with (fail)
      go_cut [5] (fun v5 wc => ∃ (kq : Nat) (x5_5 : ByteArray), v5 = .string x5_5 ∧ Aside0 (epactref10_number.j1 kq x4_1 x5_5 = some (r1, r2)) ∧ Aside0 (kq ≤ kj1) ∧ Drawn0 w wc)
      case first =>
        have H := HC6.out
        clear HC6
        by_cases c7 : x4_1 = true
        · subst c7
          have H1 : (if 1 ≤ (a0.size : Int) then (epactref10_number.j1 kj1 true (a0.extract 1 a0.size)) else (none)) = some (r1, r2) := by rw [if_pos rfl] at H; exact H
          clear H
          have H := H1
          clear H1
          by_cases c8 : 1 ≤ (a0.size : Int)
          · rw [if_pos c8] at H
            have c8b0 := eq_true c8
            have c8b1 : decide (1 ≤ (a0.size : Int)) = true := decide_eq_true c8
            clear c8
            have H' := Aside0.mk H
            clear H
            go_wp2
            go_meet
            case rel => exact ⟨_, (a0.extract 1 a0.size), (by first | rfl | (simp; done) | (simp [*]; done)), H', ⟨by have := HJ1.out; first | omega | exact Nat.le_refl _⟩, by repeat (first | exact Drawn0.refl _ | apply Drawn0.step)⟩
          · rw [if_neg c8] at H
            exact absurd H (by simp)
        · replace c7 := Bool.eq_false_iff.mpr c7
          subst c7
          have H1 : (epactref10_number.j1 kj1 false a0) = some (r1, r2) := by rw [if_neg (show ¬ (false = true) by decide)] at H; exact H
          clear H
          have H := H1
          clear H1
          have H' := Aside0.mk H
          clear H
          go_wp2
          go_meet
          case rel => exact ⟨_, (a0), (by first | rfl | (simp; done) | (simp [*]; done)), H', ⟨by have := HJ1.out; first | omega | exact Nat.le_refl _⟩, by repeat (first | exact Drawn0.refl _ | apply Drawn0.step)⟩
      case rest =>
        clear HC6
        try clear c1
        try clear p2
        try clear c3
        try clear c3b0
        try clear c3b1
        try clear c4
        try clear c4b0
        try clear c4b1
        try clear p5
        try clear q5
        try clear hx5
        try clear qi5
        try clear c7
        try clear c8
        try clear c8b0
        try clear c8b1
        try clear p2
        try clear p5
        try clear q5
        obtain ⟨kq, x5_5, rfl, HA, HJ5, ⟨mc5, rfl⟩⟩ := hcut
        cases kq with
        | zero => exact absurd HA.out (by simp [epactref10_number.j1])
        | succ kj5 =>
          have H := HA.out
          clear HA
          simp only [epactref10_number.j1] at H
          have HC9 := Aside0.mk H
          clear H
          go_upto_region 5 with (fail)
          go_cut [34] (fun v34 wc => ∃ (kq : Nat) (x34_8 : Bool), v34 = .bool x34_8 ∧ Aside0 (epactref10_number.j2 kq x4_1 x5_5 x34_8 = some (r1, r2)) ∧ Aside0 (kq ≤ kj5) ∧ Drawn0 w wc)
          case first =>
            have H := HC9.out
            clear HC9
            by_cases c10 : x5_5.toList = ([] : List UInt8)
            · rw [if_pos c10] at H
              have c10b0 : (x5_5.toList == ([] : List UInt8)) = true := beq_iff_eq.mpr c10
              have c10b1 : (x5_5.toList != ([] : List UInt8)) = false := bne_eq_false_iff_eq.mpr c10
              have c10e2 : x5_5.toList.isEmpty = true := List.isEmpty_iff.2 c10
              have c10e3 : (!x5_5.toList.isEmpty) = false := by rw [c10e2]; rfl
              clear c10
              (first | rw [c10b0] | rw [c10e3] | rw [c10e2] | (simp only [i64_w, i32_w]; rw [c10b0]) | skip)
              have H' := Aside0.mk H
              clear H
              go_wp2
              go_meet
              case rel => exact ⟨_, (true), (by first | rfl | (simp; done) | (simp [*]; done)), H', ⟨by have := HJ1.out; have := HJ5.out; first | omega | exact Nat.le_refl _⟩, by repeat (first | exact Drawn0.refl _ | apply Drawn0.step)⟩
            · rw [if_neg c10] at H
              have c10b0 : (x5_5.toList == ([] : List UInt8)) = false := beq_eq_false_iff_ne.mpr c10
              have c10b1 : (x5_5.toList != ([] : List UInt8)) = true := bne_iff_ne.mpr c10
              have c10e2 : x5_5.toList.isEmpty = false := by rw [Bool.eq_false_iff]; exact fun h => c10 (List.isEmpty_iff.1 h)
              have c10e3 : (!x5_5.toList.isEmpty) = true := by rw [c10e2]; rfl
              (first | rw [c10b0] | rw [c10e3] | rw [c10e2] | (simp only [i64_w, i32_w]; rw [c10b0]) | skip)
              by_cases c11 : 0 < (x5_5.size : Int)
              · rw [if_pos c11] at H
                have c11b0 : decide (0 < (x5_5.size : Int)) = true := decide_eq_true c11
                have c11b1 : decide (0 < x5_5.size) = true := decide_eq_true (by omega)
                clear c11
                by_cases c13 : (bt x5_5 0) = 48
                · rw [if_pos c13] at H
                  have c13b0 : ((bt x5_5 0) == 48) = true := beq_iff_eq.mpr c13
                  have c13b1 : ((bt x5_5 0) != 48) = false := bne_eq_false_iff_eq.mpr c13
                  clear c13
                  by_cases c14 : (x5_5.size : Int) > 1
                  · rw [if_pos c14] at H
                    have c14b0 : decide (1 < (x5_5.size : Int)) = true := decide_eq_true c14
                    have c14b1 : decide (1 < x5_5.size) = true := decide_eq_true (by omega)
                    clear c14
                    have H' := Aside0.mk H
                    clear H
                    have p12 : 0 ≤ (0 : Int) := (by omega)
                    have q12 : 0 < x5_5.size := (by have : (0 : Int) < (x5_5.size : Int) := of_decide_eq_true (by first | (with_reducible assumption) | assumption); omega)
                    have hx12 : ∀ h : 0 < x5_5.size, ((x5_5[0]'h).toNat : Int) = bt x5_5 0 := bt_at x5_5 0
                    clear p12
                    have qi12 : (0 < (x5_5.size : Int)) = True := eq_true (of_decide_eq_true (by first | (with_reducible assumption) | assumption))
                    replace q12 := eq_true q12
                    go_wp2
                    go_meet
                    case rel => exact ⟨_, (true), (by first | rfl | (simp; done) | (simp [*]; done)), H', ⟨by have := HJ1.out; have := HJ5.out; first | omega | exact Nat.le_refl _⟩, by repeat (first | exact Drawn0.refl _ | apply Drawn0.step)⟩
                  · rw [if_neg c14] at H
                    have c14b0 : decide (1 < (x5_5.size : Int)) = false := decide_eq_false c14
                    have c14b1 : decide (1 < x5_5.size) = false := decide_eq_false (by omega)
                    clear c14
                    have H' := Aside0.mk H
                    clear H
                    have p12 : 0 ≤ (0 : Int) := (by omega)
                    have q12 : 0 < x5_5.size := (by have : (0 : Int) < (x5_5.size : Int) := of_decide_eq_true (by first | (with_reducible assumption) | assumption); omega)
                    have hx12 : ∀ h : 0 < x5_5.size, ((x5_5[0]'h).toNat : Int) = bt x5_5 0 := bt_at x5_5 0
                    clear p12
                    have qi12 : (0 < (x5_5.size : Int)) = True := eq_true (of_decide_eq_true (by first | (with_reducible assumption) | assumption))
                    replace q12 := eq_true q12
                    go_wp2
                    go_meet
                    case rel => exact ⟨_, (x4_1), (by first | rfl | (simp; done) | (simp [*]; done)), H', ⟨by have := HJ1.out; have := HJ5.out; first | omega | exact Nat.le_refl _⟩, by repeat (first | exact Drawn0.refl _ | apply Drawn0.step)⟩
                · rw [if_neg c13] at H
                  have c13b0 : ((bt x5_5 0) == 48) = false := beq_eq_false_iff_ne.mpr c13
                  have c13b1 : ((bt x5_5 0) != 48) = true := bne_iff_ne.mpr c13
                  have H' := Aside0.mk H
                  clear H
                  have p12 : 0 ≤ (0 : Int) := (by omega)
                  have q12 : 0 < x5_5.size := (by have : (0 : Int) < (x5_5.size : Int) := of_decide_eq_true (by first | (with_reducible assumption) | assumption); omega)
                  have hx12 : ∀ h : 0 < x5_5.size, ((x5_5[0]'h).toNat : Int) = bt x5_5 0 := bt_at x5_5 0
                  clear p12
                  have qi12 : (0 < (x5_5.size : Int)) = True := eq_true (of_decide_eq_true (by first | (with_reducible assumption) | assumption))
                  replace q12 := eq_true q12
                  go_wp2
                  go_meet
                  case rel => exact ⟨_, (false), (by first | rfl | (simp; done) | (simp [*]; done)), H', ⟨by have := HJ1.out; have := HJ5.out; first | omega | exact Nat.le_refl _⟩, by repeat (first | exact Drawn0.refl _ | apply Drawn0.step)⟩
              · rw [if_neg c11] at H
                exact absurd H (by simp)
          case rest =>
            clear HC9
            try clear c1
            try clear p1
            try clear q1
            try clear hx1
            try clear qi1
            try clear p2
            try clear c3
            try clear c3b0
            try clear c3b1
            try clear c4
            try clear c4b0
            try clear c4b1
            try clear c5
            try clear p5
            try clear q5
            try clear hx5
            try clear qi5
            try clear c7
            try clear c8
            try clear c8b0
            try clear c8b1
            try clear c10
            try clear c10b0
            try clear c10b1
            try clear c11
            try clear c11b0
            try clear c11b1
            try clear p12
            try clear q12
            try clear hx12
            try clear qi12
            try clear c13
            try clear c13b0
            try clear c13b1
            try clear c14
            try clear c14b0
            try clear c14b1
            try clear p12
            try clear p2
            try clear p5
            try clear q12
            try clear q5
            obtain ⟨kq, x34_8, rfl, HA, HJ8, ⟨mc8, rfl⟩⟩ := hcut
            cases kq with
            | zero => exact absurd HA.out (by simp [epactref10_number.j2])
            | succ kj8 =>
              have H := HA.out
              clear HA
              simp only [epactref10_number.j2] at H
              by_cases c15 : x34_8 = true
              · subst c15
                have H1 : (some (0, false)) = some (r1, r2) := by rw [if_pos rfl] at H; exact H
                clear H
                have H := H1
                clear H1
                simp only [Option.some.injEq, Prod.mk.injEq] at H
                obtain ⟨rfl, rfl⟩ := H
                go_wp2
                go_ret2
                exact ⟨by first | rfl | (simp; done) | (simp [*]; done), by repeat (first | exact Drawn0.refl _ | apply Drawn0.step)⟩
              · replace c15 := Bool.eq_false_iff.mpr c15
                subst c15
                have H1 : (epactref10_number.l0 kj8 x4_1 x5_5 0 0) = some (r1, r2) := by rw [if_neg (show ¬ (false = true) by decide)] at H; exact H
                clear H
                have H := H1
                clear H1
                have H' := Aside0.mk H
                clear H
                go_wp2
                go_loopg [6, 7] kj8 (fun kq v6 v7 w' => ∃ (x6_4 : Int) (x7_4 : Int), v6 = .int .u64 x6_4 ∧ v7 = .int .i64 x7_4 ∧ Aside0 (epactref10_number.l0 kq x4_1 x5_5 x6_4 x7_4 = some (r1, r2)) ∧ Aside0 (kq ≤ kj8) ∧ Drawn0 w w')
                case atStart => exact ⟨(0), (0), (by first | rfl | (simp; done) | (simp [*]; done)), (by first | rfl | (simp; done) | (simp [*]; done)), H', ⟨Nat.le_refl _⟩, by repeat (first | exact Drawn0.refl _ | apply Drawn0.step)⟩
                case round =>
                  clear H'
                  try clear c1
                  try clear p1
                  try clear q1
                  try clear hx1
                  try clear qi1
                  try clear p2
                  try clear c3
                  try clear c3b0
                  try clear c3b1
                  try clear c4
                  try clear c4b0
                  try clear c4b1
                  try clear c5
                  try clear p5
                  try clear q5
                  try clear hx5
                  try clear qi5
                  try clear c7
                  try clear c8
                  try clear c8b0
                  try clear c8b1
                  try clear c10
                  try clear c10b0
                  try clear c10b1
                  try clear c11
                  try clear c11b0
                  try clear c11b1
                  try clear p12
                  try clear q12
                  try clear hx12
                  try clear qi12
                  try clear c13
                  try clear c13b0
                  try clear c13b1
                  try clear c14
                  try clear c14b0
                  try clear c14b1
                  try clear c15
                  try clear p1
                  try clear p12
                  try clear p2
                  try clear p5
                  try clear q1
                  try clear q12
                  try clear q5
                  obtain ⟨x6_4, x7_4, rfl, rfl, HA, HK4, ⟨m4, rfl⟩⟩ := hrel
                  cases gk with
                  | zero => exact absurd HA.out (by simp [epactref10_number.l0])
                  | succ k4 =>
                    have H := HA.out
                    clear HA
                    simp only [epactref10_number.l0] at H
                    by_cases c16 : x7_4 < (x5_5.size : Int)
                    · rw [if_pos c16] at H
                      have c16b0 : decide (x7_4 < (x5_5.size : Int)) = true := decide_eq_true c16
                      clear c16
                      by_cases c17 : 0 ≤ x7_4
                      · rw [if_pos c17] at H
                        have c17b0 : decide (0 ≤ x7_4) = true := decide_eq_true c17
                        clear c17
                        replace H := Option.bind_eq_some_iff.mp H
                        obtain ⟨t242, A190, H⟩ := H
                        replace H : (if t242 = true then (if x6_4 > 922337203685477580 then (some (0, false)) else (epactref10_number.l0 k4 x4_1 x5_5 (IntKind.u64.wrap ((IntKind.u64.wrap (x6_4 * 10)) + (((bt x5_5 x7_4) - 48) % 256))) (wrap64 (x7_4 + 1)))) else (some (0, false))) = some (r1, r2) := H
                        have A19 := Aside0.mk A190
                        clear A190
                        by_cases c20 : t242 = true
                        · subst c20
                          have H1 : (if x6_4 > 922337203685477580 then (some (0, false)) else (epactref10_number.l0 k4 x4_1 x5_5 (IntKind.u64.wrap ((IntKind.u64.wrap (x6_4 * 10)) + (((bt x5_5 x7_4) - 48) % 256))) (wrap64 (x7_4 + 1)))) = some (r1, r2) := by rw [if_pos rfl] at H; exact H
                          clear H
                          have H := H1
                          clear H1
                          by_cases c21 : x6_4 > 922337203685477580
                          · rw [if_pos c21] at H
                            have c21b0 : decide (922337203685477580 < x6_4) = true := decide_eq_true c21
                            clear c21
                            simp only [Option.some.injEq, Prod.mk.injEq] at H
                            obtain ⟨rfl, rfl⟩ := H
                            have p18 : 0 ≤ (x7_4 : Int) := of_decide_eq_true (by first | (with_reducible assumption) | assumption)
                            have q18 : x7_4 < (x5_5.size : Int) := of_decide_eq_true (by first | (with_reducible assumption) | assumption)
                            have hx18 := bt_at x5_5 x7_4
                            replace p18 := eq_true p18
                            replace q18 := eq_true q18
                            go_wp2_with (first | ((with_reducible refine gate_callee (f := 112) rfl ?_); refine goesL_ (some 44) rfl rfl Tryz.func112 (by kernel_rfl) rfl #[.int .u8 (bt x5_5 x7_4)] rfl (by (try simp only [List.map_toArray, List.map_cons, List.map_nil]); first | done | rfl | (simp only [List.length_drop, List.length_take]; rfl)) ?_; (with_reducible refine (epactref10_digit.calls (bt x5_5 x7_4) true _ A19.out).mono ?_); rintro e w' ⟨rfl, ⟨nd, rfl⟩⟩; refine ⟨_, rfl, ?_⟩))
                            go_ret2
                            exact ⟨by first | rfl | (simp; done) | (simp [*]; done), by repeat (first | exact Drawn0.refl _ | apply Drawn0.step)⟩
                          · rw [if_neg c21] at H
                            have c21b0 : decide (922337203685477580 < x6_4) = false := decide_eq_false c21
                            clear c21
                            have H' := Aside0.mk H
                            clear H
                            have p18 : 0 ≤ (x7_4 : Int) := of_decide_eq_true (by first | (with_reducible assumption) | assumption)
                            have q18 : x7_4 < (x5_5.size : Int) := of_decide_eq_true (by first | (with_reducible assumption) | assumption)
                            have hx18 := bt_at x5_5 x7_4
                            replace p18 := eq_true p18
                            replace q18 := eq_true q18
                            go_wp2_with (first | ((with_reducible refine gate_callee (f := 112) rfl ?_); refine goesL_ (some 44) rfl rfl Tryz.func112 (by kernel_rfl) rfl #[.int .u8 (bt x5_5 x7_4)] rfl (by (try simp only [List.map_toArray, List.map_cons, List.map_nil]); first | done | rfl | (simp only [List.length_drop, List.length_take]; rfl)) ?_; (with_reducible refine (epactref10_digit.calls (bt x5_5 x7_4) true _ A19.out).mono ?_); rintro e w' ⟨rfl, ⟨nd, rfl⟩⟩; refine ⟨_, rfl, ?_⟩; have p22 : 0 ≤ (x7_4 : Int) := of_decide_eq_true (by first | (with_reducible assumption) | assumption); have q22 : x7_4 < (x5_5.size : Int) := of_decide_eq_true (by first | (with_reducible assumption) | assumption); have hx22 := bt_at x5_5 x7_4; replace p22 := eq_true p22; replace q22 := eq_true q22))
                            go_roundg k4
                            case measure => have := HJ1.out; have := HJ5.out; have := HJ8.out; have := HK4.out; omega
                            case rel => exact ⟨(IntKind.u64.wrap ((IntKind.u64.wrap (x6_4 * 10)) + (((bt x5_5 x7_4) - 48) % 256))), (wrap64 (x7_4 + 1)), (by first | rfl | (simp; done) | (simp [*]; done)), (by first | rfl | (simp; done) | (simp [*]; done)), H', ⟨by have := HJ1.out; have := HJ5.out; have := HJ8.out; have := HK4.out; omega⟩, by repeat (first | exact Drawn0.refl _ | apply Drawn0.step)⟩
                        · replace c20 := Bool.eq_false_iff.mpr c20
                          subst c20
                          have H1 : (some (0, false)) = some (r1, r2) := by rw [if_neg (show ¬ (false = true) by decide)] at H; exact H
                          clear H
                          have H := H1
                          clear H1
                          simp only [Option.some.injEq, Prod.mk.injEq] at H
                          obtain ⟨rfl, rfl⟩ := H
                          have p18 : 0 ≤ (x7_4 : Int) := of_decide_eq_true (by first | (with_reducible assumption) | assumption)
                          have q18 : x7_4 < (x5_5.size : Int) := of_decide_eq_true (by first | (with_reducible assumption) | assumption)
                          have hx18 := bt_at x5_5 x7_4
                          replace p18 := eq_true p18
                          replace q18 := eq_true q18
                          go_wp2_with (first | ((with_reducible refine gate_callee (f := 112) rfl ?_); refine goesL_ (some 44) rfl rfl Tryz.func112 (by kernel_rfl) rfl #[.int .u8 (bt x5_5 x7_4)] rfl (by (try simp only [List.map_toArray, List.map_cons, List.map_nil]); first | done | rfl | (simp only [List.length_drop, List.length_take]; rfl)) ?_; (with_reducible refine (epactref10_digit.calls (bt x5_5 x7_4) false _ A19.out).mono ?_); rintro e w' ⟨rfl, ⟨nd, rfl⟩⟩; refine ⟨_, rfl, ?_⟩))
                          go_ret2
                          exact ⟨by first | rfl | (simp; done) | (simp [*]; done), by repeat (first | exact Drawn0.refl _ | apply Drawn0.step)⟩
                      · rw [if_neg c17] at H
                        exact absurd H (by simp)
                    · rw [if_neg c16] at H
                      have c16b0 : decide (x7_4 < (x5_5.size : Int)) = false := decide_eq_false c16
                      clear c16
                      by_cases c23 : x4_1 = true
                      · subst c23
                        have H1 : (if x6_4 ≤ 9223372036854775808 then (some (wrap64 (IntKind.u64.wrap (-x6_4)), true)) else (some (wrap64 (x6_4), false))) = some (r1, r2) := by rw [if_pos rfl] at H; exact H
                        clear H
                        have H := H1
                        clear H1
                        by_cases c24 : x6_4 ≤ 9223372036854775808
                        · rw [if_pos c24] at H
                          have c24b0 : decide (x6_4 ≤ 9223372036854775808) = true := decide_eq_true c24
                          clear c24
                          simp only [Option.some.injEq, Prod.mk.injEq] at H
                          obtain ⟨rfl, rfl⟩ := H
                          go_wp2
                          go_ret2
                          exact ⟨by first | rfl | (simp; done) | (simp [*]; done), by repeat (first | exact Drawn0.refl _ | apply Drawn0.step)⟩
                        · rw [if_neg c24] at H
                          have c24b0 : decide (x6_4 ≤ 9223372036854775808) = false := decide_eq_false c24
                          clear c24
                          simp only [Option.some.injEq, Prod.mk.injEq] at H
                          obtain ⟨rfl, rfl⟩ := H
                          go_wp2
                          go_ret2
                          exact ⟨by first | rfl | (simp; done) | (simp [*]; done), by repeat (first | exact Drawn0.refl _ | apply Drawn0.step)⟩
                      · replace c23 := Bool.eq_false_iff.mpr c23
                        subst c23
                        have H1 : (some (wrap64 (x6_4), decide (x6_4 ≤ 9223372036854775807))) = some (r1, r2) := by rw [if_neg (show ¬ (false = true) by decide)] at H; exact H
                        clear H
                        have H := H1
                        clear H1
                        simp only [Option.some.injEq, Prod.mk.injEq] at H
                        obtain ⟨rfl, rfl⟩ := H
                        go_wp2
                        go_ret2
                        exact ⟨by first | rfl | (simp; done) | (simp [*]; done), by repeat (first | exact Drawn0.refl _ | apply Drawn0.step)⟩
end Go.Proofs.YtcinojbfjiohjaaGreatDoor.PPrintTells
end
