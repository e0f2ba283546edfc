/-
  Part 4 of what the row stands on, put together by a program: LxF, LxG, LxH, PLxE, PLxS, LxI, LxPw, LxRw, DatLaid, LxLaid.
-/
import Derived.LaidMore
import Derived.Lay
import Derived.Lib.SliceRun
import Derived.OpenShut
import Derived.ProofKit
import Derived.Shelf.Vars
import Derived.Stop.Joined
import Derived.Stop.LaidErr
import Derived.Test.YtcinojbfjiohjaaGreatDoorRows
import Derived.Test.YtcinojbfjiohjaaGreatDoorLbC
section
namespace Go.Proofs.YtcinojbfjiohjaaGreatDoor.Lx
open Go Go.RowKit Go.Proofs.YtcinojbfjiohjaaGreatDoor.PPrintTells Go.Proofs.YtcinojbfjiohjaaGreatDoor.Ex Go.Proofs.YtcinojbfjiohjaaGreatDoor.Civ Go.Proofs.YtcinojbfjiohjaaGreatDoorW.PrintWords Go.Proofs.YtcinojbfjiohjaaGreatDoorW.PrintLast Go.Proofs.YtcinojbfjiohjaaGreatDoorW.PrintMore
set_option linter.unusedVariables false
set_option linter.unusedSimpArgs false
abbrev AT : ByteArray := ⟨#[64]⟩
/-- A word's text, and whether the word is right. -/
def textT (t : Tok) : ByteArray × Bool :=
  if t.f0 = 1 then (t.f1, namedL t.f1.data.toList && decide (t.f2 = 0) && decide (spanN letterB t.f1.data.toList = t.f1.size))
  else if t.f0 = 2 then (⟨(Lib.itoa t.f2).toArray⟩, t.f1.toList.isEmpty)
  else if t.f0 = 3 then (AT ++ (textF t.f2).1, decide ((textF t.f2).2 = 0) && t.f1.toList.isEmpty)
  else if t.f0 = 4 then (t.f1, decide (t.f2 = 0) && decide (t.f1.size = 1) && t.f1.data.toList.all markB)
  else (nil8, false)
def rightT (t : Tok) : Bool := (textT t).2
theorem textF_size (n : Int) : (textF n).1.size ≤ 200 := by
  unfold textF
  split
  · rename_i hn
    have hok := (date_ok hn).1
    have hm := hok.month
    have hd : 1 ≤ dyF n ∧ dyF n ≤ 31 := ⟨hok.2.2.2.2.1, by have := hok.2.2.2.2.2; have := len_le (yrF n) (moF n); omega⟩
    have hy0 := hok.1
    have hy1 := hok.2.1
    show (ymdL (yrF n) (moF n) (dyF n)).toArray.size ≤ 200
    rw [List.size_toArray]
    unfold ymdL
    split
    · have := partsL_len (-(yrF n)) (moF n) (dyF n) ⟨by omega, by omega⟩ hm hd
      rw [List.length_cons]
      omega
    · have := partsL_len (yrF n) (moF n) (dyF n) ⟨by omega, by omega⟩ hm hd
      omega
  · exact Nat.zero_le _
structure TB (t : Tok) (k : Nat) (w0 W : World) : Prop where
  tb : W.heap[k]? = some (tokC t)
  lt : Lt w0 W
theorem TB.l {t : Tok} {k : Nat} {w0 W W2 : World} (h : TB t k w0 W) (hl : Lt W W2) : TB t k w0 W2 := ⟨blk_lt_on hl h.tb, h.lt.trans hl⟩
set_option maxHeartbeats 16000000 in
set_option maxRecDepth 100000 in
theorem text_calls (t : Tok) (h64 : -9223372036854775808 ≤ t.f2 ∧ t.f2 ≤ 9223372036854775807) (hz : t.f1.size ≤ 4611686018427387904) (w : World) (hC : LCal w) :
    Calls Tryz.prog 69 #[tokV t] w fun e w' => e = .returned (.tuple #[.string (textT t).1, .bool (textT t).2]) ∧ Lt w w' := by
  have B0 := Aside0.mk (TB.mk (t := t) (blk_new w (tokC t)) ((Lt.refl w).a (tokC t)))
  have HC := Aside0.mk hC
  have LE : ∀ args w, (callFunc 88 args).run Tryz.prog w = .ok (.enter 88 args) w := fun args w => by kernel_rfl
  have CF := fun W (h : LCal W) => Aside0.mk (Tryz.strconv_FormatInt_10 t.f2 (by omega) (by omega) W h.cal.pow)
  have CT := fun W (h : LCal W) => Aside0.mk (Text_lt t.f2 W h.cal)
  have CN := fun W => Aside0.mk (named_calls t.f1 W (by omega))
  have CR := fun W => Aside0.mk (run_calls letterB _ LE letter_calls t.f1 0 (Nat.zero_le _) hz W)
  have SZ := Aside0.mk (show t.f1.data.toList.length = t.f1.size from Array.length_toList)
  obtain ⟨k, s, n⟩ := t
  dsimp only at B0 CF CT CN CR SZ hz h64
  rw [List.drop_zero, Nat.zero_add, show ((0 : Nat) : Int) = 0 from rfl] at CR
  clear hC LE

  by_cases k1 : k = 1
  · subst k1
    have hT : textT ⟨1, s, n⟩ = (s, namedL s.data.toList && decide (n = 0) && decide (spanN letterB s.data.toList = s.size)) := if_pos rfl
    rw [hT]
    clear hT h64 hz CF CT
    obtain ⟨m, hm⟩ : ∃ m, m = spanN letterB s.data.toList := ⟨_, rfl⟩
    rw [← hm] at CR ⊢
    clear hm
    have HM : decide (m = s.size) = ((m : Int) == (s.size : Int)) := by
      rw [Bool.eq_iff_iff, decide_eq_true_eq, beq_iff_eq]; omega
    rw [HM]
    clear HM
    generalize namedL s.data.toList = nb at *
    clear SZ
    cases nb with
    | false =>
      rw [Bool.false_and, Bool.false_and]
      go_enter Tryz.func69, Tryz.ntmps69
      obtain ⟨z0, z1, z2⟩ := cells3 B0.out.tb
      go_wp2_with fail
      (with_reducible refine (CN _).out.mono ?_)
      rintro e w1 ⟨rfl, hl⟩
      have B1 := Aside0.mk ((B0.out.l hl).l ((Lt.refl _).a (tokC ⟨1, s, 0⟩)))
      clear hl CN z0 z1 z2 B0
      go_wp2_with fail
      obtain ⟨w2, hw2⟩ : ∃ z : World, z = w1.alloc (tokC ⟨1, s, 0⟩) := ⟨_, rfl⟩
      rw [← hw2] at B1
      change Code.wp _ _ _ _ (w1.alloc (tokC ⟨1, s, 0⟩))
      rw [← hw2]
      clear hw2
      have B1 := Aside0.mk (B1.out.l (Lt.refl _).d1)
      refine start_ (n := 19) (S := fun w' => w'.cell? ⟨w.heap.size, 0, none⟩ = some (.int .u8 1) ∧ w'.cell? ⟨w.heap.size, 1, none⟩ = some (.string s) ∧ w'.cell? ⟨w.heap.size, 2, none⟩ = some (.int .i64 n)) (ds := []) #[false, false, false, false, false, false, false, false, false, false, false, false, false, false, false, false, false, false, false] (by kernel_rfl) rfl rfl ⟨(cells3 B1.out.tb).1, (cells3 B1.out.tb).2.1, (cells3 B1.out.tb).2.2⟩ (fun hHeld => ?_)
      refine pure_ (i := 0) (N := some 18) (v := ?_) (a' := ?_) #[true, false, false, false, false, false, false, false, false, false, false, false, false, false, false, false, false, false, false] rfl rfl (by kernel_rfl) (fun _ _ _ h => h) (Or.inl ⟨by rfl, ?_⟩) ?_ ?_
      rotate_left
      · intro w'
        go_simp
        with_reducible rfl
      rotate_left
      · simp only [Act.put, List.setIfInBounds_toArray, List.set_cons_zero, List.set_cons_succ, i64_w, i32_w]
        rfl
      refine pure_ (i := 2) (N := some 20) (v := ?_) (a' := ?_) #[true, false, true, false, false, false, false, false, false, false, false, false, false, false, false, false, false, false, false] rfl rfl (by kernel_rfl) (fun _ _ _ h => h) (Or.inl ⟨by rfl, ?_⟩) ?_ ?_
      rotate_left
      · intro w'
        go_simp
        with_reducible rfl
      rotate_left
      · simp only [Act.put, List.setIfInBounds_toArray, List.set_cons_zero, List.set_cons_succ, i64_w, i32_w]
        rfl
      refine pure_ (i := 3) (N := some 21) (v := ?_) (a' := ?_) #[true, false, true, true, false, false, false, false, false, false, false, false, false, false, false, false, false, false, false] rfl rfl (by kernel_rfl) (fun _ _ _ h => h) (Or.inl ⟨by rfl, ?_⟩) ?_ ?_
      rotate_left
      · intro w'
        go_simp
        with_reducible rfl
      rotate_left
      · simp only [Act.put, List.setIfInBounds_toArray, List.set_cons_zero, List.set_cons_succ, i64_w, i32_w]
        rfl
      refine pure_ (i := 4) (N := some 22) (v := undef) (a' := ?_) #[true, false, true, true, true, false, false, false, false, false, false, false, false, false, false, false, false, false, false] rfl rfl (by kernel_rfl) (fun _ _ _ h => h) (Or.inr ⟨by rfl, rfl⟩) ?_ ?_
      rotate_left
      · simp only [Act.put, List.setIfInBounds_toArray, List.set_cons_zero, List.set_cons_succ, i64_w, i32_w]
        rfl
      refine pure_ (i := 5) (N := some 23) (v := undef) (a' := ?_) #[true, false, true, true, true, true, false, false, false, false, false, false, false, false, false, false, false, false, false] rfl rfl (by kernel_rfl) (fun _ _ _ h => h) (Or.inr ⟨by rfl, rfl⟩) ?_ ?_
      rotate_left
      · simp only [Act.put, List.setIfInBounds_toArray, List.set_cons_zero, List.set_cons_succ, i64_w, i32_w]
        rfl
      refine pure_ (i := 6) (N := some 24) (v := undef) (a' := ?_) #[true, false, true, true, true, true, true, false, false, false, false, false, false, false, false, false, false, false, false] rfl rfl (by kernel_rfl) (fun _ _ _ h => h) (Or.inr ⟨by rfl, rfl⟩) ?_ ?_
      rotate_left
      · simp only [Act.put, List.setIfInBounds_toArray, List.set_cons_zero, List.set_cons_succ, i64_w, i32_w]
        rfl
      refine pure_ (i := 7) (N := some 25) (v := ?_) (a' := ?_) #[true, false, true, true, true, true, true, true, false, false, false, false, false, false, false, false, false, false, false] rfl rfl (by kernel_rfl) (fun _ _ _ h => h) (Or.inl ⟨by rfl, ?_⟩) ?_ ?_
      rotate_left
      · intro w'
        go_simp
        with_reducible rfl
      rotate_left
      · simp only [Act.put, List.setIfInBounds_toArray, List.set_cons_zero, List.set_cons_succ, i64_w, i32_w]
        rfl
      refine pure_ (i := 8) (N := some 26) (v := ?_) (a' := ?_) #[true, false, true, true, true, true, true, true, true, false, false, false, false, false, false, false, false, false, false] rfl rfl (by kernel_rfl) (fun _ _ _ h => h) (Or.inl ⟨by rfl, ?_⟩) ?_ ?_
      rotate_left
      · intro w'
        go_simp
        with_reducible rfl
      rotate_left
      · simp only [Act.put, List.setIfInBounds_toArray, List.set_cons_zero, List.set_cons_succ, i64_w, i32_w]
        rfl
      refine pure_ (i := 9) (N := some 27) (v := undef) (a' := ?_) #[true, false, true, true, true, true, true, true, true, true, false, false, false, false, false, false, false, false, false] rfl rfl (by kernel_rfl) (fun _ _ _ h => h) (Or.inr ⟨by rfl, rfl⟩) ?_ ?_
      rotate_left
      · simp only [Act.put, List.setIfInBounds_toArray, List.set_cons_zero, List.set_cons_succ, i64_w, i32_w]
        rfl
      refine pure_ (i := 10) (N := some 28) (v := undef) (a' := ?_) #[true, false, true, true, true, true, true, true, true, true, true, false, false, false, false, false, false, false, false] rfl rfl (by kernel_rfl) (fun _ _ _ h => h) (Or.inr ⟨by rfl, rfl⟩) ?_ ?_
      rotate_left
      · simp only [Act.put, List.setIfInBounds_toArray, List.set_cons_zero, List.set_cons_succ, i64_w, i32_w]
        rfl
      refine pure_ (i := 11) (N := some 29) (v := undef) (a' := ?_) #[true, false, true, true, true, true, true, true, true, true, true, true, false, false, false, false, false, false, false] rfl rfl (by kernel_rfl) (fun _ _ _ h => h) (Or.inr ⟨by rfl, rfl⟩) ?_ ?_
      rotate_left
      · simp only [Act.put, List.setIfInBounds_toArray, List.set_cons_zero, List.set_cons_succ, i64_w, i32_w]
        rfl
      refine pure_ (i := 12) (N := some 30) (v := undef) (a' := ?_) #[true, false, true, true, true, true, true, true, true, true, true, true, true, false, false, false, false, false, false] rfl rfl (by kernel_rfl) (fun _ _ _ h => h) (Or.inr ⟨by rfl, rfl⟩) ?_ ?_
      rotate_left
      · simp only [Act.put, List.setIfInBounds_toArray, List.set_cons_zero, List.set_cons_succ, i64_w, i32_w]
        rfl
      refine pure_ (i := 13) (N := some 31) (v := undef) (a' := ?_) #[true, false, true, true, true, true, true, true, true, true, true, true, true, true, false, false, false, false, false] rfl rfl (by kernel_rfl) (fun _ _ _ h => h) (Or.inr ⟨by rfl, rfl⟩) ?_ ?_
      rotate_left
      · simp only [Act.put, List.setIfInBounds_toArray, List.set_cons_zero, List.set_cons_succ, i64_w, i32_w]
        rfl
      refine pure_ (i := 14) (N := some 32) (v := undef) (a' := ?_) #[true, false, true, true, true, true, true, true, true, true, true, true, true, true, true, false, false, false, false] rfl rfl (by kernel_rfl) (fun _ _ _ h => h) (Or.inr ⟨by rfl, rfl⟩) ?_ ?_
      rotate_left
      · simp only [Act.put, List.setIfInBounds_toArray, List.set_cons_zero, List.set_cons_succ, i64_w, i32_w]
        rfl
      refine pure_ (i := 15) (N := some 33) (v := undef) (a' := ?_) #[true, false, true, true, true, true, true, true, true, true, true, true, true, true, true, true, false, false, false] rfl rfl (by kernel_rfl) (fun _ _ _ h => h) (Or.inr ⟨by rfl, rfl⟩) ?_ ?_
      rotate_left
      · simp only [Act.put, List.setIfInBounds_toArray, List.set_cons_zero, List.set_cons_succ, i64_w, i32_w]
        rfl
      refine pure_ (i := 16) (N := some 34) (v := ?_) (a' := ?_) #[true, false, true, true, true, true, true, true, true, true, true, true, true, true, true, true, true, false, false] rfl rfl (by kernel_rfl) (fun _ _ _ h => h) (Or.inl ⟨by rfl, ?_⟩) ?_ ?_
      rotate_left
      · intro w'
        go_simp
        with_reducible rfl
      rotate_left
      · simp only [Act.put, List.setIfInBounds_toArray, List.set_cons_zero, List.set_cons_succ, i64_w, i32_w]
        rfl
      refine take_ (i := 1) (N := some 19) (v := ?_) (a' := ?_) #[true, true, true, true, true, true, true, true, true, true, true, true, true, true, true, true, true, false, false] rfl rfl (by kernel_rfl) (fun _ _ _ h => h) (Or.inl ⟨by rfl, ?_⟩) hHeld ?_ ?_
      rotate_left
      · rintro w' ⟨s0, s1, s2⟩
        go_simp
        with_reducible rfl
      rotate_left
      · simp only [Act.put, List.setIfInBounds_toArray, List.set_cons_zero, List.set_cons_succ, i64_w, i32_w]
        rfl
      refine pure_ (i := 17) (N := some 2) (v := ?_) (a' := ?_) #[true, true, true, true, true, true, true, true, true, true, true, true, true, true, true, true, true, true, false] rfl rfl (by kernel_rfl) (fun _ _ _ h => h) (Or.inl ⟨by rfl, ?_⟩) ?_ ?_
      rotate_left
      · intro w'
        go_simp
        with_reducible rfl
      rotate_left
      · simp only [Act.put, List.setIfInBounds_toArray, List.set_cons_zero, List.set_cons_succ, i64_w, i32_w]
        rfl
      refine pure_ (i := 18) (N := some 3) (v := ?_) (a' := ?_) #[true, true, true, true, true, true, true, true, true, true, true, true, true, true, true, true, true, true, true] rfl rfl (by kernel_rfl) (fun _ _ _ h => h) (Or.inl ⟨by rfl, ?_⟩) ?_ ?_
      rotate_left
      · intro w'
        go_simp
        with_reducible rfl
      rotate_left
      · simp only [Act.put, List.setIfInBounds_toArray, List.set_cons_zero, List.set_cons_succ, i64_w, i32_w]
        rfl
      refine done_ (by kernel_rfl) ?_

      go_wp2_with fail
      go_ret2
      exact ⟨rfl, B1.out.lt⟩
    | true =>
      by_cases hn : n = 0
      · subst hn
        rw [decide_eq_true rfl, Bool.true_and, Bool.true_and]
        go_enter Tryz.func69, Tryz.ntmps69
        obtain ⟨z0, z1, z2⟩ := cells3 B0.out.tb
        go_wp2_with fail
        (with_reducible refine (CN _).out.mono ?_)
        rintro e w1 ⟨rfl, hl⟩
        have B1 := Aside0.mk ((B0.out.l hl).l ((Lt.refl _).a (tokC ⟨1, s, 0⟩)))
        clear hl CN z0 z1 z2 B0
        go_wp2_with fail
        obtain ⟨w2, hw2⟩ : ∃ z : World, z = w1.alloc (tokC ⟨1, s, 0⟩) := ⟨_, rfl⟩
        rw [← hw2] at B1
        change Code.wp _ _ _ _ (w1.alloc (tokC ⟨1, s, 0⟩))
        rw [← hw2]
        clear hw2
        have B1 := Aside0.mk (B1.out.l (Lt.refl _).d1)
        refine start_ (n := 19) (S := fun w' => w'.cell? ⟨w.heap.size, 0, none⟩ = some (.int .u8 1) ∧ w'.cell? ⟨w.heap.size, 1, none⟩ = some (.string s) ∧ w'.cell? ⟨w.heap.size, 2, none⟩ = some (.int .i64 0)) (ds := []) #[false, false, false, false, false, false, false, false, false, false, false, false, false, false, false, false, false, false, false] (by kernel_rfl) rfl rfl ⟨(cells3 B1.out.tb).1, (cells3 B1.out.tb).2.1, (cells3 B1.out.tb).2.2⟩ (fun hHeld => ?_)
        refine pure_ (i := 0) (N := some 18) (v := ?_) (a' := ?_) #[true, false, false, false, false, false, false, false, false, false, false, false, false, false, false, false, false, false, false] rfl rfl (by kernel_rfl) (fun _ _ _ h => h) (Or.inl ⟨by rfl, ?_⟩) ?_ ?_
        rotate_left
        · intro w'
          go_simp
          with_reducible rfl
        rotate_left
        · simp only [Act.put, List.setIfInBounds_toArray, List.set_cons_zero, List.set_cons_succ, i64_w, i32_w]
          rfl
        refine pure_ (i := 2) (N := some 20) (v := ?_) (a' := ?_) #[true, false, true, false, false, false, false, false, false, false, false, false, false, false, false, false, false, false, false] rfl rfl (by kernel_rfl) (fun _ _ _ h => h) (Or.inl ⟨by rfl, ?_⟩) ?_ ?_
        rotate_left
        · intro w'
          go_simp
          with_reducible rfl
        rotate_left
        · simp only [Act.put, List.setIfInBounds_toArray, List.set_cons_zero, List.set_cons_succ, i64_w, i32_w]
          rfl
        refine pure_ (i := 3) (N := some 21) (v := ?_) (a' := ?_) #[true, false, true, true, false, false, false, false, false, false, false, false, false, false, false, false, false, false, false] rfl rfl (by kernel_rfl) (fun _ _ _ h => h) (Or.inl ⟨by rfl, ?_⟩) ?_ ?_
        rotate_left
        · intro w'
          go_simp
          with_reducible rfl
        rotate_left
        · simp only [Act.put, List.setIfInBounds_toArray, List.set_cons_zero, List.set_cons_succ, i64_w, i32_w]
          rfl
        refine pure_ (i := 4) (N := some 22) (v := ?_) (a' := ?_) #[true, false, true, true, true, false, false, false, false, false, false, false, false, false, false, false, false, false, false] rfl rfl (by kernel_rfl) (fun _ _ _ h => h) (Or.inl ⟨by rfl, ?_⟩) ?_ ?_
        rotate_left
        · intro w'
          go_simp
          with_reducible rfl
        rotate_left
        · simp only [Act.put, List.setIfInBounds_toArray, List.set_cons_zero, List.set_cons_succ, i64_w, i32_w]
          rfl
        refine take_ (i := 1) (N := some 19) (v := ?_) (a' := ?_) #[true, true, true, true, true, false, false, false, false, false, false, false, false, false, false, false, false, false, false] rfl rfl (by kernel_rfl) (fun _ _ _ h => h) (Or.inl ⟨by rfl, ?_⟩) hHeld ?_ ?_
        rotate_left
        · rintro w' ⟨s0, s1, s2⟩
          go_simp
          with_reducible rfl
        rotate_left
        · simp only [Act.put, List.setIfInBounds_toArray, List.set_cons_zero, List.set_cons_succ, i64_w, i32_w]
          rfl
        refine take_ (i := 5) (N := some 23) (v := ?_) (a' := ?_) #[true, true, true, true, true, true, false, false, false, false, false, false, false, false, false, false, false, false, false] rfl rfl (by kernel_rfl) (fun _ _ _ h => h) (Or.inl ⟨by rfl, ?_⟩) hHeld ?_ ?_
        rotate_left
        · rintro w' ⟨s0, s1, s2⟩
          go_simp
          with_reducible rfl
        rotate_left
        · simp only [Act.put, List.setIfInBounds_toArray, List.set_cons_zero, List.set_cons_succ, i64_w, i32_w]
          rfl
        refine pure_ (i := 6) (N := some 24) (v := ?_) (a' := ?_) #[true, true, true, true, true, true, true, false, false, false, false, false, false, false, false, false, false, false, false] rfl rfl (by kernel_rfl) (fun _ _ _ h => h) (Or.inl ⟨by rfl, ?_⟩) ?_ ?_
        rotate_left
        · intro w'
          go_simp
          with_reducible rfl
        rotate_left
        · simp only [Act.put, List.setIfInBounds_toArray, List.set_cons_zero, List.set_cons_succ, i64_w, i32_w]
          rfl
        refine pure_ (i := 7) (N := some 25) (v := ?_) (a' := ?_) #[true, true, true, true, true, true, true, true, false, false, false, false, false, false, false, false, false, false, false] rfl rfl (by kernel_rfl) (fun _ _ _ h => h) (Or.inl ⟨by rfl, ?_⟩) ?_ ?_
        rotate_left
        · intro w'
          go_simp
          with_reducible rfl
        rotate_left
        · simp only [Act.put, List.setIfInBounds_toArray, List.set_cons_zero, List.set_cons_succ, i64_w, i32_w]
          rfl
        refine pure_ (i := 8) (N := some 26) (v := ?_) (a' := ?_) #[true, true, true, true, true, true, true, true, true, false, false, false, false, false, false, false, false, false, false] rfl rfl (by kernel_rfl) (fun _ _ _ h => h) (Or.inl ⟨by rfl, ?_⟩) ?_ ?_
        rotate_left
        · intro w'
          go_simp
          with_reducible rfl
        rotate_left
        · simp only [Act.put, List.setIfInBounds_toArray, List.set_cons_zero, List.set_cons_succ, i64_w, i32_w]
          rfl
        refine pure_ (i := 9) (N := some 27) (v := ?_) (a' := ?_) #[true, true, true, true, true, true, true, true, true, true, false, false, false, false, false, false, false, false, false] rfl rfl (by kernel_rfl) (fun _ _ _ h => h) (Or.inl ⟨by rfl, ?_⟩) ?_ ?_
        rotate_left
        · intro w'
          go_simp
          with_reducible rfl
        rotate_left
        · simp only [Act.put, List.setIfInBounds_toArray, List.set_cons_zero, List.set_cons_succ, i64_w, i32_w]
          rfl
        refine pure_ (i := 12) (N := some 30) (v := ?_) (a' := ?_) #[true, true, true, true, true, true, true, true, true, true, false, false, true, false, false, false, false, false, false] rfl rfl (by kernel_rfl) (fun _ _ _ h => h) (Or.inl ⟨by rfl, ?_⟩) ?_ ?_
        rotate_left
        · intro w'
          go_simp
          with_reducible rfl
        rotate_left
        · simp only [Act.put, List.setIfInBounds_toArray, List.set_cons_zero, List.set_cons_succ, i64_w, i32_w]
          rfl
        refine take_ (i := 10) (N := some 28) (v := ?_) (a' := ?_) #[true, true, true, true, true, true, true, true, true, true, true, false, true, false, false, false, false, false, false] rfl rfl (by kernel_rfl) (fun _ _ _ h => h) (Or.inl ⟨by rfl, ?_⟩) hHeld ?_ ?_
        rotate_left
        · rintro w' ⟨s0, s1, s2⟩
          go_simp
          with_reducible rfl
        rotate_left
        · simp only [Act.put, List.setIfInBounds_toArray, List.set_cons_zero, List.set_cons_succ, i64_w, i32_w]
          rfl
        refine take_ (i := 13) (N := some 31) (v := ?_) (a' := ?_) #[true, true, true, true, true, true, true, true, true, true, true, false, true, true, false, false, false, false, false] rfl rfl (by kernel_rfl) (fun _ _ _ h => h) (Or.inl ⟨by rfl, ?_⟩) hHeld ?_ ?_
        rotate_left
        · rintro w' ⟨s0, s1, s2⟩
          go_simp
          with_reducible rfl
        rotate_left
        · simp only [Act.put, List.setIfInBounds_toArray, List.set_cons_zero, List.set_cons_succ, i64_w, i32_w]
          rfl
        refine pure_ (i := 14) (N := some 32) (v := ?_) (a' := ?_) #[true, true, true, true, true, true, true, true, true, true, true, false, true, true, true, false, false, false, false] rfl rfl (by kernel_rfl) (fun _ _ _ h => h) (Or.inl ⟨by rfl, ?_⟩) ?_ ?_
        rotate_left
        · intro w'
          go_simp
          with_reducible rfl
        rotate_left
        · simp only [Act.put, List.setIfInBounds_toArray, List.set_cons_zero, List.set_cons_succ, i64_w, i32_w]
          rfl
        refine one_ (i := 11) (N := some 29) #[true, true, true, true, true, true, true, true, true, true, true, true, true, true, true, false, false, false, false] rfl rfl (by kernel_rfl) (by decide) (fun K hK => ?_)
        refine goes_ Tryz.func86 (by kernel_rfl) rfl #[.string s, .int .i64 0, .func (.func 88) #[] #[]] (by rfl) rfl rfl (by simp only [List.map_toArray, List.map_cons, List.map_nil]; rfl) ?_
        with_reducible refine ((CR _).out).mono ?_
        rintro e w3 ⟨rfl, hl⟩
        refine ⟨_, rfl, ?_⟩
        have B2 := Aside0.mk (B1.out.l hl)
        clear hl CR
        refine hK.out _ _ ⟨(cells3 B2.out.tb).1, (cells3 B2.out.tb).2.1, (cells3 B2.out.tb).2.2⟩ (fun hHeld => ?_)
        clear hK K
        refine norm_ (a' := ?_) ?_ ?_
        rotate_left
        · show Act.put _ (some 29) _ = _
          simp only [Act.put, List.setIfInBounds_toArray, List.set_cons_zero, List.set_cons_succ, i64_w, i32_w]
          rfl
        refine pure_ (i := 15) (N := some 33) (v := ?_) (a' := ?_) #[true, true, true, true, true, true, true, true, true, true, true, true, true, true, true, true, false, false, false] rfl rfl (by kernel_rfl) (fun _ _ _ h => h) (Or.inl ⟨by rfl, ?_⟩) ?_ ?_
        rotate_left
        · intro w'
          go_simp
          with_reducible rfl
        rotate_left
        · simp only [Act.put, List.setIfInBounds_toArray, List.set_cons_zero, List.set_cons_succ, i64_w, i32_w]
          rfl
        refine pure_ (i := 16) (N := some 34) (v := ?_) (a' := ?_) #[true, true, true, true, true, true, true, true, true, true, true, true, true, true, true, true, true, false, false] rfl rfl (by kernel_rfl) (fun _ _ _ h => h) (Or.inl ⟨by rfl, ?_⟩) ?_ ?_
        rotate_left
        · intro w'
          go_simp
          with_reducible rfl
        rotate_left
        · simp only [Act.put, List.setIfInBounds_toArray, List.set_cons_zero, List.set_cons_succ, i64_w, i32_w]
          rfl
        refine pure_ (i := 17) (N := some 2) (v := ?_) (a' := ?_) #[true, true, true, true, true, true, true, true, true, true, true, true, true, true, true, true, true, true, false] rfl rfl (by kernel_rfl) (fun _ _ _ h => h) (Or.inl ⟨by rfl, ?_⟩) ?_ ?_
        rotate_left
        · intro w'
          go_simp
          with_reducible rfl
        rotate_left
        · simp only [Act.put, List.setIfInBounds_toArray, List.set_cons_zero, List.set_cons_succ, i64_w, i32_w]
          rfl
        refine pure_ (i := 18) (N := some 3) (v := ?_) (a' := ?_) #[true, true, true, true, true, true, true, true, true, true, true, true, true, true, true, true, true, true, true] rfl rfl (by kernel_rfl) (fun _ _ _ h => h) (Or.inl ⟨by rfl, ?_⟩) ?_ ?_
        rotate_left
        · intro w'
          go_simp
          with_reducible rfl
        rotate_left
        · simp only [Act.put, List.setIfInBounds_toArray, List.set_cons_zero, List.set_cons_succ, i64_w, i32_w]
          rfl
        refine done_ (by kernel_rfl) ?_

        go_wp2_with fail
        go_ret2
        exact ⟨rfl, B2.out.lt⟩
      · have e1 : (n == 0) = false := beq_eq_false_iff_ne.2 hn
        rw [decide_eq_false hn, Bool.and_false, Bool.false_and]
        clear hn
        go_enter Tryz.func69, Tryz.ntmps69
        obtain ⟨z0, z1, z2⟩ := cells3 B0.out.tb
        go_wp2_with fail
        (with_reducible refine (CN _).out.mono ?_)
        rintro e w1 ⟨rfl, hl⟩
        have B1 := Aside0.mk ((B0.out.l hl).l ((Lt.refl _).a (tokC ⟨1, s, 0⟩)))
        clear hl CN z0 z1 z2 B0
        go_wp2_with fail
        obtain ⟨w2, hw2⟩ : ∃ z : World, z = w1.alloc (tokC ⟨1, s, 0⟩) := ⟨_, rfl⟩
        rw [← hw2] at B1
        change Code.wp _ _ _ _ (w1.alloc (tokC ⟨1, s, 0⟩))
        rw [← hw2]
        clear hw2
        have B1 := Aside0.mk (B1.out.l (Lt.refl _).d1)
        refine start_ (n := 19) (S := fun w' => w'.cell? ⟨w.heap.size, 0, none⟩ = some (.int .u8 1) ∧ w'.cell? ⟨w.heap.size, 1, none⟩ = some (.string s) ∧ w'.cell? ⟨w.heap.size, 2, none⟩ = some (.int .i64 n)) (ds := []) #[false, false, false, false, false, false, false, false, false, false, false, false, false, false, false, false, false, false, false] (by kernel_rfl) rfl rfl ⟨(cells3 B1.out.tb).1, (cells3 B1.out.tb).2.1, (cells3 B1.out.tb).2.2⟩ (fun hHeld => ?_)
        refine pure_ (i := 0) (N := some 18) (v := ?_) (a' := ?_) #[true, false, false, false, false, false, false, false, false, false, false, false, false, false, false, false, false, false, false] rfl rfl (by kernel_rfl) (fun _ _ _ h => h) (Or.inl ⟨by rfl, ?_⟩) ?_ ?_
        rotate_left
        · intro w'
          go_simp
          with_reducible rfl
        rotate_left
        · simp only [Act.put, List.setIfInBounds_toArray, List.set_cons_zero, List.set_cons_succ, i64_w, i32_w]
          rfl
        refine pure_ (i := 2) (N := some 20) (v := ?_) (a' := ?_) #[true, false, true, false, false, false, false, false, false, false, false, false, false, false, false, false, false, false, false] rfl rfl (by kernel_rfl) (fun _ _ _ h => h) (Or.inl ⟨by rfl, ?_⟩) ?_ ?_
        rotate_left
        · intro w'
          go_simp
          with_reducible rfl
        rotate_left
        · simp only [Act.put, List.setIfInBounds_toArray, List.set_cons_zero, List.set_cons_succ, i64_w, i32_w]
          rfl
        refine pure_ (i := 3) (N := some 21) (v := ?_) (a' := ?_) #[true, false, true, true, false, false, false, false, false, false, false, false, false, false, false, false, false, false, false] rfl rfl (by kernel_rfl) (fun _ _ _ h => h) (Or.inl ⟨by rfl, ?_⟩) ?_ ?_
        rotate_left
        · intro w'
          go_simp
          with_reducible rfl
        rotate_left
        · simp only [Act.put, List.setIfInBounds_toArray, List.set_cons_zero, List.set_cons_succ, i64_w, i32_w]
          rfl
        refine pure_ (i := 4) (N := some 22) (v := ?_) (a' := ?_) #[true, false, true, true, true, false, false, false, false, false, false, false, false, false, false, false, false, false, false] rfl rfl (by kernel_rfl) (fun _ _ _ h => h) (Or.inl ⟨by rfl, ?_⟩) ?_ ?_
        rotate_left
        · intro w'
          go_simp
          with_reducible rfl
        rotate_left
        · simp only [Act.put, List.setIfInBounds_toArray, List.set_cons_zero, List.set_cons_succ, i64_w, i32_w]
          rfl
        refine take_ (i := 1) (N := some 19) (v := ?_) (a' := ?_) #[true, true, true, true, true, false, false, false, false, false, false, false, false, false, false, false, false, false, false] rfl rfl (by kernel_rfl) (fun _ _ _ h => h) (Or.inl ⟨by rfl, ?_⟩) hHeld ?_ ?_
        rotate_left
        · rintro w' ⟨s0, s1, s2⟩
          go_simp
          with_reducible rfl
        rotate_left
        · simp only [Act.put, List.setIfInBounds_toArray, List.set_cons_zero, List.set_cons_succ, i64_w, i32_w]
          rfl
        refine take_ (i := 5) (N := some 23) (v := ?_) (a' := ?_) #[true, true, true, true, true, true, false, false, false, false, false, false, false, false, false, false, false, false, false] rfl rfl (by kernel_rfl) (fun _ _ _ h => h) (Or.inl ⟨by rfl, ?_⟩) hHeld ?_ ?_
        rotate_left
        · rintro w' ⟨s0, s1, s2⟩
          go_simp
          with_reducible rfl
        rotate_left
        · simp only [Act.put, List.setIfInBounds_toArray, List.set_cons_zero, List.set_cons_succ, i64_w, i32_w]
          rfl
        refine pure_ (i := 6) (N := some 24) (v := ?_) (a' := ?_) #[true, true, true, true, true, true, true, false, false, false, false, false, false, false, false, false, false, false, false] rfl rfl (by kernel_rfl) (fun _ _ _ h => h) (Or.inl ⟨by rfl, ?_⟩) ?_ ?_
        rotate_left
        · intro w'
          go_simp
          with_reducible rfl
        rotate_left
        · simp only [Act.put, List.setIfInBounds_toArray, List.set_cons_zero, List.set_cons_succ, i64_w, i32_w]
          rfl
        refine pure_ (i := 7) (N := some 25) (v := ?_) (a' := ?_) #[true, true, true, true, true, true, true, true, false, false, false, false, false, false, false, false, false, false, false] rfl rfl (by kernel_rfl) (fun _ _ _ h => h) (Or.inl ⟨by rfl, ?_⟩) ?_ ?_
        rotate_left
        · intro w'
          go_simp
          with_reducible rfl
        rotate_left
        · simp only [Act.put, List.setIfInBounds_toArray, List.set_cons_zero, List.set_cons_succ, i64_w, i32_w]
          rfl
        refine pure_ (i := 8) (N := some 26) (v := ?_) (a' := ?_) #[true, true, true, true, true, true, true, true, true, false, false, false, false, false, false, false, false, false, false] rfl rfl (by kernel_rfl) (fun _ _ _ h => h) (Or.inl ⟨by rfl, ?_⟩) ?_ ?_
        rotate_left
        · intro w'
          go_simp
          with_reducible rfl
        rotate_left
        · simp only [Act.put, List.setIfInBounds_toArray, List.set_cons_zero, List.set_cons_succ, i64_w, i32_w]
          rfl
        refine pure_ (i := 9) (N := some 27) (v := undef) (a' := ?_) #[true, true, true, true, true, true, true, true, true, true, false, false, false, false, false, false, false, false, false] rfl rfl (by kernel_rfl) (fun _ _ _ h => h) (Or.inr ⟨by rfl, rfl⟩) ?_ ?_
        rotate_left
        · simp only [Act.put, List.setIfInBounds_toArray, List.set_cons_zero, List.set_cons_succ, i64_w, i32_w]
          rfl
        refine pure_ (i := 10) (N := some 28) (v := undef) (a' := ?_) #[true, true, true, true, true, true, true, true, true, true, true, false, false, false, false, false, false, false, false] rfl rfl (by kernel_rfl) (fun _ _ _ h => h) (Or.inr ⟨by rfl, rfl⟩) ?_ ?_
        rotate_left
        · simp only [Act.put, List.setIfInBounds_toArray, List.set_cons_zero, List.set_cons_succ, i64_w, i32_w]
          rfl
        refine pure_ (i := 11) (N := some 29) (v := undef) (a' := ?_) #[true, true, true, true, true, true, true, true, true, true, true, true, false, false, false, false, false, false, false] rfl rfl (by kernel_rfl) (fun _ _ _ h => h) (Or.inr ⟨by rfl, rfl⟩) ?_ ?_
        rotate_left
        · simp only [Act.put, List.setIfInBounds_toArray, List.set_cons_zero, List.set_cons_succ, i64_w, i32_w]
          rfl
        refine pure_ (i := 12) (N := some 30) (v := undef) (a' := ?_) #[true, true, true, true, true, true, true, true, true, true, true, true, true, false, false, false, false, false, false] rfl rfl (by kernel_rfl) (fun _ _ _ h => h) (Or.inr ⟨by rfl, rfl⟩) ?_ ?_
        rotate_left
        · simp only [Act.put, List.setIfInBounds_toArray, List.set_cons_zero, List.set_cons_succ, i64_w, i32_w]
          rfl
        refine pure_ (i := 13) (N := some 31) (v := undef) (a' := ?_) #[true, true, true, true, true, true, true, true, true, true, true, true, true, true, false, false, false, false, false] rfl rfl (by kernel_rfl) (fun _ _ _ h => h) (Or.inr ⟨by rfl, rfl⟩) ?_ ?_
        rotate_left
        · simp only [Act.put, List.setIfInBounds_toArray, List.set_cons_zero, List.set_cons_succ, i64_w, i32_w]
          rfl
        refine pure_ (i := 14) (N := some 32) (v := undef) (a' := ?_) #[true, true, true, true, true, true, true, true, true, true, true, true, true, true, true, false, false, false, false] rfl rfl (by kernel_rfl) (fun _ _ _ h => h) (Or.inr ⟨by rfl, rfl⟩) ?_ ?_
        rotate_left
        · simp only [Act.put, List.setIfInBounds_toArray, List.set_cons_zero, List.set_cons_succ, i64_w, i32_w]
          rfl
        refine pure_ (i := 15) (N := some 33) (v := undef) (a' := ?_) #[true, true, true, true, true, true, true, true, true, true, true, true, true, true, true, true, false, false, false] rfl rfl (by kernel_rfl) (fun _ _ _ h => h) (Or.inr ⟨by rfl, rfl⟩) ?_ ?_
        rotate_left
        · simp only [Act.put, List.setIfInBounds_toArray, List.set_cons_zero, List.set_cons_succ, i64_w, i32_w]
          rfl
        refine pure_ (i := 16) (N := some 34) (v := ?_) (a' := ?_) #[true, true, true, true, true, true, true, true, true, true, true, true, true, true, true, true, true, false, false] rfl rfl (by kernel_rfl) (fun _ _ _ h => h) (Or.inl ⟨by rfl, ?_⟩) ?_ ?_
        rotate_left
        · intro w'
          go_simp
          with_reducible rfl
        rotate_left
        · simp only [Act.put, List.setIfInBounds_toArray, List.set_cons_zero, List.set_cons_succ, i64_w, i32_w]
          rfl
        refine pure_ (i := 17) (N := some 2) (v := ?_) (a' := ?_) #[true, true, true, true, true, true, true, true, true, true, true, true, true, true, true, true, true, true, false] rfl rfl (by kernel_rfl) (fun _ _ _ h => h) (Or.inl ⟨by rfl, ?_⟩) ?_ ?_
        rotate_left
        · intro w'
          go_simp
          with_reducible rfl
        rotate_left
        · simp only [Act.put, List.setIfInBounds_toArray, List.set_cons_zero, List.set_cons_succ, i64_w, i32_w]
          rfl
        refine pure_ (i := 18) (N := some 3) (v := ?_) (a' := ?_) #[true, true, true, true, true, true, true, true, true, true, true, true, true, true, true, true, true, true, true] rfl rfl (by kernel_rfl) (fun _ _ _ h => h) (Or.inl ⟨by rfl, ?_⟩) ?_ ?_
        rotate_left
        · intro w'
          go_simp
          with_reducible rfl
        rotate_left
        · simp only [Act.put, List.setIfInBounds_toArray, List.set_cons_zero, List.set_cons_succ, i64_w, i32_w]
          rfl
        refine done_ (by kernel_rfl) ?_

        go_wp2_with fail
        go_ret2
        exact ⟨rfl, B1.out.lt⟩
  · have ek1 : (k == 1) = false := beq_eq_false_iff_ne.2 k1
    by_cases k2 : k = 2
    · subst k2
      have hT : textT ⟨2, s, n⟩ = (⟨(Lib.itoa n).toArray⟩, s.toList.isEmpty) := by
        unfold textT
        dsimp only
        rw [if_neg (show ¬ ((2 : Int) = 1) by decide), if_pos rfl]
      rw [hT]
      clear hT h64 hz CT CN CR SZ k1
      generalize (⟨(Lib.itoa n).toArray⟩ : ByteArray) = T at *
      go_enter Tryz.func69, Tryz.ntmps69
      obtain ⟨z0, z1, z2⟩ := cells3 B0.out.tb
      go_wp2_with fail
      clear z0 z1 z2
      have B1 := Aside0.mk (B0.out.l (Lt.refl _).d1)
      refine start_ (n := 8) (S := fun w' => w'.cell? ⟨w.heap.size, 0, none⟩ = some (.int .u8 2) ∧ w'.cell? ⟨w.heap.size, 1, none⟩ = some (.string s) ∧ w'.cell? ⟨w.heap.size, 2, none⟩ = some (.int .i64 n)) (ds := []) #[false, false, false, false, false, false, false, false] (by kernel_rfl) rfl rfl ⟨(cells3 B1.out.tb).1, (cells3 B1.out.tb).2.1, (cells3 B1.out.tb).2.2⟩ (fun hHeld => ?_)
      refine pure_ (i := 0) (N := some 37) (v := ?_) (a' := ?_) #[true, false, false, false, false, false, false, false] rfl rfl (by kernel_rfl) (fun _ _ _ h => h) (Or.inl ⟨by rfl, ?_⟩) ?_ ?_
      rotate_left
      · intro w'
        go_simp
        with_reducible rfl
      rotate_left
      · simp only [Act.put, List.setIfInBounds_toArray, List.set_cons_zero, List.set_cons_succ, i64_w, i32_w]
        rfl
      refine pure_ (i := 3) (N := some 40) (v := ?_) (a' := ?_) #[true, false, false, true, false, false, false, false] rfl rfl (by kernel_rfl) (fun _ _ _ h => h) (Or.inl ⟨by rfl, ?_⟩) ?_ ?_
      rotate_left
      · intro w'
        go_simp
        with_reducible rfl
      rotate_left
      · simp only [Act.put, List.setIfInBounds_toArray, List.set_cons_zero, List.set_cons_succ, i64_w, i32_w]
        rfl
      refine take_ (i := 1) (N := some 38) (v := ?_) (a' := ?_) #[true, true, false, true, false, false, false, false] rfl rfl (by kernel_rfl) (fun _ _ _ h => h) (Or.inl ⟨by rfl, ?_⟩) hHeld ?_ ?_
      rotate_left
      · rintro w' ⟨s0, s1, s2⟩
        go_simp
        with_reducible rfl
      rotate_left
      · simp only [Act.put, List.setIfInBounds_toArray, List.set_cons_zero, List.set_cons_succ, i64_w, i32_w]
        rfl
      refine take_ (i := 4) (N := some 41) (v := ?_) (a' := ?_) #[true, true, false, true, true, false, false, false] rfl rfl (by kernel_rfl) (fun _ _ _ h => h) (Or.inl ⟨by rfl, ?_⟩) hHeld ?_ ?_
      rotate_left
      · rintro w' ⟨s0, s1, s2⟩
        go_simp
        with_reducible rfl
      rotate_left
      · simp only [Act.put, List.setIfInBounds_toArray, List.set_cons_zero, List.set_cons_succ, i64_w, i32_w]
        rfl
      refine pure_ (i := 5) (N := some 42) (v := ?_) (a' := ?_) #[true, true, false, true, true, true, false, false] rfl rfl (by kernel_rfl) (fun _ _ _ h => h) (Or.inl ⟨by rfl, ?_⟩) ?_ ?_
      rotate_left
      · intro w'
        go_simp
        with_reducible rfl
      rotate_left
      · simp only [Act.put, List.setIfInBounds_toArray, List.set_cons_zero, List.set_cons_succ, i64_w, i32_w]
        rfl
      refine one_ (i := 2) (N := some 39) #[true, true, true, true, true, true, false, false] rfl rfl (by kernel_rfl) (by decide) (fun K hK => ?_)
      refine goes_ Tryz.func100 (by kernel_rfl) rfl #[.int .i64 n, .int .i64 10] (by rfl) rfl rfl (by simp only [List.map_toArray, List.map_cons, List.map_nil]; rfl) ?_
      with_reducible refine ((CF _ (HC.out.l B1.out.lt)).out).mono ?_
      rintro e w3 ⟨rfl, kk, os, hw⟩
      refine ⟨_, rfl, ?_⟩
      have B2 := Aside0.mk (B1.out.l (hw ▸ lt_grow _ _ _))
      clear hw CF
      refine hK.out _ _ ⟨(cells3 B2.out.tb).1, (cells3 B2.out.tb).2.1, (cells3 B2.out.tb).2.2⟩ (fun hHeld => ?_)
      clear hK K
      refine norm_ (a' := ?_) ?_ ?_
      rotate_left
      · show Act.put _ (some 39) _ = _
        simp only [Act.put, List.setIfInBounds_toArray, List.set_cons_zero, List.set_cons_succ, i64_w, i32_w]
        rfl
      refine pure_ (i := 6) (N := some 2) (v := ?_) (a' := ?_) #[true, true, true, true, true, true, true, false] rfl rfl (by kernel_rfl) (fun _ _ _ h => h) (Or.inl ⟨by rfl, ?_⟩) ?_ ?_
      rotate_left
      · intro w'
        go_simp
        with_reducible rfl
      rotate_left
      · simp only [Act.put, List.setIfInBounds_toArray, List.set_cons_zero, List.set_cons_succ, i64_w, i32_w]
        rfl
      refine pure_ (i := 7) (N := some 3) (v := ?_) (a' := ?_) #[true, true, true, true, true, true, true, true] rfl rfl (by kernel_rfl) (fun _ _ _ h => h) (Or.inl ⟨by rfl, ?_⟩) ?_ ?_
      rotate_left
      · intro w'
        go_simp
        with_reducible rfl
      rotate_left
      · simp only [Act.put, List.setIfInBounds_toArray, List.set_cons_zero, List.set_cons_succ, i64_w, i32_w]
        rfl
      refine done_ (by kernel_rfl) ?_

      go_wp2_with fail
      go_ret2
      exact ⟨rfl, B2.out.lt⟩
    · have ek2 : (k == 2) = false := beq_eq_false_iff_ne.2 k2
      by_cases k3 : k = 3
      · subst k3
        have hT : textT ⟨3, s, n⟩ = (AT ++ (textF n).1, decide ((textF n).2 = 0) && s.toList.isEmpty) := by
          unfold textT
          dsimp only
          rw [if_neg (show ¬ ((3 : Int) = 1) by decide), if_neg (show ¬ ((3 : Int) = 2) by decide), if_pos rfl]
        rw [hT]
        clear hT h64 hz CF CN CR SZ k1 k2
        obtain ⟨T, e0, hTe⟩ : ∃ T e0, textF n = (T, e0) := ⟨_, _, rfl⟩
        have hts := textF_size n
        rw [hTe] at CT hts ⊢
        dsimp only at CT hts ⊢
        clear hTe
        have hsum : ¬ (9223372036854775807 < 1 + T.size) := by omega
        have HD : decide (e0 = 0) = (e0 == 0) := rfl
        rw [HD]
        clear HD
        by_cases he : e0 = 0
        · have he1 : (e0 == 0) = true := beq_iff_eq.2 he
          rw [he1, Bool.true_and]
          clear he
          go_enter Tryz.func69, Tryz.ntmps69
          obtain ⟨z0, z1, z2⟩ := cells3 B0.out.tb
          go_wp2_with fail
          (with_reducible refine (CT _ (HC.out.l B0.out.lt)).out.mono ?_)
          rintro e w1 ⟨rfl, hl⟩
          have B1 := Aside0.mk ((B0.out.l hl).l (Lt.refl _).d1)
          clear hl CT z0 z1 z2 B0
          go_wp2_with fail
          refine start_ (n := 11) (S := fun w' => w'.cell? ⟨w.heap.size, 0, none⟩ = some (.int .u8 3) ∧ w'.cell? ⟨w.heap.size, 1, none⟩ = some (.string s) ∧ w'.cell? ⟨w.heap.size, 2, none⟩ = some (.int .i64 n)) (ds := []) #[false, false, false, false, false, false, false, false, false, false, false] (by kernel_rfl) rfl rfl ⟨(cells3 B1.out.tb).1, (cells3 B1.out.tb).2.1, (cells3 B1.out.tb).2.2⟩ (fun hHeld => ?_)
          refine pure_ (i := 0) (N := some 51) (v := ?_) (a' := ?_) #[true, false, false, false, false, false, false, false, false, false, false] rfl rfl (by kernel_rfl) (fun _ _ _ h => h) (Or.inl ⟨by rfl, ?_⟩) ?_ ?_
          rotate_left
          · intro w'
            go_simp
            with_reducible rfl
          rotate_left
          · simp only [Act.put, List.setIfInBounds_toArray, List.set_cons_zero, List.set_cons_succ, i64_w, i32_w]
            rfl
          refine pure_ (i := 1) (N := some 52) (v := ?_) (a' := ?_) #[true, true, false, false, false, false, false, false, false, false, false] rfl rfl (by kernel_rfl) (fun _ _ _ h => h) (Or.inl ⟨by rfl, ?_⟩) ?_ ?_
          rotate_left
          · intro w'
            go_simp
            with_reducible rfl
          rotate_left
          · simp only [Act.put, List.setIfInBounds_toArray, List.set_cons_zero, List.set_cons_succ, i64_w, i32_w]
            rfl
          refine pure_ (i := 2) (N := some 53) (v := ?_) (a' := ?_) #[true, true, true, false, false, false, false, false, false, false, false] rfl rfl (by kernel_rfl) (fun _ _ _ h => h) (Or.inl ⟨by rfl, ?_⟩) ?_ ?_
          rotate_left
          · intro w'
            go_simp
            with_reducible rfl
          rotate_left
          · simp only [Act.put, List.setIfInBounds_toArray, List.set_cons_zero, List.set_cons_succ, i64_w, i32_w]
            rfl
          refine pure_ (i := 3) (N := some 54) (v := ?_) (a' := ?_) #[true, true, true, true, false, false, false, false, false, false, false] rfl rfl (by kernel_rfl) (fun _ _ _ h => h) (Or.inl ⟨by rfl, ?_⟩) ?_ ?_
          rotate_left
          · intro w'
            go_simp
            with_reducible rfl
          rotate_left
          · simp only [Act.put, List.setIfInBounds_toArray, List.set_cons_zero, List.set_cons_succ, i64_w, i32_w]
            rfl
          refine pure_ (i := 4) (N := some 55) (v := ?_) (a' := ?_) #[true, true, true, true, true, false, false, false, false, false, false] rfl rfl (by kernel_rfl) (fun _ _ _ h => h) (Or.inl ⟨by rfl, ?_⟩) ?_ ?_
          rotate_left
          · intro w'
            go_simp
            with_reducible rfl
          rotate_left
          · simp only [Act.put, List.setIfInBounds_toArray, List.set_cons_zero, List.set_cons_succ, i64_w, i32_w]
            rfl
          refine pure_ (i := 5) (N := some 56) (v := ?_) (a' := ?_) #[true, true, true, true, true, true, false, false, false, false, false] rfl rfl (by kernel_rfl) (fun _ _ _ h => h) (Or.inl ⟨by rfl, ?_⟩) ?_ ?_
          rotate_left
          · intro w'
            go_simp
            with_reducible rfl
          rotate_left
          · simp only [Act.put, List.setIfInBounds_toArray, List.set_cons_zero, List.set_cons_succ, i64_w, i32_w]
            rfl
          refine pure_ (i := 9) (N := some 2) (v := ?_) (a' := ?_) #[true, true, true, true, true, true, false, false, false, true, false] rfl rfl (by kernel_rfl) (fun _ _ _ h => h) (Or.inl ⟨by rfl, ?_⟩) ?_ ?_
          rotate_left
          · intro w'
            go_simp
            with_reducible rfl
          rotate_left
          · simp only [Act.put, List.setIfInBounds_toArray, List.set_cons_zero, List.set_cons_succ, i64_w, i32_w]
            rfl
          refine take_ (i := 6) (N := some 57) (v := ?_) (a' := ?_) #[true, true, true, true, true, true, true, false, false, true, false] rfl rfl (by kernel_rfl) (fun _ _ _ h => h) (Or.inl ⟨by rfl, ?_⟩) hHeld ?_ ?_
          rotate_left
          · rintro w' ⟨s0, s1, s2⟩
            go_simp
            with_reducible rfl
          rotate_left
          · simp only [Act.put, List.setIfInBounds_toArray, List.set_cons_zero, List.set_cons_succ, i64_w, i32_w]
            rfl
          refine pure_ (i := 7) (N := some 58) (v := ?_) (a' := ?_) #[true, true, true, true, true, true, true, true, false, true, false] rfl rfl (by kernel_rfl) (fun _ _ _ h => h) (Or.inl ⟨by rfl, ?_⟩) ?_ ?_
          rotate_left
          · intro w'
            go_simp
            with_reducible rfl
          rotate_left
          · simp only [Act.put, List.setIfInBounds_toArray, List.set_cons_zero, List.set_cons_succ, i64_w, i32_w]
            rfl
          refine pure_ (i := 8) (N := some 59) (v := ?_) (a' := ?_) #[true, true, true, true, true, true, true, true, true, true, false] rfl rfl (by kernel_rfl) (fun _ _ _ h => h) (Or.inl ⟨by rfl, ?_⟩) ?_ ?_
          rotate_left
          · intro w'
            go_simp
            with_reducible rfl
          rotate_left
          · simp only [Act.put, List.setIfInBounds_toArray, List.set_cons_zero, List.set_cons_succ, i64_w, i32_w]
            rfl
          refine pure_ (i := 10) (N := some 3) (v := ?_) (a' := ?_) #[true, true, true, true, true, true, true, true, true, true, true] rfl rfl (by kernel_rfl) (fun _ _ _ h => h) (Or.inl ⟨by rfl, ?_⟩) ?_ ?_
          rotate_left
          · intro w'
            go_simp
            with_reducible rfl
          rotate_left
          · simp only [Act.put, List.setIfInBounds_toArray, List.set_cons_zero, List.set_cons_succ, i64_w, i32_w]
            rfl
          refine done_ (by kernel_rfl) ?_

          go_wp2_with fail
          go_ret2
          exact ⟨rfl, B1.out.lt⟩
        · have he1 : (e0 == 0) = false := beq_eq_false_iff_ne.2 he
          rw [he1, Bool.false_and]
          clear he
          go_enter Tryz.func69, Tryz.ntmps69
          obtain ⟨z0, z1, z2⟩ := cells3 B0.out.tb
          go_wp2_with fail
          (with_reducible refine (CT _ (HC.out.l B0.out.lt)).out.mono ?_)
          rintro e w1 ⟨rfl, hl⟩
          have B1 := Aside0.mk ((B0.out.l hl).l (Lt.refl _).d1)
          clear hl CT z0 z1 z2 B0
          go_wp2_with fail
          refine start_ (n := 11) (S := fun w' => w'.cell? ⟨w.heap.size, 0, none⟩ = some (.int .u8 3) ∧ w'.cell? ⟨w.heap.size, 1, none⟩ = some (.string s) ∧ w'.cell? ⟨w.heap.size, 2, none⟩ = some (.int .i64 n)) (ds := []) #[false, false, false, false, false, false, false, false, false, false, false] (by kernel_rfl) rfl rfl ⟨(cells3 B1.out.tb).1, (cells3 B1.out.tb).2.1, (cells3 B1.out.tb).2.2⟩ (fun hHeld => ?_)
          refine pure_ (i := 0) (N := some 51) (v := ?_) (a' := ?_) #[true, false, false, false, false, false, false, false, false, false, false] rfl rfl (by kernel_rfl) (fun _ _ _ h => h) (Or.inl ⟨by rfl, ?_⟩) ?_ ?_
          rotate_left
          · intro w'
            go_simp
            with_reducible rfl
          rotate_left
          · simp only [Act.put, List.setIfInBounds_toArray, List.set_cons_zero, List.set_cons_succ, i64_w, i32_w]
            rfl
          refine pure_ (i := 1) (N := some 52) (v := ?_) (a' := ?_) #[true, true, false, false, false, false, false, false, false, false, false] rfl rfl (by kernel_rfl) (fun _ _ _ h => h) (Or.inl ⟨by rfl, ?_⟩) ?_ ?_
          rotate_left
          · intro w'
            go_simp
            with_reducible rfl
          rotate_left
          · simp only [Act.put, List.setIfInBounds_toArray, List.set_cons_zero, List.set_cons_succ, i64_w, i32_w]
            rfl
          refine pure_ (i := 2) (N := some 53) (v := ?_) (a' := ?_) #[true, true, true, false, false, false, false, false, false, false, false] rfl rfl (by kernel_rfl) (fun _ _ _ h => h) (Or.inl ⟨by rfl, ?_⟩) ?_ ?_
          rotate_left
          · intro w'
            go_simp
            with_reducible rfl
          rotate_left
          · simp only [Act.put, List.setIfInBounds_toArray, List.set_cons_zero, List.set_cons_succ, i64_w, i32_w]
            rfl
          refine pure_ (i := 3) (N := some 54) (v := ?_) (a' := ?_) #[true, true, true, true, false, false, false, false, false, false, false] rfl rfl (by kernel_rfl) (fun _ _ _ h => h) (Or.inl ⟨by rfl, ?_⟩) ?_ ?_
          rotate_left
          · intro w'
            go_simp
            with_reducible rfl
          rotate_left
          · simp only [Act.put, List.setIfInBounds_toArray, List.set_cons_zero, List.set_cons_succ, i64_w, i32_w]
            rfl
          refine pure_ (i := 4) (N := some 55) (v := ?_) (a' := ?_) #[true, true, true, true, true, false, false, false, false, false, false] rfl rfl (by kernel_rfl) (fun _ _ _ h => h) (Or.inl ⟨by rfl, ?_⟩) ?_ ?_
          rotate_left
          · intro w'
            go_simp
            with_reducible rfl
          rotate_left
          · simp only [Act.put, List.setIfInBounds_toArray, List.set_cons_zero, List.set_cons_succ, i64_w, i32_w]
            rfl
          refine pure_ (i := 5) (N := some 56) (v := undef) (a' := ?_) #[true, true, true, true, true, true, false, false, false, false, false] rfl rfl (by kernel_rfl) (fun _ _ _ h => h) (Or.inr ⟨by rfl, rfl⟩) ?_ ?_
          rotate_left
          · simp only [Act.put, List.setIfInBounds_toArray, List.set_cons_zero, List.set_cons_succ, i64_w, i32_w]
            rfl
          refine pure_ (i := 6) (N := some 57) (v := undef) (a' := ?_) #[true, true, true, true, true, true, true, false, false, false, false] rfl rfl (by kernel_rfl) (fun _ _ _ h => h) (Or.inr ⟨by rfl, rfl⟩) ?_ ?_
          rotate_left
          · simp only [Act.put, List.setIfInBounds_toArray, List.set_cons_zero, List.set_cons_succ, i64_w, i32_w]
            rfl
          refine pure_ (i := 7) (N := some 58) (v := undef) (a' := ?_) #[true, true, true, true, true, true, true, true, false, false, false] rfl rfl (by kernel_rfl) (fun _ _ _ h => h) (Or.inr ⟨by rfl, rfl⟩) ?_ ?_
          rotate_left
          · simp only [Act.put, List.setIfInBounds_toArray, List.set_cons_zero, List.set_cons_succ, i64_w, i32_w]
            rfl
          refine pure_ (i := 8) (N := some 59) (v := ?_) (a' := ?_) #[true, true, true, true, true, true, true, true, true, false, false] rfl rfl (by kernel_rfl) (fun _ _ _ h => h) (Or.inl ⟨by rfl, ?_⟩) ?_ ?_
          rotate_left
          · intro w'
            go_simp
            with_reducible rfl
          rotate_left
          · simp only [Act.put, List.setIfInBounds_toArray, List.set_cons_zero, List.set_cons_succ, i64_w, i32_w]
            rfl
          refine pure_ (i := 9) (N := some 2) (v := ?_) (a' := ?_) #[true, true, true, true, true, true, true, true, true, true, false] rfl rfl (by kernel_rfl) (fun _ _ _ h => h) (Or.inl ⟨by rfl, ?_⟩) ?_ ?_
          rotate_left
          · intro w'
            go_simp
            with_reducible rfl
          rotate_left
          · simp only [Act.put, List.setIfInBounds_toArray, List.set_cons_zero, List.set_cons_succ, i64_w, i32_w]
            rfl
          refine pure_ (i := 10) (N := some 3) (v := ?_) (a' := ?_) #[true, true, true, true, true, true, true, true, true, true, true] rfl rfl (by kernel_rfl) (fun _ _ _ h => h) (Or.inl ⟨by rfl, ?_⟩) ?_ ?_
          rotate_left
          · intro w'
            go_simp
            with_reducible rfl
          rotate_left
          · simp only [Act.put, List.setIfInBounds_toArray, List.set_cons_zero, List.set_cons_succ, i64_w, i32_w]
            rfl
          refine done_ (by kernel_rfl) ?_

          go_wp2_with fail
          go_ret2
          exact ⟨rfl, B1.out.lt⟩
      · have ek3 : (k == 3) = false := beq_eq_false_iff_ne.2 k3
        by_cases k4 : k = 4
        · subst k4
          have hT : textT ⟨4, s, n⟩ = (s, decide (n = 0) && decide (s.size = 1) && s.data.toList.all markB) := by
            unfold textT
            dsimp only
            rw [if_neg (show ¬ ((4 : Int) = 1) by decide), if_neg (show ¬ ((4 : Int) = 2) by decide), if_neg (show ¬ ((4 : Int) = 3) by decide), if_pos rfl]
          rw [hT]
          have HD : decide (s.size = 1) = ((s.size : Int) == 1) := by rw [Bool.eq_iff_iff]; simp; omega
          rw [HD]
          clear hT h64 hz CF CN CR CT k1 k2 k3
          by_cases hn : n = 0
          · subst hn
            rw [decide_eq_true rfl, Bool.true_and]
            by_cases h1 : s.size = 1
            · obtain ⟨b, hb⟩ : ∃ b, s.data.toList = [b] := by
                have := SZ.out
                rw [h1] at this
                exact List.length_eq_one_iff.1 this
              have hs : s = ⟨#[b]⟩ := by
                cases s with
                | mk a => rw [show a = #[b] from Array.toList_inj.1 hb]
              have e1 : ((s.size : Int) == 1) = true := beq_iff_eq.2 (by omega)
              have HM : s.data.toList.all markB = decide (0 ≤ Lib.indexByte MARKS.data.toList b) := by
                rw [hb, List.all_cons, List.all_nil, Bool.and_true, Bool.eq_iff_iff, decide_eq_true_eq]
                exact (indexByte_ge marksL b).symm
              rw [e1, Bool.true_and, HM]
              have CC := fun W => Aside0.mk (Tryz.strings_Contains_one MARKS b W)
              rw [← hs] at CC
              generalize decide (0 ≤ Lib.indexByte MARKS.data.toList b) = r at *
              clear HD HM hb hs h1 SZ
              go_enter Tryz.func69, Tryz.ntmps69
              obtain ⟨z0, z1, z2⟩ := cells3 B0.out.tb
              go_wp2_with fail
              clear z0 z1 z2
              have B1 := Aside0.mk (B0.out.l (Lt.refl _).d1)
              refine start_ (n := 18) (S := fun w' => w'.cell? ⟨w.heap.size, 0, none⟩ = some (.int .u8 4) ∧ w'.cell? ⟨w.heap.size, 1, none⟩ = some (.string s) ∧ w'.cell? ⟨w.heap.size, 2, none⟩ = some (.int .i64 0)) (ds := []) #[false, false, false, false, false, false, false, false, false, false, false, false, false, false, false, false, false, false] (by kernel_rfl) rfl rfl ⟨(cells3 B1.out.tb).1, (cells3 B1.out.tb).2.1, (cells3 B1.out.tb).2.2⟩ (fun hHeld => ?_)
              refine pure_ (i := 0) (N := some 62) (v := ?_) (a' := ?_) #[true, false, false, false, false, false, false, false, false, false, false, false, false, false, false, false, false, false] rfl rfl (by kernel_rfl) (fun _ _ _ h => h) (Or.inl ⟨by rfl, ?_⟩) ?_ ?_
              rotate_left
              · intro w'
                go_simp
                with_reducible rfl
              rotate_left
              · simp only [Act.put, List.setIfInBounds_toArray, List.set_cons_zero, List.set_cons_succ, i64_w, i32_w]
                rfl
              refine pure_ (i := 2) (N := some 64) (v := ?_) (a' := ?_) #[true, false, true, false, false, false, false, false, false, false, false, false, false, false, false, false, false, false] rfl rfl (by kernel_rfl) (fun _ _ _ h => h) (Or.inl ⟨by rfl, ?_⟩) ?_ ?_
              rotate_left
              · intro w'
                go_simp
                with_reducible rfl
              rotate_left
              · simp only [Act.put, List.setIfInBounds_toArray, List.set_cons_zero, List.set_cons_succ, i64_w, i32_w]
                rfl
              refine take_ (i := 1) (N := some 63) (v := ?_) (a' := ?_) #[true, true, true, false, false, false, false, false, false, false, false, false, false, false, false, false, false, false] rfl rfl (by kernel_rfl) (fun _ _ _ h => h) (Or.inl ⟨by rfl, ?_⟩) hHeld ?_ ?_
              rotate_left
              · rintro w' ⟨s0, s1, s2⟩
                go_simp
                with_reducible rfl
              rotate_left
              · simp only [Act.put, List.setIfInBounds_toArray, List.set_cons_zero, List.set_cons_succ, i64_w, i32_w]
                rfl
              refine take_ (i := 3) (N := some 65) (v := ?_) (a' := ?_) #[true, true, true, true, false, false, false, false, false, false, false, false, false, false, false, false, false, false] rfl rfl (by kernel_rfl) (fun _ _ _ h => h) (Or.inl ⟨by rfl, ?_⟩) hHeld ?_ ?_
              rotate_left
              · rintro w' ⟨s0, s1, s2⟩
                go_simp
                with_reducible rfl
              rotate_left
              · simp only [Act.put, List.setIfInBounds_toArray, List.set_cons_zero, List.set_cons_succ, i64_w, i32_w]
                rfl
              refine pure_ (i := 4) (N := some 66) (v := ?_) (a' := ?_) #[true, true, true, true, true, false, false, false, false, false, false, false, false, false, false, false, false, false] rfl rfl (by kernel_rfl) (fun _ _ _ h => h) (Or.inl ⟨by rfl, ?_⟩) ?_ ?_
              rotate_left
              · intro w'
                go_simp
                with_reducible rfl
              rotate_left
              · simp only [Act.put, List.setIfInBounds_toArray, List.set_cons_zero, List.set_cons_succ, i64_w, i32_w]
                rfl
              refine pure_ (i := 5) (N := some 67) (v := ?_) (a' := ?_) #[true, true, true, true, true, true, false, false, false, false, false, false, false, false, false, false, false, false] rfl rfl (by kernel_rfl) (fun _ _ _ h => h) (Or.inl ⟨by rfl, ?_⟩) ?_ ?_
              rotate_left
              · intro w'
                go_simp
                with_reducible rfl
              rotate_left
              · simp only [Act.put, List.setIfInBounds_toArray, List.set_cons_zero, List.set_cons_succ, i64_w, i32_w]
                rfl
              refine pure_ (i := 6) (N := some 68) (v := ?_) (a' := ?_) #[true, true, true, true, true, true, true, false, false, false, false, false, false, false, false, false, false, false] rfl rfl (by kernel_rfl) (fun _ _ _ h => h) (Or.inl ⟨by rfl, ?_⟩) ?_ ?_
              rotate_left
              · intro w'
                go_simp
                with_reducible rfl
              rotate_left
              · simp only [Act.put, List.setIfInBounds_toArray, List.set_cons_zero, List.set_cons_succ, i64_w, i32_w]
                rfl
              refine take_ (i := 7) (N := some 69) (v := ?_) (a' := ?_) #[true, true, true, true, true, true, true, true, false, false, false, false, false, false, false, false, false, false] rfl rfl (by kernel_rfl) (fun _ _ _ h => h) (Or.inl ⟨by rfl, ?_⟩) hHeld ?_ ?_
              rotate_left
              · rintro w' ⟨s0, s1, s2⟩
                go_simp
                with_reducible rfl
              rotate_left
              · simp only [Act.put, List.setIfInBounds_toArray, List.set_cons_zero, List.set_cons_succ, i64_w, i32_w]
                rfl
              refine pure_ (i := 8) (N := some 70) (v := ?_) (a' := ?_) #[true, true, true, true, true, true, true, true, true, false, false, false, false, false, false, false, false, false] rfl rfl (by kernel_rfl) (fun _ _ _ h => h) (Or.inl ⟨by rfl, ?_⟩) ?_ ?_
              rotate_left
              · intro w'
                go_simp
                with_reducible rfl
              rotate_left
              · simp only [Act.put, List.setIfInBounds_toArray, List.set_cons_zero, List.set_cons_succ, i64_w, i32_w]
                rfl
              refine pure_ (i := 9) (N := some 71) (v := ?_) (a' := ?_) #[true, true, true, true, true, true, true, true, true, true, false, false, false, false, false, false, false, false] rfl rfl (by kernel_rfl) (fun _ _ _ h => h) (Or.inl ⟨by rfl, ?_⟩) ?_ ?_
              rotate_left
              · intro w'
                go_simp
                with_reducible rfl
              rotate_left
              · simp only [Act.put, List.setIfInBounds_toArray, List.set_cons_zero, List.set_cons_succ, i64_w, i32_w]
                rfl
              refine pure_ (i := 10) (N := some 72) (v := ?_) (a' := ?_) #[true, true, true, true, true, true, true, true, true, true, true, false, false, false, false, false, false, false] rfl rfl (by kernel_rfl) (fun _ _ _ h => h) (Or.inl ⟨by rfl, ?_⟩) ?_ ?_
              rotate_left
              · intro w'
                go_simp
                with_reducible rfl
              rotate_left
              · simp only [Act.put, List.setIfInBounds_toArray, List.set_cons_zero, List.set_cons_succ, i64_w, i32_w]
                rfl
              refine pure_ (i := 11) (N := some 73) (v := ?_) (a' := ?_) #[true, true, true, true, true, true, true, true, true, true, true, true, false, false, false, false, false, false] rfl rfl (by kernel_rfl) (fun _ _ _ h => h) (Or.inl ⟨by rfl, ?_⟩) ?_ ?_
              rotate_left
              · intro w'
                go_simp
                with_reducible rfl
              rotate_left
              · simp only [Act.put, List.setIfInBounds_toArray, List.set_cons_zero, List.set_cons_succ, i64_w, i32_w]
                rfl
              refine pure_ (i := 12) (N := some 74) (v := ?_) (a' := ?_) #[true, true, true, true, true, true, true, true, true, true, true, true, true, false, false, false, false, false] rfl rfl (by kernel_rfl) (fun _ _ _ h => h) (Or.inl ⟨by rfl, ?_⟩) ?_ ?_
              rotate_left
              · intro w'
                go_simp
                with_reducible rfl
              rotate_left
              · simp only [Act.put, List.setIfInBounds_toArray, List.set_cons_zero, List.set_cons_succ, i64_w, i32_w]
                rfl
              refine take_ (i := 13) (N := some 75) (v := ?_) (a' := ?_) #[true, true, true, true, true, true, true, true, true, true, true, true, true, true, false, false, false, false] rfl rfl (by kernel_rfl) (fun _ _ _ h => h) (Or.inl ⟨by rfl, ?_⟩) hHeld ?_ ?_
              rotate_left
              · rintro w' ⟨s0, s1, s2⟩
                go_simp
                with_reducible rfl
              rotate_left
              · simp only [Act.put, List.setIfInBounds_toArray, List.set_cons_zero, List.set_cons_succ, i64_w, i32_w]
                rfl
              refine one_ (i := 14) (N := some 76) #[true, true, true, true, true, true, true, true, true, true, true, true, true, true, true, false, false, false] rfl rfl (by kernel_rfl) (by decide) (fun K hK => ?_)
              refine goes_ Tryz.func56 (by kernel_rfl) rfl #[.string MARKS, .string s] (by rfl) rfl rfl (by simp only [List.map_toArray, List.map_cons, List.map_nil]; rfl) ?_
              with_reducible refine ((CC _).out).mono ?_
              rintro e w3 ⟨rfl, rfl⟩
              refine ⟨_, rfl, ?_⟩
              refine hK.out _ _ ⟨(cells3 B1.out.tb).1, (cells3 B1.out.tb).2.1, (cells3 B1.out.tb).2.2⟩ (fun hHeld => ?_)
              clear hK K
              refine norm_ (a' := ?_) ?_ ?_
              rotate_left
              · show Act.put _ (some 76) _ = _
                simp only [Act.put, List.setIfInBounds_toArray, List.set_cons_zero, List.set_cons_succ, i64_w, i32_w]
                rfl
              refine pure_ (i := 15) (N := some 77) (v := ?_) (a' := ?_) #[true, true, true, true, true, true, true, true, true, true, true, true, true, true, true, true, false, false] rfl rfl (by kernel_rfl) (fun _ _ _ h => h) (Or.inl ⟨by rfl, ?_⟩) ?_ ?_
              rotate_left
              · intro w'
                go_simp
                with_reducible rfl
              rotate_left
              · simp only [Act.put, List.setIfInBounds_toArray, List.set_cons_zero, List.set_cons_succ, i64_w, i32_w]
                rfl
              refine pure_ (i := 16) (N := some 2) (v := ?_) (a' := ?_) #[true, true, true, true, true, true, true, true, true, true, true, true, true, true, true, true, true, false] rfl rfl (by kernel_rfl) (fun _ _ _ h => h) (Or.inl ⟨by rfl, ?_⟩) ?_ ?_
              rotate_left
              · intro w'
                go_simp
                with_reducible rfl
              rotate_left
              · simp only [Act.put, List.setIfInBounds_toArray, List.set_cons_zero, List.set_cons_succ, i64_w, i32_w]
                rfl
              refine pure_ (i := 17) (N := some 3) (v := ?_) (a' := ?_) #[true, true, true, true, true, true, true, true, true, true, true, true, true, true, true, true, true, true] rfl rfl (by kernel_rfl) (fun _ _ _ h => h) (Or.inl ⟨by rfl, ?_⟩) ?_ ?_
              rotate_left
              · intro w'
                go_simp
                with_reducible rfl
              rotate_left
              · simp only [Act.put, List.setIfInBounds_toArray, List.set_cons_zero, List.set_cons_succ, i64_w, i32_w]
                rfl
              refine done_ (by kernel_rfl) ?_

              go_wp2_with fail
              go_ret2
              exact ⟨rfl, B1.out.lt⟩
            · have e1 : ((s.size : Int) == 1) = false := beq_eq_false_iff_ne.2 (by omega)
              rw [e1, Bool.false_and]
              clear HD h1 SZ
              go_enter Tryz.func69, Tryz.ntmps69
              obtain ⟨z0, z1, z2⟩ := cells3 B0.out.tb
              go_wp2_with fail
              clear z0 z1 z2
              have B1 := Aside0.mk (B0.out.l (Lt.refl _).d1)
              refine start_ (n := 18) (S := fun w' => w'.cell? ⟨w.heap.size, 0, none⟩ = some (.int .u8 4) ∧ w'.cell? ⟨w.heap.size, 1, none⟩ = some (.string s) ∧ w'.cell? ⟨w.heap.size, 2, none⟩ = some (.int .i64 0)) (ds := []) #[false, false, false, false, false, false, false, false, false, false, false, false, false, false, false, false, false, false] (by kernel_rfl) rfl rfl ⟨(cells3 B1.out.tb).1, (cells3 B1.out.tb).2.1, (cells3 B1.out.tb).2.2⟩ (fun hHeld => ?_)
              refine pure_ (i := 0) (N := some 62) (v := ?_) (a' := ?_) #[true, false, false, false, false, false, false, false, false, false, false, false, false, false, false, false, false, false] rfl rfl (by kernel_rfl) (fun _ _ _ h => h) (Or.inl ⟨by rfl, ?_⟩) ?_ ?_
              rotate_left
              · intro w'
                go_simp
                with_reducible rfl
              rotate_left
              · simp only [Act.put, List.setIfInBounds_toArray, List.set_cons_zero, List.set_cons_succ, i64_w, i32_w]
                rfl
              refine pure_ (i := 2) (N := some 64) (v := ?_) (a' := ?_) #[true, false, true, false, false, false, false, false, false, false, false, false, false, false, false, false, false, false] rfl rfl (by kernel_rfl) (fun _ _ _ h => h) (Or.inl ⟨by rfl, ?_⟩) ?_ ?_
              rotate_left
              · intro w'
                go_simp
                with_reducible rfl
              rotate_left
              · simp only [Act.put, List.setIfInBounds_toArray, List.set_cons_zero, List.set_cons_succ, i64_w, i32_w]
                rfl
              refine take_ (i := 1) (N := some 63) (v := ?_) (a' := ?_) #[true, true, true, false, false, false, false, false, false, false, false, false, false, false, false, false, false, false] rfl rfl (by kernel_rfl) (fun _ _ _ h => h) (Or.inl ⟨by rfl, ?_⟩) hHeld ?_ ?_
              rotate_left
              · rintro w' ⟨s0, s1, s2⟩
                go_simp
                with_reducible rfl
              rotate_left
              · simp only [Act.put, List.setIfInBounds_toArray, List.set_cons_zero, List.set_cons_succ, i64_w, i32_w]
                rfl
              refine take_ (i := 3) (N := some 65) (v := ?_) (a' := ?_) #[true, true, true, true, false, false, false, false, false, false, false, false, false, false, false, false, false, false] rfl rfl (by kernel_rfl) (fun _ _ _ h => h) (Or.inl ⟨by rfl, ?_⟩) hHeld ?_ ?_
              rotate_left
              · rintro w' ⟨s0, s1, s2⟩
                go_simp
                with_reducible rfl
              rotate_left
              · simp only [Act.put, List.setIfInBounds_toArray, List.set_cons_zero, List.set_cons_succ, i64_w, i32_w]
                rfl
              refine pure_ (i := 4) (N := some 66) (v := ?_) (a' := ?_) #[true, true, true, true, true, false, false, false, false, false, false, false, false, false, false, false, false, false] rfl rfl (by kernel_rfl) (fun _ _ _ h => h) (Or.inl ⟨by rfl, ?_⟩) ?_ ?_
              rotate_left
              · intro w'
                go_simp
                with_reducible rfl
              rotate_left
              · simp only [Act.put, List.setIfInBounds_toArray, List.set_cons_zero, List.set_cons_succ, i64_w, i32_w]
                rfl
              refine pure_ (i := 5) (N := some 67) (v := ?_) (a' := ?_) #[true, true, true, true, true, true, false, false, false, false, false, false, false, false, false, false, false, false] rfl rfl (by kernel_rfl) (fun _ _ _ h => h) (Or.inl ⟨by rfl, ?_⟩) ?_ ?_
              rotate_left
              · intro w'
                go_simp
                with_reducible rfl
              rotate_left
              · simp only [Act.put, List.setIfInBounds_toArray, List.set_cons_zero, List.set_cons_succ, i64_w, i32_w]
                rfl
              refine pure_ (i := 6) (N := some 68) (v := ?_) (a' := ?_) #[true, true, true, true, true, true, true, false, false, false, false, false, false, false, false, false, false, false] rfl rfl (by kernel_rfl) (fun _ _ _ h => h) (Or.inl ⟨by rfl, ?_⟩) ?_ ?_
              rotate_left
              · intro w'
                go_simp
                with_reducible rfl
              rotate_left
              · simp only [Act.put, List.setIfInBounds_toArray, List.set_cons_zero, List.set_cons_succ, i64_w, i32_w]
                rfl
              refine take_ (i := 7) (N := some 69) (v := ?_) (a' := ?_) #[true, true, true, true, true, true, true, true, false, false, false, false, false, false, false, false, false, false] rfl rfl (by kernel_rfl) (fun _ _ _ h => h) (Or.inl ⟨by rfl, ?_⟩) hHeld ?_ ?_
              rotate_left
              · rintro w' ⟨s0, s1, s2⟩
                go_simp
                with_reducible rfl
              rotate_left
              · simp only [Act.put, List.setIfInBounds_toArray, List.set_cons_zero, List.set_cons_succ, i64_w, i32_w]
                rfl
              refine pure_ (i := 8) (N := some 70) (v := ?_) (a' := ?_) #[true, true, true, true, true, true, true, true, true, false, false, false, false, false, false, false, false, false] rfl rfl (by kernel_rfl) (fun _ _ _ h => h) (Or.inl ⟨by rfl, ?_⟩) ?_ ?_
              rotate_left
              · intro w'
                go_simp
                with_reducible rfl
              rotate_left
              · simp only [Act.put, List.setIfInBounds_toArray, List.set_cons_zero, List.set_cons_succ, i64_w, i32_w]
                rfl
              refine pure_ (i := 9) (N := some 71) (v := ?_) (a' := ?_) #[true, true, true, true, true, true, true, true, true, true, false, false, false, false, false, false, false, false] rfl rfl (by kernel_rfl) (fun _ _ _ h => h) (Or.inl ⟨by rfl, ?_⟩) ?_ ?_
              rotate_left
              · intro w'
                go_simp
                with_reducible rfl
              rotate_left
              · simp only [Act.put, List.setIfInBounds_toArray, List.set_cons_zero, List.set_cons_succ, i64_w, i32_w]
                rfl
              refine pure_ (i := 10) (N := some 72) (v := ?_) (a' := ?_) #[true, true, true, true, true, true, true, true, true, true, true, false, false, false, false, false, false, false] rfl rfl (by kernel_rfl) (fun _ _ _ h => h) (Or.inl ⟨by rfl, ?_⟩) ?_ ?_
              rotate_left
              · intro w'
                go_simp
                with_reducible rfl
              rotate_left
              · simp only [Act.put, List.setIfInBounds_toArray, List.set_cons_zero, List.set_cons_succ, i64_w, i32_w]
                rfl
              refine pure_ (i := 11) (N := some 73) (v := ?_) (a' := ?_) #[true, true, true, true, true, true, true, true, true, true, true, true, false, false, false, false, false, false] rfl rfl (by kernel_rfl) (fun _ _ _ h => h) (Or.inl ⟨by rfl, ?_⟩) ?_ ?_
              rotate_left
              · intro w'
                go_simp
                with_reducible rfl
              rotate_left
              · simp only [Act.put, List.setIfInBounds_toArray, List.set_cons_zero, List.set_cons_succ, i64_w, i32_w]
                rfl
              refine pure_ (i := 12) (N := some 74) (v := undef) (a' := ?_) #[true, true, true, true, true, true, true, true, true, true, true, true, true, false, false, false, false, false] rfl rfl (by kernel_rfl) (fun _ _ _ h => h) (Or.inr ⟨by rfl, rfl⟩) ?_ ?_
              rotate_left
              · simp only [Act.put, List.setIfInBounds_toArray, List.set_cons_zero, List.set_cons_succ, i64_w, i32_w]
                rfl
              refine pure_ (i := 13) (N := some 75) (v := undef) (a' := ?_) #[true, true, true, true, true, true, true, true, true, true, true, true, true, true, false, false, false, false] rfl rfl (by kernel_rfl) (fun _ _ _ h => h) (Or.inr ⟨by rfl, rfl⟩) ?_ ?_
              rotate_left
              · simp only [Act.put, List.setIfInBounds_toArray, List.set_cons_zero, List.set_cons_succ, i64_w, i32_w]
                rfl
              refine pure_ (i := 14) (N := some 76) (v := undef) (a' := ?_) #[true, true, true, true, true, true, true, true, true, true, true, true, true, true, true, false, false, false] rfl rfl (by kernel_rfl) (fun _ _ _ h => h) (Or.inr ⟨by rfl, rfl⟩) ?_ ?_
              rotate_left
              · simp only [Act.put, List.setIfInBounds_toArray, List.set_cons_zero, List.set_cons_succ, i64_w, i32_w]
                rfl
              refine pure_ (i := 15) (N := some 77) (v := ?_) (a' := ?_) #[true, true, true, true, true, true, true, true, true, true, true, true, true, true, true, true, false, false] rfl rfl (by kernel_rfl) (fun _ _ _ h => h) (Or.inl ⟨by rfl, ?_⟩) ?_ ?_
              rotate_left
              · intro w'
                go_simp
                with_reducible rfl
              rotate_left
              · simp only [Act.put, List.setIfInBounds_toArray, List.set_cons_zero, List.set_cons_succ, i64_w, i32_w]
                rfl
              refine pure_ (i := 16) (N := some 2) (v := ?_) (a' := ?_) #[true, true, true, true, true, true, true, true, true, true, true, true, true, true, true, true, true, false] rfl rfl (by kernel_rfl) (fun _ _ _ h => h) (Or.inl ⟨by rfl, ?_⟩) ?_ ?_
              rotate_left
              · intro w'
                go_simp
                with_reducible rfl
              rotate_left
              · simp only [Act.put, List.setIfInBounds_toArray, List.set_cons_zero, List.set_cons_succ, i64_w, i32_w]
                rfl
              refine pure_ (i := 17) (N := some 3) (v := ?_) (a' := ?_) #[true, true, true, true, true, true, true, true, true, true, true, true, true, true, true, true, true, true] rfl rfl (by kernel_rfl) (fun _ _ _ h => h) (Or.inl ⟨by rfl, ?_⟩) ?_ ?_
              rotate_left
              · intro w'
                go_simp
                with_reducible rfl
              rotate_left
              · simp only [Act.put, List.setIfInBounds_toArray, List.set_cons_zero, List.set_cons_succ, i64_w, i32_w]
                rfl
              refine done_ (by kernel_rfl) ?_

              go_wp2_with fail
              go_ret2
              exact ⟨rfl, B1.out.lt⟩
          · have e1 : (n == 0) = false := beq_eq_false_iff_ne.2 hn
            rw [decide_eq_false hn, Bool.false_and, Bool.false_and]
            clear hn HD SZ
            go_enter Tryz.func69, Tryz.ntmps69
            obtain ⟨z0, z1, z2⟩ := cells3 B0.out.tb
            go_wp2_with fail
            clear z0 z1 z2
            have B1 := Aside0.mk (B0.out.l (Lt.refl _).d1)
            refine start_ (n := 18) (S := fun w' => w'.cell? ⟨w.heap.size, 0, none⟩ = some (.int .u8 4) ∧ w'.cell? ⟨w.heap.size, 1, none⟩ = some (.string s) ∧ w'.cell? ⟨w.heap.size, 2, none⟩ = some (.int .i64 n)) (ds := []) #[false, false, false, false, false, false, false, false, false, false, false, false, false, false, false, false, false, false] (by kernel_rfl) rfl rfl ⟨(cells3 B1.out.tb).1, (cells3 B1.out.tb).2.1, (cells3 B1.out.tb).2.2⟩ (fun hHeld => ?_)
            refine pure_ (i := 0) (N := some 62) (v := ?_) (a' := ?_) #[true, false, false, false, false, false, false, false, false, false, false, false, false, false, false, false, false, false] rfl rfl (by kernel_rfl) (fun _ _ _ h => h) (Or.inl ⟨by rfl, ?_⟩) ?_ ?_
            rotate_left
            · intro w'
              go_simp
              with_reducible rfl
            rotate_left
            · simp only [Act.put, List.setIfInBounds_toArray, List.set_cons_zero, List.set_cons_succ, i64_w, i32_w]
              rfl
            refine pure_ (i := 2) (N := some 64) (v := ?_) (a' := ?_) #[true, false, true, false, false, false, false, false, false, false, false, false, false, false, false, false, false, false] rfl rfl (by kernel_rfl) (fun _ _ _ h => h) (Or.inl ⟨by rfl, ?_⟩) ?_ ?_
            rotate_left
            · intro w'
              go_simp
              with_reducible rfl
            rotate_left
            · simp only [Act.put, List.setIfInBounds_toArray, List.set_cons_zero, List.set_cons_succ, i64_w, i32_w]
              rfl
            refine take_ (i := 1) (N := some 63) (v := ?_) (a' := ?_) #[true, true, true, false, false, false, false, false, false, false, false, false, false, false, false, false, false, false] rfl rfl (by kernel_rfl) (fun _ _ _ h => h) (Or.inl ⟨by rfl, ?_⟩) hHeld ?_ ?_
            rotate_left
            · rintro w' ⟨s0, s1, s2⟩
              go_simp
              with_reducible rfl
            rotate_left
            · simp only [Act.put, List.setIfInBounds_toArray, List.set_cons_zero, List.set_cons_succ, i64_w, i32_w]
              rfl
            refine take_ (i := 3) (N := some 65) (v := ?_) (a' := ?_) #[true, true, true, true, false, false, false, false, false, false, false, false, false, false, false, false, false, false] rfl rfl (by kernel_rfl) (fun _ _ _ h => h) (Or.inl ⟨by rfl, ?_⟩) hHeld ?_ ?_
            rotate_left
            · rintro w' ⟨s0, s1, s2⟩
              go_simp
              with_reducible rfl
            rotate_left
            · simp only [Act.put, List.setIfInBounds_toArray, List.set_cons_zero, List.set_cons_succ, i64_w, i32_w]
              rfl
            refine pure_ (i := 4) (N := some 66) (v := ?_) (a' := ?_) #[true, true, true, true, true, false, false, false, false, false, false, false, false, false, false, false, false, false] rfl rfl (by kernel_rfl) (fun _ _ _ h => h) (Or.inl ⟨by rfl, ?_⟩) ?_ ?_
            rotate_left
            · intro w'
              go_simp
              with_reducible rfl
            rotate_left
            · simp only [Act.put, List.setIfInBounds_toArray, List.set_cons_zero, List.set_cons_succ, i64_w, i32_w]
              rfl
            refine pure_ (i := 5) (N := some 67) (v := ?_) (a' := ?_) #[true, true, true, true, true, true, false, false, false, false, false, false, false, false, false, false, false, false] rfl rfl (by kernel_rfl) (fun _ _ _ h => h) (Or.inl ⟨by rfl, ?_⟩) ?_ ?_
            rotate_left
            · intro w'
              go_simp
              with_reducible rfl
            rotate_left
            · simp only [Act.put, List.setIfInBounds_toArray, List.set_cons_zero, List.set_cons_succ, i64_w, i32_w]
              rfl
            refine pure_ (i := 6) (N := some 68) (v := undef) (a' := ?_) #[true, true, true, true, true, true, true, false, false, false, false, false, false, false, false, false, false, false] rfl rfl (by kernel_rfl) (fun _ _ _ h => h) (Or.inr ⟨by rfl, rfl⟩) ?_ ?_
            rotate_left
            · simp only [Act.put, List.setIfInBounds_toArray, List.set_cons_zero, List.set_cons_succ, i64_w, i32_w]
              rfl
            refine pure_ (i := 7) (N := some 69) (v := undef) (a' := ?_) #[true, true, true, true, true, true, true, true, false, false, false, false, false, false, false, false, false, false] rfl rfl (by kernel_rfl) (fun _ _ _ h => h) (Or.inr ⟨by rfl, rfl⟩) ?_ ?_
            rotate_left
            · simp only [Act.put, List.setIfInBounds_toArray, List.set_cons_zero, List.set_cons_succ, i64_w, i32_w]
              rfl
            refine pure_ (i := 8) (N := some 70) (v := undef) (a' := ?_) #[true, true, true, true, true, true, true, true, true, false, false, false, false, false, false, false, false, false] rfl rfl (by kernel_rfl) (fun _ _ _ h => h) (Or.inr ⟨by rfl, rfl⟩) ?_ ?_
            rotate_left
            · simp only [Act.put, List.setIfInBounds_toArray, List.set_cons_zero, List.set_cons_succ, i64_w, i32_w]
              rfl
            refine pure_ (i := 9) (N := some 71) (v := undef) (a' := ?_) #[true, true, true, true, true, true, true, true, true, true, false, false, false, false, false, false, false, false] rfl rfl (by kernel_rfl) (fun _ _ _ h => h) (Or.inr ⟨by rfl, rfl⟩) ?_ ?_
            rotate_left
            · simp only [Act.put, List.setIfInBounds_toArray, List.set_cons_zero, List.set_cons_succ, i64_w, i32_w]
              rfl
            refine pure_ (i := 10) (N := some 72) (v := ?_) (a' := ?_) #[true, true, true, true, true, true, true, true, true, true, true, false, false, false, false, false, false, false] rfl rfl (by kernel_rfl) (fun _ _ _ h => h) (Or.inl ⟨by rfl, ?_⟩) ?_ ?_
            rotate_left
            · intro w'
              go_simp
              with_reducible rfl
            rotate_left
            · simp only [Act.put, List.setIfInBounds_toArray, List.set_cons_zero, List.set_cons_succ, i64_w, i32_w]
              rfl
            refine pure_ (i := 11) (N := some 73) (v := ?_) (a' := ?_) #[true, true, true, true, true, true, true, true, true, true, true, true, false, false, false, false, false, false] rfl rfl (by kernel_rfl) (fun _ _ _ h => h) (Or.inl ⟨by rfl, ?_⟩) ?_ ?_
            rotate_left
            · intro w'
              go_simp
              with_reducible rfl
            rotate_left
            · simp only [Act.put, List.setIfInBounds_toArray, List.set_cons_zero, List.set_cons_succ, i64_w, i32_w]
              rfl
            refine pure_ (i := 12) (N := some 74) (v := undef) (a' := ?_) #[true, true, true, true, true, true, true, true, true, true, true, true, true, false, false, false, false, false] rfl rfl (by kernel_rfl) (fun _ _ _ h => h) (Or.inr ⟨by rfl, rfl⟩) ?_ ?_
            rotate_left
            · simp only [Act.put, List.setIfInBounds_toArray, List.set_cons_zero, List.set_cons_succ, i64_w, i32_w]
              rfl
            refine pure_ (i := 13) (N := some 75) (v := undef) (a' := ?_) #[true, true, true, true, true, true, true, true, true, true, true, true, true, true, false, false, false, false] rfl rfl (by kernel_rfl) (fun _ _ _ h => h) (Or.inr ⟨by rfl, rfl⟩) ?_ ?_
            rotate_left
            · simp only [Act.put, List.setIfInBounds_toArray, List.set_cons_zero, List.set_cons_succ, i64_w, i32_w]
              rfl
            refine pure_ (i := 14) (N := some 76) (v := undef) (a' := ?_) #[true, true, true, true, true, true, true, true, true, true, true, true, true, true, true, false, false, false] rfl rfl (by kernel_rfl) (fun _ _ _ h => h) (Or.inr ⟨by rfl, rfl⟩) ?_ ?_
            rotate_left
            · simp only [Act.put, List.setIfInBounds_toArray, List.set_cons_zero, List.set_cons_succ, i64_w, i32_w]
              rfl
            refine pure_ (i := 15) (N := some 77) (v := ?_) (a' := ?_) #[true, true, true, true, true, true, true, true, true, true, true, true, true, true, true, true, false, false] rfl rfl (by kernel_rfl) (fun _ _ _ h => h) (Or.inl ⟨by rfl, ?_⟩) ?_ ?_
            rotate_left
            · intro w'
              go_simp
              with_reducible rfl
            rotate_left
            · simp only [Act.put, List.setIfInBounds_toArray, List.set_cons_zero, List.set_cons_succ, i64_w, i32_w]
              rfl
            refine pure_ (i := 16) (N := some 2) (v := ?_) (a' := ?_) #[true, true, true, true, true, true, true, true, true, true, true, true, true, true, true, true, true, false] rfl rfl (by kernel_rfl) (fun _ _ _ h => h) (Or.inl ⟨by rfl, ?_⟩) ?_ ?_
            rotate_left
            · intro w'
              go_simp
              with_reducible rfl
            rotate_left
            · simp only [Act.put, List.setIfInBounds_toArray, List.set_cons_zero, List.set_cons_succ, i64_w, i32_w]
              rfl
            refine pure_ (i := 17) (N := some 3) (v := ?_) (a' := ?_) #[true, true, true, true, true, true, true, true, true, true, true, true, true, true, true, true, true, true] rfl rfl (by kernel_rfl) (fun _ _ _ h => h) (Or.inl ⟨by rfl, ?_⟩) ?_ ?_
            rotate_left
            · intro w'
              go_simp
              with_reducible rfl
            rotate_left
            · simp only [Act.put, List.setIfInBounds_toArray, List.set_cons_zero, List.set_cons_succ, i64_w, i32_w]
              rfl
            refine done_ (by kernel_rfl) ?_

            go_wp2_with fail
            go_ret2
            exact ⟨rfl, B1.out.lt⟩
        · have ek4 : (k == 4) = false := beq_eq_false_iff_ne.2 k4
          have hT : textT ⟨k, s, n⟩ = (nil8, false) := by
            unfold textT
            rw [if_neg k1, if_neg k2, if_neg k3, if_neg k4]
          rw [hT]
          clear hT h64 hz CF CN CR CT k1 k2 k3 k4 SZ
          go_enter Tryz.func69, Tryz.ntmps69
          obtain ⟨z0, z1, z2⟩ := cells3 B0.out.tb
          go_wp2_with fail
          go_ret2
          exact ⟨rfl, B0.out.lt⟩
end Go.Proofs.YtcinojbfjiohjaaGreatDoor.Lx
end

section
namespace Go.Proofs.YtcinojbfjiohjaaGreatDoor.Lx
open Go Go.RowKit Go.Proofs.YtcinojbfjiohjaaGreatDoor.PPrintTells Go.Proofs.YtcinojbfjiohjaaGreatDoor.Ex Go.Proofs.YtcinojbfjiohjaaGreatDoor.Civ Go.Proofs.YtcinojbfjiohjaaGreatDoorW.PrintWords Go.Proofs.YtcinojbfjiohjaaGreatDoorW.PrintLast Go.Proofs.YtcinojbfjiohjaaGreatDoorW.PrintMore
set_option linter.unusedVariables false
set_option linter.unusedSimpArgs false
/-- What a word in memory meets. -/
structure TokW (t : Tok) : Prop where
  n0 : -9223372036854775808 ≤ t.f2
  n1 : t.f2 ≤ 9223372036854775807
  sz : t.f1.size ≤ 4611686018427387904
theorem Right_calls (t : Tok) (h : TokW t) (w : World) (hC : LCal w) :
    Calls Tryz.prog 27 #[tokV t] w fun e w' => e = .returned (.bool (rightT t)) ∧ Lt w w' := by
  have CT := Aside0.mk (text_calls t ⟨h.n0, h.n1⟩ h.sz (w.alloc (tokC t)) (hC.l ((Lt.refl w).a _)))
  have hr : rightT t = (textT t).2 := rfl
  rw [hr]
  obtain ⟨s, b, hsb⟩ : ∃ s b, textT t = (s, b) := ⟨_, _, rfl⟩
  rw [hsb] at CT ⊢
  dsimp only at CT ⊢
  have HB := Aside0.mk ((Lt.refl w).a (tokC t))
  clear hsb hr hC
  go_enter Tryz.func27, Tryz.ntmps27
  go_wp2_with fail
  (with_reducible refine CT.out.mono ?_)
  rintro e w1 ⟨rfl, hl⟩
  have HB := Aside0.mk (HB.out.trans hl)
  go_wp2
  go_ret
  exact ⟨rfl, HB.out⟩
theorem del_calls (t : Tok) (h : TokW t) (w : World) (hC : LCal w) :
    Calls Tryz.prog 74 #[tokV t] w fun e w' => e = .returned (.bool (!rightT t)) ∧ Lt w w' := by
  have CT := Aside0.mk (Right_calls t h (w.alloc (tokC t)) (hC.l ((Lt.refl w).a _)))
  generalize rightT t = b at *
  have HB := Aside0.mk ((Lt.refl w).a (tokC t))
  clear hC
  go_enter Tryz.func74, Tryz.ntmps74
  go_wp2_with fail
  (with_reducible refine CT.out.mono ?_)
  rintro e w1 ⟨rfl, hl⟩
  have HB := Aside0.mk (HB.out.trans hl)
  go_wp2
  go_ret
  exact ⟨rfl, HB.out⟩
/-- A row's cells, word by word. -/
theorem tok_at {w : World} {A : Option Addr} {L : List Tok} (h : Kd.C kTk w A L.length L) (i : Nat) (hi : i < L.length) :
    ∃ ad, A = some ad ∧ w.cell? (ad.add (i * 3)) = some (.int .u8 L[i].f0) ∧ w.cell? ⟨(ad.add (i * 3)).block, (ad.add (i * 3)).off + 1, none⟩ = some (.string L[i].f1) ∧ w.cell? ⟨(ad.add (i * 3)).block, (ad.add (i * 3)).off + 2, none⟩ = some (.int .i64 L[i].f2) := by
  obtain ⟨ad, hA, e0, e1, e2⟩ := at_T51 h (i : Int) (by omega) (by omega)
  have er : rd_T51 L (i : Int) = L[i] := by
    unfold rd_T51
    rw [Int.toNat_natCast, List.getD_eq_getElem?_getD, List.getElem?_eq_getElem hi]
    rfl
  rw [er] at e0 e1 e2
  rw [Int.toNat_natCast] at e0 e1 e2
  exact ⟨ad, hA, e0, e1, e2⟩
set_option maxHeartbeats 8000000 in
set_option maxRecDepth 100000 in
/-- No word is to go. -/
theorem IndexFunc_none (L : List Tok) (A : Option Addr) (c : Nat) (w : World) (hC : LCal w) (hL : Kd.C kTk w A L.length L) (hc : L.length ≤ c) (hW : ∀ t ∈ L, TokW t) (hR : ∀ t ∈ L, rightT t = true) :
    Calls Tryz.prog 120 #[.slice A L.length c, .func (.func 74) #[] #[]] w fun e w' => e = .returned (.int .i64 (-1)) ∧ Lt w w' := by
  have eg : ∀ args w, (callFunc 74 args).run Tryz.prog w = .ok (.enter 74 args) w := fun args w => by kernel_rfl
  have hm := hL.2.1
  have HC := Aside0.mk hC
  have HL := Aside0.mk hL
  have HW := Aside0.mk hW
  have HR := Aside0.mk hR
  obtain ⟨N, hN⟩ : ∃ N, N = L.length := ⟨_, rfl⟩
  have HN := Aside0.mk hN
  rw [← hN] at hm hc ⊢
  clear hC hL hW hR hN
  go_enter Tryz.func120, Tryz.ntmps120
  go_wp2_with fail
  go_loopw [8] (fun i wr => ∃ k : Nat, k ≤ N ∧ i = .int .i64 (k : Int) ∧ Lt w wr) (fun i _ => N - (intOf i).toNat)
  case atStart => exact ⟨0, Nat.zero_le _, rfl, Lt.refl _⟩
  case round =>
    obtain ⟨k, hk, rfl, hlt⟩ := hrel
    have HT := Aside0.mk hlt
    clear hlt
    by_cases hkn : k < N
    · have h1 : (k : Int) < (N : Int) := by omega
      have h2 : decide ((k : Int) < (N : Int)) = true := decide_eq_true h1
      obtain ⟨ad, rfl, c0, c1, c2⟩ := tok_at HL.out k (by have := HN.out; omega)
      have hmem : L[k]'(by have := HN.out; omega) ∈ L := List.getElem_mem _
      obtain ⟨t, ht⟩ : ∃ t, t = L[k]'(by have := HN.out; omega) := ⟨_, rfl⟩
      rw [← ht] at c0 c1 c2 hmem
      have d0 := cell_lt HT.out c0
      have d1 := cell_lt HT.out c1
      have d2 := cell_lt HT.out c2
      have CD := Aside0.mk (del_calls t (HW.out t hmem) wr (HC.out.l HT.out))
      rw [HR.out t hmem] at CD
      clear c0 c1 c2 ht hmem
      go_wp2_with fail
      (with_reducible refine CD.out.mono ?_)
      rintro e w1 ⟨rfl, hl⟩
      have HT := Aside0.mk (HT.out.trans hl)
      clear hl CD d0 d1 d2
      go_wp2
      go_roundw
      case rel => exact ⟨k + 1, by omega, by go_num, HT.out⟩
      case measure => simp [intOf]; omega
    · obtain rfl : k = N := by omega
      have h1 : ¬ (k : Int) < (k : Int) := by omega
      have h2 : decide ((k : Int) < (k : Int)) = false := decide_eq_false h1
      go_wp2_with fail
      go_ret
      exact ⟨rfl, HT.out⟩
theorem DeleteFunc_none (L : List Tok) (A : Option Addr) (c : Nat) (w : World) (hC : LCal w) (hL : Kd.C kTk w A L.length L) (hc : L.length ≤ c) (hW : ∀ t ∈ L, TokW t) (hR : ∀ t ∈ L, rightT t = true) :
    Calls Tryz.prog 72 #[.slice A L.length c, .func (.func 74) #[] #[]] w fun e w' => e = .returned (.slice A L.length c) ∧ Lt w w' := by
  have CI := Aside0.mk (IndexFunc_none L A c w hC hL hc hW hR)
  generalize L.length = N at *
  clear hC hL hW hR
  go_enter Tryz.func72, Tryz.ntmps72
  go_wp2_with fail
  (with_reducible refine CI.out.mono ?_)
  rintro e w1 ⟨rfl, hl⟩
  go_wp2
  go_ret
  exact ⟨rfl, hl⟩
theorem own_litT (W : World) (base : Nat) (hb : base ≤ W.heap.size) : OwnRow (kTk.M (W.alloc (.cells #[] TT)) base (fun k => True ∧ some k ≠ (Value.slice (some ⟨W.heap.size, 0, none⟩) 0 0).ownBlock)) TT 3 (W.alloc (.cells #[] TT)) base (.slice (some ⟨W.heap.size, 0, none⟩) 0 0) [] :=
  OwnRow.lit W base (inner := []) (ps := ([] : List Tok)) (Reps.none _ _) hb (by simp)
set_option maxHeartbeats 8000000 in
set_option maxRecDepth 100000 in
/-- A row's copy. -/
theorem Clone_calls (L : List Tok) (A : Option Addr) (c : Nat) (w : World) (hL : Kd.C kTk w A L.length L) (hc : L.length ≤ c) (hm : L.length ≤ 1099511627776) :
    Calls Tryz.prog 73 #[.slice A L.length c] w fun e w' => ∃ v, e = .returned v ∧ Kd.R kTk TT w' w.heap.size (fun _ => True) v L ∧ Lt w w' := by
  have HL := Aside0.mk hL
  obtain ⟨N, hN⟩ : ∃ N, N = L.length := ⟨_, rfl⟩
  have HN := Aside0.mk hN
  have hz : A = none → L = [] := fun h => by
    rcases Nat.eq_zero_or_pos L.length with h0 | h0
    · exact List.eq_nil_of_length_eq_zero h0
    · obtain ⟨ad, hA, _⟩ := tok_at hL 0 h0
      rw [h] at hA
      cases hA
  rw [← hN] at hm hc HL ⊢
  clear hL hN
  cases A with
  | none =>
    have h0 := hz rfl
    subst h0
    obtain rfl : N = 0 := HN.out
    clear hz HL
    have eN : ∀ W : World, (binOp .eql 32 (.slice none 0 c) (.slice none 0 0)).run Tryz.prog W = .ok (.bool true) W := fun W => Lib.run_eql_slice_nil W _ _ none 0 c 0 0 Tryz.underlying32
    go_enter Tryz.func73, Tryz.ntmps73
    go_wp2_with fail
    go_ret
    exact ⟨_, rfl, Kd.R_nil _ _ _ _ _, Lt.refl _⟩
  | some ad =>
    clear hz
    have eN : ∀ W : World, (binOp .eql 32 (.slice (some ad) N c) (.slice none 0 0)).run Tryz.prog W = .ok (.bool false) W := fun W => Lib.run_eql_slice_nil W _ _ (some ad) N c 0 0 Tryz.underlying32
    go_enter Tryz.func73, Tryz.ntmps73
    go_wp2_with ((with_reducible refine gate_builtin (b := .append) (xs := #[.tmp 5, .tmp 6]) rfl ?_); at_builtin; refine Kd.R_append_rows kTk (w0 := w) w.heap.size rfl (.tmp 5) (.tmp 6) 32 TT (.agg #[.int .u8 0, .string nil8, .int .i64 0]) 32 rfl Tryz.underlying32 info_tkz rfl (by decide) (by omega) (.slice (some ⟨w.heap.size, 0, none⟩) 0 0) ([] : List Tok) L (some ad) N c (fun _ => True) (fun _ => False) rfl rfl ⟨fun _ _ => trivial, own_litT _ _ (Nat.le_refl _)⟩ (Kd.C_below HL.out (below_alloc (Below.refl _ _) _)) (fun y cs hk => by rw [k51_open hk]; exact k51_mkM _ _ _ y) (fun _ hk => hk.elim) (fun _ _ => trivial) (below_alloc (Below.refl _ _) _) (below_alloc (Below.refl _ _) _).size (by rw [List.length_nil]; omega) ?_; intro v1 wa ho hb hg hat; rw [List.nil_append] at ho; have HO := Aside0.mk ho; have HB := Aside0.mk (Lt.mk hb); clear ho hb hg hat)
    go_ret
    exact ⟨_, rfl, HO.out, HB.out⟩
end Go.Proofs.YtcinojbfjiohjaaGreatDoor.Lx
end

section
namespace Go.Proofs.YtcinojbfjiohjaaGreatDoor.Lx
open Go Go.RowKit Go.Proofs.YtcinojbfjiohjaaGreatDoor.PPrintTells Go.Proofs.YtcinojbfjiohjaaGreatDoor.Ex Go.Proofs.YtcinojbfjiohjaaGreatDoor.Civ Go.Proofs.YtcinojbfjiohjaaGreatDoorW.PrintWords Go.Proofs.YtcinojbfjiohjaaGreatDoorW.PrintLast Go.Proofs.YtcinojbfjiohjaaGreatDoorW.PrintMore
set_option linter.unusedVariables false
set_option linter.unusedSimpArgs false
abbrev kS : Kd ByteArray := Kd.string
abbrev SS : TypeId := 9
abbrev BLK : ByteArray := ⟨#[32]⟩
/-- The texts of words, a blank between. -/
def textL (L : List Tok) : ByteArray := toB (Lib.join (L.map (fun t => (textT t).1.data.toList)) [32])
theorem str_at {w : World} {A : Option Addr} {X : List ByteArray} (h : Kd.C kS w A X.length X) (i : Nat) (hi : i < X.length) : ∃ ad, A = some ad ∧ w.cell? (ad.add i) = some (.string X[i]) := by
  obtain ⟨ad, c, hA, hl, hK, hc⟩ := Kd.C_get h nil8 (i : Int) (by omega) (by omega)
  have e : X.getD (i : Int).toNat nil8 = X[i] := by
    rw [Int.toNat_natCast, List.getD_eq_getElem?_getD, List.getElem?_eq_getElem hi]
    rfl
  rw [e] at hK
  have hc0 : c = [.string X[i]] := hK
  subst hc0
  have h1 := hc 0 _ rfl
  rw [Int.toNat_natCast] at h1
  refine ⟨ad, hA, ?_⟩
  have e2 : i * kS.sz + 0 = i := by show i * 1 + 0 = i; omega
  rw [e2] at h1
  exact h1
theorem joined_calls (X : List ByteArray) (A : Option Addr) (c : Nat) (w : World) (hX : Kd.R kS SS w 0 (fun _ => True) (.slice A X.length c) X) (hN : X.length ≤ 140737488355328) (hlen : (Lib.join (X.map (·.data.toList)) [32]).length ≤ 140737488355328) :
    Calls Tryz.prog 75 #[.slice A X.length c] w fun e w' => e = .returned (.string (toB (Lib.join (X.map (·.data.toList)) [32]))) ∧ Lt w w' := by
  have hJ : Calls Tryz.prog 121 #[.slice A X.length c, .string BLK] w fun e w' => e = .returned (.string (toB (Lib.join (X.map (·.data.toList)) [32]))) ∧ Lt w w' := by
    obtain ⟨_, hc, hC⟩ := Kd.R_reads' hX
    rcases Nat.eq_zero_or_pos X.length with h0 | h0
    · obtain rfl : X = [] := List.eq_nil_of_length_eq_zero h0
      exact (Tryz.strings_Join_none A c BLK w).mono fun e w' ⟨he, hw⟩ => ⟨he, hw ▸ Lt.refl _⟩
    · obtain ⟨g, cap, hv, _, hg, _⟩ := Kd.R_form hX h0
      injection hv with hA _ hcc
      subst hA
      subst hcc
      refine (Tryz.strings_Join g 0 c X BLK w (fun k x hk => ?_) hg hN hc hlen).mono fun e w' ⟨he, hw⟩ => ⟨he, ⟨hw⟩⟩
      obtain ⟨hi, rfl⟩ := List.getElem?_eq_some_iff.1 hk
      obtain ⟨ad, hA, h1⟩ := str_at hC k hi
      obtain rfl := Option.some.inj hA
      by_cases hk0 : k = 0
      · subst hk0
        simpa [Addr.add] using h1
      · simpa [Addr.add, hk0] using h1
  generalize toB (Lib.join (X.map (·.data.toList)) [32]) = T at *
  generalize X.length = N at *
  have HJ := Aside0.mk hJ
  clear hJ hX hN hlen
  go_enter Tryz.func75, Tryz.ntmps75
  go_wp2_with fail
  (with_reducible refine HJ.out.mono ?_)
  rintro e w1 ⟨rfl, hl⟩
  go_wp2
  go_ret
  exact ⟨rfl, hl⟩
/-- A right word's text is short. -/
theorem right_short {t : Tok} (h : TokW t) (hR : rightT t = true) : (textT t).1.size ≤ 300 := by
  have hR : (textT t).2 = true := hR
  obtain ⟨k, s, n⟩ := t
  unfold textT at hR ⊢
  dsimp only at hR ⊢
  by_cases k1 : k = 1
  · rw [if_pos k1] at hR ⊢
    simp only [Bool.and_eq_true] at hR
    have h1 := hR.1.1
    have hs : s.size = s.data.toList.length := (Array.length_toList).symm
    cases hL : s.data.toList with
    | nil => rw [hL] at hs; dsimp only; rw [hs]; simp
    | cons b l =>
      rw [hL] at h1 hs
      unfold namedL at h1
      simp only [Bool.and_eq_true, decide_eq_true_eq] at h1
      rw [List.length_cons] at hs
      dsimp only
      omega
  · rw [if_neg k1] at hR ⊢
    by_cases k2 : k = 2
    · rw [if_pos k2]
      show (Lib.itoa n).toArray.size ≤ 300
      rw [List.size_toArray]
      have h0 := h.n0
      have h1 := h.n1
      have hd := decDigits_len 20
      unfold Lib.itoa
      split
      · have := hd n.natAbs (by dsimp only at h0; omega) (by omega)
        rw [List.length_cons]
        omega
      · have := hd n.toNat (by dsimp only at h1; omega) (by omega)
        omega
    · rw [if_neg k2] at hR ⊢
      by_cases k3 : k = 3
      · rw [if_pos k3]
        have := textF_size n
        dsimp only
        rw [ByteArray.size_append]
        show 1 + _ ≤ 300
        omega
      · rw [if_neg k3] at hR ⊢
        by_cases k4 : k = 4
        · rw [if_pos k4] at hR ⊢
          simp only [Bool.and_eq_true, decide_eq_true_eq] at hR
          dsimp only
          omega
        · rw [if_neg k4]
          exact Nat.zero_le _
theorem joinTail_len (X : List (List UInt8)) (h : ∀ x ∈ X, x.length ≤ 300) : (Lib.joinTail [32] X).length ≤ 301 * X.length := by
  induction X with
  | nil => exact Nat.zero_le _
  | cons x X ih =>
    have h1 := h x (by simp)
    have h2 := ih (fun y hy => h y (by simp [hy]))
    unfold Lib.joinTail at h2 ⊢
    rw [List.map_cons, List.flatten_cons, List.length_append, List.length_append, List.length_cons]
    simp only [List.length_cons, List.length_nil]
    omega
theorem join_len (X : List (List UInt8)) (h : ∀ x ∈ X, x.length ≤ 300) : (Lib.join X [32]).length ≤ 301 * X.length := by
  cases X with
  | nil => exact Nat.zero_le _
  | cons x X =>
    rw [Lib.join_cons, List.length_append]
    have h1 := h x (by simp)
    have h2 := joinTail_len X (fun y hy => h y (by simp [hy]))
    rw [List.length_cons]
    omega
theorem info_str : (Tryz.prog.info? SS).map (fun i => (i.zero, i.size, i.bytes)) = some (some (.string nil8), 1, 16) := by kernel_rfl
set_option maxHeartbeats 16000000 in
set_option maxRecDepth 100000 in
theorem Text_right (L : List Tok) (A : Option Addr) (c : Nat) (w : World) (hC : LCal w) (hL : Kd.C kTk w A L.length L) (hc : L.length ≤ c) (hm : L.length ≤ 4294967296) (hW : ∀ t ∈ L, TokW t) (hR : ∀ t ∈ L, rightT t = true) :
    Calls Tryz.prog 30 #[.slice A L.length c] w fun e w' => e = .returned (.string (textL L)) ∧ Lt w w' := by
  have CC := Aside0.mk (Clone_calls L A c w hL hc (by omega))
  have HC := Aside0.mk hC
  have HW := Aside0.mk hW
  have HR := Aside0.mk hR
  have CD := fun B d W h1 h2 h3 => Aside0.mk (DeleteFunc_none L B d W h1 h2 h3 hW hR)
  have HJ := Aside0.mk (show (Lib.join (L.map (fun t => (textT t).1.data.toList)) [32]).length ≤ 140737488355328 from by
    have h := join_len (L.map (fun t => (textT t).1.data.toList)) (fun x hx => by
      obtain ⟨t, ht, rfl⟩ := List.mem_map.1 hx
      have := right_short (hW t ht) (hR t ht)
      rw [Array.length_toList]
      exact this)
    rw [List.length_map] at h
    omega)
  obtain ⟨N, hN⟩ : ∃ N, N = L.length := ⟨_, rfl⟩
  have HN := Aside0.mk hN
  rw [← hN] at hm hc CC CD ⊢
  clear hC hL hW hR hN
  go_enter Tryz.func30, Tryz.ntmps30
  go_wp2_with fail
  (with_reducible refine CC.out.mono ?_)
  rintro e w1 ⟨v, rfl, ho, hl⟩
  obtain ⟨B, d, rfl, hd, hCC⟩ := Kd.R_reads ho
  rw [← HN.out] at hd hCC ⊢
  have HK := Aside0.mk hCC
  have HT := Aside0.mk hl
  clear ho hl hCC CC
  go_wp2_with fail
  (with_reducible refine (CD _ _ _ (HC.out.l HT.out) HK.out hd).out.mono ?_)
  rintro e w2 ⟨rfl, hl⟩
  have HK := Aside0.mk (Kd.C_below HK.out hl.out)
  have HT := Aside0.mk (HT.out.trans hl)
  clear hl CD
  go_wp2_with fail
  go_loopw [3, 12] (fun v i wr => ∃ k : Nat, k ≤ N ∧ i = .int .i64 (k : Int) ∧ Lt w2 wr ∧ Kd.R kS SS wr w2.heap.size (fun _ => True) v ((L.take k).map fun t => (textT t).1)) (fun _ i _ => N - (intOf i).toNat)
  case atStart => exact ⟨0, Nat.zero_le _, rfl, Lt.refl _, Kd.R_nil _ _ _ _ _⟩
  case round =>
    obtain ⟨k, hk, rfl, hlt2, hr⟩ := hrel
    have HT0 := HT
    have HT := Aside0.mk (HT.out.trans hlt2)
    have HT2 := Aside0.mk hlt2
    have HRR := Aside0.mk hr
    obtain ⟨Av, cv, rfl⟩ := Kd.R_slice hr
    clear hlt2 hr
    obtain ⟨M, hM⟩ : ∃ M, M = ((L.take k).map fun t => (textT t).1).length := ⟨_, rfl⟩
    have hMk : M = k := by rw [hM, List.length_map, List.length_take, ← HN.out, Nat.min_eq_left hk]
    rw [← hM] at HRR ⊢
    have HMK := Aside0.mk hMk
    clear hM hMk
    by_cases hkn : k < N
    · have h1 : (k : Int) < (N : Int) := by omega
      have h2 : decide ((k : Int) < (N : Int)) = true := decide_eq_true h1
      obtain ⟨ad, rfl, c0, c1, c2⟩ := tok_at (by rw [← HN.out]; exact HK.out) k (by have := HN.out; omega)
      have hmem : L[k]'(by have := HN.out; omega) ∈ L := List.getElem_mem _
      have htk : (L.take (k + 1)).map (fun t => (textT t).1) = (L.take k).map (fun t => (textT t).1) ++ [(textT (L[k]'(by have := HN.out; omega))).1] := by
        rw [List.take_succ_eq_append_getElem (by have := HN.out; omega), List.map_append]
        rfl
      obtain ⟨t, ht⟩ : ∃ t, t = L[k]'(by have := HN.out; omega) := ⟨_, rfl⟩
      rw [← ht] at c0 c1 c2 hmem htk
      have d0 := cell_lt HT2.out c0
      have d1 := cell_lt HT2.out c1
      have d2 := cell_lt HT2.out c2
      have CT := Aside0.mk (text_calls t ⟨(HW.out t hmem).n0, (HW.out t hmem).n1⟩ (HW.out t hmem).sz (wr.alloc (tokC t)) (HC.out.l (HT.out.a _)))
      have HTK := Aside0.mk htk
      obtain ⟨tx, b, htx⟩ : ∃ tx b, textT t = (tx, b) := ⟨_, _, rfl⟩
      rw [htx] at CT HTK
      dsimp only at CT HTK
      clear c0 c1 c2 ht hmem htk htx
      go_wp2_with fail
      (with_reducible refine CT.out.mono ?_)
      rintro e w3 ⟨rfl, hl⟩
      have HRR := Aside0.mk (Kd.R_below HRR.out (((Lt.refl _).a (tokC t)).trans hl).out)
      have HT := Aside0.mk ((HT.out.a (tokC t)).trans hl)
      have HT2 := Aside0.mk ((HT2.out.a (tokC t)).trans hl)
      clear hl CT d0 d1 d2
      go_wp2_with ((with_reducible refine gate_builtin (b := .append) (xs := #[.tmp 21, .tmp 23]) rfl ?_); at_builtin; refine Kd.R_append kS (w0 := w2) w2.heap.size rfl (.tmp 21) (.tmp 23) 38 SS (.string nil8) 16 rfl Tryz.underlying38 info_str rfl (by decide) (by omega) (.slice Av M cv) ((L.take k).map fun t => (textT t).1) tx [.string tx] (fun _ => True) (fun _ => False) rfl rfl ?aP (fun _ hk => hk.elim) ?aF ?aO ?aB ?aS ?aL ?_; (case aP => exact rfl); (case aF => exact fun _ _ => trivial); (case aO => exact HRR.out); (case aB => exact HT2.out.out); (case aS => exact HT2.out.out.size); (case aL => rw [List.length_map, List.length_take, ← HN.out, Nat.min_eq_left hk]; omega); intro v1 wa ho hb hg hat; have HO := Aside0.mk ho; have HT2 := Aside0.mk (Lt.mk hb); clear ho hb hg hat)
      go_roundw
      case rel => exact ⟨k + 1, by omega, by go_num, HT2.out, by rw [HTK.out]; exact HO.out⟩
      case measure => simp [intOf]; omega
    · obtain rfl : k = N := by omega
      have h1 : ¬ (k : Int) < (k : Int) := by omega
      have h2 : decide ((k : Int) < (k : Int)) = false := decide_eq_false h1
      have hall : L.take k = L := by rw [HN.out, List.take_length]
      rw [hall] at HRR
      have CJ := Aside0.mk (joined_calls (L.map fun t => (textT t).1) Av cv wr (by rw [List.length_map, ← HN.out, ← HMK.out]; exact Kd.R_lower HRR.out (Nat.zero_le _)) (by rw [List.length_map, ← HN.out]; omega) (by rw [List.map_map]; exact HJ.out))
      have eL : (L.map fun t => (textT t).1).length = M := by rw [List.length_map, ← HN.out, HMK.out]
      rw [eL, List.map_map] at CJ
      have eT : toB (Lib.join (L.map ((fun x => x.data.toList) ∘ fun t => (textT t).1)) [32]) = textL L := rfl
      rw [eT] at CJ
      clear hall eL eT HRR
      go_wp2_with fail
      (with_reducible refine CJ.out.mono ?_)
      rintro e w3 ⟨rfl, hl⟩
      go_wp2
      go_ret
      exact ⟨rfl, HT.out.trans hl⟩
end Go.Proofs.YtcinojbfjiohjaaGreatDoor.Lx
end

section
namespace Go.Proofs.YtcinojbfjiohjaaGreatDoor.PPrintTells
open Go.RowKit Go.Proofs.YtcinojbfjiohjaaGreatDoorW.PrintWords Go.Proofs.YtcinojbfjiohjaaGreatDoorW.PrintLast Go.Proofs.YtcinojbfjiohjaaGreatDoorW.PrintMore
attribute [local go_sem] max2_int min2_int max_two min_two max_three min_three max_four min_four   -- for this text's walks alone
set_option linter.unusedVariables false
set_option linter.unusedSimpArgs false
theorem eqA51 (d : Nat) (w : World) (x0 y0 : Int) (x1 y1 : ByteArray) (x2 y2 : Int) :
    (Op.equalIn (d + 2) 51 (.agg #[.int .u8 x0, .string x1, .int .i64 x2]) (.agg #[.int .u8 y0, .string y1, .int .i64 y2])).run Tryz.prog w = .ok (x0 == y0 && (x1.toList == y1.toList && (x2 == y2))) w := by
  refine eqA_of Tryz.underlying51 (by kernel_rfl) ?_
  refine eqf_cons (by rfl) (by go_simp; rfl) (by go_simp; rfl) (by go_simp) ?_
  refine eqf_cons (by rfl) (by go_simp; rfl) (by go_simp; rfl) (by go_simp) ?_
  exact eqf_last (by rfl) (by go_simp; rfl) (by go_simp; rfl) (by go_simp)
end Go.Proofs.YtcinojbfjiohjaaGreatDoor.PPrintTells
end

section
namespace Go.Proofs.YtcinojbfjiohjaaGreatDoor.PPrintTells
open Go.RowKit Go.Proofs.YtcinojbfjiohjaaGreatDoorW.PrintWords Go.Proofs.YtcinojbfjiohjaaGreatDoorW.PrintLast Go.Proofs.YtcinojbfjiohjaaGreatDoorW.PrintMore
attribute [local go_sem] max2_int min2_int max_two min_two max_three min_three max_four min_four   -- for this text's walks alone
set_option linter.unusedVariables false
set_option linter.unusedSimpArgs false
attribute [local go_sem high] eqA51
def epactlaw10_Same.l0 : Nat → List (S51) → List (S51) → Int → Int → Option (Bool)
  | 0, _, _, _, _ => none
  | k + 1, x0, x1, x12, x13 => if x13 < x12 then (if 0 ≤ x13 then (if x13 < (x0.length : Int) then (if x13 < (x1.length : Int) then (if (!(((rd_T51 x0 x13).f0) == ((rd_T51 x1 x13).f0)) || (!((((rd_T51 x0 x13).f1).toList) == (((rd_T51 x1 x13).f1).toList)) || (!(((rd_T51 x0 x13).f2) == ((rd_T51 x1 x13).f2))))) = true then (some false) else (epactlaw10_Same.l0 k x0 x1 x12 (wrap64 (x13 + 1)))) else (none)) else (none)) else (none)) else (some true)
def epactlaw10_Same.f (k : Nat) (l0 : List (S51)) (l1 : List (S51)) : Option (Bool) := if (l0.length : Int) = (l1.length : Int) then (epactlaw10_Same.l0 k l0 l1 (l0.length : Int) 0) else (some false)
set_option maxHeartbeats 8000000 in
set_option maxRecDepth 100000 in
theorem epactlaw10_Same.calls (k : Nat) (A0 : Option Addr) (c0 : Nat) (l0 : List (S51)) (A1 : Option Addr) (c1 : Nat) (l1 : List (S51)) (r : Bool) (w : World) (hr0 : Kd.C k51 w A0 l0.length l0) (hc0 : l0.length ≤ c0) (hr1 : Kd.C k51 w A1 l1.length l1) (hc1 : l1.length ≤ c1) (h : epactlaw10_Same.f k l0 l1 = some r) :
    Calls Tryz.prog 29 #[.slice A0 l0.length c0, .slice A1 l1.length c1] w fun e w' => e = .returned (.bool r) ∧ Drawn0 w w' := by
  have hu51 := Tryz.underlying51
  have HR0 := Aside0.mk hr0
  have HC0 := Aside0.mk hc0
  clear hr0 hc0
  have HR1 := Aside0.mk hr1
  have HC1 := Aside0.mk hc1
  clear hr1 hc1
  have H : (if (l0.length : Int) = (l1.length : Int) then (epactlaw10_Same.l0 k l0 l1 (l0.length : Int) 0) else (some false)) = some r := h
  clear h
  by_cases c3 : (l0.length : Int) = (l1.length : Int)
  · rw [if_pos c3] at H
    have c3b0 : ((l0.length : Int) == (l1.length : Int)) = true := beq_iff_eq.mpr c3
    have c3b1 : ((l0.length : Int) != (l1.length : Int)) = false := bne_eq_false_iff_eq.mpr c3
    have c3b2 : (l0.length == l1.length) = true := by first | simpa using c3 | (simp at c3 ⊢; omega)
    clear c3
    have H' := Aside0.mk H
    clear H
    go_enter Tryz.func29, Tryz.ntmps29
    go_wp2
    repeat (go_quiet (fail); try go_wp2)
    go_loopg [13] k (fun kq v13 w' => ∃ (x13_1 : Int), v13 = .int .i64 x13_1 ∧ Aside0 (epactlaw10_Same.l0 kq l0 l1 (l0.length : Int) x13_1 = some r) ∧ Aside0 (kq ≤ k) ∧ Drawn0 w w')
    case atStart => exact ⟨(0), (by first | rfl | (simp; done) | (simp [*]; done)), H', ⟨Nat.le_refl _⟩, by repeat (first | exact Drawn0.refl _ | apply Drawn0.step)⟩
    case round =>
      clear H'
      try clear c1
      try clear c2
      try clear p2
      try clear c3
      try clear c3b0
      try clear c3b1
      try clear c3b2
      obtain ⟨x13_1, rfl, HA, HK1, ⟨m1, rfl⟩⟩ := hrel
      cases gk with
      | zero => exact absurd HA.out (by simp [epactlaw10_Same.l0])
      | succ k1 =>
        have H := HA.out
        clear HA
        simp only [epactlaw10_Same.l0] at H
        by_cases c4 : x13_1 < (l0.length : Int)
        · rw [if_pos c4] at H
          have c4b0 : decide (x13_1 < (l0.length : Int)) = true := decide_eq_true c4
          clear c4
          by_cases c5 : 0 ≤ x13_1
          · rw [if_pos c5] at H
            have c5b0 : decide (0 ≤ x13_1) = true := decide_eq_true c5
            clear c5
            by_cases c6 : x13_1 < (l0.length : Int)
            · rw [if_pos c6] at H
              have c6b0 : decide (x13_1 < (l0.length : Int)) = true := decide_eq_true c6
              clear c6
              by_cases c7 : x13_1 < (l1.length : Int)
              · rw [if_pos c7] at H
                have c7b0 : decide (x13_1 < (l1.length : Int)) = true := decide_eq_true c7
                clear c7
                by_cases c8 : (!(((rd_T51 l0 x13_1).f0) == ((rd_T51 l1 x13_1).f0)) || (!((((rd_T51 l0 x13_1).f1).toList) == (((rd_T51 l1 x13_1).f1).toList)) || (!(((rd_T51 l0 x13_1).f2) == ((rd_T51 l1 x13_1).f2))))) = true
                · rw [if_pos c8] at H
                  have c8b0 : (!(((rd_T51 l0 x13_1).f0) == ((rd_T51 l1 x13_1).f0)) || (!((((rd_T51 l0 x13_1).f1).toList) == (((rd_T51 l1 x13_1).f1).toList)) || (!(((rd_T51 l0 x13_1).f2) == ((rd_T51 l1 x13_1).f2))))) = true := c8
                  clear c8
                  obtain rfl := Option.some.inj H
                  have p150 : 0 ≤ (x13_1 : Int) := of_decide_eq_true (by first | (with_reducible assumption) | assumption)
                  have q150 : x13_1 < (l0.length : Int) := of_decide_eq_true (by first | (with_reducible assumption) | assumption)
                  obtain ⟨ad150, e150, hx150_0, hx150_1, hx150_2⟩ := at_T51 HR0.out x13_1 p150 q150
                  cases e150
                  replace p150 := eq_true p150
                  replace q150 := eq_true q150
                  have p151 : 0 ≤ (x13_1 : Int) := of_decide_eq_true (by first | (with_reducible assumption) | assumption)
                  have q151 : x13_1 < (l1.length : Int) := of_decide_eq_true (by first | (with_reducible assumption) | assumption)
                  obtain ⟨ad151, e151, hx151_0, hx151_1, hx151_2⟩ := at_T51 HR1.out x13_1 p151 q151
                  cases e151
                  replace p151 := eq_true p151
                  replace q151 := eq_true q151
                  go_wp2
                  repeat (go_quiet (fail); try go_wp2)
                  go_ret
                  exact ⟨by first | rfl | (simp; done) | (simp [*]; done), by repeat (first | exact Drawn0.refl _ | apply Drawn0.step)⟩
                · rw [if_neg c8] at H
                  have c8b0 : (!(((rd_T51 l0 x13_1).f0) == ((rd_T51 l1 x13_1).f0)) || (!((((rd_T51 l0 x13_1).f1).toList) == (((rd_T51 l1 x13_1).f1).toList)) || (!(((rd_T51 l0 x13_1).f2) == ((rd_T51 l1 x13_1).f2))))) = false := by simpa using c8
                  clear c8
                  have H' := Aside0.mk H
                  clear H
                  have p150 : 0 ≤ (x13_1 : Int) := of_decide_eq_true (by first | (with_reducible assumption) | assumption)
                  have q150 : x13_1 < (l0.length : Int) := of_decide_eq_true (by first | (with_reducible assumption) | assumption)
                  obtain ⟨ad150, e150, hx150_0, hx150_1, hx150_2⟩ := at_T51 HR0.out x13_1 p150 q150
                  cases e150
                  replace p150 := eq_true p150
                  replace q150 := eq_true q150
                  have p151 : 0 ≤ (x13_1 : Int) := of_decide_eq_true (by first | (with_reducible assumption) | assumption)
                  have q151 : x13_1 < (l1.length : Int) := of_decide_eq_true (by first | (with_reducible assumption) | assumption)
                  obtain ⟨ad151, e151, hx151_0, hx151_1, hx151_2⟩ := at_T51 HR1.out x13_1 p151 q151
                  cases e151
                  replace p151 := eq_true p151
                  replace q151 := eq_true q151
                  go_wp2
                  repeat (go_quiet (fail); try go_wp2)
                  go_roundg k1
                  case measure => have := HK1.out; omega
                  case rel => exact ⟨(wrap64 (x13_1 + 1)), (by first | rfl | (simp; done) | (simp [*]; done)), H', ⟨by have := HK1.out; omega⟩, by repeat (first | exact Drawn0.refl _ | apply Drawn0.step)⟩
              · rw [if_neg c7] at H
                exact absurd H (by simp)
            · rw [if_neg c6] at H
              exact absurd H (by simp)
          · rw [if_neg c5] at H
            exact absurd H (by simp)
        · rw [if_neg c4] at H
          have c4b0 : decide (x13_1 < (l0.length : Int)) = false := decide_eq_false c4
          clear c4
          obtain rfl := Option.some.inj H
          go_wp2
          repeat (go_quiet (fail); try go_wp2)
          go_ret
          exact ⟨by first | rfl | (simp; done) | (simp [*]; done), by repeat (first | exact Drawn0.refl _ | apply Drawn0.step)⟩
  · rw [if_neg c3] at H
    have c3b0 : ((l0.length : Int) == (l1.length : Int)) = false := beq_eq_false_iff_ne.mpr c3
    have c3b1 : ((l0.length : Int) != (l1.length : Int)) = true := bne_iff_ne.mpr c3
    have c3b2 : (l0.length == l1.length) = false := by first | simpa using c3 | (simp at c3 ⊢; omega)
    obtain rfl := Option.some.inj H
    go_enter Tryz.func29, Tryz.ntmps29
    go_wp2
    repeat (go_quiet (fail); try go_wp2)
    go_ret
    exact ⟨by first | rfl | (simp; done) | (simp [*]; done), by repeat (first | exact Drawn0.refl _ | apply Drawn0.step)⟩
end Go.Proofs.YtcinojbfjiohjaaGreatDoor.PPrintTells
end

section
namespace Go.Proofs.YtcinojbfjiohjaaGreatDoor.Lx
open Go Go.RowKit Go.Proofs.YtcinojbfjiohjaaGreatDoor.PPrintTells Go.Proofs.YtcinojbfjiohjaaGreatDoor.Ex Go.Proofs.YtcinojbfjiohjaaGreatDoor.Civ Go.Proofs.YtcinojbfjiohjaaGreatDoorW.PrintWords Go.Proofs.YtcinojbfjiohjaaGreatDoorW.PrintLast Go.Proofs.YtcinojbfjiohjaaGreatDoorW.PrintMore
set_option linter.unusedVariables false
set_option linter.unusedSimpArgs false
theorem self_l0 (L : List Tok) (hm : L.length ≤ 9223372036854775800) : ∀ (n i : Nat), i + n = L.length → ∀ k, n + 1 ≤ k → epactlaw10_Same.l0 k L L (L.length : Int) (i : Int) = some true := by
  intro n
  induction n with
  | zero =>
    intro i hi k hk
    obtain ⟨k, rfl⟩ : ∃ m, k = m + 1 := ⟨k - 1, by omega⟩
    rw [epactlaw10_Same.l0, if_neg (by omega)]
  | succ n ih =>
    intro i hi k hk
    obtain ⟨k, rfl⟩ : ∃ m, k = m + 1 := ⟨k - 1, by omega⟩
    have hn := ih (i + 1) (by omega) k (by omega)
    rw [show ((i + 1 : Nat) : Int) = (i : Int) + 1 by omega] at hn
    rw [epactlaw10_Same.l0, if_pos (by omega), if_pos (by omega), if_pos (by omega), if_pos (by omega), if_neg (by simp), w64 (by omega) (by omega), hn]
/-- A list of words is the same as itself. -/
theorem same_calls (L : List Tok) (A B : Option Addr) (c d : Nat) (w : World) (hA : Kd.C kTk w A L.length L) (hc : L.length ≤ c) (hB : Kd.C kTk w B L.length L) (hd : L.length ≤ d) (hm : L.length ≤ 9223372036854775800) :
    Calls Tryz.prog 29 #[.slice A L.length c, .slice B L.length d] w fun e w' => e = .returned (.bool true) ∧ Lt w w' :=
  (epactlaw10_Same.calls (L.length + 1) A c L B d L true w hA hc hB hd (by
    unfold epactlaw10_Same.f
    rw [if_pos rfl]
    exact self_l0 L hm L.length 0 (by omega) _ (Nat.le_refl _))).mono fun _ _ ⟨he, h⟩ => ⟨he, Drawn0.lt h⟩
theorem name_made (s : ByteArray) (w : World) : Calls Tryz.prog 65 #[.string s] w fun e w' => e = .returned (tokV ⟨1, s, 0⟩) ∧ Lt w w' := by
  go_enter Tryz.func65, Tryz.ntmps65
  go_wp2_with fail
  refine bodyPost_ret (results_cell_row rfl _ _ w.heap.size TT #[.int .u8 1, .string s, .int .i64 0] (0, 0) _ rfl (blk_new w _) Tryz.underlying51 rfl info_tk) rfl ?_
  exact ⟨rfl, (Lt.refl _).a _⟩
theorem mark_made (s : ByteArray) (w : World) : Calls Tryz.prog 66 #[.string s] w fun e w' => e = .returned (tokV ⟨4, s, 0⟩) ∧ Lt w w' := by
  go_enter Tryz.func66, Tryz.ntmps66
  go_wp2_with fail
  refine bodyPost_ret (results_cell_row rfl _ _ w.heap.size TT #[.int .u8 4, .string s, .int .i64 0] (0, 0) _ rfl (blk_new w _) Tryz.underlying51 rfl info_tk) rfl ?_
  exact ⟨rfl, (Lt.refl _).a _⟩
theorem number_made (n : Int) (w : World) : Calls Tryz.prog 67 #[.int .i64 n] w fun e w' => e = .returned (tokV ⟨2, nil8, n⟩) ∧ Lt w w' := by
  go_enter Tryz.func67, Tryz.ntmps67
  go_wp2_with fail
  refine bodyPost_ret (results_cell_row rfl _ _ w.heap.size TT #[.int .u8 2, .string nil8, .int .i64 n] (0, 0) _ rfl (blk_new w _) Tryz.underlying51 rfl info_tk) rfl ?_
  exact ⟨rfl, (Lt.refl _).a _⟩
theorem same_n (L : List Tok) (n : Nat) (hn : L.length = n) (A B : Option Addr) (c d : Nat) (w : World) (hA : Kd.C kTk w A n L) (hc : n ≤ c) (hB : Kd.C kTk w B n L) (hd : n ≤ d) (hm : n ≤ 1000) :
    Calls Tryz.prog 29 #[.slice A n c, .slice B n d] w fun e w' => e = .returned (.bool true) ∧ Lt w w' := by
  subst hn
  exact same_calls L A B c d w hA hc hB hd (by omega)
theorem Words_to (s : ByteArray) (L : List Tok) (k : Int) (n : Nat) (hn : L.length = n) (he : lexL s.data.toList = (L, k)) (hs : s.size < 4294967281) (w : World) (hC : LCal w) :
    Calls Tryz.prog 14 #[.string s] w fun e w' => ∃ B d, e = .returned (.tuple #[.slice B n d, .int .i64 k]) ∧ Kd.C kTk w' B n L ∧ n ≤ d ∧ Lt w w' := by
  refine (Words_calls s hs w hC).mono ?_
  rintro e w' ⟨v, rfl, ho, hl⟩
  rw [he] at ho
  obtain ⟨B, d, rfl, hd, hCC⟩ := Kd.R_reads ho
  dsimp only at hd hCC hn ⊢
  rw [hn] at hd hCC
  exact ⟨B, d, by rw [he, hn], hCC, hd, hl⟩
abbrev tGR : List Tok := [⟨1, ⟨#[103, 114, 111, 117, 112]⟩, 0⟩, ⟨4, ⟨#[40]⟩, 0⟩, ⟨2, nil8, 3⟩, ⟨4, ⟨#[44]⟩, 0⟩, ⟨1, ⟨#[100, 97, 121]⟩, 0⟩, ⟨4, ⟨#[41]⟩, 0⟩]
abbrev tGRC : Obj := .cells #[.int .u8 1, .string ⟨#[103, 114, 111, 117, 112]⟩, .int .i64 0, .int .u8 4, .string ⟨#[40]⟩, .int .i64 0, .int .u8 2, .string ⟨#[]⟩, .int .i64 3, .int .u8 4, .string ⟨#[44]⟩, .int .i64 0, .int .u8 1, .string ⟨#[100, 97, 121]⟩, .int .i64 0, .int .u8 4, .string ⟨#[41]⟩, .int .i64 0] TT
theorem tGR_row (W : World) : Kd.C kTk (W.alloc tGRC) (some ⟨W.heap.size, 0, none⟩) 6 tGR := by
  have hr : ∀ ok, Reps (kTk.M (W.alloc tGRC) W.heap.size ok) 3 tGR [.int .u8 1, .string ⟨#[103, 114, 111, 117, 112]⟩, .int .i64 0, .int .u8 4, .string ⟨#[40]⟩, .int .i64 0, .int .u8 2, .string ⟨#[]⟩, .int .i64 3, .int .u8 4, .string ⟨#[44]⟩, .int .i64 0, .int .u8 1, .string ⟨#[100, 97, 121]⟩, .int .i64 0, .int .u8 4, .string ⟨#[41]⟩, .int .i64 0] := fun ok => ((((((Reps.none _ _).snoc (k51_mkM _ _ ok (⟨1, ⟨#[103, 114, 111, 117, 112]⟩, 0⟩ : Tok)) rfl).snoc (k51_mkM _ _ ok (⟨4, ⟨#[40]⟩, 0⟩ : Tok)) rfl).snoc (k51_mkM _ _ ok (⟨2, nil8, 3⟩ : Tok)) rfl).snoc (k51_mkM _ _ ok (⟨4, ⟨#[44]⟩, 0⟩ : Tok)) rfl).snoc (k51_mkM _ _ ok (⟨1, ⟨#[100, 97, 121]⟩, 0⟩ : Tok)) rfl).snoc (k51_mkM _ _ ok (⟨4, ⟨#[41]⟩, 0⟩ : Tok)) rfl
  have h : Kd.R kTk TT (W.alloc tGRC) W.heap.size (fun _ => True) (.slice (some ⟨W.heap.size, 0, none⟩) 6 6) tGR := ⟨fun _ _ => trivial, OwnRow.lit W W.heap.size (hr _) (Nat.le_refl _) (by decide)⟩
  exact (Kd.R_reads' h).2.2
abbrev tDN : List Tok := [⟨3, nil8, 0⟩, ⟨2, nil8, -5⟩]
abbrev tDNC : Obj := .cells #[.int .u8 3, .string ⟨#[]⟩, .int .i64 0, .int .u8 2, .string ⟨#[]⟩, .int .i64 (-5)] TT
theorem tDN_row (W : World) : Kd.C kTk (W.alloc tDNC) (some ⟨W.heap.size, 0, none⟩) 2 tDN := by
  have hr : ∀ ok, Reps (kTk.M (W.alloc tDNC) W.heap.size ok) 3 tDN [.int .u8 3, .string ⟨#[]⟩, .int .i64 0, .int .u8 2, .string ⟨#[]⟩, .int .i64 (-5)] := fun ok => ((Reps.none _ _).snoc (k51_mkM _ _ ok (⟨3, nil8, 0⟩ : Tok)) rfl).snoc (k51_mkM _ _ ok (⟨2, nil8, -5⟩ : Tok)) rfl
  have h : Kd.R kTk TT (W.alloc tDNC) W.heap.size (fun _ => True) (.slice (some ⟨W.heap.size, 0, none⟩) 2 2) tDN := ⟨fun _ _ => trivial, OwnRow.lit W W.heap.size (hr _) (Nat.le_refl _) (by decide)⟩
  exact (Kd.R_reads' h).2.2
abbrev tAN : List Tok := [⟨1, ⟨#[97]⟩, 0⟩, ⟨2, nil8, -1⟩]
abbrev tANC : Obj := .cells #[.int .u8 1, .string ⟨#[97]⟩, .int .i64 0, .int .u8 2, .string ⟨#[]⟩, .int .i64 (-1)] TT
theorem tAN_row (W : World) : Kd.C kTk (W.alloc tANC) (some ⟨W.heap.size, 0, none⟩) 2 tAN := by
  have hr : ∀ ok, Reps (kTk.M (W.alloc tANC) W.heap.size ok) 3 tAN [.int .u8 1, .string ⟨#[97]⟩, .int .i64 0, .int .u8 2, .string ⟨#[]⟩, .int .i64 (-1)] := fun ok => ((Reps.none _ _).snoc (k51_mkM _ _ ok (⟨1, ⟨#[97]⟩, 0⟩ : Tok)) rfl).snoc (k51_mkM _ _ ok (⟨2, nil8, -1⟩ : Tok)) rfl
  have h : Kd.R kTk TT (W.alloc tANC) W.heap.size (fun _ => True) (.slice (some ⟨W.heap.size, 0, none⟩) 2 2) tAN := ⟨fun _ _ => trivial, OwnRow.lit W W.heap.size (hr _) (Nat.le_refl _) (by decide)⟩
  exact (Kd.R_reads' h).2.2
theorem Text_n (L : List Tok) (n : Nat) (hn : L.length = n) (T : ByteArray) (hT : textL L = T) (A : Option Addr) (c : Nat) (w : World) (hC : LCal w) (hL : Kd.C kTk w A n L) (hc : n ≤ c) (hm : n ≤ 4294967296) (hW : ∀ t ∈ L, TokW t) (hR : ∀ t ∈ L, rightT t = true) :
    Calls Tryz.prog 30 #[.slice A n c] w fun e w' => e = .returned (.string T) ∧ Lt w w' := by
  subst hn
  subst hT
  exact Text_right L A c w hC hL hc hm hW hR
theorem ex0 : lexL (⟨#[103, 114, 111, 117, 112, 40, 51, 44, 32, 100, 97, 121, 41]⟩ : ByteArray).data.toList = (tGR, -1) := by kernel_rfl
theorem ex1 : lexL (⟨#[64, 49, 57, 55, 48, 45, 48, 49, 45, 48, 49, 32, 45, 53]⟩ : ByteArray).data.toList = (tDN, -1) := by kernel_rfl
theorem er0 : lexL (⟨#[97, 32, 48, 53]⟩ : ByteArray).data.toList = ([], 2) := by kernel_rfl
theorem er1 : lexL (⟨#[97, 32, 36]⟩ : ByteArray).data.toList = ([], 2) := by kernel_rfl
theorem er2 : lexL (⟨#[51, 120]⟩ : ByteArray).data.toList = ([], 0) := by kernel_rfl
theorem er3 : lexL (⟨#[64, 49, 57, 55, 48]⟩ : ByteArray).data.toList = ([], 0) := by kernel_rfl
theorem ex2 : textL tAN = ⟨#[97, 32, 45, 49]⟩ := by kernel_rfl
theorem tAN_right : ∀ t ∈ tAN, rightT t = true := by
  intro t ht
  rcases List.mem_cons.1 ht with rfl | ht
  · kernel_rfl
  · rcases List.mem_cons.1 ht with rfl | ht
    · kernel_rfl
    · cases ht
theorem tAN_w : ∀ t ∈ tAN, TokW t := by
  intro t ht
  rcases List.mem_cons.1 ht with rfl | ht
  · exact ⟨by decide, by decide, by decide⟩
  · rcases List.mem_cons.1 ht with rfl | ht
    · exact ⟨by decide, by decide, by decide⟩
    · cases ht
set_option maxHeartbeats 16000000 in
set_option maxRecDepth 100000 in
/-- The chapter's examples. -/
theorem awake_calls (w : World) (hC : LCal w) : Calls Tryz.prog 25 #[] w fun e w' => e = .returned (.bool true) ∧ Lt w w' := by
  have HC := Aside0.mk hC
  have e1 : ∀ args W, (callFunc 65 args).run Tryz.prog W = .ok (.enter 65 args) W := fun args W => by kernel_rfl
  have e2 : ∀ args W, (callFunc 66 args).run Tryz.prog W = .ok (.enter 66 args) W := fun args W => by kernel_rfl
  have e3 : ∀ args W, (callFunc 67 args).run Tryz.prog W = .ok (.enter 67 args) W := fun args W => by kernel_rfl
  clear hC
  go_enter Tryz.func25, Tryz.ntmps25
  go_wp2_with fail
  (with_reducible refine (Words_to _ tGR (-1) 6 rfl ex0 (by decide) _ ?k0).mono ?_)
  case k0 => exact HC.out
  rintro e w1 ⟨B1, d1, rfl, hc, hd1, hl⟩
  have C1 := Aside0.mk hc
  have HT := Aside0.mk hl
  clear hc hl
  go_wp2_with fail
  (with_reducible refine (Words_to _ tDN (-1) 2 rfl ex1 (by decide) _ ?k0).mono ?_)
  case k0 => exact HC.out.l HT.out
  rintro e w2 ⟨B2, d2, rfl, hc, hd2, hl⟩
  have C1 := Aside0.mk (Kd.C_below C1.out hl.out)
  have C2 := Aside0.mk hc
  have HT := Aside0.mk (HT.out.trans hl)
  clear hc hl
  go_wp2_with fail
  (with_reducible refine (name_made _ _).mono ?_)
  rintro e w3 ⟨rfl, hl⟩
  have C1 := Aside0.mk (Kd.C_below C1.out hl.out)
  have C2 := Aside0.mk (Kd.C_below C2.out hl.out)
  have HT := Aside0.mk (HT.out.trans hl)
  clear hl
  go_wp2_with fail
  (with_reducible refine (mark_made _ _).mono ?_)
  rintro e w4 ⟨rfl, hl⟩
  have C1 := Aside0.mk (Kd.C_below C1.out hl.out)
  have C2 := Aside0.mk (Kd.C_below C2.out hl.out)
  have HT := Aside0.mk (HT.out.trans hl)
  clear hl
  go_wp2_with fail
  (with_reducible refine (number_made _ _).mono ?_)
  rintro e w5 ⟨rfl, hl⟩
  have C1 := Aside0.mk (Kd.C_below C1.out hl.out)
  have C2 := Aside0.mk (Kd.C_below C2.out hl.out)
  have HT := Aside0.mk (HT.out.trans hl)
  clear hl
  go_wp2_with fail
  (with_reducible refine (mark_made _ _).mono ?_)
  rintro e w6 ⟨rfl, hl⟩
  have C1 := Aside0.mk (Kd.C_below C1.out hl.out)
  have C2 := Aside0.mk (Kd.C_below C2.out hl.out)
  have HT := Aside0.mk (HT.out.trans hl)
  clear hl
  go_wp2_with fail
  (with_reducible refine (name_made _ _).mono ?_)
  rintro e w7 ⟨rfl, hl⟩
  have C1 := Aside0.mk (Kd.C_below C1.out hl.out)
  have C2 := Aside0.mk (Kd.C_below C2.out hl.out)
  have HT := Aside0.mk (HT.out.trans hl)
  clear hl
  go_wp2_with fail
  (with_reducible refine (mark_made _ _).mono ?_)
  rintro e w8 ⟨rfl, hl⟩
  have C1 := Aside0.mk (Kd.C_below C1.out hl.out)
  have C2 := Aside0.mk (Kd.C_below C2.out hl.out)
  have HT := Aside0.mk (HT.out.trans hl)
  clear hl
  go_wp2_with fail
  (with_reducible refine (same_n tGR 6 rfl _ _ _ _ _ ?s1 ?s2 ?s3 ?s4 ?s5).mono ?_)
  case s1 => exact Kd.C_below C1.out (below_alloc (Below.refl _ _) _)
  case s2 => exact hd1
  case s3 => exact tGR_row w8
  case s4 => decide
  case s5 => decide
  rintro e w9 ⟨rfl, hl⟩
  have hl := ((Lt.refl _).a _).trans hl
  have C1 := Aside0.mk (Kd.C_below C1.out hl.out)
  have C2 := Aside0.mk (Kd.C_below C2.out hl.out)
  have HT := Aside0.mk (HT.out.trans hl)
  clear hl
  go_wp2_with fail
  (with_reducible refine (number_made _ _).mono ?_)
  rintro e w10 ⟨rfl, hl⟩
  have C1 := Aside0.mk (Kd.C_below C1.out hl.out)
  have C2 := Aside0.mk (Kd.C_below C2.out hl.out)
  have HT := Aside0.mk (HT.out.trans hl)
  clear hl
  go_wp2_with fail
  (with_reducible refine (same_n tDN 2 rfl _ _ _ _ _ ?s1 ?s2 ?s3 ?s4 ?s5).mono ?_)
  case s1 => exact Kd.C_below C2.out (below_alloc (Below.refl _ _) _)
  case s2 => exact hd2
  case s3 => exact tDN_row w10
  case s4 => decide
  case s5 => decide
  rintro e w11 ⟨rfl, hl⟩
  have hl := ((Lt.refl _).a _).trans hl
  have C1 := Aside0.mk (Kd.C_below C1.out hl.out)
  have C2 := Aside0.mk (Kd.C_below C2.out hl.out)
  have HT := Aside0.mk (HT.out.trans hl)
  clear hl
  go_wp2_with fail
  refine wp_loop_rounds 5 ?_
  rw [rounds_succ]
  go_wp2_with fail
  (with_reducible refine (Words_to _ [] 2 0 rfl er0 (by decide) _ ?k0).mono ?_)
  case k0 => exact HC.out.l ((HT.out.a _).a _)
  rintro e w12 ⟨Br, dr, rfl, _, _, hl⟩
  have row := Aside0.mk (blk_lt_on hl (blk_alloc (blk_new w11 (.cells #[.string ⟨#[97, 32, 48, 53]⟩, .int .i64 2, .string ⟨#[97, 32, 36]⟩, .int .i64 2, .string ⟨#[51, 120]⟩, .int .i64 0, .string ⟨#[64, 49, 57, 55, 48]⟩, .int .i64 0] 107)) (.cells #[.string ⟨#[97, 32, 48, 53]⟩, .int .i64 2] 107)))
  have hbox := blk_lt_on hl (blk_new (w11.alloc (.cells #[.string ⟨#[97, 32, 48, 53]⟩, .int .i64 2, .string ⟨#[97, 32, 36]⟩, .int .i64 2, .string ⟨#[51, 120]⟩, .int .i64 0, .string ⟨#[64, 49, 57, 55, 48]⟩, .int .i64 0] 107)) (.cells #[.string ⟨#[97, 32, 48, 53]⟩, .int .i64 2] 107))
  rw [show ((w11.alloc (.cells #[.string ⟨#[97, 32, 48, 53]⟩, .int .i64 2, .string ⟨#[97, 32, 36]⟩, .int .i64 2, .string ⟨#[51, 120]⟩, .int .i64 0, .string ⟨#[64, 49, 57, 55, 48]⟩, .int .i64 0] 107))).heap.size = w11.heap.size + 1 from Array.size_push ..] at hbox
  have cb : w12.cell? ⟨w11.heap.size + 1, 1, none⟩ = some (.int .i64 2) := (blk_cell hbox 1).trans rfl
  have HT := Aside0.mk (((HT.out.a _).a _).trans hl)
  clear hl hbox
  have c0 : w12.cell? ⟨w11.heap.size, 2, none⟩ = some (.string ⟨#[97, 32, 36]⟩) := (blk_cell row.out 2).trans rfl
  have c1 : w12.cell? ⟨w11.heap.size, 3, none⟩ = some (.int .i64 2) := (blk_cell row.out 3).trans rfl
  go_wp2_with fail
  rw [rounds_succ]
  go_wp2_with fail
  clear cb c0 c1
  (with_reducible refine (Words_to _ [] 2 0 rfl er1 (by decide) _ ?k0).mono ?_)
  case k0 => exact HC.out.l (HT.out.a _)
  rintro e w13 ⟨Br, dr, rfl, _, _, hl⟩
  have row := Aside0.mk (blk_lt_on hl (blk_alloc row.out (.cells #[.string ⟨#[97, 32, 36]⟩, .int .i64 2] 107)))
  have hbox := blk_lt_on hl (blk_new w12 (.cells #[.string ⟨#[97, 32, 36]⟩, .int .i64 2] 107))
  have cb : w13.cell? ⟨w12.heap.size, 1, none⟩ = some (.int .i64 2) := (blk_cell hbox 1).trans rfl
  have HT := Aside0.mk ((HT.out.a _).trans hl)
  clear hl hbox
  have c0 : w13.cell? ⟨w11.heap.size, 4, none⟩ = some (.string ⟨#[51, 120]⟩) := (blk_cell row.out 4).trans rfl
  have c1 : w13.cell? ⟨w11.heap.size, 5, none⟩ = some (.int .i64 0) := (blk_cell row.out 5).trans rfl
  go_wp2_with fail
  rw [rounds_succ]
  go_wp2_with fail
  clear cb c0 c1
  (with_reducible refine (Words_to _ [] 0 0 rfl er2 (by decide) _ ?k0).mono ?_)
  case k0 => exact HC.out.l (HT.out.a _)
  rintro e w14 ⟨Br, dr, rfl, _, _, hl⟩
  have row := Aside0.mk (blk_lt_on hl (blk_alloc row.out (.cells #[.string ⟨#[51, 120]⟩, .int .i64 0] 107)))
  have hbox := blk_lt_on hl (blk_new w13 (.cells #[.string ⟨#[51, 120]⟩, .int .i64 0] 107))
  have cb : w14.cell? ⟨w13.heap.size, 1, none⟩ = some (.int .i64 0) := (blk_cell hbox 1).trans rfl
  have HT := Aside0.mk ((HT.out.a _).trans hl)
  clear hl hbox
  have c0 : w14.cell? ⟨w11.heap.size, 6, none⟩ = some (.string ⟨#[64, 49, 57, 55, 48]⟩) := (blk_cell row.out 6).trans rfl
  have c1 : w14.cell? ⟨w11.heap.size, 7, none⟩ = some (.int .i64 0) := (blk_cell row.out 7).trans rfl
  go_wp2_with fail
  rw [rounds_succ]
  go_wp2_with fail
  clear cb c0 c1
  (with_reducible refine (Words_to _ [] 0 0 rfl er3 (by decide) _ ?k0).mono ?_)
  case k0 => exact HC.out.l (HT.out.a _)
  rintro e w15 ⟨Br, dr, rfl, _, _, hl⟩
  have row := Aside0.mk (blk_lt_on hl (blk_alloc row.out (.cells #[.string ⟨#[64, 49, 57, 55, 48]⟩, .int .i64 0] 107)))
  have hbox := blk_lt_on hl (blk_new w14 (.cells #[.string ⟨#[64, 49, 57, 55, 48]⟩, .int .i64 0] 107))
  have cb : w15.cell? ⟨w14.heap.size, 1, none⟩ = some (.int .i64 0) := (blk_cell hbox 1).trans rfl
  have HT := Aside0.mk ((HT.out.a _).trans hl)
  clear hl hbox
  go_wp2_with fail
  rw [rounds_succ]
  go_wp2_with fail
  clear cb
  (with_reducible refine (name_made _ _).mono ?_)
  rintro e w16 ⟨rfl, hl⟩
  have HT := Aside0.mk (HT.out.trans hl)
  clear hl
  go_wp2_with fail
  (with_reducible refine (number_made _ _).mono ?_)
  rintro e w17 ⟨rfl, hl⟩
  have HT := Aside0.mk (HT.out.trans hl)
  clear hl
  go_wp2_with fail
  (with_reducible refine (Text_n tAN 2 rfl _ ex2 _ 2 _ ?k0 ?k1 ?k2 ?k3 tAN_w tAN_right).mono ?_)
  case k0 => exact HC.out.l (HT.out.a _)
  case k1 => exact tAN_row w17
  case k2 => decide
  case k3 => decide
  rintro e w18 ⟨rfl, hl⟩
  have HT := Aside0.mk ((HT.out.a _).trans hl)
  clear hl
  go_wp2_with fail
  go_ret
  exact ⟨rfl, HT.out⟩
end Go.Proofs.YtcinojbfjiohjaaGreatDoor.Lx
end

section
namespace Go.Proofs.YtcinojbfjiohjaaGreatDoor.Lx
open Go Go.RowKit Go.Proofs.YtcinojbfjiohjaaGreatDoor.PPrintTells Go.Proofs.YtcinojbfjiohjaaGreatDoor.Ex Go.Proofs.YtcinojbfjiohjaaGreatDoor.Civ Go.Proofs.YtcinojbfjiohjaaGreatDoorW.PrintWords Go.Proofs.YtcinojbfjiohjaaGreatDoorW.PrintLast Go.Proofs.YtcinojbfjiohjaaGreatDoorW.PrintMore
set_option linter.unusedVariables false
set_option linter.unusedSimpArgs false
theorem Words_at (s : ByteArray) (hs : s.size < 4294967281) (w : World) (hC : LCal w) :
    Calls Tryz.prog 14 #[.string s] w fun e w' => ∃ B d, e = .returned (.tuple #[.slice B (lexL s.data.toList).1.length d, .int .i64 (lexL s.data.toList).2]) ∧ Kd.C kTk w' B (lexL s.data.toList).1.length (lexL s.data.toList).1 ∧ (lexL s.data.toList).1.length ≤ d ∧ Lt w w' := by
  refine (Words_calls s hs w hC).mono ?_
  rintro e w' ⟨v, rfl, ho, hl⟩
  obtain ⟨B, d, rfl, hd, hCC⟩ := Kd.R_reads ho
  exact ⟨B, d, rfl, hCC, hd, hl⟩
end Go.Proofs.YtcinojbfjiohjaaGreatDoor.Lx
end

section
namespace Go.Proofs.YtcinojbfjiohjaaGreatDoor.Lx
open Go Go.RowKit Go.Proofs.YtcinojbfjiohjaaGreatDoor.PPrintTells Go.Proofs.YtcinojbfjiohjaaGreatDoor.Ex Go.Proofs.YtcinojbfjiohjaaGreatDoor.Civ Go.Proofs.YtcinojbfjiohjaaGreatDoorW.PrintWords Go.Proofs.YtcinojbfjiohjaaGreatDoorW.PrintLast Go.Proofs.YtcinojbfjiohjaaGreatDoorW.PrintMore
set_option linter.unusedVariables false
set_option linter.unusedSimpArgs false
theorem repeat_list (c : UInt8) (n : Nat) : Lib.repeatL [c] n = List.replicate n c := by
  induction n with
  | zero => rfl
  | succ n ih =>
    rw [List.replicate_succ, ← ih]
    rfl
theorem app_toB (a b : List UInt8) : toB a ++ toB b = toB (a ++ b) := by
  apply ByteArray.ext
  rw [ByteArray.data_append]
  show a.toArray ++ b.toArray = (a ++ b).toArray
  simp
theorem lex_len (n : Nat) : ∀ l : List UInt8, l.length ≤ n → (lexL l).1.length ≤ l.length := by
  induction n with
  | zero =>
    intro l h
    obtain rfl : l = [] := List.eq_nil_of_length_eq_zero (by omega)
    exact Nat.le_refl _
  | succ n ih =>
    intro l h
    cases l with
    | nil => exact Nat.le_refl _
    | cons b l =>
      rw [List.length_cons] at h ⊢
      have hcons : ∀ (t : List Tok) (k : Nat) (r : List Tok × Int), (consE t k r).1.length ≤ t.length + r.1.length := fun t k r => by
        unfold consE
        split
        · exact Nat.le_of_eq (List.length_append ..)
        · exact Nat.zero_le _
      rw [lexL_cons]
      split
      · have h1 := hcons [] 1 (lexL l)
        have h2 := ih l (by omega)
        rw [List.length_nil] at h1
        omega
      · split
        · rename_i hok
          obtain ⟨p1, p2⟩ := next_pos hok
          have h1 := hcons [(nextL (b :: l)).1] (nextL (b :: l)).2.1 (lexL (l.drop ((nextL (b :: l)).2.1 - 1)))
          have h2 := ih (l.drop ((nextL (b :: l)).2.1 - 1)) (by rw [List.length_drop]; omega)
          rw [List.length_drop] at h2
          rw [List.length_singleton] at h1
          omega
        · exact Nat.zero_le _
theorem self_toB (s : ByteArray) : toB s.data.toList = s := by cases s; rfl
set_option maxHeartbeats 16000000 in
set_option maxRecDepth 100000 in
theorem LexBlanks_lt (s t : ByteArray) (n : Int) (tab : Bool) (w : World) (hC : LCal w) (n0 : 0 ≤ n) (n1 : n ≤ 255) (hs0 : s.size ≤ 140737488351232) (ht0 : t.size ≤ 140737488351232) :
    Calls Tryz.prog 8 #[.string s, .string t, .int .u8 n, .bool tab] w fun e w' => e = .returned (.bool true) ∧ Lt w w' := by
  have HC := Aside0.mk hC
  have CW := fun W (h : LCal W) => Aside0.mk (awake_calls W h)
  clear hC
  by_cases hs : 200 < s.size
  · have g1 : (200 : Int) < (s.size : Int) := by omega
    have g2 : decide ((200 : Int) < (s.size : Int)) = true := decide_eq_true g1
    go_enter Tryz.func8, Tryz.ntmps8
    go_wp2_with fail
    (with_reducible refine (CW _ HC.out).out.mono ?_)
    rintro e w1 ⟨rfl, hl⟩
    go_wp2
    go_ret
    exact ⟨rfl, hl⟩
  have g1 : ¬ (200 : Int) < (s.size : Int) := by omega
  have g2 : decide ((200 : Int) < (s.size : Int)) = false := decide_eq_false g1
  by_cases ht : 200 < t.size
  · have k1 : (200 : Int) < (t.size : Int) := by omega
    have k2 : decide ((200 : Int) < (t.size : Int)) = true := decide_eq_true k1
    go_enter Tryz.func8, Tryz.ntmps8
    go_wp2_with fail
    (with_reducible refine (CW _ HC.out).out.mono ?_)
    rintro e w1 ⟨rfl, hl⟩
    go_wp2
    go_ret
    exact ⟨rfl, hl⟩
  have k1 : ¬ (200 : Int) < (t.size : Int) := by omega
  have k2 : decide ((200 : Int) < (t.size : Int)) = false := decide_eq_false k1
  obtain ⟨m, hm, hm9⟩ : ∃ m : Nat, n.tmod 9 = (m : Int) ∧ m ≤ 8 := ⟨(n.tmod 9).toNat, by rw [Int.tmod_eq_emod_of_nonneg n0]; omega, by rw [Int.tmod_eq_emod_of_nonneg n0]; omega⟩
  obtain ⟨c, hc⟩ : ∃ c : UInt8, c = if tab = true then 9 else 32 := ⟨_, rfl⟩
  have hcb : blankB c = true := by rw [hc]; split <;> decide
  have hC1 : c.toNat = if tab = true then 9 else 32 := by rw [hc]; split <;> rfl
  obtain ⟨G, hG⟩ : ∃ G, G = List.replicate (m + 1) c := ⟨_, rfl⟩
  have hGl : G.length = m + 1 := by rw [hG, List.length_replicate]
  have CR := fun W => Aside0.mk (Tryz.strings_Repeat ⟨#[c]⟩ (m + 1) W (by omega) (by show 1 * (m + 1) ≤ _; omega))
  have hrep : (⟨(Lib.repeatL (ByteArray.mk #[c]).data.toList (m + 1)).toArray⟩ : ByteArray) = toB G := by
    show (⟨(Lib.repeatL [c] (m + 1)).toArray⟩ : ByteArray) = _
    rw [repeat_list, hG]
    rfl
  rw [hrep] at CR
  have law := blanks_law c hcb (m + 1) (by omega) s.data.toList t.data.toList
  rw [← hG] at law
  have hsl : s.data.toList.length = s.size := Array.length_toList
  have htl : t.data.toList.length = t.size := Array.length_toList
  obtain ⟨Z, hZ⟩ : ∃ Z, Z = toB G ++ s ++ toB G ++ t ++ toB G := ⟨_, rfl⟩
  have hZd : Z.data.toList = G ++ (s.data.toList ++ (G ++ (t.data.toList ++ G))) := by
    have h : Z = toB (G ++ (s.data.toList ++ (G ++ (t.data.toList ++ G)))) := by
      rw [hZ]
      conv => lhs; rw [← self_toB s, ← self_toB t]
      rw [app_toB, app_toB, app_toB, app_toB]
      simp only [List.append_assoc]
    rw [h, toB_list]
  rw [← hZd] at law
  have hZs : Z.size < 4294967281 := by
    have h : Z.size = Z.data.toList.length := (Array.length_toList).symm
    rw [h, hZd]
    simp only [List.length_append, hGl, hsl, htl]
    omega
  have hGz : (toB G).size = m + 1 := by show G.toArray.size = _; rw [List.size_toArray, hGl]
  obtain ⟨g, hg⟩ : ∃ g, g = toB G := ⟨_, rfl⟩
  rw [← hg] at CR hZ hGz
  have hz1 : ¬ (9223372036854775807 < g.size + s.size) := by omega
  have hz2 : ¬ (9223372036854775807 < g.size + s.size + g.size) := by omega
  have hz3 : ¬ (9223372036854775807 < g.size + s.size + g.size + t.size) := by omega
  have hz4 : ¬ (9223372036854775807 < g.size + s.size + g.size + t.size + g.size) := by omega
  have C1 := fun W (h : LCal W) => Aside0.mk (Words_at s (by omega) W h)
  have C2 := fun W (h : LCal W) => Aside0.mk (Words_at t (by omega) W h)
  have C3 := fun W (h : LCal W) => Aside0.mk (Words_at Z hZs W h)
  have ge1 := lexL_ge s.data.toList
  have ge2 := lexL_ge t.data.toList
  have er1 := lexL_err s.data.toList
  have er2 := lexL_err t.data.toList
  obtain ⟨L1, i1, h1⟩ : ∃ L k, lexL s.data.toList = (L, k) := ⟨_, _, rfl⟩
  obtain ⟨L2, i2, h2⟩ : ∃ L k, lexL t.data.toList = (L, k) := ⟨_, _, rfl⟩
  rw [h1] at C1 ge1 er1 law
  rw [h2] at C2 ge2 er2 law
  dsimp only at C1 C2 ge1 ge2 er1 er2 law
  have hgs : (g.size : Int) = (m : Int) + 1 := by omega
  have CR2 : ∀ W, Aside0 (Calls Tryz.prog 32 #[.string ⟨#[c]⟩, .int .i64 (1 + (m : Int))] W fun e w' => e = .returned (.string g) ∧ Lt W w') := fun W => Aside0.mk (by
    have h := (CR W).out
    rw [show ((m + 1 : Nat) : Int) = 1 + (m : Int) by omega] at h
    exact h.mono fun e w' ⟨he, hb⟩ => ⟨he, ⟨hb⟩⟩)
  clear CR
  have pl1 := place s.data.toList.length s.data.toList (Nat.le_refl _)
  have pl2 := place t.data.toList.length t.data.toList (Nat.le_refl _)
  rw [h1] at pl1
  rw [h2] at pl2
  dsimp only at pl1 pl2
  have B1 : i1 ≤ 200 := by
    by_cases h : i1 = -1
    · omega
    · have := (pl1 i1.toNat (by omega)).1
      omega
  have B2 : i2 ≤ 200 := by
    by_cases h : i2 = -1
    · omega
    · have := (pl2 i2.toNat (by omega)).1
      omega
  have LEN1 : (lexL s.data.toList).1.length = L1.length := by rw [h1]
  have LEN2 : (lexL t.data.toList).1.length = L2.length := by rw [h2]
  clear pl1 pl2 h1 h2 hrep
  by_cases q1 : i1 = -1
  case neg =>
    rw [if_neg q1] at law
    have hL1 := er1 q1
    subst hL1
    have hv : i1 + ((m + 1 : Nat) : Int) = i1 + (g.size : Int) := by omega
    rw [hv] at law
    rw [law, hZ] at C3
    have q3 : i1 ≥ 0 := by omega
    have q4 : decide (i1 ≥ 0) = true := decide_eq_true q3
    have q5 : (0 : Int) ≤ i1 := q3
    have q6 : g.size ≤ 9 := by omega
    clear law hv er1 er2 ge1 ge2 hZ hZd hZs hGz hgs hsl htl hG hGl hg hC1 hcb q1 LEN1 LEN2
    cases tab with
    | false =>
      have hcc : c = 32 := hc
      clear hc
      subst hcc
      go_enter Tryz.func8, Tryz.ntmps8
      go_wp2_with fail
      (with_reducible refine (CR2 _).out.mono ?_)
      rintro e w1 ⟨rfl, hl⟩
      have HT := Aside0.mk hl
      clear hl CR2
      go_wp2_with fail
      (with_reducible refine (C1 _ (HC.out.l HT.out)).out.mono ?_)
      rintro e w2 ⟨D1, d1, rfl, hc1, hd1, hl⟩
      have HT := Aside0.mk (HT.out.trans hl)
      have K1 := Aside0.mk hc1
      clear hl C1 hc1
      go_wp2_with fail
      (with_reducible refine (C2 _ (HC.out.l HT.out)).out.mono ?_)
      rintro e w3 ⟨D2, d2, rfl, hc2, hd2, hl⟩
      have HT := Aside0.mk (HT.out.trans hl)
      have K1 := Aside0.mk (Kd.C_below K1.out hl.out)
      have K2 := Aside0.mk hc2
      clear hl C2 hc2
      go_wp2_with fail
      (with_reducible refine (C3 _ (HC.out.l HT.out)).out.mono ?_)
      rintro e w4 ⟨D3, d3, rfl, hc3, hd3, hl⟩
      have HT := Aside0.mk (HT.out.trans hl)
      have K1 := Aside0.mk (Kd.C_below K1.out hl.out)
      have K2 := Aside0.mk (Kd.C_below K2.out hl.out)
      have K3 := Aside0.mk hc3
      clear hl C3 hc3
      go_wp2_with fail
      (with_reducible refine (CW _ (HC.out.l HT.out)).out.mono ?_)
      rintro e w9 ⟨rfl, hl⟩
      have HT := Aside0.mk (HT.out.trans hl)
      go_wp2
      go_ret
      exact ⟨rfl, HT.out⟩
    | true =>
      have hcc : c = 9 := hc
      clear hc
      subst hcc
      go_enter Tryz.func8, Tryz.ntmps8
      go_wp2_with fail
      (with_reducible refine (CR2 _).out.mono ?_)
      rintro e w1 ⟨rfl, hl⟩
      have HT := Aside0.mk hl
      clear hl CR2
      go_wp2_with fail
      (with_reducible refine (C1 _ (HC.out.l HT.out)).out.mono ?_)
      rintro e w2 ⟨D1, d1, rfl, hc1, hd1, hl⟩
      have HT := Aside0.mk (HT.out.trans hl)
      have K1 := Aside0.mk hc1
      clear hl C1 hc1
      go_wp2_with fail
      (with_reducible refine (C2 _ (HC.out.l HT.out)).out.mono ?_)
      rintro e w3 ⟨D2, d2, rfl, hc2, hd2, hl⟩
      have HT := Aside0.mk (HT.out.trans hl)
      have K1 := Aside0.mk (Kd.C_below K1.out hl.out)
      have K2 := Aside0.mk hc2
      clear hl C2 hc2
      go_wp2_with fail
      (with_reducible refine (C3 _ (HC.out.l HT.out)).out.mono ?_)
      rintro e w4 ⟨D3, d3, rfl, hc3, hd3, hl⟩
      have HT := Aside0.mk (HT.out.trans hl)
      have K1 := Aside0.mk (Kd.C_below K1.out hl.out)
      have K2 := Aside0.mk (Kd.C_below K2.out hl.out)
      have K3 := Aside0.mk hc3
      clear hl C3 hc3
      go_wp2_with fail
      (with_reducible refine (CW _ (HC.out.l HT.out)).out.mono ?_)
      rintro e w9 ⟨rfl, hl⟩
      have HT := Aside0.mk (HT.out.trans hl)
      go_wp2
      go_ret
      exact ⟨rfl, HT.out⟩
  case pos =>
    subst q1
    rw [if_pos rfl] at law
    by_cases q2 : i2 = -1
    case neg =>
      rw [if_neg q2] at law
      have hL2 := er2 q2
      subst hL2
      have hv : i2 + ((2 * (m + 1) + s.data.toList.length : Nat) : Int) = i2 + 2 * (g.size : Int) + (s.size : Int) := by omega
      rw [hv] at law
      rw [law, hZ] at C3
      have q3 : i2 ≥ 0 := by omega
      have q4 : decide (i2 ≥ 0) = true := decide_eq_true q3
      have q5 : (0 : Int) ≤ i2 := q3
      have q6 : g.size ≤ 9 := by omega
      clear law hv er1 er2 ge1 ge2 hZ hZd hZs hGz hgs hsl htl hG hGl hg hC1 hcb q2 LEN1 LEN2
      cases tab with
      | false =>
        have hcc : c = 32 := hc
        clear hc
        subst hcc
        go_enter Tryz.func8, Tryz.ntmps8
        go_wp2_with fail
        (with_reducible refine (CR2 _).out.mono ?_)
        rintro e w1 ⟨rfl, hl⟩
        have HT := Aside0.mk hl
        clear hl CR2
        go_wp2_with fail
        (with_reducible refine (C1 _ (HC.out.l HT.out)).out.mono ?_)
        rintro e w2 ⟨D1, d1, rfl, hc1, hd1, hl⟩
        have HT := Aside0.mk (HT.out.trans hl)
        have K1 := Aside0.mk hc1
        clear hl C1 hc1
        go_wp2_with fail
        (with_reducible refine (C2 _ (HC.out.l HT.out)).out.mono ?_)
        rintro e w3 ⟨D2, d2, rfl, hc2, hd2, hl⟩
        have HT := Aside0.mk (HT.out.trans hl)
        have K1 := Aside0.mk (Kd.C_below K1.out hl.out)
        have K2 := Aside0.mk hc2
        clear hl C2 hc2
        go_wp2_with fail
        (with_reducible refine (C3 _ (HC.out.l HT.out)).out.mono ?_)
        rintro e w4 ⟨D3, d3, rfl, hc3, hd3, hl⟩
        have HT := Aside0.mk (HT.out.trans hl)
        have K1 := Aside0.mk (Kd.C_below K1.out hl.out)
        have K2 := Aside0.mk (Kd.C_below K2.out hl.out)
        have K3 := Aside0.mk hc3
        clear hl C3 hc3
        go_wp2_with fail
        (with_reducible refine (CW _ (HC.out.l HT.out)).out.mono ?_)
        rintro e w9 ⟨rfl, hl⟩
        have HT := Aside0.mk (HT.out.trans hl)
        go_wp2
        go_ret
        exact ⟨rfl, HT.out⟩
      | true =>
        have hcc : c = 9 := hc
        clear hc
        subst hcc
        go_enter Tryz.func8, Tryz.ntmps8
        go_wp2_with fail
        (with_reducible refine (CR2 _).out.mono ?_)
        rintro e w1 ⟨rfl, hl⟩
        have HT := Aside0.mk hl
        clear hl CR2
        go_wp2_with fail
        (with_reducible refine (C1 _ (HC.out.l HT.out)).out.mono ?_)
        rintro e w2 ⟨D1, d1, rfl, hc1, hd1, hl⟩
        have HT := Aside0.mk (HT.out.trans hl)
        have K1 := Aside0.mk hc1
        clear hl C1 hc1
        go_wp2_with fail
        (with_reducible refine (C2 _ (HC.out.l HT.out)).out.mono ?_)
        rintro e w3 ⟨D2, d2, rfl, hc2, hd2, hl⟩
        have HT := Aside0.mk (HT.out.trans hl)
        have K1 := Aside0.mk (Kd.C_below K1.out hl.out)
        have K2 := Aside0.mk hc2
        clear hl C2 hc2
        go_wp2_with fail
        (with_reducible refine (C3 _ (HC.out.l HT.out)).out.mono ?_)
        rintro e w4 ⟨D3, d3, rfl, hc3, hd3, hl⟩
        have HT := Aside0.mk (HT.out.trans hl)
        have K1 := Aside0.mk (Kd.C_below K1.out hl.out)
        have K2 := Aside0.mk (Kd.C_below K2.out hl.out)
        have K3 := Aside0.mk hc3
        clear hl C3 hc3
        go_wp2_with fail
        (with_reducible refine (CW _ (HC.out.l HT.out)).out.mono ?_)
        rintro e w9 ⟨rfl, hl⟩
        have HT := Aside0.mk (HT.out.trans hl)
        go_wp2
        go_ret
        exact ⟨rfl, HT.out⟩
    case pos =>
      subst q2
      rw [if_pos rfl] at law
      rw [law, hZ] at C3
      have q6 : g.size ≤ 9 := by omega
      have len1 := lex_len s.data.toList.length s.data.toList (Nat.le_refl _)
      have len2 := lex_len t.data.toList.length t.data.toList (Nat.le_refl _)
      dsimp only at C3
      clear law er1 er2 ge1 ge2 hZ hZd hZs hGz hgs hG hGl hg hC1 hcb
      obtain ⟨N1, hN1⟩ : ∃ N, N = L1.length := ⟨_, rfl⟩
      obtain ⟨N2, hN2⟩ : ∃ N, N = L2.length := ⟨_, rfl⟩
      have hN3 : (L1 ++ L2).length = N1 + N2 := by rw [List.length_append, ← hN1, ← hN2]
      have len1 : N1 ≤ 200 := by rw [LEN1] at len1; omega
      have len2 : N2 ≤ 200 := by rw [LEN2] at len2; omega
      rw [hN3] at C3
      rw [← hN1] at C1
      rw [← hN2] at C2
      have H1 := Aside0.mk hN1
      have H2 := Aside0.mk hN2
      have H3 := Aside0.mk hN3
      clear hN1 hN2 hN3 hsl htl LEN1 LEN2
      cases tab with
      | false =>
        have hcc : c = 32 := hc
        clear hc
        subst hcc
        go_enter Tryz.func8, Tryz.ntmps8
        go_wp2_with fail
        (with_reducible refine (CR2 _).out.mono ?_)
        rintro e w1 ⟨rfl, hl⟩
        have HT := Aside0.mk hl
        clear hl CR2
        go_wp2_with fail
        (with_reducible refine (C1 _ (HC.out.l HT.out)).out.mono ?_)
        rintro e w2 ⟨D1, d1, rfl, hc1, hd1, hl⟩
        have HT := Aside0.mk (HT.out.trans hl)
        have K1 := Aside0.mk hc1
        clear hl C1 hc1
        go_wp2_with fail
        (with_reducible refine (C2 _ (HC.out.l HT.out)).out.mono ?_)
        rintro e w3 ⟨D2, d2, rfl, hc2, hd2, hl⟩
        have HT := Aside0.mk (HT.out.trans hl)
        have K1 := Aside0.mk (Kd.C_below K1.out hl.out)
        have K2 := Aside0.mk hc2
        clear hl C2 hc2
        go_wp2_with fail
        (with_reducible refine (C3 _ (HC.out.l HT.out)).out.mono ?_)
        rintro e w4 ⟨D3, d3, rfl, hc3, hd3, hl⟩
        have HT := Aside0.mk (HT.out.trans hl)
        have K1 := Aside0.mk (Kd.C_below K1.out hl.out)
        have K2 := Aside0.mk (Kd.C_below K2.out hl.out)
        have K3 := Aside0.mk hc3
        clear hl C3 hc3
        go_wp2_with (first | ((with_reducible refine gate_builtin (b := .append) (xs := #[.tmp 98, .tmp 99]) rfl ?_); (try (refine gate_guard (by rfl) ?_; dsimp only)); at_builtin; refine Kd.R_append_rows kTk (w0 := w4) w4.heap.size rfl (.tmp 98) (.tmp 99) 32 TT (.agg #[.int .u8 0, .string nil8, .int .i64 0]) 32 rfl Tryz.underlying32 info_tkz rfl (by decide) (by omega) (.slice (some ⟨w4.heap.size, 0, none⟩) 0 0) ([] : List Tok) L1 D1 N1 d1 (fun _ => True) (fun _ => False) rfl rfl ⟨fun _ _ => trivial, own_litT _ _ (Nat.le_refl _)⟩ (Kd.C_below K1.out (below_alloc (Below.refl _ _) _)) (fun y cs hk => by rw [k51_open hk]; exact k51_mkM _ _ _ y) (fun _ hk => hk.elim) (fun _ _ => trivial) (below_alloc (Below.refl _ _) _) (below_alloc (Below.refl _ _) _).size (by rw [List.length_nil]; omega) ?_; intro v1 wa ho hb hg hat; rw [List.nil_append] at ho; have HO := Aside0.mk ho; have HB := Aside0.mk hb; clear ho hb hg hat) | ((with_reducible refine gate_builtin (b := .append) (xs := #[.tmp 100, .tmp 101]) rfl ?_); (try (refine gate_guard (by rfl) ?_; dsimp only)); at_builtin; refine Kd.R_append_rows kTk (w0 := w4) w4.heap.size rfl (.tmp 100) (.tmp 101) 32 TT (.agg #[.int .u8 0, .string nil8, .int .i64 0]) 32 rfl Tryz.underlying32 info_tkz rfl (by decide) (by omega) _ L1 L2 D2 N2 d2 (fun _ => True) (fun _ => False) rfl rfl HO.out (Kd.C_below K2.out HB.out) (fun y cs hk => by rw [k51_open hk]; exact k51_mkM _ _ _ y) (fun _ hk => hk.elim) (fun _ _ => trivial) HB.out HB.out.size (by rw [← H1.out]; omega) ?_; intro v2 wb ho hb hg hat; obtain ⟨D4, d4, rfl, hd4, hCC⟩ := Kd.R_reads ho; rw [H3.out] at hd4 hCC ⊢; have K4 := Aside0.mk hCC; have HB := Aside0.mk hb; clear ho hb hg hat hCC))
        (with_reducible refine (same_n (L1 ++ L2) (N1 + N2) H3.out _ _ _ _ _ ?s1 hd3 ?s2 hd4 ?s3).mono ?_)
        case s1 => exact Kd.C_below K3.out HB.out
        case s2 => exact K4.out
        case s3 => omega
        rintro e w5 ⟨rfl, hl⟩
        have HT := Aside0.mk ((HT.out.trans ⟨HB.out⟩).trans hl)
        clear hl
        go_wp2_with fail
        (with_reducible refine (CW _ (HC.out.l HT.out)).out.mono ?_)
        rintro e w9 ⟨rfl, hl⟩
        have HT := Aside0.mk (HT.out.trans hl)
        go_wp2
        go_ret
        exact ⟨rfl, HT.out⟩
      | true =>
        have hcc : c = 9 := hc
        clear hc
        subst hcc
        go_enter Tryz.func8, Tryz.ntmps8
        go_wp2_with fail
        (with_reducible refine (CR2 _).out.mono ?_)
        rintro e w1 ⟨rfl, hl⟩
        have HT := Aside0.mk hl
        clear hl CR2
        go_wp2_with fail
        (with_reducible refine (C1 _ (HC.out.l HT.out)).out.mono ?_)
        rintro e w2 ⟨D1, d1, rfl, hc1, hd1, hl⟩
        have HT := Aside0.mk (HT.out.trans hl)
        have K1 := Aside0.mk hc1
        clear hl C1 hc1
        go_wp2_with fail
        (with_reducible refine (C2 _ (HC.out.l HT.out)).out.mono ?_)
        rintro e w3 ⟨D2, d2, rfl, hc2, hd2, hl⟩
        have HT := Aside0.mk (HT.out.trans hl)
        have K1 := Aside0.mk (Kd.C_below K1.out hl.out)
        have K2 := Aside0.mk hc2
        clear hl C2 hc2
        go_wp2_with fail
        (with_reducible refine (C3 _ (HC.out.l HT.out)).out.mono ?_)
        rintro e w4 ⟨D3, d3, rfl, hc3, hd3, hl⟩
        have HT := Aside0.mk (HT.out.trans hl)
        have K1 := Aside0.mk (Kd.C_below K1.out hl.out)
        have K2 := Aside0.mk (Kd.C_below K2.out hl.out)
        have K3 := Aside0.mk hc3
        clear hl C3 hc3
        go_wp2_with (first | ((with_reducible refine gate_builtin (b := .append) (xs := #[.tmp 98, .tmp 99]) rfl ?_); (try (refine gate_guard (by rfl) ?_; dsimp only)); at_builtin; refine Kd.R_append_rows kTk (w0 := w4) w4.heap.size rfl (.tmp 98) (.tmp 99) 32 TT (.agg #[.int .u8 0, .string nil8, .int .i64 0]) 32 rfl Tryz.underlying32 info_tkz rfl (by decide) (by omega) (.slice (some ⟨w4.heap.size, 0, none⟩) 0 0) ([] : List Tok) L1 D1 N1 d1 (fun _ => True) (fun _ => False) rfl rfl ⟨fun _ _ => trivial, own_litT _ _ (Nat.le_refl _)⟩ (Kd.C_below K1.out (below_alloc (Below.refl _ _) _)) (fun y cs hk => by rw [k51_open hk]; exact k51_mkM _ _ _ y) (fun _ hk => hk.elim) (fun _ _ => trivial) (below_alloc (Below.refl _ _) _) (below_alloc (Below.refl _ _) _).size (by rw [List.length_nil]; omega) ?_; intro v1 wa ho hb hg hat; rw [List.nil_append] at ho; have HO := Aside0.mk ho; have HB := Aside0.mk hb; clear ho hb hg hat) | ((with_reducible refine gate_builtin (b := .append) (xs := #[.tmp 100, .tmp 101]) rfl ?_); (try (refine gate_guard (by rfl) ?_; dsimp only)); at_builtin; refine Kd.R_append_rows kTk (w0 := w4) w4.heap.size rfl (.tmp 100) (.tmp 101) 32 TT (.agg #[.int .u8 0, .string nil8, .int .i64 0]) 32 rfl Tryz.underlying32 info_tkz rfl (by decide) (by omega) _ L1 L2 D2 N2 d2 (fun _ => True) (fun _ => False) rfl rfl HO.out (Kd.C_below K2.out HB.out) (fun y cs hk => by rw [k51_open hk]; exact k51_mkM _ _ _ y) (fun _ hk => hk.elim) (fun _ _ => trivial) HB.out HB.out.size (by rw [← H1.out]; omega) ?_; intro v2 wb ho hb hg hat; obtain ⟨D4, d4, rfl, hd4, hCC⟩ := Kd.R_reads ho; rw [H3.out] at hd4 hCC ⊢; have K4 := Aside0.mk hCC; have HB := Aside0.mk hb; clear ho hb hg hat hCC))
        (with_reducible refine (same_n (L1 ++ L2) (N1 + N2) H3.out _ _ _ _ _ ?s1 hd3 ?s2 hd4 ?s3).mono ?_)
        case s1 => exact Kd.C_below K3.out HB.out
        case s2 => exact K4.out
        case s3 => omega
        rintro e w5 ⟨rfl, hl⟩
        have HT := Aside0.mk ((HT.out.trans ⟨HB.out⟩).trans hl)
        clear hl
        go_wp2_with fail
        (with_reducible refine (CW _ (HC.out.l HT.out)).out.mono ?_)
        rintro e w9 ⟨rfl, hl⟩
        have HT := Aside0.mk (HT.out.trans hl)
        go_wp2
        go_ret
        exact ⟨rfl, HT.out⟩
end Go.Proofs.YtcinojbfjiohjaaGreatDoor.Lx
end

section
namespace Go.Proofs.YtcinojbfjiohjaaGreatDoor.DLaid
open Go Go.ChangeShapes Go.WideShapes Go.ChangeAt Go.RowKit
set_option linter.unusedVariables false
theorem own : ownKnob Tryz.prog.godebug = none := by kernel_rfl
abbrev laidL : List (String × DataW Unit) := [("math/bits.deBruijn32tab", Rows.laid_math_bits_deBruijn32tab), ("math/bits.deBruijn64tab", Rows.laid_math_bits_deBruijn64tab), ("internal/strconv.uint64pow10", Rows.laid_internal_strconv_uint64pow10), ("unicode/utf8.acceptRanges", Rows.laid_unicode_utf8_acceptRanges), ("epact/civil.ahead", Rows.laid_epact_civil_ahead), ("strconv.ErrRange", Rows.laid_strconv_ErrRange), ("strconv.ErrSyntax", Rows.laid_strconv_ErrSyntax), ("unicode/utf8.first", Rows.laid_unicode_utf8_first)]
theorem gAhead : Tryz.prog.globalNamed "epact/civil.ahead" = some 4 := by kernel_rfl
theorem tAhead : (Tryz.prog.globals[4]?).map (·.type) = some 251 := by kernel_rfl
theorem gPow : Tryz.prog.globalNamed "internal/strconv.uint64pow10" = some 3 := by kernel_rfl
theorem tPow : (Tryz.prog.globals[3]?).map (·.type) = some 245 := by kernel_rfl
theorem cellsI : Tryz.prog.cellsOf 3 = 1 := by kernel_rfl
set_option maxRecDepth 100000 in
theorem door_met (os : Os) (args : Array Value) : laidMetH Tryz.prog laidL ((World.laidAll Tryz.prog os laidL).forCall (fun _ _ => 0) ⟨#[], args, []⟩).memory := by
  rw [MakeChecks.laidMetH_plain _ _ _ (by kernel_rfl)]
  exact laidMet_laidAll _ (by kernel_rfl) (by kernel_rfl)
theorem powData : (Rows.laid_internal_strconv_uint64pow10 : DataW Unit) = Lib.tabData .u64 Lib.pow10Tab := by kernel_rfl
theorem cal_of {W : World} (h : laidMetH Tryz.prog laidL W) (hs : W.ShapedOpen Tryz.prog) : Civ.Cal W := by
  rw [MakeChecks.laidMetH_plain _ _ _ (by kernel_rfl)] at h
  obtain ⟨ps, hv, _⟩ := h
  obtain ⟨_, _, _, _, _, q1, _, _, _, _, hv, _⟩ := hv
  obtain ⟨_, _, _, _, _, q2, _, _, _, _, hv, _⟩ := hv
  obtain ⟨g3, t3, cs3, f3, p3, q3, hg3, ht3, hv3, hd3, hv, _⟩ := hv
  obtain ⟨_, _, _, _, _, q4, _, _, _, _, hv, _⟩ := hv
  obtain ⟨g0, t0, cs0, f0, p0, q5, hg0, ht0, hv0, hd0, _, _⟩ := hv
  refine ⟨?_, ?_, ?_⟩
  · obtain rfl := Option.some.inj (gAhead.symm.trans hg0)
    obtain rfl := Option.some.inj (tAhead.symm.trans ht0)
    obtain ⟨xs, m1, rfl, hx1, hlen, hn3, hel⟩ := DataW.trod_array Tryz.underlying251 hd0
    rw [cellsI] at hel
    have hm : xs.map (·.1) = [.lit (.int .i64 0), .lit (.int .i64 31), .lit (.int .i64 59), .lit (.int .i64 90), .lit (.int .i64 120), .lit (.int .i64 151), .lit (.int .i64 181), .lit (.int .i64 212), .lit (.int .i64 243), .lit (.int .i64 273), .lit (.int .i64 304), .lit (.int .i64 334), .lit (.int .i64 365)] := by
      have h1 := (Prod.mk.inj hx1).1
      exact (DataW.agg.inj h1).symm
    refine ⟨fun i hi => ?_⟩
    rw [World.var?_cell hg0 hv0 i]
    have hd : (xs.map (·.1))[i]? = some (.lit (.int .i64 (Civ.tab i))) := by
      rw [hm]
      rcases (show i = 0 ∨ i = 1 ∨ i = 2 ∨ i = 3 ∨ i = 4 ∨ i = 5 ∨ i = 6 ∨ i = 7 ∨ i = 8 ∨ i = 9 ∨ i = 10 ∨ i = 11 ∨ i = 12 by omega) with rfl | rfl | rfl | rfl | rfl | rfl | rfl | rfl | rfl | rfl | rfl | rfl | rfl <;> rfl
    rw [List.getElem?_map, Option.map_eq_some_iff] at hd
    obtain ⟨x, hx, hx'⟩ := hd
    have he := (hel i hi).trans hx
    obtain ⟨k, e1, e2, _⟩ := DataW.trod_int Tryz.underlying3 he
    rw [e2] at hx'
    obtain rfl : k = Civ.tab i := by simpa using hx'
    rw [Nat.mul_one] at e1
    have h3 : (cs0.toList.drop i)[0]? = some (.int .i64 (Civ.tab i)) := by
      cases hl : cs0.toList.drop i with
      | nil => rw [hl] at e1; cases e1
      | cons c cs =>
        rw [hl] at e1
        simp at e1
        simp [e1]
    rw [List.getElem?_drop] at h3
    simpa using h3
  · obtain rfl := Option.some.inj (gPow.symm.trans hg3)
    obtain rfl := Option.some.inj (tPow.symm.trans ht3)
    unfold Lib.TabIs
    rw [powData] at hd3
    rw [hv3, ← Lib.cells_of_tab Tryz.underlying245 Tryz.underlying163 (by kernel_rfl) (by kernel_rfl) hd3]
  · exact cell_of_shapedOpen_int (P := Tryz.prog) (g := 1) (t := 3) (zero := #[.int .i64 0]) hs (of_decide_eq_true (by kernel_rfl)) (by kernel_rfl) rfl (by kernel_rfl) (by kernel_rfl) Tryz.underlying3
end Go.Proofs.YtcinojbfjiohjaaGreatDoor.DLaid
end

section
namespace Go.Proofs.YtcinojbfjiohjaaGreatDoor.LLaid
open Go Go.ChangeShapes Go.WideShapes Go.ChangeAt Go.RowKit Go.Proofs.YtcinojbfjiohjaaGreatDoor.PPrintTells Go.Proofs.YtcinojbfjiohjaaGreatDoorW.PrintWords Go.Proofs.YtcinojbfjiohjaaGreatDoorW.PrintLast Go.Proofs.YtcinojbfjiohjaaGreatDoorW.PrintMore
set_option linter.unusedVariables false
theorem own : ownKnob Tryz.prog.godebug = none := DLaid.own
abbrev laidL : List (String × DataW Unit) := DLaid.laidL
theorem door_met (os : Os) (args : Array Value) : laidMetH Tryz.prog laidL ((World.laidAll Tryz.prog os laidL).forCall (fun _ _ => 0) ⟨#[], args, []⟩).memory := DLaid.door_met os args
theorem gES : Tryz.prog.globalNamed "strconv.ErrSyntax" = some 5 := by kernel_rfl
theorem tES : (Tryz.prog.globals[5]?).map (·.type) = some 90 := by kernel_rfl
theorem gER : Tryz.prog.globalNamed "strconv.ErrRange" = some 6 := by kernel_rfl
theorem tER : (Tryz.prog.globals[6]?).map (·.type) = some 90 := by kernel_rfl
theorem star : "*" ++ "errors.errorString" = "*errors.errorString" := by decide
theorem rowP (u : TypeId) (h : Tryz.prog.typeName? 3 u = some "*errors.errorString") : u = 265 :=
  typeName_ptr_named (nm := "errors.errorString") (by rw [star]; kernel_rfl) (by kernel_rfl) (by decide) u (by rw [star]; exact h)
theorem cellsE : Tryz.prog.cellsOf 267 = 1 := by kernel_rfl
theorem cellsS : Tryz.prog.cellsOf 9 = 1 := by kernel_rfl
set_option maxRecDepth 100000 in
theorem cal_of {W : World} (h : laidMetH Tryz.prog laidL W) (hs : W.ShapedOpen Tryz.prog) : Lx.LCal W := by
  have hd := DLaid.cal_of h hs
  rw [MakeChecks.laidMetH_plain _ _ _ (by kernel_rfl)] at h
  have h5 := h.tail.tail.tail.tail.tail
  obtain ⟨a1, s1, hv1, _⟩ := laid_sentinel h5 gER tER Tryz.underlying90 rowP Tryz.underlying265 Tryz.underlying267 rfl rfl Tryz.underlying9 cellsE cellsS
  obtain ⟨a2, s2, hv2, _⟩ := laid_sentinel h5.tail gES tES Tryz.underlying90 rowP Tryz.underlying265 Tryz.underlying267 rfl rfl Tryz.underlying9 cellsE cellsS
  exact ⟨hd, ⟨_, _, by simpa using World.var?_cell gES hv2 0⟩, ⟨_, _, by simpa using World.var?_cell gER hv1 0⟩⟩
end Go.Proofs.YtcinojbfjiohjaaGreatDoor.LLaid
end
