/-
  Part 4 of what the row stands on, put together by a program: LxF, LxG, LxH, PLxE, PLxS, LxI, LxP, LxT, LxU, LxV, LxX, LxY, LxZ, LxPw, LxBk, DatLaid, LxLaid, LxToks.
-/
import Derived.LaidMore
import Derived.Lay
import Derived.Lib.AtoiAllCases
import Derived.Lib.ItoaMem
import Derived.Lib.ParseIntBTie
import Derived.Lib.SliceRun
import Derived.OpenShut
import Derived.ProofKit
import Derived.Shelf.Vars
import Derived.Stop.Joined
import Derived.Stop.LaidErr
import Derived.Test.YtcinojbfjiohjaaGreatDoorRows
import Derived.Test.YtcinojbfjiohjaaGreatDoorLkC
section
namespace Go.Proofs.YtcinojbfjiohjaaGreatDoor.Lx
open Go Go.RowKit Go.Proofs.YtcinojbfjiohjaaGreatDoor.PPrintTells Go.Proofs.YtcinojbfjiohjaaGreatDoor.Ex Go.Proofs.YtcinojbfjiohjaaGreatDoor.Civ Go.Proofs.YtcinojbfjiohjaaGreatDoorW.PrintWords Go.Proofs.YtcinojbfjiohjaaGreatDoorW.PrintLast Go.Proofs.YtcinojbfjiohjaaGreatDoorW.PrintMore
set_option linter.unusedVariables false
set_option linter.unusedSimpArgs false
abbrev AT : ByteArray := ⟨#[64]⟩
/-- A word's text, and whether the word is right. -/
def textT (t : Tok) : ByteArray × Bool :=
  if t.f0 = 1 then (t.f1, namedL t.f1.data.toList && decide (t.f2 = 0) && decide (spanN letterB t.f1.data.toList = t.f1.size))
  else if t.f0 = 2 then (⟨(Lib.itoa t.f2).toArray⟩, t.f1.toList.isEmpty)
  else if t.f0 = 3 then (AT ++ (textF t.f2).1, decide ((textF t.f2).2 = 0) && t.f1.toList.isEmpty)
  else if t.f0 = 4 then (t.f1, decide (t.f2 = 0) && decide (t.f1.size = 1) && t.f1.data.toList.all markB)
  else (nil8, false)
def rightT (t : Tok) : Bool := (textT t).2
theorem textF_size (n : Int) : (textF n).1.size ≤ 200 := by
  unfold textF
  split
  · rename_i hn
    have hok := (date_ok hn).1
    have hm := hok.month
    have hd : 1 ≤ dyF n ∧ dyF n ≤ 31 := ⟨hok.2.2.2.2.1, by have := hok.2.2.2.2.2; have := len_le (yrF n) (moF n); omega⟩
    have hy0 := hok.1
    have hy1 := hok.2.1
    show (ymdL (yrF n) (moF n) (dyF n)).toArray.size ≤ 200
    rw [List.size_toArray]
    unfold ymdL
    split
    · have := partsL_len (-(yrF n)) (moF n) (dyF n) ⟨by omega, by omega⟩ hm hd
      rw [List.length_cons]
      omega
    · have := partsL_len (yrF n) (moF n) (dyF n) ⟨by omega, by omega⟩ hm hd
      omega
  · exact Nat.zero_le _
structure TB (t : Tok) (k : Nat) (w0 W : World) : Prop where
  tb : W.heap[k]? = some (tokC t)
  lt : Lt w0 W
theorem TB.l {t : Tok} {k : Nat} {w0 W W2 : World} (h : TB t k w0 W) (hl : Lt W W2) : TB t k w0 W2 := ⟨blk_lt_on hl h.tb, h.lt.trans hl⟩
set_option maxHeartbeats 16000000 in
set_option maxRecDepth 100000 in
theorem text_calls (t : Tok) (h64 : -9223372036854775808 ≤ t.f2 ∧ t.f2 ≤ 9223372036854775807) (hz : t.f1.size ≤ 9223372036854775807) (w : World) (hC : LCal w) :
    Calls Tryz.prog 69 #[tokV t] w fun e w' => e = .returned (.tuple #[.string (textT t).1, .bool (textT t).2]) ∧ Lt w w' := by
  have B0 := Aside0.mk (TB.mk (t := t) (blk_new w (tokC t)) ((Lt.refl w).a (tokC t)))
  have HC := Aside0.mk hC
  have LE : ∀ args w, (callFunc 88 args).run Tryz.prog w = .ok (.enter 88 args) w := fun args w => by kernel_rfl
  have CF := fun W (h : LCal W) => Aside0.mk (Tryz.strconv_FormatInt_10 t.f2 (by omega) (by omega) W h.cal.pow)
  have CT := fun W (h : LCal W) => Aside0.mk (Text_lt t.f2 W h.cal)
  have CN := fun W => Aside0.mk (named_calls t.f1 W (by omega))
  have CR := fun W => Aside0.mk (run_calls letterB _ LE letter_calls t.f1 0 (Nat.zero_le _) hz W)
  have SZ := Aside0.mk (show t.f1.data.toList.length = t.f1.size from Array.length_toList)
  obtain ⟨k, s, n⟩ := t
  dsimp only at B0 CF CT CN CR SZ hz h64
  rw [List.drop_zero, Nat.zero_add, show ((0 : Nat) : Int) = 0 from rfl] at CR
  clear hC LE

  by_cases k1 : k = 1
  · subst k1
    have hT : textT ⟨1, s, n⟩ = (s, namedL s.data.toList && decide (n = 0) && decide (spanN letterB s.data.toList = s.size)) := if_pos rfl
    rw [hT]
    clear hT h64 hz CF CT
    obtain ⟨m, hm⟩ : ∃ m, m = spanN letterB s.data.toList := ⟨_, rfl⟩
    rw [← hm] at CR ⊢
    clear hm
    have HM : decide (m = s.size) = ((m : Int) == (s.size : Int)) := by
      rw [Bool.eq_iff_iff, decide_eq_true_eq, beq_iff_eq]; omega
    rw [HM]
    clear HM
    generalize namedL s.data.toList = nb at *
    clear SZ
    cases nb with
    | false =>
      rw [Bool.false_and, Bool.false_and]
      go_enter Tryz.func69, Tryz.ntmps69
      obtain ⟨z0, z1, z2⟩ := cells3 B0.out.tb
      go_wp2_with fail
      (with_reducible refine (CN _).out.mono ?_)
      rintro e w1 ⟨rfl, hl⟩
      have B1 := Aside0.mk ((B0.out.l hl).l ((Lt.refl _).a (tokC ⟨1, s, 0⟩)))
      clear hl CN z0 z1 z2 B0
      go_wp2_with fail
      obtain ⟨w2, hw2⟩ : ∃ z : World, z = w1.alloc (tokC ⟨1, s, 0⟩) := ⟨_, rfl⟩
      rw [← hw2] at B1
      change Code.wp _ _ _ _ (w1.alloc (tokC ⟨1, s, 0⟩))
      rw [← hw2]
      clear hw2
      have B1 := Aside0.mk (B1.out.l (Lt.refl _).d1)
      refine start_ (n := 19) (S := fun w' => w'.cell? ⟨w.heap.size, 0, none⟩ = some (.int .u8 1) ∧ w'.cell? ⟨w.heap.size, 1, none⟩ = some (.string s) ∧ w'.cell? ⟨w.heap.size, 2, none⟩ = some (.int .i64 n)) (ds := []) #[false, false, false, false, false, false, false, false, false, false, false, false, false, false, false, false, false, false, false] (by kernel_rfl) rfl rfl ⟨(cells3 B1.out.tb).1, (cells3 B1.out.tb).2.1, (cells3 B1.out.tb).2.2⟩ (fun hHeld => ?_)
      refine pure_ (i := 0) (N := some 18) (v := ?_) (a' := ?_) #[true, false, false, false, false, false, false, false, false, false, false, false, false, false, false, false, false, false, false] rfl rfl (by kernel_rfl) (fun _ _ _ h => h) (Or.inl ⟨by rfl, ?_⟩) ?_ ?_
      rotate_left
      · intro w'
        go_simp
        with_reducible rfl
      rotate_left
      · simp only [Act.put, List.setIfInBounds_toArray, List.set_cons_zero, List.set_cons_succ, i64_w, i32_w]
        rfl
      refine pure_ (i := 2) (N := some 20) (v := ?_) (a' := ?_) #[true, false, true, false, false, false, false, false, false, false, false, false, false, false, false, false, false, false, false] rfl rfl (by kernel_rfl) (fun _ _ _ h => h) (Or.inl ⟨by rfl, ?_⟩) ?_ ?_
      rotate_left
      · intro w'
        go_simp
        with_reducible rfl
      rotate_left
      · simp only [Act.put, List.setIfInBounds_toArray, List.set_cons_zero, List.set_cons_succ, i64_w, i32_w]
        rfl
      refine pure_ (i := 3) (N := some 21) (v := ?_) (a' := ?_) #[true, false, true, true, false, false, false, false, false, false, false, false, false, false, false, false, false, false, false] rfl rfl (by kernel_rfl) (fun _ _ _ h => h) (Or.inl ⟨by rfl, ?_⟩) ?_ ?_
      rotate_left
      · intro w'
        go_simp
        with_reducible rfl
      rotate_left
      · simp only [Act.put, List.setIfInBounds_toArray, List.set_cons_zero, List.set_cons_succ, i64_w, i32_w]
        rfl
      refine pure_ (i := 4) (N := some 22) (v := undef) (a' := ?_) #[true, false, true, true, true, false, false, false, false, false, false, false, false, false, false, false, false, false, false] rfl rfl (by kernel_rfl) (fun _ _ _ h => h) (Or.inr ⟨by rfl, rfl⟩) ?_ ?_
      rotate_left
      · simp only [Act.put, List.setIfInBounds_toArray, List.set_cons_zero, List.set_cons_succ, i64_w, i32_w]
        rfl
      refine pure_ (i := 5) (N := some 23) (v := undef) (a' := ?_) #[true, false, true, true, true, true, false, false, false, false, false, false, false, false, false, false, false, false, false] rfl rfl (by kernel_rfl) (fun _ _ _ h => h) (Or.inr ⟨by rfl, rfl⟩) ?_ ?_
      rotate_left
      · simp only [Act.put, List.setIfInBounds_toArray, List.set_cons_zero, List.set_cons_succ, i64_w, i32_w]
        rfl
      refine pure_ (i := 6) (N := some 24) (v := undef) (a' := ?_) #[true, false, true, true, true, true, true, false, false, false, false, false, false, false, false, false, false, false, false] rfl rfl (by kernel_rfl) (fun _ _ _ h => h) (Or.inr ⟨by rfl, rfl⟩) ?_ ?_
      rotate_left
      · simp only [Act.put, List.setIfInBounds_toArray, List.set_cons_zero, List.set_cons_succ, i64_w, i32_w]
        rfl
      refine pure_ (i := 7) (N := some 25) (v := ?_) (a' := ?_) #[true, false, true, true, true, true, true, true, false, false, false, false, false, false, false, false, false, false, false] rfl rfl (by kernel_rfl) (fun _ _ _ h => h) (Or.inl ⟨by rfl, ?_⟩) ?_ ?_
      rotate_left
      · intro w'
        go_simp
        with_reducible rfl
      rotate_left
      · simp only [Act.put, List.setIfInBounds_toArray, List.set_cons_zero, List.set_cons_succ, i64_w, i32_w]
        rfl
      refine pure_ (i := 8) (N := some 26) (v := ?_) (a' := ?_) #[true, false, true, true, true, true, true, true, true, false, false, false, false, false, false, false, false, false, false] rfl rfl (by kernel_rfl) (fun _ _ _ h => h) (Or.inl ⟨by rfl, ?_⟩) ?_ ?_
      rotate_left
      · intro w'
        go_simp
        with_reducible rfl
      rotate_left
      · simp only [Act.put, List.setIfInBounds_toArray, List.set_cons_zero, List.set_cons_succ, i64_w, i32_w]
        rfl
      refine pure_ (i := 9) (N := some 27) (v := undef) (a' := ?_) #[true, false, true, true, true, true, true, true, true, true, false, false, false, false, false, false, false, false, false] rfl rfl (by kernel_rfl) (fun _ _ _ h => h) (Or.inr ⟨by rfl, rfl⟩) ?_ ?_
      rotate_left
      · simp only [Act.put, List.setIfInBounds_toArray, List.set_cons_zero, List.set_cons_succ, i64_w, i32_w]
        rfl
      refine pure_ (i := 10) (N := some 28) (v := undef) (a' := ?_) #[true, false, true, true, true, true, true, true, true, true, true, false, false, false, false, false, false, false, false] rfl rfl (by kernel_rfl) (fun _ _ _ h => h) (Or.inr ⟨by rfl, rfl⟩) ?_ ?_
      rotate_left
      · simp only [Act.put, List.setIfInBounds_toArray, List.set_cons_zero, List.set_cons_succ, i64_w, i32_w]
        rfl
      refine pure_ (i := 11) (N := some 29) (v := undef) (a' := ?_) #[true, false, true, true, true, true, true, true, true, true, true, true, false, false, false, false, false, false, false] rfl rfl (by kernel_rfl) (fun _ _ _ h => h) (Or.inr ⟨by rfl, rfl⟩) ?_ ?_
      rotate_left
      · simp only [Act.put, List.setIfInBounds_toArray, List.set_cons_zero, List.set_cons_succ, i64_w, i32_w]
        rfl
      refine pure_ (i := 12) (N := some 30) (v := undef) (a' := ?_) #[true, false, true, true, true, true, true, true, true, true, true, true, true, false, false, false, false, false, false] rfl rfl (by kernel_rfl) (fun _ _ _ h => h) (Or.inr ⟨by rfl, rfl⟩) ?_ ?_
      rotate_left
      · simp only [Act.put, List.setIfInBounds_toArray, List.set_cons_zero, List.set_cons_succ, i64_w, i32_w]
        rfl
      refine pure_ (i := 13) (N := some 31) (v := undef) (a' := ?_) #[true, false, true, true, true, true, true, true, true, true, true, true, true, true, false, false, false, false, false] rfl rfl (by kernel_rfl) (fun _ _ _ h => h) (Or.inr ⟨by rfl, rfl⟩) ?_ ?_
      rotate_left
      · simp only [Act.put, List.setIfInBounds_toArray, List.set_cons_zero, List.set_cons_succ, i64_w, i32_w]
        rfl
      refine pure_ (i := 14) (N := some 32) (v := undef) (a' := ?_) #[true, false, true, true, true, true, true, true, true, true, true, true, true, true, true, false, false, false, false] rfl rfl (by kernel_rfl) (fun _ _ _ h => h) (Or.inr ⟨by rfl, rfl⟩) ?_ ?_
      rotate_left
      · simp only [Act.put, List.setIfInBounds_toArray, List.set_cons_zero, List.set_cons_succ, i64_w, i32_w]
        rfl
      refine pure_ (i := 15) (N := some 33) (v := undef) (a' := ?_) #[true, false, true, true, true, true, true, true, true, true, true, true, true, true, true, true, false, false, false] rfl rfl (by kernel_rfl) (fun _ _ _ h => h) (Or.inr ⟨by rfl, rfl⟩) ?_ ?_
      rotate_left
      · simp only [Act.put, List.setIfInBounds_toArray, List.set_cons_zero, List.set_cons_succ, i64_w, i32_w]
        rfl
      refine pure_ (i := 16) (N := some 34) (v := ?_) (a' := ?_) #[true, false, true, true, true, true, true, true, true, true, true, true, true, true, true, true, true, false, false] rfl rfl (by kernel_rfl) (fun _ _ _ h => h) (Or.inl ⟨by rfl, ?_⟩) ?_ ?_
      rotate_left
      · intro w'
        go_simp
        with_reducible rfl
      rotate_left
      · simp only [Act.put, List.setIfInBounds_toArray, List.set_cons_zero, List.set_cons_succ, i64_w, i32_w]
        rfl
      refine take_ (i := 1) (N := some 19) (v := ?_) (a' := ?_) #[true, true, true, true, true, true, true, true, true, true, true, true, true, true, true, true, true, false, false] rfl rfl (by kernel_rfl) (fun _ _ _ h => h) (Or.inl ⟨by rfl, ?_⟩) hHeld ?_ ?_
      rotate_left
      · rintro w' ⟨s0, s1, s2⟩
        go_simp
        with_reducible rfl
      rotate_left
      · simp only [Act.put, List.setIfInBounds_toArray, List.set_cons_zero, List.set_cons_succ, i64_w, i32_w]
        rfl
      refine pure_ (i := 17) (N := some 2) (v := ?_) (a' := ?_) #[true, true, true, true, true, true, true, true, true, true, true, true, true, true, true, true, true, true, false] rfl rfl (by kernel_rfl) (fun _ _ _ h => h) (Or.inl ⟨by rfl, ?_⟩) ?_ ?_
      rotate_left
      · intro w'
        go_simp
        with_reducible rfl
      rotate_left
      · simp only [Act.put, List.setIfInBounds_toArray, List.set_cons_zero, List.set_cons_succ, i64_w, i32_w]
        rfl
      refine pure_ (i := 18) (N := some 3) (v := ?_) (a' := ?_) #[true, true, true, true, true, true, true, true, true, true, true, true, true, true, true, true, true, true, true] rfl rfl (by kernel_rfl) (fun _ _ _ h => h) (Or.inl ⟨by rfl, ?_⟩) ?_ ?_
      rotate_left
      · intro w'
        go_simp
        with_reducible rfl
      rotate_left
      · simp only [Act.put, List.setIfInBounds_toArray, List.set_cons_zero, List.set_cons_succ, i64_w, i32_w]
        rfl
      refine done_ (by kernel_rfl) ?_

      go_wp2_with fail
      go_ret2
      exact ⟨rfl, B1.out.lt⟩
    | true =>
      by_cases hn : n = 0
      · subst hn
        rw [decide_eq_true rfl, Bool.true_and, Bool.true_and]
        go_enter Tryz.func69, Tryz.ntmps69
        obtain ⟨z0, z1, z2⟩ := cells3 B0.out.tb
        go_wp2_with fail
        (with_reducible refine (CN _).out.mono ?_)
        rintro e w1 ⟨rfl, hl⟩
        have B1 := Aside0.mk ((B0.out.l hl).l ((Lt.refl _).a (tokC ⟨1, s, 0⟩)))
        clear hl CN z0 z1 z2 B0
        go_wp2_with fail
        obtain ⟨w2, hw2⟩ : ∃ z : World, z = w1.alloc (tokC ⟨1, s, 0⟩) := ⟨_, rfl⟩
        rw [← hw2] at B1
        change Code.wp _ _ _ _ (w1.alloc (tokC ⟨1, s, 0⟩))
        rw [← hw2]
        clear hw2
        have B1 := Aside0.mk (B1.out.l (Lt.refl _).d1)
        refine start_ (n := 19) (S := fun w' => w'.cell? ⟨w.heap.size, 0, none⟩ = some (.int .u8 1) ∧ w'.cell? ⟨w.heap.size, 1, none⟩ = some (.string s) ∧ w'.cell? ⟨w.heap.size, 2, none⟩ = some (.int .i64 0)) (ds := []) #[false, false, false, false, false, false, false, false, false, false, false, false, false, false, false, false, false, false, false] (by kernel_rfl) rfl rfl ⟨(cells3 B1.out.tb).1, (cells3 B1.out.tb).2.1, (cells3 B1.out.tb).2.2⟩ (fun hHeld => ?_)
        refine pure_ (i := 0) (N := some 18) (v := ?_) (a' := ?_) #[true, false, false, false, false, false, false, false, false, false, false, false, false, false, false, false, false, false, false] rfl rfl (by kernel_rfl) (fun _ _ _ h => h) (Or.inl ⟨by rfl, ?_⟩) ?_ ?_
        rotate_left
        · intro w'
          go_simp
          with_reducible rfl
        rotate_left
        · simp only [Act.put, List.setIfInBounds_toArray, List.set_cons_zero, List.set_cons_succ, i64_w, i32_w]
          rfl
        refine pure_ (i := 2) (N := some 20) (v := ?_) (a' := ?_) #[true, false, true, false, false, false, false, false, false, false, false, false, false, false, false, false, false, false, false] rfl rfl (by kernel_rfl) (fun _ _ _ h => h) (Or.inl ⟨by rfl, ?_⟩) ?_ ?_
        rotate_left
        · intro w'
          go_simp
          with_reducible rfl
        rotate_left
        · simp only [Act.put, List.setIfInBounds_toArray, List.set_cons_zero, List.set_cons_succ, i64_w, i32_w]
          rfl
        refine pure_ (i := 3) (N := some 21) (v := ?_) (a' := ?_) #[true, false, true, true, false, false, false, false, false, false, false, false, false, false, false, false, false, false, false] rfl rfl (by kernel_rfl) (fun _ _ _ h => h) (Or.inl ⟨by rfl, ?_⟩) ?_ ?_
        rotate_left
        · intro w'
          go_simp
          with_reducible rfl
        rotate_left
        · simp only [Act.put, List.setIfInBounds_toArray, List.set_cons_zero, List.set_cons_succ, i64_w, i32_w]
          rfl
        refine pure_ (i := 4) (N := some 22) (v := ?_) (a' := ?_) #[true, false, true, true, true, false, false, false, false, false, false, false, false, false, false, false, false, false, false] rfl rfl (by kernel_rfl) (fun _ _ _ h => h) (Or.inl ⟨by rfl, ?_⟩) ?_ ?_
        rotate_left
        · intro w'
          go_simp
          with_reducible rfl
        rotate_left
        · simp only [Act.put, List.setIfInBounds_toArray, List.set_cons_zero, List.set_cons_succ, i64_w, i32_w]
          rfl
        refine take_ (i := 1) (N := some 19) (v := ?_) (a' := ?_) #[true, true, true, true, true, false, false, false, false, false, false, false, false, false, false, false, false, false, false] rfl rfl (by kernel_rfl) (fun _ _ _ h => h) (Or.inl ⟨by rfl, ?_⟩) hHeld ?_ ?_
        rotate_left
        · rintro w' ⟨s0, s1, s2⟩
          go_simp
          with_reducible rfl
        rotate_left
        · simp only [Act.put, List.setIfInBounds_toArray, List.set_cons_zero, List.set_cons_succ, i64_w, i32_w]
          rfl
        refine take_ (i := 5) (N := some 23) (v := ?_) (a' := ?_) #[true, true, true, true, true, true, false, false, false, false, false, false, false, false, false, false, false, false, false] rfl rfl (by kernel_rfl) (fun _ _ _ h => h) (Or.inl ⟨by rfl, ?_⟩) hHeld ?_ ?_
        rotate_left
        · rintro w' ⟨s0, s1, s2⟩
          go_simp
          with_reducible rfl
        rotate_left
        · simp only [Act.put, List.setIfInBounds_toArray, List.set_cons_zero, List.set_cons_succ, i64_w, i32_w]
          rfl
        refine pure_ (i := 6) (N := some 24) (v := ?_) (a' := ?_) #[true, true, true, true, true, true, true, false, false, false, false, false, false, false, false, false, false, false, false] rfl rfl (by kernel_rfl) (fun _ _ _ h => h) (Or.inl ⟨by rfl, ?_⟩) ?_ ?_
        rotate_left
        · intro w'
          go_simp
          with_reducible rfl
        rotate_left
        · simp only [Act.put, List.setIfInBounds_toArray, List.set_cons_zero, List.set_cons_succ, i64_w, i32_w]
          rfl
        refine pure_ (i := 7) (N := some 25) (v := ?_) (a' := ?_) #[true, true, true, true, true, true, true, true, false, false, false, false, false, false, false, false, false, false, false] rfl rfl (by kernel_rfl) (fun _ _ _ h => h) (Or.inl ⟨by rfl, ?_⟩) ?_ ?_
        rotate_left
        · intro w'
          go_simp
          with_reducible rfl
        rotate_left
        · simp only [Act.put, List.setIfInBounds_toArray, List.set_cons_zero, List.set_cons_succ, i64_w, i32_w]
          rfl
        refine pure_ (i := 8) (N := some 26) (v := ?_) (a' := ?_) #[true, true, true, true, true, true, true, true, true, false, false, false, false, false, false, false, false, false, false] rfl rfl (by kernel_rfl) (fun _ _ _ h => h) (Or.inl ⟨by rfl, ?_⟩) ?_ ?_
        rotate_left
        · intro w'
          go_simp
          with_reducible rfl
        rotate_left
        · simp only [Act.put, List.setIfInBounds_toArray, List.set_cons_zero, List.set_cons_succ, i64_w, i32_w]
          rfl
        refine pure_ (i := 9) (N := some 27) (v := ?_) (a' := ?_) #[true, true, true, true, true, true, true, true, true, true, false, false, false, false, false, false, false, false, false] rfl rfl (by kernel_rfl) (fun _ _ _ h => h) (Or.inl ⟨by rfl, ?_⟩) ?_ ?_
        rotate_left
        · intro w'
          go_simp
          with_reducible rfl
        rotate_left
        · simp only [Act.put, List.setIfInBounds_toArray, List.set_cons_zero, List.set_cons_succ, i64_w, i32_w]
          rfl
        refine pure_ (i := 12) (N := some 30) (v := ?_) (a' := ?_) #[true, true, true, true, true, true, true, true, true, true, false, false, true, false, false, false, false, false, false] rfl rfl (by kernel_rfl) (fun _ _ _ h => h) (Or.inl ⟨by rfl, ?_⟩) ?_ ?_
        rotate_left
        · intro w'
          go_simp
          with_reducible rfl
        rotate_left
        · simp only [Act.put, List.setIfInBounds_toArray, List.set_cons_zero, List.set_cons_succ, i64_w, i32_w]
          rfl
        refine take_ (i := 10) (N := some 28) (v := ?_) (a' := ?_) #[true, true, true, true, true, true, true, true, true, true, true, false, true, false, false, false, false, false, false] rfl rfl (by kernel_rfl) (fun _ _ _ h => h) (Or.inl ⟨by rfl, ?_⟩) hHeld ?_ ?_
        rotate_left
        · rintro w' ⟨s0, s1, s2⟩
          go_simp
          with_reducible rfl
        rotate_left
        · simp only [Act.put, List.setIfInBounds_toArray, List.set_cons_zero, List.set_cons_succ, i64_w, i32_w]
          rfl
        refine take_ (i := 13) (N := some 31) (v := ?_) (a' := ?_) #[true, true, true, true, true, true, true, true, true, true, true, false, true, true, false, false, false, false, false] rfl rfl (by kernel_rfl) (fun _ _ _ h => h) (Or.inl ⟨by rfl, ?_⟩) hHeld ?_ ?_
        rotate_left
        · rintro w' ⟨s0, s1, s2⟩
          go_simp
          with_reducible rfl
        rotate_left
        · simp only [Act.put, List.setIfInBounds_toArray, List.set_cons_zero, List.set_cons_succ, i64_w, i32_w]
          rfl
        refine pure_ (i := 14) (N := some 32) (v := ?_) (a' := ?_) #[true, true, true, true, true, true, true, true, true, true, true, false, true, true, true, false, false, false, false] rfl rfl (by kernel_rfl) (fun _ _ _ h => h) (Or.inl ⟨by rfl, ?_⟩) ?_ ?_
        rotate_left
        · intro w'
          go_simp
          with_reducible rfl
        rotate_left
        · simp only [Act.put, List.setIfInBounds_toArray, List.set_cons_zero, List.set_cons_succ, i64_w, i32_w]
          rfl
        refine one_ (i := 11) (N := some 29) #[true, true, true, true, true, true, true, true, true, true, true, true, true, true, true, false, false, false, false] rfl rfl (by kernel_rfl) (by decide) (fun K hK => ?_)
        refine goes_ Tryz.func86 (by kernel_rfl) rfl #[.string s, .int .i64 0, .func (.func 88) #[] #[]] (by rfl) rfl rfl (by simp only [List.map_toArray, List.map_cons, List.map_nil]; rfl) ?_
        with_reducible refine ((CR _).out).mono ?_
        rintro e w3 ⟨rfl, hl⟩
        refine ⟨_, rfl, ?_⟩
        have B2 := Aside0.mk (B1.out.l hl)
        clear hl CR
        refine hK.out _ _ ⟨(cells3 B2.out.tb).1, (cells3 B2.out.tb).2.1, (cells3 B2.out.tb).2.2⟩ (fun hHeld => ?_)
        clear hK K
        refine norm_ (a' := ?_) ?_ ?_
        rotate_left
        · show Act.put _ (some 29) _ = _
          simp only [Act.put, List.setIfInBounds_toArray, List.set_cons_zero, List.set_cons_succ, i64_w, i32_w]
          rfl
        refine pure_ (i := 15) (N := some 33) (v := ?_) (a' := ?_) #[true, true, true, true, true, true, true, true, true, true, true, true, true, true, true, true, false, false, false] rfl rfl (by kernel_rfl) (fun _ _ _ h => h) (Or.inl ⟨by rfl, ?_⟩) ?_ ?_
        rotate_left
        · intro w'
          go_simp
          with_reducible rfl
        rotate_left
        · simp only [Act.put, List.setIfInBounds_toArray, List.set_cons_zero, List.set_cons_succ, i64_w, i32_w]
          rfl
        refine pure_ (i := 16) (N := some 34) (v := ?_) (a' := ?_) #[true, true, true, true, true, true, true, true, true, true, true, true, true, true, true, true, true, false, false] rfl rfl (by kernel_rfl) (fun _ _ _ h => h) (Or.inl ⟨by rfl, ?_⟩) ?_ ?_
        rotate_left
        · intro w'
          go_simp
          with_reducible rfl
        rotate_left
        · simp only [Act.put, List.setIfInBounds_toArray, List.set_cons_zero, List.set_cons_succ, i64_w, i32_w]
          rfl
        refine pure_ (i := 17) (N := some 2) (v := ?_) (a' := ?_) #[true, true, true, true, true, true, true, true, true, true, true, true, true, true, true, true, true, true, false] rfl rfl (by kernel_rfl) (fun _ _ _ h => h) (Or.inl ⟨by rfl, ?_⟩) ?_ ?_
        rotate_left
        · intro w'
          go_simp
          with_reducible rfl
        rotate_left
        · simp only [Act.put, List.setIfInBounds_toArray, List.set_cons_zero, List.set_cons_succ, i64_w, i32_w]
          rfl
        refine pure_ (i := 18) (N := some 3) (v := ?_) (a' := ?_) #[true, true, true, true, true, true, true, true, true, true, true, true, true, true, true, true, true, true, true] rfl rfl (by kernel_rfl) (fun _ _ _ h => h) (Or.inl ⟨by rfl, ?_⟩) ?_ ?_
        rotate_left
        · intro w'
          go_simp
          with_reducible rfl
        rotate_left
        · simp only [Act.put, List.setIfInBounds_toArray, List.set_cons_zero, List.set_cons_succ, i64_w, i32_w]
          rfl
        refine done_ (by kernel_rfl) ?_

        go_wp2_with fail
        go_ret2
        exact ⟨rfl, B2.out.lt⟩
      · have e1 : (n == 0) = false := beq_eq_false_iff_ne.2 hn
        rw [decide_eq_false hn, Bool.and_false, Bool.false_and]
        clear hn
        go_enter Tryz.func69, Tryz.ntmps69
        obtain ⟨z0, z1, z2⟩ := cells3 B0.out.tb
        go_wp2_with fail
        (with_reducible refine (CN _).out.mono ?_)
        rintro e w1 ⟨rfl, hl⟩
        have B1 := Aside0.mk ((B0.out.l hl).l ((Lt.refl _).a (tokC ⟨1, s, 0⟩)))
        clear hl CN z0 z1 z2 B0
        go_wp2_with fail
        obtain ⟨w2, hw2⟩ : ∃ z : World, z = w1.alloc (tokC ⟨1, s, 0⟩) := ⟨_, rfl⟩
        rw [← hw2] at B1
        change Code.wp _ _ _ _ (w1.alloc (tokC ⟨1, s, 0⟩))
        rw [← hw2]
        clear hw2
        have B1 := Aside0.mk (B1.out.l (Lt.refl _).d1)
        refine start_ (n := 19) (S := fun w' => w'.cell? ⟨w.heap.size, 0, none⟩ = some (.int .u8 1) ∧ w'.cell? ⟨w.heap.size, 1, none⟩ = some (.string s) ∧ w'.cell? ⟨w.heap.size, 2, none⟩ = some (.int .i64 n)) (ds := []) #[false, false, false, false, false, false, false, false, false, false, false, false, false, false, false, false, false, false, false] (by kernel_rfl) rfl rfl ⟨(cells3 B1.out.tb).1, (cells3 B1.out.tb).2.1, (cells3 B1.out.tb).2.2⟩ (fun hHeld => ?_)
        refine pure_ (i := 0) (N := some 18) (v := ?_) (a' := ?_) #[true, false, false, false, false, false, false, false, false, false, false, false, false, false, false, false, false, false, false] rfl rfl (by kernel_rfl) (fun _ _ _ h => h) (Or.inl ⟨by rfl, ?_⟩) ?_ ?_
        rotate_left
        · intro w'
          go_simp
          with_reducible rfl
        rotate_left
        · simp only [Act.put, List.setIfInBounds_toArray, List.set_cons_zero, List.set_cons_succ, i64_w, i32_w]
          rfl
        refine pure_ (i := 2) (N := some 20) (v := ?_) (a' := ?_) #[true, false, true, false, false, false, false, false, false, false, false, false, false, false, false, false, false, false, false] rfl rfl (by kernel_rfl) (fun _ _ _ h => h) (Or.inl ⟨by rfl, ?_⟩) ?_ ?_
        rotate_left
        · intro w'
          go_simp
          with_reducible rfl
        rotate_left
        · simp only [Act.put, List.setIfInBounds_toArray, List.set_cons_zero, List.set_cons_succ, i64_w, i32_w]
          rfl
        refine pure_ (i := 3) (N := some 21) (v := ?_) (a' := ?_) #[true, false, true, true, false, false, false, false, false, false, false, false, false, false, false, false, false, false, false] rfl rfl (by kernel_rfl) (fun _ _ _ h => h) (Or.inl ⟨by rfl, ?_⟩) ?_ ?_
        rotate_left
        · intro w'
          go_simp
          with_reducible rfl
        rotate_left
        · simp only [Act.put, List.setIfInBounds_toArray, List.set_cons_zero, List.set_cons_succ, i64_w, i32_w]
          rfl
        refine pure_ (i := 4) (N := some 22) (v := ?_) (a' := ?_) #[true, false, true, true, true, false, false, false, false, false, false, false, false, false, false, false, false, false, false] rfl rfl (by kernel_rfl) (fun _ _ _ h => h) (Or.inl ⟨by rfl, ?_⟩) ?_ ?_
        rotate_left
        · intro w'
          go_simp
          with_reducible rfl
        rotate_left
        · simp only [Act.put, List.setIfInBounds_toArray, List.set_cons_zero, List.set_cons_succ, i64_w, i32_w]
          rfl
        refine take_ (i := 1) (N := some 19) (v := ?_) (a' := ?_) #[true, true, true, true, true, false, false, false, false, false, false, false, false, false, false, false, false, false, false] rfl rfl (by kernel_rfl) (fun _ _ _ h => h) (Or.inl ⟨by rfl, ?_⟩) hHeld ?_ ?_
        rotate_left
        · rintro w' ⟨s0, s1, s2⟩
          go_simp
          with_reducible rfl
        rotate_left
        · simp only [Act.put, List.setIfInBounds_toArray, List.set_cons_zero, List.set_cons_succ, i64_w, i32_w]
          rfl
        refine take_ (i := 5) (N := some 23) (v := ?_) (a' := ?_) #[true, true, true, true, true, true, false, false, false, false, false, false, false, false, false, false, false, false, false] rfl rfl (by kernel_rfl) (fun _ _ _ h => h) (Or.inl ⟨by rfl, ?_⟩) hHeld ?_ ?_
        rotate_left
        · rintro w' ⟨s0, s1, s2⟩
          go_simp
          with_reducible rfl
        rotate_left
        · simp only [Act.put, List.setIfInBounds_toArray, List.set_cons_zero, List.set_cons_succ, i64_w, i32_w]
          rfl
        refine pure_ (i := 6) (N := some 24) (v := ?_) (a' := ?_) #[true, true, true, true, true, true, true, false, false, false, false, false, false, false, false, false, false, false, false] rfl rfl (by kernel_rfl) (fun _ _ _ h => h) (Or.inl ⟨by rfl, ?_⟩) ?_ ?_
        rotate_left
        · intro w'
          go_simp
          with_reducible rfl
        rotate_left
        · simp only [Act.put, List.setIfInBounds_toArray, List.set_cons_zero, List.set_cons_succ, i64_w, i32_w]
          rfl
        refine pure_ (i := 7) (N := some 25) (v := ?_) (a' := ?_) #[true, true, true, true, true, true, true, true, false, false, false, false, false, false, false, false, false, false, false] rfl rfl (by kernel_rfl) (fun _ _ _ h => h) (Or.inl ⟨by rfl, ?_⟩) ?_ ?_
        rotate_left
        · intro w'
          go_simp
          with_reducible rfl
        rotate_left
        · simp only [Act.put, List.setIfInBounds_toArray, List.set_cons_zero, List.set_cons_succ, i64_w, i32_w]
          rfl
        refine pure_ (i := 8) (N := some 26) (v := ?_) (a' := ?_) #[true, true, true, true, true, true, true, true, true, false, false, false, false, false, false, false, false, false, false] rfl rfl (by kernel_rfl) (fun _ _ _ h => h) (Or.inl ⟨by rfl, ?_⟩) ?_ ?_
        rotate_left
        · intro w'
          go_simp
          with_reducible rfl
        rotate_left
        · simp only [Act.put, List.setIfInBounds_toArray, List.set_cons_zero, List.set_cons_succ, i64_w, i32_w]
          rfl
        refine pure_ (i := 9) (N := some 27) (v := undef) (a' := ?_) #[true, true, true, true, true, true, true, true, true, true, false, false, false, false, false, false, false, false, false] rfl rfl (by kernel_rfl) (fun _ _ _ h => h) (Or.inr ⟨by rfl, rfl⟩) ?_ ?_
        rotate_left
        · simp only [Act.put, List.setIfInBounds_toArray, List.set_cons_zero, List.set_cons_succ, i64_w, i32_w]
          rfl
        refine pure_ (i := 10) (N := some 28) (v := undef) (a' := ?_) #[true, true, true, true, true, true, true, true, true, true, true, false, false, false, false, false, false, false, false] rfl rfl (by kernel_rfl) (fun _ _ _ h => h) (Or.inr ⟨by rfl, rfl⟩) ?_ ?_
        rotate_left
        · simp only [Act.put, List.setIfInBounds_toArray, List.set_cons_zero, List.set_cons_succ, i64_w, i32_w]
          rfl
        refine pure_ (i := 11) (N := some 29) (v := undef) (a' := ?_) #[true, true, true, true, true, true, true, true, true, true, true, true, false, false, false, false, false, false, false] rfl rfl (by kernel_rfl) (fun _ _ _ h => h) (Or.inr ⟨by rfl, rfl⟩) ?_ ?_
        rotate_left
        · simp only [Act.put, List.setIfInBounds_toArray, List.set_cons_zero, List.set_cons_succ, i64_w, i32_w]
          rfl
        refine pure_ (i := 12) (N := some 30) (v := undef) (a' := ?_) #[true, true, true, true, true, true, true, true, true, true, true, true, true, false, false, false, false, false, false] rfl rfl (by kernel_rfl) (fun _ _ _ h => h) (Or.inr ⟨by rfl, rfl⟩) ?_ ?_
        rotate_left
        · simp only [Act.put, List.setIfInBounds_toArray, List.set_cons_zero, List.set_cons_succ, i64_w, i32_w]
          rfl
        refine pure_ (i := 13) (N := some 31) (v := undef) (a' := ?_) #[true, true, true, true, true, true, true, true, true, true, true, true, true, true, false, false, false, false, false] rfl rfl (by kernel_rfl) (fun _ _ _ h => h) (Or.inr ⟨by rfl, rfl⟩) ?_ ?_
        rotate_left
        · simp only [Act.put, List.setIfInBounds_toArray, List.set_cons_zero, List.set_cons_succ, i64_w, i32_w]
          rfl
        refine pure_ (i := 14) (N := some 32) (v := undef) (a' := ?_) #[true, true, true, true, true, true, true, true, true, true, true, true, true, true, true, false, false, false, false] rfl rfl (by kernel_rfl) (fun _ _ _ h => h) (Or.inr ⟨by rfl, rfl⟩) ?_ ?_
        rotate_left
        · simp only [Act.put, List.setIfInBounds_toArray, List.set_cons_zero, List.set_cons_succ, i64_w, i32_w]
          rfl
        refine pure_ (i := 15) (N := some 33) (v := undef) (a' := ?_) #[true, true, true, true, true, true, true, true, true, true, true, true, true, true, true, true, false, false, false] rfl rfl (by kernel_rfl) (fun _ _ _ h => h) (Or.inr ⟨by rfl, rfl⟩) ?_ ?_
        rotate_left
        · simp only [Act.put, List.setIfInBounds_toArray, List.set_cons_zero, List.set_cons_succ, i64_w, i32_w]
          rfl
        refine pure_ (i := 16) (N := some 34) (v := ?_) (a' := ?_) #[true, true, true, true, true, true, true, true, true, true, true, true, true, true, true, true, true, false, false] rfl rfl (by kernel_rfl) (fun _ _ _ h => h) (Or.inl ⟨by rfl, ?_⟩) ?_ ?_
        rotate_left
        · intro w'
          go_simp
          with_reducible rfl
        rotate_left
        · simp only [Act.put, List.setIfInBounds_toArray, List.set_cons_zero, List.set_cons_succ, i64_w, i32_w]
          rfl
        refine pure_ (i := 17) (N := some 2) (v := ?_) (a' := ?_) #[true, true, true, true, true, true, true, true, true, true, true, true, true, true, true, true, true, true, false] rfl rfl (by kernel_rfl) (fun _ _ _ h => h) (Or.inl ⟨by rfl, ?_⟩) ?_ ?_
        rotate_left
        · intro w'
          go_simp
          with_reducible rfl
        rotate_left
        · simp only [Act.put, List.setIfInBounds_toArray, List.set_cons_zero, List.set_cons_succ, i64_w, i32_w]
          rfl
        refine pure_ (i := 18) (N := some 3) (v := ?_) (a' := ?_) #[true, true, true, true, true, true, true, true, true, true, true, true, true, true, true, true, true, true, true] rfl rfl (by kernel_rfl) (fun _ _ _ h => h) (Or.inl ⟨by rfl, ?_⟩) ?_ ?_
        rotate_left
        · intro w'
          go_simp
          with_reducible rfl
        rotate_left
        · simp only [Act.put, List.setIfInBounds_toArray, List.set_cons_zero, List.set_cons_succ, i64_w, i32_w]
          rfl
        refine done_ (by kernel_rfl) ?_

        go_wp2_with fail
        go_ret2
        exact ⟨rfl, B1.out.lt⟩
  · have ek1 : (k == 1) = false := beq_eq_false_iff_ne.2 k1
    by_cases k2 : k = 2
    · subst k2
      have hT : textT ⟨2, s, n⟩ = (⟨(Lib.itoa n).toArray⟩, s.toList.isEmpty) := by
        unfold textT
        dsimp only
        rw [if_neg (show ¬ ((2 : Int) = 1) by decide), if_pos rfl]
      rw [hT]
      clear hT h64 hz CT CN CR SZ k1
      generalize (⟨(Lib.itoa n).toArray⟩ : ByteArray) = T at *
      go_enter Tryz.func69, Tryz.ntmps69
      obtain ⟨z0, z1, z2⟩ := cells3 B0.out.tb
      go_wp2_with fail
      clear z0 z1 z2
      have B1 := Aside0.mk (B0.out.l (Lt.refl _).d1)
      refine start_ (n := 8) (S := fun w' => w'.cell? ⟨w.heap.size, 0, none⟩ = some (.int .u8 2) ∧ w'.cell? ⟨w.heap.size, 1, none⟩ = some (.string s) ∧ w'.cell? ⟨w.heap.size, 2, none⟩ = some (.int .i64 n)) (ds := []) #[false, false, false, false, false, false, false, false] (by kernel_rfl) rfl rfl ⟨(cells3 B1.out.tb).1, (cells3 B1.out.tb).2.1, (cells3 B1.out.tb).2.2⟩ (fun hHeld => ?_)
      refine pure_ (i := 0) (N := some 37) (v := ?_) (a' := ?_) #[true, false, false, false, false, false, false, false] rfl rfl (by kernel_rfl) (fun _ _ _ h => h) (Or.inl ⟨by rfl, ?_⟩) ?_ ?_
      rotate_left
      · intro w'
        go_simp
        with_reducible rfl
      rotate_left
      · simp only [Act.put, List.setIfInBounds_toArray, List.set_cons_zero, List.set_cons_succ, i64_w, i32_w]
        rfl
      refine pure_ (i := 3) (N := some 40) (v := ?_) (a' := ?_) #[true, false, false, true, false, false, false, false] rfl rfl (by kernel_rfl) (fun _ _ _ h => h) (Or.inl ⟨by rfl, ?_⟩) ?_ ?_
      rotate_left
      · intro w'
        go_simp
        with_reducible rfl
      rotate_left
      · simp only [Act.put, List.setIfInBounds_toArray, List.set_cons_zero, List.set_cons_succ, i64_w, i32_w]
        rfl
      refine take_ (i := 1) (N := some 38) (v := ?_) (a' := ?_) #[true, true, false, true, false, false, false, false] rfl rfl (by kernel_rfl) (fun _ _ _ h => h) (Or.inl ⟨by rfl, ?_⟩) hHeld ?_ ?_
      rotate_left
      · rintro w' ⟨s0, s1, s2⟩
        go_simp
        with_reducible rfl
      rotate_left
      · simp only [Act.put, List.setIfInBounds_toArray, List.set_cons_zero, List.set_cons_succ, i64_w, i32_w]
        rfl
      refine take_ (i := 4) (N := some 41) (v := ?_) (a' := ?_) #[true, true, false, true, true, false, false, false] rfl rfl (by kernel_rfl) (fun _ _ _ h => h) (Or.inl ⟨by rfl, ?_⟩) hHeld ?_ ?_
      rotate_left
      · rintro w' ⟨s0, s1, s2⟩
        go_simp
        with_reducible rfl
      rotate_left
      · simp only [Act.put, List.setIfInBounds_toArray, List.set_cons_zero, List.set_cons_succ, i64_w, i32_w]
        rfl
      refine pure_ (i := 5) (N := some 42) (v := ?_) (a' := ?_) #[true, true, false, true, true, true, false, false] rfl rfl (by kernel_rfl) (fun _ _ _ h => h) (Or.inl ⟨by rfl, ?_⟩) ?_ ?_
      rotate_left
      · intro w'
        go_simp
        with_reducible rfl
      rotate_left
      · simp only [Act.put, List.setIfInBounds_toArray, List.set_cons_zero, List.set_cons_succ, i64_w, i32_w]
        rfl
      refine one_ (i := 2) (N := some 39) #[true, true, true, true, true, true, false, false] rfl rfl (by kernel_rfl) (by decide) (fun K hK => ?_)
      refine goes_ Tryz.func100 (by kernel_rfl) rfl #[.int .i64 n, .int .i64 10] (by rfl) rfl rfl (by simp only [List.map_toArray, List.map_cons, List.map_nil]; rfl) ?_
      with_reducible refine ((CF _ (HC.out.l B1.out.lt)).out).mono ?_
      rintro e w3 ⟨rfl, kk, os, hw⟩
      refine ⟨_, rfl, ?_⟩
      have B2 := Aside0.mk (B1.out.l (hw ▸ lt_grow _ _ _))
      clear hw CF
      refine hK.out _ _ ⟨(cells3 B2.out.tb).1, (cells3 B2.out.tb).2.1, (cells3 B2.out.tb).2.2⟩ (fun hHeld => ?_)
      clear hK K
      refine norm_ (a' := ?_) ?_ ?_
      rotate_left
      · show Act.put _ (some 39) _ = _
        simp only [Act.put, List.setIfInBounds_toArray, List.set_cons_zero, List.set_cons_succ, i64_w, i32_w]
        rfl
      refine pure_ (i := 6) (N := some 2) (v := ?_) (a' := ?_) #[true, true, true, true, true, true, true, false] rfl rfl (by kernel_rfl) (fun _ _ _ h => h) (Or.inl ⟨by rfl, ?_⟩) ?_ ?_
      rotate_left
      · intro w'
        go_simp
        with_reducible rfl
      rotate_left
      · simp only [Act.put, List.setIfInBounds_toArray, List.set_cons_zero, List.set_cons_succ, i64_w, i32_w]
        rfl
      refine pure_ (i := 7) (N := some 3) (v := ?_) (a' := ?_) #[true, true, true, true, true, true, true, true] rfl rfl (by kernel_rfl) (fun _ _ _ h => h) (Or.inl ⟨by rfl, ?_⟩) ?_ ?_
      rotate_left
      · intro w'
        go_simp
        with_reducible rfl
      rotate_left
      · simp only [Act.put, List.setIfInBounds_toArray, List.set_cons_zero, List.set_cons_succ, i64_w, i32_w]
        rfl
      refine done_ (by kernel_rfl) ?_

      go_wp2_with fail
      go_ret2
      exact ⟨rfl, B2.out.lt⟩
    · have ek2 : (k == 2) = false := beq_eq_false_iff_ne.2 k2
      by_cases k3 : k = 3
      · subst k3
        have hT : textT ⟨3, s, n⟩ = (AT ++ (textF n).1, decide ((textF n).2 = 0) && s.toList.isEmpty) := by
          unfold textT
          dsimp only
          rw [if_neg (show ¬ ((3 : Int) = 1) by decide), if_neg (show ¬ ((3 : Int) = 2) by decide), if_pos rfl]
        rw [hT]
        clear hT h64 hz CF CN CR SZ k1 k2
        obtain ⟨T, e0, hTe⟩ : ∃ T e0, textF n = (T, e0) := ⟨_, _, rfl⟩
        have hts := textF_size n
        rw [hTe] at CT hts ⊢
        dsimp only at CT hts ⊢
        clear hTe
        have hsum : ¬ (9223372036854775807 < 1 + T.size) := by omega
        have HD : decide (e0 = 0) = (e0 == 0) := rfl
        rw [HD]
        clear HD
        by_cases he : e0 = 0
        · have he1 : (e0 == 0) = true := beq_iff_eq.2 he
          rw [he1, Bool.true_and]
          clear he
          go_enter Tryz.func69, Tryz.ntmps69
          obtain ⟨z0, z1, z2⟩ := cells3 B0.out.tb
          go_wp2_with fail
          (with_reducible refine (CT _ (HC.out.l B0.out.lt)).out.mono ?_)
          rintro e w1 ⟨rfl, hl⟩
          have B1 := Aside0.mk ((B0.out.l hl).l (Lt.refl _).d1)
          clear hl CT z0 z1 z2 B0
          go_wp2_with fail
          refine start_ (n := 11) (S := fun w' => w'.cell? ⟨w.heap.size, 0, none⟩ = some (.int .u8 3) ∧ w'.cell? ⟨w.heap.size, 1, none⟩ = some (.string s) ∧ w'.cell? ⟨w.heap.size, 2, none⟩ = some (.int .i64 n)) (ds := []) #[false, false, false, false, false, false, false, false, false, false, false] (by kernel_rfl) rfl rfl ⟨(cells3 B1.out.tb).1, (cells3 B1.out.tb).2.1, (cells3 B1.out.tb).2.2⟩ (fun hHeld => ?_)
          refine pure_ (i := 0) (N := some 51) (v := ?_) (a' := ?_) #[true, false, false, false, false, false, false, false, false, false, false] rfl rfl (by kernel_rfl) (fun _ _ _ h => h) (Or.inl ⟨by rfl, ?_⟩) ?_ ?_
          rotate_left
          · intro w'
            go_simp
            with_reducible rfl
          rotate_left
          · simp only [Act.put, List.setIfInBounds_toArray, List.set_cons_zero, List.set_cons_succ, i64_w, i32_w]
            rfl
          refine pure_ (i := 1) (N := some 52) (v := ?_) (a' := ?_) #[true, true, false, false, false, false, false, false, false, false, false] rfl rfl (by kernel_rfl) (fun _ _ _ h => h) (Or.inl ⟨by rfl, ?_⟩) ?_ ?_
          rotate_left
          · intro w'
            go_simp
            with_reducible rfl
          rotate_left
          · simp only [Act.put, List.setIfInBounds_toArray, List.set_cons_zero, List.set_cons_succ, i64_w, i32_w]
            rfl
          refine pure_ (i := 2) (N := some 53) (v := ?_) (a' := ?_) #[true, true, true, false, false, false, false, false, false, false, false] rfl rfl (by kernel_rfl) (fun _ _ _ h => h) (Or.inl ⟨by rfl, ?_⟩) ?_ ?_
          rotate_left
          · intro w'
            go_simp
            with_reducible rfl
          rotate_left
          · simp only [Act.put, List.setIfInBounds_toArray, List.set_cons_zero, List.set_cons_succ, i64_w, i32_w]
            rfl
          refine pure_ (i := 3) (N := some 54) (v := ?_) (a' := ?_) #[true, true, true, true, false, false, false, false, false, false, false] rfl rfl (by kernel_rfl) (fun _ _ _ h => h) (Or.inl ⟨by rfl, ?_⟩) ?_ ?_
          rotate_left
          · intro w'
            go_simp
            with_reducible rfl
          rotate_left
          · simp only [Act.put, List.setIfInBounds_toArray, List.set_cons_zero, List.set_cons_succ, i64_w, i32_w]
            rfl
          refine pure_ (i := 4) (N := some 55) (v := ?_) (a' := ?_) #[true, true, true, true, true, false, false, false, false, false, false] rfl rfl (by kernel_rfl) (fun _ _ _ h => h) (Or.inl ⟨by rfl, ?_⟩) ?_ ?_
          rotate_left
          · intro w'
            go_simp
            with_reducible rfl
          rotate_left
          · simp only [Act.put, List.setIfInBounds_toArray, List.set_cons_zero, List.set_cons_succ, i64_w, i32_w]
            rfl
          refine pure_ (i := 5) (N := some 56) (v := ?_) (a' := ?_) #[true, true, true, true, true, true, false, false, false, false, false] rfl rfl (by kernel_rfl) (fun _ _ _ h => h) (Or.inl ⟨by rfl, ?_⟩) ?_ ?_
          rotate_left
          · intro w'
            go_simp
            with_reducible rfl
          rotate_left
          · simp only [Act.put, List.setIfInBounds_toArray, List.set_cons_zero, List.set_cons_succ, i64_w, i32_w]
            rfl
          refine pure_ (i := 9) (N := some 2) (v := ?_) (a' := ?_) #[true, true, true, true, true, true, false, false, false, true, false] rfl rfl (by kernel_rfl) (fun _ _ _ h => h) (Or.inl ⟨by rfl, ?_⟩) ?_ ?_
          rotate_left
          · intro w'
            go_simp
            with_reducible rfl
          rotate_left
          · simp only [Act.put, List.setIfInBounds_toArray, List.set_cons_zero, List.set_cons_succ, i64_w, i32_w]
            rfl
          refine take_ (i := 6) (N := some 57) (v := ?_) (a' := ?_) #[true, true, true, true, true, true, true, false, false, true, false] rfl rfl (by kernel_rfl) (fun _ _ _ h => h) (Or.inl ⟨by rfl, ?_⟩) hHeld ?_ ?_
          rotate_left
          · rintro w' ⟨s0, s1, s2⟩
            go_simp
            with_reducible rfl
          rotate_left
          · simp only [Act.put, List.setIfInBounds_toArray, List.set_cons_zero, List.set_cons_succ, i64_w, i32_w]
            rfl
          refine pure_ (i := 7) (N := some 58) (v := ?_) (a' := ?_) #[true, true, true, true, true, true, true, true, false, true, false] rfl rfl (by kernel_rfl) (fun _ _ _ h => h) (Or.inl ⟨by rfl, ?_⟩) ?_ ?_
          rotate_left
          · intro w'
            go_simp
            with_reducible rfl
          rotate_left
          · simp only [Act.put, List.setIfInBounds_toArray, List.set_cons_zero, List.set_cons_succ, i64_w, i32_w]
            rfl
          refine pure_ (i := 8) (N := some 59) (v := ?_) (a' := ?_) #[true, true, true, true, true, true, true, true, true, true, false] rfl rfl (by kernel_rfl) (fun _ _ _ h => h) (Or.inl ⟨by rfl, ?_⟩) ?_ ?_
          rotate_left
          · intro w'
            go_simp
            with_reducible rfl
          rotate_left
          · simp only [Act.put, List.setIfInBounds_toArray, List.set_cons_zero, List.set_cons_succ, i64_w, i32_w]
            rfl
          refine pure_ (i := 10) (N := some 3) (v := ?_) (a' := ?_) #[true, true, true, true, true, true, true, true, true, true, true] rfl rfl (by kernel_rfl) (fun _ _ _ h => h) (Or.inl ⟨by rfl, ?_⟩) ?_ ?_
          rotate_left
          · intro w'
            go_simp
            with_reducible rfl
          rotate_left
          · simp only [Act.put, List.setIfInBounds_toArray, List.set_cons_zero, List.set_cons_succ, i64_w, i32_w]
            rfl
          refine done_ (by kernel_rfl) ?_

          go_wp2_with fail
          go_ret2
          exact ⟨rfl, B1.out.lt⟩
        · have he1 : (e0 == 0) = false := beq_eq_false_iff_ne.2 he
          rw [he1, Bool.false_and]
          clear he
          go_enter Tryz.func69, Tryz.ntmps69
          obtain ⟨z0, z1, z2⟩ := cells3 B0.out.tb
          go_wp2_with fail
          (with_reducible refine (CT _ (HC.out.l B0.out.lt)).out.mono ?_)
          rintro e w1 ⟨rfl, hl⟩
          have B1 := Aside0.mk ((B0.out.l hl).l (Lt.refl _).d1)
          clear hl CT z0 z1 z2 B0
          go_wp2_with fail
          refine start_ (n := 11) (S := fun w' => w'.cell? ⟨w.heap.size, 0, none⟩ = some (.int .u8 3) ∧ w'.cell? ⟨w.heap.size, 1, none⟩ = some (.string s) ∧ w'.cell? ⟨w.heap.size, 2, none⟩ = some (.int .i64 n)) (ds := []) #[false, false, false, false, false, false, false, false, false, false, false] (by kernel_rfl) rfl rfl ⟨(cells3 B1.out.tb).1, (cells3 B1.out.tb).2.1, (cells3 B1.out.tb).2.2⟩ (fun hHeld => ?_)
          refine pure_ (i := 0) (N := some 51) (v := ?_) (a' := ?_) #[true, false, false, false, false, false, false, false, false, false, false] rfl rfl (by kernel_rfl) (fun _ _ _ h => h) (Or.inl ⟨by rfl, ?_⟩) ?_ ?_
          rotate_left
          · intro w'
            go_simp
            with_reducible rfl
          rotate_left
          · simp only [Act.put, List.setIfInBounds_toArray, List.set_cons_zero, List.set_cons_succ, i64_w, i32_w]
            rfl
          refine pure_ (i := 1) (N := some 52) (v := ?_) (a' := ?_) #[true, true, false, false, false, false, false, false, false, false, false] rfl rfl (by kernel_rfl) (fun _ _ _ h => h) (Or.inl ⟨by rfl, ?_⟩) ?_ ?_
          rotate_left
          · intro w'
            go_simp
            with_reducible rfl
          rotate_left
          · simp only [Act.put, List.setIfInBounds_toArray, List.set_cons_zero, List.set_cons_succ, i64_w, i32_w]
            rfl
          refine pure_ (i := 2) (N := some 53) (v := ?_) (a' := ?_) #[true, true, true, false, false, false, false, false, false, false, false] rfl rfl (by kernel_rfl) (fun _ _ _ h => h) (Or.inl ⟨by rfl, ?_⟩) ?_ ?_
          rotate_left
          · intro w'
            go_simp
            with_reducible rfl
          rotate_left
          · simp only [Act.put, List.setIfInBounds_toArray, List.set_cons_zero, List.set_cons_succ, i64_w, i32_w]
            rfl
          refine pure_ (i := 3) (N := some 54) (v := ?_) (a' := ?_) #[true, true, true, true, false, false, false, false, false, false, false] rfl rfl (by kernel_rfl) (fun _ _ _ h => h) (Or.inl ⟨by rfl, ?_⟩) ?_ ?_
          rotate_left
          · intro w'
            go_simp
            with_reducible rfl
          rotate_left
          · simp only [Act.put, List.setIfInBounds_toArray, List.set_cons_zero, List.set_cons_succ, i64_w, i32_w]
            rfl
          refine pure_ (i := 4) (N := some 55) (v := ?_) (a' := ?_) #[true, true, true, true, true, false, false, false, false, false, false] rfl rfl (by kernel_rfl) (fun _ _ _ h => h) (Or.inl ⟨by rfl, ?_⟩) ?_ ?_
          rotate_left
          · intro w'
            go_simp
            with_reducible rfl
          rotate_left
          · simp only [Act.put, List.setIfInBounds_toArray, List.set_cons_zero, List.set_cons_succ, i64_w, i32_w]
            rfl
          refine pure_ (i := 5) (N := some 56) (v := undef) (a' := ?_) #[true, true, true, true, true, true, false, false, false, false, false] rfl rfl (by kernel_rfl) (fun _ _ _ h => h) (Or.inr ⟨by rfl, rfl⟩) ?_ ?_
          rotate_left
          · simp only [Act.put, List.setIfInBounds_toArray, List.set_cons_zero, List.set_cons_succ, i64_w, i32_w]
            rfl
          refine pure_ (i := 6) (N := some 57) (v := undef) (a' := ?_) #[true, true, true, true, true, true, true, false, false, false, false] rfl rfl (by kernel_rfl) (fun _ _ _ h => h) (Or.inr ⟨by rfl, rfl⟩) ?_ ?_
          rotate_left
          · simp only [Act.put, List.setIfInBounds_toArray, List.set_cons_zero, List.set_cons_succ, i64_w, i32_w]
            rfl
          refine pure_ (i := 7) (N := some 58) (v := undef) (a' := ?_) #[true, true, true, true, true, true, true, true, false, false, false] rfl rfl (by kernel_rfl) (fun _ _ _ h => h) (Or.inr ⟨by rfl, rfl⟩) ?_ ?_
          rotate_left
          · simp only [Act.put, List.setIfInBounds_toArray, List.set_cons_zero, List.set_cons_succ, i64_w, i32_w]
            rfl
          refine pure_ (i := 8) (N := some 59) (v := ?_) (a' := ?_) #[true, true, true, true, true, true, true, true, true, false, false] rfl rfl (by kernel_rfl) (fun _ _ _ h => h) (Or.inl ⟨by rfl, ?_⟩) ?_ ?_
          rotate_left
          · intro w'
            go_simp
            with_reducible rfl
          rotate_left
          · simp only [Act.put, List.setIfInBounds_toArray, List.set_cons_zero, List.set_cons_succ, i64_w, i32_w]
            rfl
          refine pure_ (i := 9) (N := some 2) (v := ?_) (a' := ?_) #[true, true, true, true, true, true, true, true, true, true, false] rfl rfl (by kernel_rfl) (fun _ _ _ h => h) (Or.inl ⟨by rfl, ?_⟩) ?_ ?_
          rotate_left
          · intro w'
            go_simp
            with_reducible rfl
          rotate_left
          · simp only [Act.put, List.setIfInBounds_toArray, List.set_cons_zero, List.set_cons_succ, i64_w, i32_w]
            rfl
          refine pure_ (i := 10) (N := some 3) (v := ?_) (a' := ?_) #[true, true, true, true, true, true, true, true, true, true, true] rfl rfl (by kernel_rfl) (fun _ _ _ h => h) (Or.inl ⟨by rfl, ?_⟩) ?_ ?_
          rotate_left
          · intro w'
            go_simp
            with_reducible rfl
          rotate_left
          · simp only [Act.put, List.setIfInBounds_toArray, List.set_cons_zero, List.set_cons_succ, i64_w, i32_w]
            rfl
          refine done_ (by kernel_rfl) ?_

          go_wp2_with fail
          go_ret2
          exact ⟨rfl, B1.out.lt⟩
      · have ek3 : (k == 3) = false := beq_eq_false_iff_ne.2 k3
        by_cases k4 : k = 4
        · subst k4
          have hT : textT ⟨4, s, n⟩ = (s, decide (n = 0) && decide (s.size = 1) && s.data.toList.all markB) := by
            unfold textT
            dsimp only
            rw [if_neg (show ¬ ((4 : Int) = 1) by decide), if_neg (show ¬ ((4 : Int) = 2) by decide), if_neg (show ¬ ((4 : Int) = 3) by decide), if_pos rfl]
          rw [hT]
          have HD : decide (s.size = 1) = ((s.size : Int) == 1) := by rw [Bool.eq_iff_iff]; simp; omega
          rw [HD]
          clear hT h64 hz CF CN CR CT k1 k2 k3
          by_cases hn : n = 0
          · subst hn
            rw [decide_eq_true rfl, Bool.true_and]
            by_cases h1 : s.size = 1
            · obtain ⟨b, hb⟩ : ∃ b, s.data.toList = [b] := by
                have := SZ.out
                rw [h1] at this
                exact List.length_eq_one_iff.1 this
              have hs : s = ⟨#[b]⟩ := by
                cases s with
                | mk a => rw [show a = #[b] from Array.toList_inj.1 hb]
              have e1 : ((s.size : Int) == 1) = true := beq_iff_eq.2 (by omega)
              have HM : s.data.toList.all markB = decide (0 ≤ Lib.indexByte MARKS.data.toList b) := by
                rw [hb, List.all_cons, List.all_nil, Bool.and_true, Bool.eq_iff_iff, decide_eq_true_eq]
                exact (indexByte_ge marksL b).symm
              rw [e1, Bool.true_and, HM]
              have CC := fun W => Aside0.mk (Tryz.strings_Contains_one MARKS b W)
              rw [← hs] at CC
              generalize decide (0 ≤ Lib.indexByte MARKS.data.toList b) = r at *
              clear HD HM hb hs h1 SZ
              go_enter Tryz.func69, Tryz.ntmps69
              obtain ⟨z0, z1, z2⟩ := cells3 B0.out.tb
              go_wp2_with fail
              clear z0 z1 z2
              have B1 := Aside0.mk (B0.out.l (Lt.refl _).d1)
              refine start_ (n := 18) (S := fun w' => w'.cell? ⟨w.heap.size, 0, none⟩ = some (.int .u8 4) ∧ w'.cell? ⟨w.heap.size, 1, none⟩ = some (.string s) ∧ w'.cell? ⟨w.heap.size, 2, none⟩ = some (.int .i64 0)) (ds := []) #[false, false, false, false, false, false, false, false, false, false, false, false, false, false, false, false, false, false] (by kernel_rfl) rfl rfl ⟨(cells3 B1.out.tb).1, (cells3 B1.out.tb).2.1, (cells3 B1.out.tb).2.2⟩ (fun hHeld => ?_)
              refine pure_ (i := 0) (N := some 62) (v := ?_) (a' := ?_) #[true, false, false, false, false, false, false, false, false, false, false, false, false, false, false, false, false, false] rfl rfl (by kernel_rfl) (fun _ _ _ h => h) (Or.inl ⟨by rfl, ?_⟩) ?_ ?_
              rotate_left
              · intro w'
                go_simp
                with_reducible rfl
              rotate_left
              · simp only [Act.put, List.setIfInBounds_toArray, List.set_cons_zero, List.set_cons_succ, i64_w, i32_w]
                rfl
              refine pure_ (i := 2) (N := some 64) (v := ?_) (a' := ?_) #[true, false, true, false, false, false, false, false, false, false, false, false, false, false, false, false, false, false] rfl rfl (by kernel_rfl) (fun _ _ _ h => h) (Or.inl ⟨by rfl, ?_⟩) ?_ ?_
              rotate_left
              · intro w'
                go_simp
                with_reducible rfl
              rotate_left
              · simp only [Act.put, List.setIfInBounds_toArray, List.set_cons_zero, List.set_cons_succ, i64_w, i32_w]
                rfl
              refine take_ (i := 1) (N := some 63) (v := ?_) (a' := ?_) #[true, true, true, false, false, false, false, false, false, false, false, false, false, false, false, false, false, false] rfl rfl (by kernel_rfl) (fun _ _ _ h => h) (Or.inl ⟨by rfl, ?_⟩) hHeld ?_ ?_
              rotate_left
              · rintro w' ⟨s0, s1, s2⟩
                go_simp
                with_reducible rfl
              rotate_left
              · simp only [Act.put, List.setIfInBounds_toArray, List.set_cons_zero, List.set_cons_succ, i64_w, i32_w]
                rfl
              refine take_ (i := 3) (N := some 65) (v := ?_) (a' := ?_) #[true, true, true, true, false, false, false, false, false, false, false, false, false, false, false, false, false, false] rfl rfl (by kernel_rfl) (fun _ _ _ h => h) (Or.inl ⟨by rfl, ?_⟩) hHeld ?_ ?_
              rotate_left
              · rintro w' ⟨s0, s1, s2⟩
                go_simp
                with_reducible rfl
              rotate_left
              · simp only [Act.put, List.setIfInBounds_toArray, List.set_cons_zero, List.set_cons_succ, i64_w, i32_w]
                rfl
              refine pure_ (i := 4) (N := some 66) (v := ?_) (a' := ?_) #[true, true, true, true, true, false, false, false, false, false, false, false, false, false, false, false, false, false] rfl rfl (by kernel_rfl) (fun _ _ _ h => h) (Or.inl ⟨by rfl, ?_⟩) ?_ ?_
              rotate_left
              · intro w'
                go_simp
                with_reducible rfl
              rotate_left
              · simp only [Act.put, List.setIfInBounds_toArray, List.set_cons_zero, List.set_cons_succ, i64_w, i32_w]
                rfl
              refine pure_ (i := 5) (N := some 67) (v := ?_) (a' := ?_) #[true, true, true, true, true, true, false, false, false, false, false, false, false, false, false, false, false, false] rfl rfl (by kernel_rfl) (fun _ _ _ h => h) (Or.inl ⟨by rfl, ?_⟩) ?_ ?_
              rotate_left
              · intro w'
                go_simp
                with_reducible rfl
              rotate_left
              · simp only [Act.put, List.setIfInBounds_toArray, List.set_cons_zero, List.set_cons_succ, i64_w, i32_w]
                rfl
              refine pure_ (i := 6) (N := some 68) (v := ?_) (a' := ?_) #[true, true, true, true, true, true, true, false, false, false, false, false, false, false, false, false, false, false] rfl rfl (by kernel_rfl) (fun _ _ _ h => h) (Or.inl ⟨by rfl, ?_⟩) ?_ ?_
              rotate_left
              · intro w'
                go_simp
                with_reducible rfl
              rotate_left
              · simp only [Act.put, List.setIfInBounds_toArray, List.set_cons_zero, List.set_cons_succ, i64_w, i32_w]
                rfl
              refine take_ (i := 7) (N := some 69) (v := ?_) (a' := ?_) #[true, true, true, true, true, true, true, true, false, false, false, false, false, false, false, false, false, false] rfl rfl (by kernel_rfl) (fun _ _ _ h => h) (Or.inl ⟨by rfl, ?_⟩) hHeld ?_ ?_
              rotate_left
              · rintro w' ⟨s0, s1, s2⟩
                go_simp
                with_reducible rfl
              rotate_left
              · simp only [Act.put, List.setIfInBounds_toArray, List.set_cons_zero, List.set_cons_succ, i64_w, i32_w]
                rfl
              refine pure_ (i := 8) (N := some 70) (v := ?_) (a' := ?_) #[true, true, true, true, true, true, true, true, true, false, false, false, false, false, false, false, false, false] rfl rfl (by kernel_rfl) (fun _ _ _ h => h) (Or.inl ⟨by rfl, ?_⟩) ?_ ?_
              rotate_left
              · intro w'
                go_simp
                with_reducible rfl
              rotate_left
              · simp only [Act.put, List.setIfInBounds_toArray, List.set_cons_zero, List.set_cons_succ, i64_w, i32_w]
                rfl
              refine pure_ (i := 9) (N := some 71) (v := ?_) (a' := ?_) #[true, true, true, true, true, true, true, true, true, true, false, false, false, false, false, false, false, false] rfl rfl (by kernel_rfl) (fun _ _ _ h => h) (Or.inl ⟨by rfl, ?_⟩) ?_ ?_
              rotate_left
              · intro w'
                go_simp
                with_reducible rfl
              rotate_left
              · simp only [Act.put, List.setIfInBounds_toArray, List.set_cons_zero, List.set_cons_succ, i64_w, i32_w]
                rfl
              refine pure_ (i := 10) (N := some 72) (v := ?_) (a' := ?_) #[true, true, true, true, true, true, true, true, true, true, true, false, false, false, false, false, false, false] rfl rfl (by kernel_rfl) (fun _ _ _ h => h) (Or.inl ⟨by rfl, ?_⟩) ?_ ?_
              rotate_left
              · intro w'
                go_simp
                with_reducible rfl
              rotate_left
              · simp only [Act.put, List.setIfInBounds_toArray, List.set_cons_zero, List.set_cons_succ, i64_w, i32_w]
                rfl
              refine pure_ (i := 11) (N := some 73) (v := ?_) (a' := ?_) #[true, true, true, true, true, true, true, true, true, true, true, true, false, false, false, false, false, false] rfl rfl (by kernel_rfl) (fun _ _ _ h => h) (Or.inl ⟨by rfl, ?_⟩) ?_ ?_
              rotate_left
              · intro w'
                go_simp
                with_reducible rfl
              rotate_left
              · simp only [Act.put, List.setIfInBounds_toArray, List.set_cons_zero, List.set_cons_succ, i64_w, i32_w]
                rfl
              refine pure_ (i := 12) (N := some 74) (v := ?_) (a' := ?_) #[true, true, true, true, true, true, true, true, true, true, true, true, true, false, false, false, false, false] rfl rfl (by kernel_rfl) (fun _ _ _ h => h) (Or.inl ⟨by rfl, ?_⟩) ?_ ?_
              rotate_left
              · intro w'
                go_simp
                with_reducible rfl
              rotate_left
              · simp only [Act.put, List.setIfInBounds_toArray, List.set_cons_zero, List.set_cons_succ, i64_w, i32_w]
                rfl
              refine take_ (i := 13) (N := some 75) (v := ?_) (a' := ?_) #[true, true, true, true, true, true, true, true, true, true, true, true, true, true, false, false, false, false] rfl rfl (by kernel_rfl) (fun _ _ _ h => h) (Or.inl ⟨by rfl, ?_⟩) hHeld ?_ ?_
              rotate_left
              · rintro w' ⟨s0, s1, s2⟩
                go_simp
                with_reducible rfl
              rotate_left
              · simp only [Act.put, List.setIfInBounds_toArray, List.set_cons_zero, List.set_cons_succ, i64_w, i32_w]
                rfl
              refine one_ (i := 14) (N := some 76) #[true, true, true, true, true, true, true, true, true, true, true, true, true, true, true, false, false, false] rfl rfl (by kernel_rfl) (by decide) (fun K hK => ?_)
              refine goes_ Tryz.func56 (by kernel_rfl) rfl #[.string MARKS, .string s] (by rfl) rfl rfl (by simp only [List.map_toArray, List.map_cons, List.map_nil]; rfl) ?_
              with_reducible refine ((CC _).out).mono ?_
              rintro e w3 ⟨rfl, rfl⟩
              refine ⟨_, rfl, ?_⟩
              refine hK.out _ _ ⟨(cells3 B1.out.tb).1, (cells3 B1.out.tb).2.1, (cells3 B1.out.tb).2.2⟩ (fun hHeld => ?_)
              clear hK K
              refine norm_ (a' := ?_) ?_ ?_
              rotate_left
              · show Act.put _ (some 76) _ = _
                simp only [Act.put, List.setIfInBounds_toArray, List.set_cons_zero, List.set_cons_succ, i64_w, i32_w]
                rfl
              refine pure_ (i := 15) (N := some 77) (v := ?_) (a' := ?_) #[true, true, true, true, true, true, true, true, true, true, true, true, true, true, true, true, false, false] rfl rfl (by kernel_rfl) (fun _ _ _ h => h) (Or.inl ⟨by rfl, ?_⟩) ?_ ?_
              rotate_left
              · intro w'
                go_simp
                with_reducible rfl
              rotate_left
              · simp only [Act.put, List.setIfInBounds_toArray, List.set_cons_zero, List.set_cons_succ, i64_w, i32_w]
                rfl
              refine pure_ (i := 16) (N := some 2) (v := ?_) (a' := ?_) #[true, true, true, true, true, true, true, true, true, true, true, true, true, true, true, true, true, false] rfl rfl (by kernel_rfl) (fun _ _ _ h => h) (Or.inl ⟨by rfl, ?_⟩) ?_ ?_
              rotate_left
              · intro w'
                go_simp
                with_reducible rfl
              rotate_left
              · simp only [Act.put, List.setIfInBounds_toArray, List.set_cons_zero, List.set_cons_succ, i64_w, i32_w]
                rfl
              refine pure_ (i := 17) (N := some 3) (v := ?_) (a' := ?_) #[true, true, true, true, true, true, true, true, true, true, true, true, true, true, true, true, true, true] rfl rfl (by kernel_rfl) (fun _ _ _ h => h) (Or.inl ⟨by rfl, ?_⟩) ?_ ?_
              rotate_left
              · intro w'
                go_simp
                with_reducible rfl
              rotate_left
              · simp only [Act.put, List.setIfInBounds_toArray, List.set_cons_zero, List.set_cons_succ, i64_w, i32_w]
                rfl
              refine done_ (by kernel_rfl) ?_

              go_wp2_with fail
              go_ret2
              exact ⟨rfl, B1.out.lt⟩
            · have e1 : ((s.size : Int) == 1) = false := beq_eq_false_iff_ne.2 (by omega)
              rw [e1, Bool.false_and]
              clear HD h1 SZ
              go_enter Tryz.func69, Tryz.ntmps69
              obtain ⟨z0, z1, z2⟩ := cells3 B0.out.tb
              go_wp2_with fail
              clear z0 z1 z2
              have B1 := Aside0.mk (B0.out.l (Lt.refl _).d1)
              refine start_ (n := 18) (S := fun w' => w'.cell? ⟨w.heap.size, 0, none⟩ = some (.int .u8 4) ∧ w'.cell? ⟨w.heap.size, 1, none⟩ = some (.string s) ∧ w'.cell? ⟨w.heap.size, 2, none⟩ = some (.int .i64 0)) (ds := []) #[false, false, false, false, false, false, false, false, false, false, false, false, false, false, false, false, false, false] (by kernel_rfl) rfl rfl ⟨(cells3 B1.out.tb).1, (cells3 B1.out.tb).2.1, (cells3 B1.out.tb).2.2⟩ (fun hHeld => ?_)
              refine pure_ (i := 0) (N := some 62) (v := ?_) (a' := ?_) #[true, false, false, false, false, false, false, false, false, false, false, false, false, false, false, false, false, false] rfl rfl (by kernel_rfl) (fun _ _ _ h => h) (Or.inl ⟨by rfl, ?_⟩) ?_ ?_
              rotate_left
              · intro w'
                go_simp
                with_reducible rfl
              rotate_left
              · simp only [Act.put, List.setIfInBounds_toArray, List.set_cons_zero, List.set_cons_succ, i64_w, i32_w]
                rfl
              refine pure_ (i := 2) (N := some 64) (v := ?_) (a' := ?_) #[true, false, true, false, false, false, false, false, false, false, false, false, false, false, false, false, false, false] rfl rfl (by kernel_rfl) (fun _ _ _ h => h) (Or.inl ⟨by rfl, ?_⟩) ?_ ?_
              rotate_left
              · intro w'
                go_simp
                with_reducible rfl
              rotate_left
              · simp only [Act.put, List.setIfInBounds_toArray, List.set_cons_zero, List.set_cons_succ, i64_w, i32_w]
                rfl
              refine take_ (i := 1) (N := some 63) (v := ?_) (a' := ?_) #[true, true, true, false, false, false, false, false, false, false, false, false, false, false, false, false, false, false] rfl rfl (by kernel_rfl) (fun _ _ _ h => h) (Or.inl ⟨by rfl, ?_⟩) hHeld ?_ ?_
              rotate_left
              · rintro w' ⟨s0, s1, s2⟩
                go_simp
                with_reducible rfl
              rotate_left
              · simp only [Act.put, List.setIfInBounds_toArray, List.set_cons_zero, List.set_cons_succ, i64_w, i32_w]
                rfl
              refine take_ (i := 3) (N := some 65) (v := ?_) (a' := ?_) #[true, true, true, true, false, false, false, false, false, false, false, false, false, false, false, false, false, false] rfl rfl (by kernel_rfl) (fun _ _ _ h => h) (Or.inl ⟨by rfl, ?_⟩) hHeld ?_ ?_
              rotate_left
              · rintro w' ⟨s0, s1, s2⟩
                go_simp
                with_reducible rfl
              rotate_left
              · simp only [Act.put, List.setIfInBounds_toArray, List.set_cons_zero, List.set_cons_succ, i64_w, i32_w]
                rfl
              refine pure_ (i := 4) (N := some 66) (v := ?_) (a' := ?_) #[true, true, true, true, true, false, false, false, false, false, false, false, false, false, false, false, false, false] rfl rfl (by kernel_rfl) (fun _ _ _ h => h) (Or.inl ⟨by rfl, ?_⟩) ?_ ?_
              rotate_left
              · intro w'
                go_simp
                with_reducible rfl
              rotate_left
              · simp only [Act.put, List.setIfInBounds_toArray, List.set_cons_zero, List.set_cons_succ, i64_w, i32_w]
                rfl
              refine pure_ (i := 5) (N := some 67) (v := ?_) (a' := ?_) #[true, true, true, true, true, true, false, false, false, false, false, false, false, false, false, false, false, false] rfl rfl (by kernel_rfl) (fun _ _ _ h => h) (Or.inl ⟨by rfl, ?_⟩) ?_ ?_
              rotate_left
              · intro w'
                go_simp
                with_reducible rfl
              rotate_left
              · simp only [Act.put, List.setIfInBounds_toArray, List.set_cons_zero, List.set_cons_succ, i64_w, i32_w]
                rfl
              refine pure_ (i := 6) (N := some 68) (v := ?_) (a' := ?_) #[true, true, true, true, true, true, true, false, false, false, false, false, false, false, false, false, false, false] rfl rfl (by kernel_rfl) (fun _ _ _ h => h) (Or.inl ⟨by rfl, ?_⟩) ?_ ?_
              rotate_left
              · intro w'
                go_simp
                with_reducible rfl
              rotate_left
              · simp only [Act.put, List.setIfInBounds_toArray, List.set_cons_zero, List.set_cons_succ, i64_w, i32_w]
                rfl
              refine take_ (i := 7) (N := some 69) (v := ?_) (a' := ?_) #[true, true, true, true, true, true, true, true, false, false, false, false, false, false, false, false, false, false] rfl rfl (by kernel_rfl) (fun _ _ _ h => h) (Or.inl ⟨by rfl, ?_⟩) hHeld ?_ ?_
              rotate_left
              · rintro w' ⟨s0, s1, s2⟩
                go_simp
                with_reducible rfl
              rotate_left
              · simp only [Act.put, List.setIfInBounds_toArray, List.set_cons_zero, List.set_cons_succ, i64_w, i32_w]
                rfl
              refine pure_ (i := 8) (N := some 70) (v := ?_) (a' := ?_) #[true, true, true, true, true, true, true, true, true, false, false, false, false, false, false, false, false, false] rfl rfl (by kernel_rfl) (fun _ _ _ h => h) (Or.inl ⟨by rfl, ?_⟩) ?_ ?_
              rotate_left
              · intro w'
                go_simp
                with_reducible rfl
              rotate_left
              · simp only [Act.put, List.setIfInBounds_toArray, List.set_cons_zero, List.set_cons_succ, i64_w, i32_w]
                rfl
              refine pure_ (i := 9) (N := some 71) (v := ?_) (a' := ?_) #[true, true, true, true, true, true, true, true, true, true, false, false, false, false, false, false, false, false] rfl rfl (by kernel_rfl) (fun _ _ _ h => h) (Or.inl ⟨by rfl, ?_⟩) ?_ ?_
              rotate_left
              · intro w'
                go_simp
                with_reducible rfl
              rotate_left
              · simp only [Act.put, List.setIfInBounds_toArray, List.set_cons_zero, List.set_cons_succ, i64_w, i32_w]
                rfl
              refine pure_ (i := 10) (N := some 72) (v := ?_) (a' := ?_) #[true, true, true, true, true, true, true, true, true, true, true, false, false, false, false, false, false, false] rfl rfl (by kernel_rfl) (fun _ _ _ h => h) (Or.inl ⟨by rfl, ?_⟩) ?_ ?_
              rotate_left
              · intro w'
                go_simp
                with_reducible rfl
              rotate_left
              · simp only [Act.put, List.setIfInBounds_toArray, List.set_cons_zero, List.set_cons_succ, i64_w, i32_w]
                rfl
              refine pure_ (i := 11) (N := some 73) (v := ?_) (a' := ?_) #[true, true, true, true, true, true, true, true, true, true, true, true, false, false, false, false, false, false] rfl rfl (by kernel_rfl) (fun _ _ _ h => h) (Or.inl ⟨by rfl, ?_⟩) ?_ ?_
              rotate_left
              · intro w'
                go_simp
                with_reducible rfl
              rotate_left
              · simp only [Act.put, List.setIfInBounds_toArray, List.set_cons_zero, List.set_cons_succ, i64_w, i32_w]
                rfl
              refine pure_ (i := 12) (N := some 74) (v := undef) (a' := ?_) #[true, true, true, true, true, true, true, true, true, true, true, true, true, false, false, false, false, false] rfl rfl (by kernel_rfl) (fun _ _ _ h => h) (Or.inr ⟨by rfl, rfl⟩) ?_ ?_
              rotate_left
              · simp only [Act.put, List.setIfInBounds_toArray, List.set_cons_zero, List.set_cons_succ, i64_w, i32_w]
                rfl
              refine pure_ (i := 13) (N := some 75) (v := undef) (a' := ?_) #[true, true, true, true, true, true, true, true, true, true, true, true, true, true, false, false, false, false] rfl rfl (by kernel_rfl) (fun _ _ _ h => h) (Or.inr ⟨by rfl, rfl⟩) ?_ ?_
              rotate_left
              · simp only [Act.put, List.setIfInBounds_toArray, List.set_cons_zero, List.set_cons_succ, i64_w, i32_w]
                rfl
              refine pure_ (i := 14) (N := some 76) (v := undef) (a' := ?_) #[true, true, true, true, true, true, true, true, true, true, true, true, true, true, true, false, false, false] rfl rfl (by kernel_rfl) (fun _ _ _ h => h) (Or.inr ⟨by rfl, rfl⟩) ?_ ?_
              rotate_left
              · simp only [Act.put, List.setIfInBounds_toArray, List.set_cons_zero, List.set_cons_succ, i64_w, i32_w]
                rfl
              refine pure_ (i := 15) (N := some 77) (v := ?_) (a' := ?_) #[true, true, true, true, true, true, true, true, true, true, true, true, true, true, true, true, false, false] rfl rfl (by kernel_rfl) (fun _ _ _ h => h) (Or.inl ⟨by rfl, ?_⟩) ?_ ?_
              rotate_left
              · intro w'
                go_simp
                with_reducible rfl
              rotate_left
              · simp only [Act.put, List.setIfInBounds_toArray, List.set_cons_zero, List.set_cons_succ, i64_w, i32_w]
                rfl
              refine pure_ (i := 16) (N := some 2) (v := ?_) (a' := ?_) #[true, true, true, true, true, true, true, true, true, true, true, true, true, true, true, true, true, false] rfl rfl (by kernel_rfl) (fun _ _ _ h => h) (Or.inl ⟨by rfl, ?_⟩) ?_ ?_
              rotate_left
              · intro w'
                go_simp
                with_reducible rfl
              rotate_left
              · simp only [Act.put, List.setIfInBounds_toArray, List.set_cons_zero, List.set_cons_succ, i64_w, i32_w]
                rfl
              refine pure_ (i := 17) (N := some 3) (v := ?_) (a' := ?_) #[true, true, true, true, true, true, true, true, true, true, true, true, true, true, true, true, true, true] rfl rfl (by kernel_rfl) (fun _ _ _ h => h) (Or.inl ⟨by rfl, ?_⟩) ?_ ?_
              rotate_left
              · intro w'
                go_simp
                with_reducible rfl
              rotate_left
              · simp only [Act.put, List.setIfInBounds_toArray, List.set_cons_zero, List.set_cons_succ, i64_w, i32_w]
                rfl
              refine done_ (by kernel_rfl) ?_

              go_wp2_with fail
              go_ret2
              exact ⟨rfl, B1.out.lt⟩
          · have e1 : (n == 0) = false := beq_eq_false_iff_ne.2 hn
            rw [decide_eq_false hn, Bool.false_and, Bool.false_and]
            clear hn HD SZ
            go_enter Tryz.func69, Tryz.ntmps69
            obtain ⟨z0, z1, z2⟩ := cells3 B0.out.tb
            go_wp2_with fail
            clear z0 z1 z2
            have B1 := Aside0.mk (B0.out.l (Lt.refl _).d1)
            refine start_ (n := 18) (S := fun w' => w'.cell? ⟨w.heap.size, 0, none⟩ = some (.int .u8 4) ∧ w'.cell? ⟨w.heap.size, 1, none⟩ = some (.string s) ∧ w'.cell? ⟨w.heap.size, 2, none⟩ = some (.int .i64 n)) (ds := []) #[false, false, false, false, false, false, false, false, false, false, false, false, false, false, false, false, false, false] (by kernel_rfl) rfl rfl ⟨(cells3 B1.out.tb).1, (cells3 B1.out.tb).2.1, (cells3 B1.out.tb).2.2⟩ (fun hHeld => ?_)
            refine pure_ (i := 0) (N := some 62) (v := ?_) (a' := ?_) #[true, false, false, false, false, false, false, false, false, false, false, false, false, false, false, false, false, false] rfl rfl (by kernel_rfl) (fun _ _ _ h => h) (Or.inl ⟨by rfl, ?_⟩) ?_ ?_
            rotate_left
            · intro w'
              go_simp
              with_reducible rfl
            rotate_left
            · simp only [Act.put, List.setIfInBounds_toArray, List.set_cons_zero, List.set_cons_succ, i64_w, i32_w]
              rfl
            refine pure_ (i := 2) (N := some 64) (v := ?_) (a' := ?_) #[true, false, true, false, false, false, false, false, false, false, false, false, false, false, false, false, false, false] rfl rfl (by kernel_rfl) (fun _ _ _ h => h) (Or.inl ⟨by rfl, ?_⟩) ?_ ?_
            rotate_left
            · intro w'
              go_simp
              with_reducible rfl
            rotate_left
            · simp only [Act.put, List.setIfInBounds_toArray, List.set_cons_zero, List.set_cons_succ, i64_w, i32_w]
              rfl
            refine take_ (i := 1) (N := some 63) (v := ?_) (a' := ?_) #[true, true, true, false, false, false, false, false, false, false, false, false, false, false, false, false, false, false] rfl rfl (by kernel_rfl) (fun _ _ _ h => h) (Or.inl ⟨by rfl, ?_⟩) hHeld ?_ ?_
            rotate_left
            · rintro w' ⟨s0, s1, s2⟩
              go_simp
              with_reducible rfl
            rotate_left
            · simp only [Act.put, List.setIfInBounds_toArray, List.set_cons_zero, List.set_cons_succ, i64_w, i32_w]
              rfl
            refine take_ (i := 3) (N := some 65) (v := ?_) (a' := ?_) #[true, true, true, true, false, false, false, false, false, false, false, false, false, false, false, false, false, false] rfl rfl (by kernel_rfl) (fun _ _ _ h => h) (Or.inl ⟨by rfl, ?_⟩) hHeld ?_ ?_
            rotate_left
            · rintro w' ⟨s0, s1, s2⟩
              go_simp
              with_reducible rfl
            rotate_left
            · simp only [Act.put, List.setIfInBounds_toArray, List.set_cons_zero, List.set_cons_succ, i64_w, i32_w]
              rfl
            refine pure_ (i := 4) (N := some 66) (v := ?_) (a' := ?_) #[true, true, true, true, true, false, false, false, false, false, false, false, false, false, false, false, false, false] rfl rfl (by kernel_rfl) (fun _ _ _ h => h) (Or.inl ⟨by rfl, ?_⟩) ?_ ?_
            rotate_left
            · intro w'
              go_simp
              with_reducible rfl
            rotate_left
            · simp only [Act.put, List.setIfInBounds_toArray, List.set_cons_zero, List.set_cons_succ, i64_w, i32_w]
              rfl
            refine pure_ (i := 5) (N := some 67) (v := ?_) (a' := ?_) #[true, true, true, true, true, true, false, false, false, false, false, false, false, false, false, false, false, false] rfl rfl (by kernel_rfl) (fun _ _ _ h => h) (Or.inl ⟨by rfl, ?_⟩) ?_ ?_
            rotate_left
            · intro w'
              go_simp
              with_reducible rfl
            rotate_left
            · simp only [Act.put, List.setIfInBounds_toArray, List.set_cons_zero, List.set_cons_succ, i64_w, i32_w]
              rfl
            refine pure_ (i := 6) (N := some 68) (v := undef) (a' := ?_) #[true, true, true, true, true, true, true, false, false, false, false, false, false, false, false, false, false, false] rfl rfl (by kernel_rfl) (fun _ _ _ h => h) (Or.inr ⟨by rfl, rfl⟩) ?_ ?_
            rotate_left
            · simp only [Act.put, List.setIfInBounds_toArray, List.set_cons_zero, List.set_cons_succ, i64_w, i32_w]
              rfl
            refine pure_ (i := 7) (N := some 69) (v := undef) (a' := ?_) #[true, true, true, true, true, true, true, true, false, false, false, false, false, false, false, false, false, false] rfl rfl (by kernel_rfl) (fun _ _ _ h => h) (Or.inr ⟨by rfl, rfl⟩) ?_ ?_
            rotate_left
            · simp only [Act.put, List.setIfInBounds_toArray, List.set_cons_zero, List.set_cons_succ, i64_w, i32_w]
              rfl
            refine pure_ (i := 8) (N := some 70) (v := undef) (a' := ?_) #[true, true, true, true, true, true, true, true, true, false, false, false, false, false, false, false, false, false] rfl rfl (by kernel_rfl) (fun _ _ _ h => h) (Or.inr ⟨by rfl, rfl⟩) ?_ ?_
            rotate_left
            · simp only [Act.put, List.setIfInBounds_toArray, List.set_cons_zero, List.set_cons_succ, i64_w, i32_w]
              rfl
            refine pure_ (i := 9) (N := some 71) (v := undef) (a' := ?_) #[true, true, true, true, true, true, true, true, true, true, false, false, false, false, false, false, false, false] rfl rfl (by kernel_rfl) (fun _ _ _ h => h) (Or.inr ⟨by rfl, rfl⟩) ?_ ?_
            rotate_left
            · simp only [Act.put, List.setIfInBounds_toArray, List.set_cons_zero, List.set_cons_succ, i64_w, i32_w]
              rfl
            refine pure_ (i := 10) (N := some 72) (v := ?_) (a' := ?_) #[true, true, true, true, true, true, true, true, true, true, true, false, false, false, false, false, false, false] rfl rfl (by kernel_rfl) (fun _ _ _ h => h) (Or.inl ⟨by rfl, ?_⟩) ?_ ?_
            rotate_left
            · intro w'
              go_simp
              with_reducible rfl
            rotate_left
            · simp only [Act.put, List.setIfInBounds_toArray, List.set_cons_zero, List.set_cons_succ, i64_w, i32_w]
              rfl
            refine pure_ (i := 11) (N := some 73) (v := ?_) (a' := ?_) #[true, true, true, true, true, true, true, true, true, true, true, true, false, false, false, false, false, false] rfl rfl (by kernel_rfl) (fun _ _ _ h => h) (Or.inl ⟨by rfl, ?_⟩) ?_ ?_
            rotate_left
            · intro w'
              go_simp
              with_reducible rfl
            rotate_left
            · simp only [Act.put, List.setIfInBounds_toArray, List.set_cons_zero, List.set_cons_succ, i64_w, i32_w]
              rfl
            refine pure_ (i := 12) (N := some 74) (v := undef) (a' := ?_) #[true, true, true, true, true, true, true, true, true, true, true, true, true, false, false, false, false, false] rfl rfl (by kernel_rfl) (fun _ _ _ h => h) (Or.inr ⟨by rfl, rfl⟩) ?_ ?_
            rotate_left
            · simp only [Act.put, List.setIfInBounds_toArray, List.set_cons_zero, List.set_cons_succ, i64_w, i32_w]
              rfl
            refine pure_ (i := 13) (N := some 75) (v := undef) (a' := ?_) #[true, true, true, true, true, true, true, true, true, true, true, true, true, true, false, false, false, false] rfl rfl (by kernel_rfl) (fun _ _ _ h => h) (Or.inr ⟨by rfl, rfl⟩) ?_ ?_
            rotate_left
            · simp only [Act.put, List.setIfInBounds_toArray, List.set_cons_zero, List.set_cons_succ, i64_w, i32_w]
              rfl
            refine pure_ (i := 14) (N := some 76) (v := undef) (a' := ?_) #[true, true, true, true, true, true, true, true, true, true, true, true, true, true, true, false, false, false] rfl rfl (by kernel_rfl) (fun _ _ _ h => h) (Or.inr ⟨by rfl, rfl⟩) ?_ ?_
            rotate_left
            · simp only [Act.put, List.setIfInBounds_toArray, List.set_cons_zero, List.set_cons_succ, i64_w, i32_w]
              rfl
            refine pure_ (i := 15) (N := some 77) (v := ?_) (a' := ?_) #[true, true, true, true, true, true, true, true, true, true, true, true, true, true, true, true, false, false] rfl rfl (by kernel_rfl) (fun _ _ _ h => h) (Or.inl ⟨by rfl, ?_⟩) ?_ ?_
            rotate_left
            · intro w'
              go_simp
              with_reducible rfl
            rotate_left
            · simp only [Act.put, List.setIfInBounds_toArray, List.set_cons_zero, List.set_cons_succ, i64_w, i32_w]
              rfl
            refine pure_ (i := 16) (N := some 2) (v := ?_) (a' := ?_) #[true, true, true, true, true, true, true, true, true, true, true, true, true, true, true, true, true, false] rfl rfl (by kernel_rfl) (fun _ _ _ h => h) (Or.inl ⟨by rfl, ?_⟩) ?_ ?_
            rotate_left
            · intro w'
              go_simp
              with_reducible rfl
            rotate_left
            · simp only [Act.put, List.setIfInBounds_toArray, List.set_cons_zero, List.set_cons_succ, i64_w, i32_w]
              rfl
            refine pure_ (i := 17) (N := some 3) (v := ?_) (a' := ?_) #[true, true, true, true, true, true, true, true, true, true, true, true, true, true, true, true, true, true] rfl rfl (by kernel_rfl) (fun _ _ _ h => h) (Or.inl ⟨by rfl, ?_⟩) ?_ ?_
            rotate_left
            · intro w'
              go_simp
              with_reducible rfl
            rotate_left
            · simp only [Act.put, List.setIfInBounds_toArray, List.set_cons_zero, List.set_cons_succ, i64_w, i32_w]
              rfl
            refine done_ (by kernel_rfl) ?_

            go_wp2_with fail
            go_ret2
            exact ⟨rfl, B1.out.lt⟩
        · have ek4 : (k == 4) = false := beq_eq_false_iff_ne.2 k4
          have hT : textT ⟨k, s, n⟩ = (nil8, false) := by
            unfold textT
            rw [if_neg k1, if_neg k2, if_neg k3, if_neg k4]
          rw [hT]
          clear hT h64 hz CF CN CR CT k1 k2 k3 k4 SZ
          go_enter Tryz.func69, Tryz.ntmps69
          obtain ⟨z0, z1, z2⟩ := cells3 B0.out.tb
          go_wp2_with fail
          go_ret2
          exact ⟨rfl, B0.out.lt⟩
end Go.Proofs.YtcinojbfjiohjaaGreatDoor.Lx
end

section
namespace Go.Proofs.YtcinojbfjiohjaaGreatDoor.Lx
open Go Go.RowKit Go.Proofs.YtcinojbfjiohjaaGreatDoor.PPrintTells Go.Proofs.YtcinojbfjiohjaaGreatDoor.Ex Go.Proofs.YtcinojbfjiohjaaGreatDoor.Civ Go.Proofs.YtcinojbfjiohjaaGreatDoorW.PrintWords Go.Proofs.YtcinojbfjiohjaaGreatDoorW.PrintLast Go.Proofs.YtcinojbfjiohjaaGreatDoorW.PrintMore
set_option linter.unusedVariables false
set_option linter.unusedSimpArgs false
/-- What a word in memory meets. -/
structure TokW (t : Tok) : Prop where
  n0 : -9223372036854775808 ≤ t.f2
  n1 : t.f2 ≤ 9223372036854775807
  sz : t.f1.size ≤ 9223372036854775807
theorem Right_calls (t : Tok) (h : TokW t) (w : World) (hC : LCal w) :
    Calls Tryz.prog 27 #[tokV t] w fun e w' => e = .returned (.bool (rightT t)) ∧ Lt w w' := by
  have CT := Aside0.mk (text_calls t ⟨h.n0, h.n1⟩ h.sz (w.alloc (tokC t)) (hC.l ((Lt.refl w).a _)))
  have hr : rightT t = (textT t).2 := rfl
  rw [hr]
  obtain ⟨s, b, hsb⟩ : ∃ s b, textT t = (s, b) := ⟨_, _, rfl⟩
  rw [hsb] at CT ⊢
  dsimp only at CT ⊢
  have HB := Aside0.mk ((Lt.refl w).a (tokC t))
  clear hsb hr hC
  go_enter Tryz.func27, Tryz.ntmps27
  go_wp2_with fail
  (with_reducible refine CT.out.mono ?_)
  rintro e w1 ⟨rfl, hl⟩
  have HB := Aside0.mk (HB.out.trans hl)
  go_wp2
  go_ret
  exact ⟨rfl, HB.out⟩
theorem del_calls (t : Tok) (h : TokW t) (w : World) (hC : LCal w) :
    Calls Tryz.prog 74 #[tokV t] w fun e w' => e = .returned (.bool (!rightT t)) ∧ Lt w w' := by
  have CT := Aside0.mk (Right_calls t h (w.alloc (tokC t)) (hC.l ((Lt.refl w).a _)))
  generalize rightT t = b at *
  have HB := Aside0.mk ((Lt.refl w).a (tokC t))
  clear hC
  go_enter Tryz.func74, Tryz.ntmps74
  go_wp2_with fail
  (with_reducible refine CT.out.mono ?_)
  rintro e w1 ⟨rfl, hl⟩
  have HB := Aside0.mk (HB.out.trans hl)
  go_wp2
  go_ret
  exact ⟨rfl, HB.out⟩
/-- A row's cells, word by word. -/
theorem tok_at {w : World} {A : Option Addr} {L : List Tok} (h : Kd.C kTk w A L.length L) (i : Nat) (hi : i < L.length) :
    ∃ ad, A = some ad ∧ w.cell? (ad.add (i * 3)) = some (.int .u8 L[i].f0) ∧ w.cell? ⟨(ad.add (i * 3)).block, (ad.add (i * 3)).off + 1, none⟩ = some (.string L[i].f1) ∧ w.cell? ⟨(ad.add (i * 3)).block, (ad.add (i * 3)).off + 2, none⟩ = some (.int .i64 L[i].f2) := by
  obtain ⟨ad, hA, e0, e1, e2⟩ := at_T51 h (i : Int) (by omega) (by omega)
  have er : rd_T51 L (i : Int) = L[i] := by
    unfold rd_T51
    rw [Int.toNat_natCast, List.getD_eq_getElem?_getD, List.getElem?_eq_getElem hi]
    rfl
  rw [er] at e0 e1 e2
  rw [Int.toNat_natCast] at e0 e1 e2
  exact ⟨ad, hA, e0, e1, e2⟩
set_option maxHeartbeats 8000000 in
set_option maxRecDepth 100000 in
/-- No word is to go. -/
theorem IndexFunc_none (L : List Tok) (A : Option Addr) (c : Nat) (w : World) (hC : LCal w) (hL : Kd.C kTk w A L.length L) (hc : L.length ≤ c) (hW : ∀ t ∈ L, TokW t) (hR : ∀ t ∈ L, rightT t = true) :
    Calls Tryz.prog 120 #[.slice A L.length c, .func (.func 74) #[] #[]] w fun e w' => e = .returned (.int .i64 (-1)) ∧ Lt w w' := by
  have eg : ∀ args w, (callFunc 74 args).run Tryz.prog w = .ok (.enter 74 args) w := fun args w => by kernel_rfl
  have hm := hL.2.1
  have HC := Aside0.mk hC
  have HL := Aside0.mk hL
  have HW := Aside0.mk hW
  have HR := Aside0.mk hR
  obtain ⟨N, hN⟩ : ∃ N, N = L.length := ⟨_, rfl⟩
  have HN := Aside0.mk hN
  rw [← hN] at hm hc ⊢
  clear hC hL hW hR hN
  go_enter Tryz.func120, Tryz.ntmps120
  go_wp2_with fail
  go_loopw [8] (fun i wr => ∃ k : Nat, k ≤ N ∧ i = .int .i64 (k : Int) ∧ Lt w wr) (fun i _ => N - (intOf i).toNat)
  case atStart => exact ⟨0, Nat.zero_le _, rfl, Lt.refl _⟩
  case round =>
    obtain ⟨k, hk, rfl, hlt⟩ := hrel
    have HT := Aside0.mk hlt
    clear hlt
    by_cases hkn : k < N
    · have h1 : (k : Int) < (N : Int) := by omega
      have h2 : decide ((k : Int) < (N : Int)) = true := decide_eq_true h1
      obtain ⟨ad, rfl, c0, c1, c2⟩ := tok_at HL.out k (by have := HN.out; omega)
      have hmem : L[k]'(by have := HN.out; omega) ∈ L := List.getElem_mem _
      obtain ⟨t, ht⟩ : ∃ t, t = L[k]'(by have := HN.out; omega) := ⟨_, rfl⟩
      rw [← ht] at c0 c1 c2 hmem
      have d0 := cell_lt HT.out c0
      have d1 := cell_lt HT.out c1
      have d2 := cell_lt HT.out c2
      have CD := Aside0.mk (del_calls t (HW.out t hmem) wr (HC.out.l HT.out))
      rw [HR.out t hmem] at CD
      clear c0 c1 c2 ht hmem
      go_wp2_with fail
      (with_reducible refine CD.out.mono ?_)
      rintro e w1 ⟨rfl, hl⟩
      have HT := Aside0.mk (HT.out.trans hl)
      clear hl CD d0 d1 d2
      go_wp2
      go_roundw
      case rel => exact ⟨k + 1, by omega, by go_num, HT.out⟩
      case measure => simp [intOf]; omega
    · obtain rfl : k = N := by omega
      have h1 : ¬ (k : Int) < (k : Int) := by omega
      have h2 : decide ((k : Int) < (k : Int)) = false := decide_eq_false h1
      go_wp2_with fail
      go_ret
      exact ⟨rfl, HT.out⟩
theorem DeleteFunc_none (L : List Tok) (A : Option Addr) (c : Nat) (w : World) (hC : LCal w) (hL : Kd.C kTk w A L.length L) (hc : L.length ≤ c) (hW : ∀ t ∈ L, TokW t) (hR : ∀ t ∈ L, rightT t = true) :
    Calls Tryz.prog 72 #[.slice A L.length c, .func (.func 74) #[] #[]] w fun e w' => e = .returned (.slice A L.length c) ∧ Lt w w' := by
  have CI := Aside0.mk (IndexFunc_none L A c w hC hL hc hW hR)
  generalize L.length = N at *
  clear hC hL hW hR
  go_enter Tryz.func72, Tryz.ntmps72
  go_wp2_with fail
  (with_reducible refine CI.out.mono ?_)
  rintro e w1 ⟨rfl, hl⟩
  go_wp2
  go_ret
  exact ⟨rfl, hl⟩
theorem own_litT (W : World) (base : Nat) (hb : base ≤ W.heap.size) : OwnRow (kTk.M (W.alloc (.cells #[] TT)) base (fun k => True ∧ some k ≠ (Value.slice (some ⟨W.heap.size, 0, none⟩) 0 0).ownBlock)) TT 3 (W.alloc (.cells #[] TT)) base (.slice (some ⟨W.heap.size, 0, none⟩) 0 0) [] :=
  OwnRow.lit W base (inner := []) (ps := ([] : List Tok)) (Reps.none _ _) hb (by simp)
set_option maxHeartbeats 8000000 in
set_option maxRecDepth 100000 in
/-- A row's copy. -/
theorem Clone_calls (L : List Tok) (A : Option Addr) (c : Nat) (w : World) (hL : Kd.C kTk w A L.length L) (hc : L.length ≤ c) (hm : L.length ≤ 1099511627776) :
    Calls Tryz.prog 73 #[.slice A L.length c] w fun e w' => ∃ v, e = .returned v ∧ Kd.R kTk TT w' w.heap.size (fun _ => True) v L ∧ Lt w w' := by
  have HL := Aside0.mk hL
  obtain ⟨N, hN⟩ : ∃ N, N = L.length := ⟨_, rfl⟩
  have HN := Aside0.mk hN
  have hz : A = none → L = [] := fun h => by
    rcases Nat.eq_zero_or_pos L.length with h0 | h0
    · exact List.eq_nil_of_length_eq_zero h0
    · obtain ⟨ad, hA, _⟩ := tok_at hL 0 h0
      rw [h] at hA
      cases hA
  rw [← hN] at hm hc HL ⊢
  clear hL hN
  cases A with
  | none =>
    have h0 := hz rfl
    subst h0
    obtain rfl : N = 0 := HN.out
    clear hz HL
    have eN : ∀ W : World, (binOp .eql 32 (.slice none 0 c) (.slice none 0 0)).run Tryz.prog W = .ok (.bool true) W := fun W => Lib.run_eql_slice_nil W _ _ none 0 c 0 0 Tryz.underlying32
    go_enter Tryz.func73, Tryz.ntmps73
    go_wp2_with fail
    go_ret
    exact ⟨_, rfl, Kd.R_nil _ _ _ _ _, Lt.refl _⟩
  | some ad =>
    clear hz
    have eN : ∀ W : World, (binOp .eql 32 (.slice (some ad) N c) (.slice none 0 0)).run Tryz.prog W = .ok (.bool false) W := fun W => Lib.run_eql_slice_nil W _ _ (some ad) N c 0 0 Tryz.underlying32
    go_enter Tryz.func73, Tryz.ntmps73
    go_wp2_with ((with_reducible refine gate_builtin (b := .append) (xs := #[.tmp 5, .tmp 6]) rfl ?_); at_builtin; refine Kd.R_append_rows kTk (w0 := w) w.heap.size rfl (.tmp 5) (.tmp 6) 32 TT (.agg #[.int .u8 0, .string nil8, .int .i64 0]) 32 rfl Tryz.underlying32 info_tkz rfl (by decide) (by omega) (.slice (some ⟨w.heap.size, 0, none⟩) 0 0) ([] : List Tok) L (some ad) N c (fun _ => True) (fun _ => False) rfl rfl ⟨fun _ _ => trivial, own_litT _ _ (Nat.le_refl _)⟩ (Kd.C_below HL.out (below_alloc (Below.refl _ _) _)) (fun y cs hk => by rw [k51_open hk]; exact k51_mkM _ _ _ y) (fun _ hk => hk.elim) (fun _ _ => trivial) (below_alloc (Below.refl _ _) _) (below_alloc (Below.refl _ _) _).size (by rw [List.length_nil]; omega) ?_; intro v1 wa ho hb hg hat; rw [List.nil_append] at ho; have HO := Aside0.mk ho; have HB := Aside0.mk (Lt.mk hb); clear ho hb hg hat)
    go_ret
    exact ⟨_, rfl, HO.out, HB.out⟩
end Go.Proofs.YtcinojbfjiohjaaGreatDoor.Lx
end

section
namespace Go.Proofs.YtcinojbfjiohjaaGreatDoor.Lx
open Go Go.RowKit Go.Proofs.YtcinojbfjiohjaaGreatDoor.PPrintTells Go.Proofs.YtcinojbfjiohjaaGreatDoor.Ex Go.Proofs.YtcinojbfjiohjaaGreatDoor.Civ Go.Proofs.YtcinojbfjiohjaaGreatDoorW.PrintWords Go.Proofs.YtcinojbfjiohjaaGreatDoorW.PrintLast Go.Proofs.YtcinojbfjiohjaaGreatDoorW.PrintMore
set_option linter.unusedVariables false
set_option linter.unusedSimpArgs false
abbrev kS : Kd ByteArray := Kd.string
abbrev SS : TypeId := 9
abbrev BLK : ByteArray := ⟨#[32]⟩
/-- The texts of words, a blank between. -/
def textL (L : List Tok) : ByteArray := toB (Lib.join (L.map (fun t => (textT t).1.data.toList)) [32])
theorem str_at {w : World} {A : Option Addr} {X : List ByteArray} (h : Kd.C kS w A X.length X) (i : Nat) (hi : i < X.length) : ∃ ad, A = some ad ∧ w.cell? (ad.add i) = some (.string X[i]) := by
  obtain ⟨ad, c, hA, hl, hK, hc⟩ := Kd.C_get h nil8 (i : Int) (by omega) (by omega)
  have e : X.getD (i : Int).toNat nil8 = X[i] := by
    rw [Int.toNat_natCast, List.getD_eq_getElem?_getD, List.getElem?_eq_getElem hi]
    rfl
  rw [e] at hK
  have hc0 : c = [.string X[i]] := hK
  subst hc0
  have h1 := hc 0 _ rfl
  rw [Int.toNat_natCast] at h1
  refine ⟨ad, hA, ?_⟩
  have e2 : i * kS.sz + 0 = i := by show i * 1 + 0 = i; omega
  rw [e2] at h1
  exact h1
theorem joined_calls (X : List ByteArray) (A : Option Addr) (c : Nat) (w : World) (hX : Kd.R kS SS w 0 (fun _ => True) (.slice A X.length c) X) (hN : X.length ≤ 140737488355328) (hlen : (Lib.join (X.map (·.data.toList)) [32]).length ≤ 140737488355328) :
    Calls Tryz.prog 75 #[.slice A X.length c] w fun e w' => e = .returned (.string (toB (Lib.join (X.map (·.data.toList)) [32]))) ∧ Lt w w' := by
  have hJ : Calls Tryz.prog 121 #[.slice A X.length c, .string BLK] w fun e w' => e = .returned (.string (toB (Lib.join (X.map (·.data.toList)) [32]))) ∧ Lt w w' := by
    obtain ⟨_, hc, hC⟩ := Kd.R_reads' hX
    rcases Nat.eq_zero_or_pos X.length with h0 | h0
    · obtain rfl : X = [] := List.eq_nil_of_length_eq_zero h0
      exact (Tryz.strings_Join_none A c BLK w).mono fun e w' ⟨he, hw⟩ => ⟨he, hw ▸ Lt.refl _⟩
    · obtain ⟨g, cap, hv, _, hg, _⟩ := Kd.R_form hX h0
      injection hv with hA _ hcc
      subst hA
      subst hcc
      refine (Tryz.strings_Join g 0 c X BLK w (fun k x hk => ?_) hg hN hc hlen).mono fun e w' ⟨he, hw⟩ => ⟨he, ⟨hw⟩⟩
      obtain ⟨hi, rfl⟩ := List.getElem?_eq_some_iff.1 hk
      obtain ⟨ad, hA, h1⟩ := str_at hC k hi
      obtain rfl := Option.some.inj hA
      by_cases hk0 : k = 0
      · subst hk0
        simpa [Addr.add] using h1
      · simpa [Addr.add, hk0] using h1
  generalize toB (Lib.join (X.map (·.data.toList)) [32]) = T at *
  generalize X.length = N at *
  have HJ := Aside0.mk hJ
  clear hJ hX hN hlen
  go_enter Tryz.func75, Tryz.ntmps75
  go_wp2_with fail
  (with_reducible refine HJ.out.mono ?_)
  rintro e w1 ⟨rfl, hl⟩
  go_wp2
  go_ret
  exact ⟨rfl, hl⟩
/-- A right word's text is short. -/
theorem right_short {t : Tok} (h : TokW t) (hR : rightT t = true) : (textT t).1.size ≤ 300 := by
  have hR : (textT t).2 = true := hR
  obtain ⟨k, s, n⟩ := t
  unfold textT at hR ⊢
  dsimp only at hR ⊢
  by_cases k1 : k = 1
  · rw [if_pos k1] at hR ⊢
    simp only [Bool.and_eq_true] at hR
    have h1 := hR.1.1
    have hs : s.size = s.data.toList.length := (Array.length_toList).symm
    cases hL : s.data.toList with
    | nil => rw [hL] at hs; dsimp only; rw [hs]; simp
    | cons b l =>
      rw [hL] at h1 hs
      unfold namedL at h1
      simp only [Bool.and_eq_true, decide_eq_true_eq] at h1
      rw [List.length_cons] at hs
      dsimp only
      omega
  · rw [if_neg k1] at hR ⊢
    by_cases k2 : k = 2
    · rw [if_pos k2]
      show (Lib.itoa n).toArray.size ≤ 300
      rw [List.size_toArray]
      have h0 := h.n0
      have h1 := h.n1
      have hd := decDigits_len 20
      unfold Lib.itoa
      split
      · have := hd n.natAbs (by dsimp only at h0; omega) (by omega)
        rw [List.length_cons]
        omega
      · have := hd n.toNat (by dsimp only at h1; omega) (by omega)
        omega
    · rw [if_neg k2] at hR ⊢
      by_cases k3 : k = 3
      · rw [if_pos k3]
        have := textF_size n
        dsimp only
        rw [ByteArray.size_append]
        show 1 + _ ≤ 300
        omega
      · rw [if_neg k3] at hR ⊢
        by_cases k4 : k = 4
        · rw [if_pos k4] at hR ⊢
          simp only [Bool.and_eq_true, decide_eq_true_eq] at hR
          dsimp only
          omega
        · rw [if_neg k4]
          exact Nat.zero_le _
theorem joinTail_len (X : List (List UInt8)) (h : ∀ x ∈ X, x.length ≤ 300) : (Lib.joinTail [32] X).length ≤ 301 * X.length := by
  induction X with
  | nil => exact Nat.zero_le _
  | cons x X ih =>
    have h1 := h x (by simp)
    have h2 := ih (fun y hy => h y (by simp [hy]))
    unfold Lib.joinTail at h2 ⊢
    rw [List.map_cons, List.flatten_cons, List.length_append, List.length_append, List.length_cons]
    simp only [List.length_cons, List.length_nil]
    omega
theorem join_len (X : List (List UInt8)) (h : ∀ x ∈ X, x.length ≤ 300) : (Lib.join X [32]).length ≤ 301 * X.length := by
  cases X with
  | nil => exact Nat.zero_le _
  | cons x X =>
    rw [Lib.join_cons, List.length_append]
    have h1 := h x (by simp)
    have h2 := joinTail_len X (fun y hy => h y (by simp [hy]))
    rw [List.length_cons]
    omega
theorem info_str : (Tryz.prog.info? SS).map (fun i => (i.zero, i.size, i.bytes)) = some (some (.string nil8), 1, 16) := by kernel_rfl
set_option maxHeartbeats 16000000 in
set_option maxRecDepth 100000 in
theorem Text_right (L : List Tok) (A : Option Addr) (c : Nat) (w : World) (hC : LCal w) (hL : Kd.C kTk w A L.length L) (hc : L.length ≤ c) (hm : L.length ≤ 4294967296) (hW : ∀ t ∈ L, TokW t) (hR : ∀ t ∈ L, rightT t = true) :
    Calls Tryz.prog 30 #[.slice A L.length c] w fun e w' => e = .returned (.string (textL L)) ∧ Lt w w' := by
  have CC := Aside0.mk (Clone_calls L A c w hL hc (by omega))
  have HC := Aside0.mk hC
  have HW := Aside0.mk hW
  have HR := Aside0.mk hR
  have CD := fun B d W h1 h2 h3 => Aside0.mk (DeleteFunc_none L B d W h1 h2 h3 hW hR)
  have HJ := Aside0.mk (show (Lib.join (L.map (fun t => (textT t).1.data.toList)) [32]).length ≤ 140737488355328 from by
    have h := join_len (L.map (fun t => (textT t).1.data.toList)) (fun x hx => by
      obtain ⟨t, ht, rfl⟩ := List.mem_map.1 hx
      have := right_short (hW t ht) (hR t ht)
      rw [Array.length_toList]
      exact this)
    rw [List.length_map] at h
    omega)
  obtain ⟨N, hN⟩ : ∃ N, N = L.length := ⟨_, rfl⟩
  have HN := Aside0.mk hN
  rw [← hN] at hm hc CC CD ⊢
  clear hC hL hW hR hN
  go_enter Tryz.func30, Tryz.ntmps30
  go_wp2_with fail
  (with_reducible refine CC.out.mono ?_)
  rintro e w1 ⟨v, rfl, ho, hl⟩
  obtain ⟨B, d, rfl, hd, hCC⟩ := Kd.R_reads ho
  rw [← HN.out] at hd hCC ⊢
  have HK := Aside0.mk hCC
  have HT := Aside0.mk hl
  clear ho hl hCC CC
  go_wp2_with fail
  (with_reducible refine (CD _ _ _ (HC.out.l HT.out) HK.out hd).out.mono ?_)
  rintro e w2 ⟨rfl, hl⟩
  have HK := Aside0.mk (Kd.C_below HK.out hl.out)
  have HT := Aside0.mk (HT.out.trans hl)
  clear hl CD
  go_wp2_with fail
  go_loopw [3, 12] (fun v i wr => ∃ k : Nat, k ≤ N ∧ i = .int .i64 (k : Int) ∧ Lt w2 wr ∧ Kd.R kS SS wr w2.heap.size (fun _ => True) v ((L.take k).map fun t => (textT t).1)) (fun _ i _ => N - (intOf i).toNat)
  case atStart => exact ⟨0, Nat.zero_le _, rfl, Lt.refl _, Kd.R_nil _ _ _ _ _⟩
  case round =>
    obtain ⟨k, hk, rfl, hlt2, hr⟩ := hrel
    have HT0 := HT
    have HT := Aside0.mk (HT.out.trans hlt2)
    have HT2 := Aside0.mk hlt2
    have HRR := Aside0.mk hr
    obtain ⟨Av, cv, rfl⟩ := Kd.R_slice hr
    clear hlt2 hr
    obtain ⟨M, hM⟩ : ∃ M, M = ((L.take k).map fun t => (textT t).1).length := ⟨_, rfl⟩
    have hMk : M = k := by rw [hM, List.length_map, List.length_take, ← HN.out, Nat.min_eq_left hk]
    rw [← hM] at HRR ⊢
    have HMK := Aside0.mk hMk
    clear hM hMk
    by_cases hkn : k < N
    · have h1 : (k : Int) < (N : Int) := by omega
      have h2 : decide ((k : Int) < (N : Int)) = true := decide_eq_true h1
      obtain ⟨ad, rfl, c0, c1, c2⟩ := tok_at (by rw [← HN.out]; exact HK.out) k (by have := HN.out; omega)
      have hmem : L[k]'(by have := HN.out; omega) ∈ L := List.getElem_mem _
      have htk : (L.take (k + 1)).map (fun t => (textT t).1) = (L.take k).map (fun t => (textT t).1) ++ [(textT (L[k]'(by have := HN.out; omega))).1] := by
        rw [List.take_succ_eq_append_getElem (by have := HN.out; omega), List.map_append]
        rfl
      obtain ⟨t, ht⟩ : ∃ t, t = L[k]'(by have := HN.out; omega) := ⟨_, rfl⟩
      rw [← ht] at c0 c1 c2 hmem htk
      have d0 := cell_lt HT2.out c0
      have d1 := cell_lt HT2.out c1
      have d2 := cell_lt HT2.out c2
      have CT := Aside0.mk (text_calls t ⟨(HW.out t hmem).n0, (HW.out t hmem).n1⟩ (HW.out t hmem).sz (wr.alloc (tokC t)) (HC.out.l (HT.out.a _)))
      have HTK := Aside0.mk htk
      obtain ⟨tx, b, htx⟩ : ∃ tx b, textT t = (tx, b) := ⟨_, _, rfl⟩
      rw [htx] at CT HTK
      dsimp only at CT HTK
      clear c0 c1 c2 ht hmem htk htx
      go_wp2_with fail
      (with_reducible refine CT.out.mono ?_)
      rintro e w3 ⟨rfl, hl⟩
      have HRR := Aside0.mk (Kd.R_below HRR.out (((Lt.refl _).a (tokC t)).trans hl).out)
      have HT := Aside0.mk ((HT.out.a (tokC t)).trans hl)
      have HT2 := Aside0.mk ((HT2.out.a (tokC t)).trans hl)
      clear hl CT d0 d1 d2
      go_wp2_with ((with_reducible refine gate_builtin (b := .append) (xs := #[.tmp 21, .tmp 23]) rfl ?_); at_builtin; refine Kd.R_append kS (w0 := w2) w2.heap.size rfl (.tmp 21) (.tmp 23) 38 SS (.string nil8) 16 rfl Tryz.underlying38 info_str rfl (by decide) (by omega) (.slice Av M cv) ((L.take k).map fun t => (textT t).1) tx [.string tx] (fun _ => True) (fun _ => False) rfl rfl ?aP (fun _ hk => hk.elim) ?aF ?aO ?aB ?aS ?aL ?_; (case aP => exact rfl); (case aF => exact fun _ _ => trivial); (case aO => exact HRR.out); (case aB => exact HT2.out.out); (case aS => exact HT2.out.out.size); (case aL => rw [List.length_map, List.length_take, ← HN.out, Nat.min_eq_left hk]; omega); intro v1 wa ho hb hg hat; have HO := Aside0.mk ho; have HT2 := Aside0.mk (Lt.mk hb); clear ho hb hg hat)
      go_roundw
      case rel => exact ⟨k + 1, by omega, by go_num, HT2.out, by rw [HTK.out]; exact HO.out⟩
      case measure => simp [intOf]; omega
    · obtain rfl : k = N := by omega
      have h1 : ¬ (k : Int) < (k : Int) := by omega
      have h2 : decide ((k : Int) < (k : Int)) = false := decide_eq_false h1
      have hall : L.take k = L := by rw [HN.out, List.take_length]
      rw [hall] at HRR
      have CJ := Aside0.mk (joined_calls (L.map fun t => (textT t).1) Av cv wr (by rw [List.length_map, ← HN.out, ← HMK.out]; exact Kd.R_lower HRR.out (Nat.zero_le _)) (by rw [List.length_map, ← HN.out]; omega) (by rw [List.map_map]; exact HJ.out))
      have eL : (L.map fun t => (textT t).1).length = M := by rw [List.length_map, ← HN.out, HMK.out]
      rw [eL, List.map_map] at CJ
      have eT : toB (Lib.join (L.map ((fun x => x.data.toList) ∘ fun t => (textT t).1)) [32]) = textL L := rfl
      rw [eT] at CJ
      clear hall eL eT HRR
      go_wp2_with fail
      (with_reducible refine CJ.out.mono ?_)
      rintro e w3 ⟨rfl, hl⟩
      go_wp2
      go_ret
      exact ⟨rfl, HT.out.trans hl⟩
end Go.Proofs.YtcinojbfjiohjaaGreatDoor.Lx
end

section
namespace Go.Proofs.YtcinojbfjiohjaaGreatDoor.PPrintTells
open Go.RowKit Go.Proofs.YtcinojbfjiohjaaGreatDoorW.PrintWords Go.Proofs.YtcinojbfjiohjaaGreatDoorW.PrintLast Go.Proofs.YtcinojbfjiohjaaGreatDoorW.PrintMore
attribute [local go_sem] max2_int min2_int max_two min_two max_three min_three max_four min_four   -- for this text's walks alone
set_option linter.unusedVariables false
set_option linter.unusedSimpArgs false
theorem eqA51 (d : Nat) (w : World) (x0 y0 : Int) (x1 y1 : ByteArray) (x2 y2 : Int) :
    (Op.equalIn (d + 2) 51 (.agg #[.int .u8 x0, .string x1, .int .i64 x2]) (.agg #[.int .u8 y0, .string y1, .int .i64 y2])).run Tryz.prog w = .ok (x0 == y0 && (x1.toList == y1.toList && (x2 == y2))) w := by
  refine eqA_of Tryz.underlying51 (by kernel_rfl) ?_
  refine eqf_cons (by rfl) (by go_simp; rfl) (by go_simp; rfl) (by go_simp) ?_
  refine eqf_cons (by rfl) (by go_simp; rfl) (by go_simp; rfl) (by go_simp) ?_
  exact eqf_last (by rfl) (by go_simp; rfl) (by go_simp; rfl) (by go_simp)
end Go.Proofs.YtcinojbfjiohjaaGreatDoor.PPrintTells
end

section
namespace Go.Proofs.YtcinojbfjiohjaaGreatDoor.PPrintTells
open Go.RowKit Go.Proofs.YtcinojbfjiohjaaGreatDoorW.PrintWords Go.Proofs.YtcinojbfjiohjaaGreatDoorW.PrintLast Go.Proofs.YtcinojbfjiohjaaGreatDoorW.PrintMore
attribute [local go_sem] max2_int min2_int max_two min_two max_three min_three max_four min_four   -- for this text's walks alone
set_option linter.unusedVariables false
set_option linter.unusedSimpArgs false
attribute [local go_sem high] eqA51
def epactlaw10_Same.l0 : Nat → List (S51) → List (S51) → Int → Int → Option (Bool)
  | 0, _, _, _, _ => none
  | k + 1, x0, x1, x12, x13 => if x13 < x12 then (if 0 ≤ x13 then (if x13 < (x0.length : Int) then (if x13 < (x1.length : Int) then (if (!(((rd_T51 x0 x13).f0) == ((rd_T51 x1 x13).f0)) || (!((((rd_T51 x0 x13).f1).toList) == (((rd_T51 x1 x13).f1).toList)) || (!(((rd_T51 x0 x13).f2) == ((rd_T51 x1 x13).f2))))) = true then (some false) else (epactlaw10_Same.l0 k x0 x1 x12 (wrap64 (x13 + 1)))) else (none)) else (none)) else (none)) else (some true)
def epactlaw10_Same.f (k : Nat) (l0 : List (S51)) (l1 : List (S51)) : Option (Bool) := if (l0.length : Int) = (l1.length : Int) then (epactlaw10_Same.l0 k l0 l1 (l0.length : Int) 0) else (some false)
set_option maxHeartbeats 8000000 in
set_option maxRecDepth 100000 in
theorem epactlaw10_Same.calls (k : Nat) (A0 : Option Addr) (c0 : Nat) (l0 : List (S51)) (A1 : Option Addr) (c1 : Nat) (l1 : List (S51)) (r : Bool) (w : World) (hr0 : Kd.C k51 w A0 l0.length l0) (hc0 : l0.length ≤ c0) (hr1 : Kd.C k51 w A1 l1.length l1) (hc1 : l1.length ≤ c1) (h : epactlaw10_Same.f k l0 l1 = some r) :
    Calls Tryz.prog 29 #[.slice A0 l0.length c0, .slice A1 l1.length c1] w fun e w' => e = .returned (.bool r) ∧ Drawn0 w w' := by
  have hu51 := Tryz.underlying51
  have HR0 := Aside0.mk hr0
  have HC0 := Aside0.mk hc0
  clear hr0 hc0
  have HR1 := Aside0.mk hr1
  have HC1 := Aside0.mk hc1
  clear hr1 hc1
  have H : (if (l0.length : Int) = (l1.length : Int) then (epactlaw10_Same.l0 k l0 l1 (l0.length : Int) 0) else (some false)) = some r := h
  clear h
  by_cases c3 : (l0.length : Int) = (l1.length : Int)
  · rw [if_pos c3] at H
    have c3b0 : ((l0.length : Int) == (l1.length : Int)) = true := beq_iff_eq.mpr c3
    have c3b1 : ((l0.length : Int) != (l1.length : Int)) = false := bne_eq_false_iff_eq.mpr c3
    have c3b2 : (l0.length == l1.length) = true := by first | simpa using c3 | (simp at c3 ⊢; omega)
    clear c3
    have H' := Aside0.mk H
    clear H
    go_enter Tryz.func29, Tryz.ntmps29
    go_wp2
    repeat (go_quiet (fail); try go_wp2)
    go_loopg [13] k (fun kq v13 w' => ∃ (x13_1 : Int), v13 = .int .i64 x13_1 ∧ Aside0 (epactlaw10_Same.l0 kq l0 l1 (l0.length : Int) x13_1 = some r) ∧ Aside0 (kq ≤ k) ∧ Drawn0 w w')
    case atStart => exact ⟨(0), (by first | rfl | (simp; done) | (simp [*]; done)), H', ⟨Nat.le_refl _⟩, by repeat (first | exact Drawn0.refl _ | apply Drawn0.step)⟩
    case round =>
      clear H'
      try clear c1
      try clear c2
      try clear p2
      try clear c3
      try clear c3b0
      try clear c3b1
      try clear c3b2
      obtain ⟨x13_1, rfl, HA, HK1, ⟨m1, rfl⟩⟩ := hrel
      cases gk with
      | zero => exact absurd HA.out (by simp [epactlaw10_Same.l0])
      | succ k1 =>
        have H := HA.out
        clear HA
        simp only [epactlaw10_Same.l0] at H
        by_cases c4 : x13_1 < (l0.length : Int)
        · rw [if_pos c4] at H
          have c4b0 : decide (x13_1 < (l0.length : Int)) = true := decide_eq_true c4
          clear c4
          by_cases c5 : 0 ≤ x13_1
          · rw [if_pos c5] at H
            have c5b0 : decide (0 ≤ x13_1) = true := decide_eq_true c5
            clear c5
            by_cases c6 : x13_1 < (l0.length : Int)
            · rw [if_pos c6] at H
              have c6b0 : decide (x13_1 < (l0.length : Int)) = true := decide_eq_true c6
              clear c6
              by_cases c7 : x13_1 < (l1.length : Int)
              · rw [if_pos c7] at H
                have c7b0 : decide (x13_1 < (l1.length : Int)) = true := decide_eq_true c7
                clear c7
                by_cases c8 : (!(((rd_T51 l0 x13_1).f0) == ((rd_T51 l1 x13_1).f0)) || (!((((rd_T51 l0 x13_1).f1).toList) == (((rd_T51 l1 x13_1).f1).toList)) || (!(((rd_T51 l0 x13_1).f2) == ((rd_T51 l1 x13_1).f2))))) = true
                · rw [if_pos c8] at H
                  have c8b0 : (!(((rd_T51 l0 x13_1).f0) == ((rd_T51 l1 x13_1).f0)) || (!((((rd_T51 l0 x13_1).f1).toList) == (((rd_T51 l1 x13_1).f1).toList)) || (!(((rd_T51 l0 x13_1).f2) == ((rd_T51 l1 x13_1).f2))))) = true := c8
                  clear c8
                  obtain rfl := Option.some.inj H
                  have p150 : 0 ≤ (x13_1 : Int) := of_decide_eq_true (by first | (with_reducible assumption) | assumption)
                  have q150 : x13_1 < (l0.length : Int) := of_decide_eq_true (by first | (with_reducible assumption) | assumption)
                  obtain ⟨ad150, e150, hx150_0, hx150_1, hx150_2⟩ := at_T51 HR0.out x13_1 p150 q150
                  cases e150
                  replace p150 := eq_true p150
                  replace q150 := eq_true q150
                  have p151 : 0 ≤ (x13_1 : Int) := of_decide_eq_true (by first | (with_reducible assumption) | assumption)
                  have q151 : x13_1 < (l1.length : Int) := of_decide_eq_true (by first | (with_reducible assumption) | assumption)
                  obtain ⟨ad151, e151, hx151_0, hx151_1, hx151_2⟩ := at_T51 HR1.out x13_1 p151 q151
                  cases e151
                  replace p151 := eq_true p151
                  replace q151 := eq_true q151
                  go_wp2
                  repeat (go_quiet (fail); try go_wp2)
                  go_ret
                  exact ⟨by first | rfl | (simp; done) | (simp [*]; done), by repeat (first | exact Drawn0.refl _ | apply Drawn0.step)⟩
                · rw [if_neg c8] at H
                  have c8b0 : (!(((rd_T51 l0 x13_1).f0) == ((rd_T51 l1 x13_1).f0)) || (!((((rd_T51 l0 x13_1).f1).toList) == (((rd_T51 l1 x13_1).f1).toList)) || (!(((rd_T51 l0 x13_1).f2) == ((rd_T51 l1 x13_1).f2))))) = false := by simpa using c8
                  clear c8
                  have H' := Aside0.mk H
                  clear H
                  have p150 : 0 ≤ (x13_1 : Int) := of_decide_eq_true (by first | (with_reducible assumption) | assumption)
                  have q150 : x13_1 < (l0.length : Int) := of_decide_eq_true (by first | (with_reducible assumption) | assumption)
                  obtain ⟨ad150, e150, hx150_0, hx150_1, hx150_2⟩ := at_T51 HR0.out x13_1 p150 q150
                  cases e150
                  replace p150 := eq_true p150
                  replace q150 := eq_true q150
                  have p151 : 0 ≤ (x13_1 : Int) := of_decide_eq_true (by first | (with_reducible assumption) | assumption)
                  have q151 : x13_1 < (l1.length : Int) := of_decide_eq_true (by first | (with_reducible assumption) | assumption)
                  obtain ⟨ad151, e151, hx151_0, hx151_1, hx151_2⟩ := at_T51 HR1.out x13_1 p151 q151
                  cases e151
                  replace p151 := eq_true p151
                  replace q151 := eq_true q151
                  go_wp2
                  repeat (go_quiet (fail); try go_wp2)
                  go_roundg k1
                  case measure => have := HK1.out; omega
                  case rel => exact ⟨(wrap64 (x13_1 + 1)), (by first | rfl | (simp; done) | (simp [*]; done)), H', ⟨by have := HK1.out; omega⟩, by repeat (first | exact Drawn0.refl _ | apply Drawn0.step)⟩
              · rw [if_neg c7] at H
                exact absurd H (by simp)
            · rw [if_neg c6] at H
              exact absurd H (by simp)
          · rw [if_neg c5] at H
            exact absurd H (by simp)
        · rw [if_neg c4] at H
          have c4b0 : decide (x13_1 < (l0.length : Int)) = false := decide_eq_false c4
          clear c4
          obtain rfl := Option.some.inj H
          go_wp2
          repeat (go_quiet (fail); try go_wp2)
          go_ret
          exact ⟨by first | rfl | (simp; done) | (simp [*]; done), by repeat (first | exact Drawn0.refl _ | apply Drawn0.step)⟩
  · rw [if_neg c3] at H
    have c3b0 : ((l0.length : Int) == (l1.length : Int)) = false := beq_eq_false_iff_ne.mpr c3
    have c3b1 : ((l0.length : Int) != (l1.length : Int)) = true := bne_iff_ne.mpr c3
    have c3b2 : (l0.length == l1.length) = false := by first | simpa using c3 | (simp at c3 ⊢; omega)
    obtain rfl := Option.some.inj H
    go_enter Tryz.func29, Tryz.ntmps29
    go_wp2
    repeat (go_quiet (fail); try go_wp2)
    go_ret
    exact ⟨by first | rfl | (simp; done) | (simp [*]; done), by repeat (first | exact Drawn0.refl _ | apply Drawn0.step)⟩
end Go.Proofs.YtcinojbfjiohjaaGreatDoor.PPrintTells
end

section
namespace Go.Proofs.YtcinojbfjiohjaaGreatDoor.Lx
open Go Go.RowKit Go.Proofs.YtcinojbfjiohjaaGreatDoor.PPrintTells Go.Proofs.YtcinojbfjiohjaaGreatDoor.Ex Go.Proofs.YtcinojbfjiohjaaGreatDoor.Civ Go.Proofs.YtcinojbfjiohjaaGreatDoorW.PrintWords Go.Proofs.YtcinojbfjiohjaaGreatDoorW.PrintLast Go.Proofs.YtcinojbfjiohjaaGreatDoorW.PrintMore
set_option linter.unusedVariables false
set_option linter.unusedSimpArgs false
theorem self_l0 (L : List Tok) (hm : L.length ≤ 9223372036854775800) : ∀ (n i : Nat), i + n = L.length → ∀ k, n + 1 ≤ k → epactlaw10_Same.l0 k L L (L.length : Int) (i : Int) = some true := by
  intro n
  induction n with
  | zero =>
    intro i hi k hk
    obtain ⟨k, rfl⟩ : ∃ m, k = m + 1 := ⟨k - 1, by omega⟩
    rw [epactlaw10_Same.l0, if_neg (by omega)]
  | succ n ih =>
    intro i hi k hk
    obtain ⟨k, rfl⟩ : ∃ m, k = m + 1 := ⟨k - 1, by omega⟩
    have hn := ih (i + 1) (by omega) k (by omega)
    rw [show ((i + 1 : Nat) : Int) = (i : Int) + 1 by omega] at hn
    rw [epactlaw10_Same.l0, if_pos (by omega), if_pos (by omega), if_pos (by omega), if_pos (by omega), if_neg (by simp), w64 (by omega) (by omega), hn]
/-- A list of words is the same as itself. -/
theorem same_calls (L : List Tok) (A B : Option Addr) (c d : Nat) (w : World) (hA : Kd.C kTk w A L.length L) (hc : L.length ≤ c) (hB : Kd.C kTk w B L.length L) (hd : L.length ≤ d) (hm : L.length ≤ 9223372036854775800) :
    Calls Tryz.prog 29 #[.slice A L.length c, .slice B L.length d] w fun e w' => e = .returned (.bool true) ∧ Lt w w' :=
  (epactlaw10_Same.calls (L.length + 1) A c L B d L true w hA hc hB hd (by
    unfold epactlaw10_Same.f
    rw [if_pos rfl]
    exact self_l0 L hm L.length 0 (by omega) _ (Nat.le_refl _))).mono fun _ _ ⟨he, h⟩ => ⟨he, Drawn0.lt h⟩
theorem name_made (s : ByteArray) (w : World) : Calls Tryz.prog 65 #[.string s] w fun e w' => e = .returned (tokV ⟨1, s, 0⟩) ∧ Lt w w' := by
  go_enter Tryz.func65, Tryz.ntmps65
  go_wp2_with fail
  refine bodyPost_ret (results_cell_row rfl _ _ w.heap.size TT #[.int .u8 1, .string s, .int .i64 0] (0, 0) _ rfl (blk_new w _) Tryz.underlying51 rfl info_tk) rfl ?_
  exact ⟨rfl, (Lt.refl _).a _⟩
theorem mark_made (s : ByteArray) (w : World) : Calls Tryz.prog 66 #[.string s] w fun e w' => e = .returned (tokV ⟨4, s, 0⟩) ∧ Lt w w' := by
  go_enter Tryz.func66, Tryz.ntmps66
  go_wp2_with fail
  refine bodyPost_ret (results_cell_row rfl _ _ w.heap.size TT #[.int .u8 4, .string s, .int .i64 0] (0, 0) _ rfl (blk_new w _) Tryz.underlying51 rfl info_tk) rfl ?_
  exact ⟨rfl, (Lt.refl _).a _⟩
theorem number_made (n : Int) (w : World) : Calls Tryz.prog 67 #[.int .i64 n] w fun e w' => e = .returned (tokV ⟨2, nil8, n⟩) ∧ Lt w w' := by
  go_enter Tryz.func67, Tryz.ntmps67
  go_wp2_with fail
  refine bodyPost_ret (results_cell_row rfl _ _ w.heap.size TT #[.int .u8 2, .string nil8, .int .i64 n] (0, 0) _ rfl (blk_new w _) Tryz.underlying51 rfl info_tk) rfl ?_
  exact ⟨rfl, (Lt.refl _).a _⟩
theorem same_n (L : List Tok) (n : Nat) (hn : L.length = n) (A B : Option Addr) (c d : Nat) (w : World) (hA : Kd.C kTk w A n L) (hc : n ≤ c) (hB : Kd.C kTk w B n L) (hd : n ≤ d) (hm : n ≤ 1000) :
    Calls Tryz.prog 29 #[.slice A n c, .slice B n d] w fun e w' => e = .returned (.bool true) ∧ Lt w w' := by
  subst hn
  exact same_calls L A B c d w hA hc hB hd (by omega)
theorem Words_to (s : ByteArray) (L : List Tok) (k : Int) (n : Nat) (hn : L.length = n) (he : lexL s.data.toList = (L, k)) (hs : s.size < 4294967281) (w : World) (hC : LCal w) :
    Calls Tryz.prog 14 #[.string s] w fun e w' => ∃ B d, e = .returned (.tuple #[.slice B n d, .int .i64 k]) ∧ Kd.C kTk w' B n L ∧ n ≤ d ∧ Lt w w' := by
  refine (Words_calls s hs w hC).mono ?_
  rintro e w' ⟨v, rfl, ho, hl⟩
  rw [he] at ho
  obtain ⟨B, d, rfl, hd, hCC⟩ := Kd.R_reads ho
  dsimp only at hd hCC hn ⊢
  rw [hn] at hd hCC
  exact ⟨B, d, by rw [he, hn], hCC, hd, hl⟩
abbrev tGR : List Tok := [⟨1, ⟨#[103, 114, 111, 117, 112]⟩, 0⟩, ⟨4, ⟨#[40]⟩, 0⟩, ⟨2, nil8, 3⟩, ⟨4, ⟨#[44]⟩, 0⟩, ⟨1, ⟨#[100, 97, 121]⟩, 0⟩, ⟨4, ⟨#[41]⟩, 0⟩]
abbrev tGRC : Obj := .cells #[.int .u8 1, .string ⟨#[103, 114, 111, 117, 112]⟩, .int .i64 0, .int .u8 4, .string ⟨#[40]⟩, .int .i64 0, .int .u8 2, .string ⟨#[]⟩, .int .i64 3, .int .u8 4, .string ⟨#[44]⟩, .int .i64 0, .int .u8 1, .string ⟨#[100, 97, 121]⟩, .int .i64 0, .int .u8 4, .string ⟨#[41]⟩, .int .i64 0] TT
theorem tGR_row (W : World) : Kd.C kTk (W.alloc tGRC) (some ⟨W.heap.size, 0, none⟩) 6 tGR := by
  have hr : ∀ ok, Reps (kTk.M (W.alloc tGRC) W.heap.size ok) 3 tGR [.int .u8 1, .string ⟨#[103, 114, 111, 117, 112]⟩, .int .i64 0, .int .u8 4, .string ⟨#[40]⟩, .int .i64 0, .int .u8 2, .string ⟨#[]⟩, .int .i64 3, .int .u8 4, .string ⟨#[44]⟩, .int .i64 0, .int .u8 1, .string ⟨#[100, 97, 121]⟩, .int .i64 0, .int .u8 4, .string ⟨#[41]⟩, .int .i64 0] := fun ok => ((((((Reps.none _ _).snoc (k51_mkM _ _ ok (⟨1, ⟨#[103, 114, 111, 117, 112]⟩, 0⟩ : Tok)) rfl).snoc (k51_mkM _ _ ok (⟨4, ⟨#[40]⟩, 0⟩ : Tok)) rfl).snoc (k51_mkM _ _ ok (⟨2, nil8, 3⟩ : Tok)) rfl).snoc (k51_mkM _ _ ok (⟨4, ⟨#[44]⟩, 0⟩ : Tok)) rfl).snoc (k51_mkM _ _ ok (⟨1, ⟨#[100, 97, 121]⟩, 0⟩ : Tok)) rfl).snoc (k51_mkM _ _ ok (⟨4, ⟨#[41]⟩, 0⟩ : Tok)) rfl
  have h : Kd.R kTk TT (W.alloc tGRC) W.heap.size (fun _ => True) (.slice (some ⟨W.heap.size, 0, none⟩) 6 6) tGR := ⟨fun _ _ => trivial, OwnRow.lit W W.heap.size (hr _) (Nat.le_refl _) (by decide)⟩
  exact (Kd.R_reads' h).2.2
abbrev tDN : List Tok := [⟨3, nil8, 0⟩, ⟨2, nil8, -5⟩]
abbrev tDNC : Obj := .cells #[.int .u8 3, .string ⟨#[]⟩, .int .i64 0, .int .u8 2, .string ⟨#[]⟩, .int .i64 (-5)] TT
theorem tDN_row (W : World) : Kd.C kTk (W.alloc tDNC) (some ⟨W.heap.size, 0, none⟩) 2 tDN := by
  have hr : ∀ ok, Reps (kTk.M (W.alloc tDNC) W.heap.size ok) 3 tDN [.int .u8 3, .string ⟨#[]⟩, .int .i64 0, .int .u8 2, .string ⟨#[]⟩, .int .i64 (-5)] := fun ok => ((Reps.none _ _).snoc (k51_mkM _ _ ok (⟨3, nil8, 0⟩ : Tok)) rfl).snoc (k51_mkM _ _ ok (⟨2, nil8, -5⟩ : Tok)) rfl
  have h : Kd.R kTk TT (W.alloc tDNC) W.heap.size (fun _ => True) (.slice (some ⟨W.heap.size, 0, none⟩) 2 2) tDN := ⟨fun _ _ => trivial, OwnRow.lit W W.heap.size (hr _) (Nat.le_refl _) (by decide)⟩
  exact (Kd.R_reads' h).2.2
abbrev tAN : List Tok := [⟨1, ⟨#[97]⟩, 0⟩, ⟨2, nil8, -1⟩]
abbrev tANC : Obj := .cells #[.int .u8 1, .string ⟨#[97]⟩, .int .i64 0, .int .u8 2, .string ⟨#[]⟩, .int .i64 (-1)] TT
theorem tAN_row (W : World) : Kd.C kTk (W.alloc tANC) (some ⟨W.heap.size, 0, none⟩) 2 tAN := by
  have hr : ∀ ok, Reps (kTk.M (W.alloc tANC) W.heap.size ok) 3 tAN [.int .u8 1, .string ⟨#[97]⟩, .int .i64 0, .int .u8 2, .string ⟨#[]⟩, .int .i64 (-1)] := fun ok => ((Reps.none _ _).snoc (k51_mkM _ _ ok (⟨1, ⟨#[97]⟩, 0⟩ : Tok)) rfl).snoc (k51_mkM _ _ ok (⟨2, nil8, -1⟩ : Tok)) rfl
  have h : Kd.R kTk TT (W.alloc tANC) W.heap.size (fun _ => True) (.slice (some ⟨W.heap.size, 0, none⟩) 2 2) tAN := ⟨fun _ _ => trivial, OwnRow.lit W W.heap.size (hr _) (Nat.le_refl _) (by decide)⟩
  exact (Kd.R_reads' h).2.2
theorem Text_n (L : List Tok) (n : Nat) (hn : L.length = n) (T : ByteArray) (hT : textL L = T) (A : Option Addr) (c : Nat) (w : World) (hC : LCal w) (hL : Kd.C kTk w A n L) (hc : n ≤ c) (hm : n ≤ 4294967296) (hW : ∀ t ∈ L, TokW t) (hR : ∀ t ∈ L, rightT t = true) :
    Calls Tryz.prog 30 #[.slice A n c] w fun e w' => e = .returned (.string T) ∧ Lt w w' := by
  subst hn
  subst hT
  exact Text_right L A c w hC hL hc hm hW hR
theorem ex0 : lexL (⟨#[103, 114, 111, 117, 112, 40, 51, 44, 32, 100, 97, 121, 41]⟩ : ByteArray).data.toList = (tGR, -1) := by kernel_rfl
theorem ex1 : lexL (⟨#[64, 49, 57, 55, 48, 45, 48, 49, 45, 48, 49, 32, 45, 53]⟩ : ByteArray).data.toList = (tDN, -1) := by kernel_rfl
theorem er0 : lexL (⟨#[97, 32, 48, 53]⟩ : ByteArray).data.toList = ([], 2) := by kernel_rfl
theorem er1 : lexL (⟨#[97, 32, 36]⟩ : ByteArray).data.toList = ([], 2) := by kernel_rfl
theorem er2 : lexL (⟨#[51, 120]⟩ : ByteArray).data.toList = ([], 0) := by kernel_rfl
theorem er3 : lexL (⟨#[64, 49, 57, 55, 48]⟩ : ByteArray).data.toList = ([], 0) := by kernel_rfl
theorem ex2 : textL tAN = ⟨#[97, 32, 45, 49]⟩ := by kernel_rfl
theorem tAN_right : ∀ t ∈ tAN, rightT t = true := by
  intro t ht
  rcases List.mem_cons.1 ht with rfl | ht
  · kernel_rfl
  · rcases List.mem_cons.1 ht with rfl | ht
    · kernel_rfl
    · cases ht
theorem tAN_w : ∀ t ∈ tAN, TokW t := by
  intro t ht
  rcases List.mem_cons.1 ht with rfl | ht
  · exact ⟨by decide, by decide, by decide⟩
  · rcases List.mem_cons.1 ht with rfl | ht
    · exact ⟨by decide, by decide, by decide⟩
    · cases ht
set_option maxHeartbeats 16000000 in
set_option maxRecDepth 100000 in
/-- The chapter's examples. -/
theorem awake_calls (w : World) (hC : LCal w) : Calls Tryz.prog 25 #[] w fun e w' => e = .returned (.bool true) ∧ Lt w w' := by
  have HC := Aside0.mk hC
  have e1 : ∀ args W, (callFunc 65 args).run Tryz.prog W = .ok (.enter 65 args) W := fun args W => by kernel_rfl
  have e2 : ∀ args W, (callFunc 66 args).run Tryz.prog W = .ok (.enter 66 args) W := fun args W => by kernel_rfl
  have e3 : ∀ args W, (callFunc 67 args).run Tryz.prog W = .ok (.enter 67 args) W := fun args W => by kernel_rfl
  clear hC
  go_enter Tryz.func25, Tryz.ntmps25
  go_wp2_with fail
  (with_reducible refine (Words_to _ tGR (-1) 6 rfl ex0 (by decide) _ ?k0).mono ?_)
  case k0 => exact HC.out
  rintro e w1 ⟨B1, d1, rfl, hc, hd1, hl⟩
  have C1 := Aside0.mk hc
  have HT := Aside0.mk hl
  clear hc hl
  go_wp2_with fail
  (with_reducible refine (Words_to _ tDN (-1) 2 rfl ex1 (by decide) _ ?k0).mono ?_)
  case k0 => exact HC.out.l HT.out
  rintro e w2 ⟨B2, d2, rfl, hc, hd2, hl⟩
  have C1 := Aside0.mk (Kd.C_below C1.out hl.out)
  have C2 := Aside0.mk hc
  have HT := Aside0.mk (HT.out.trans hl)
  clear hc hl
  go_wp2_with fail
  (with_reducible refine (name_made _ _).mono ?_)
  rintro e w3 ⟨rfl, hl⟩
  have C1 := Aside0.mk (Kd.C_below C1.out hl.out)
  have C2 := Aside0.mk (Kd.C_below C2.out hl.out)
  have HT := Aside0.mk (HT.out.trans hl)
  clear hl
  go_wp2_with fail
  (with_reducible refine (mark_made _ _).mono ?_)
  rintro e w4 ⟨rfl, hl⟩
  have C1 := Aside0.mk (Kd.C_below C1.out hl.out)
  have C2 := Aside0.mk (Kd.C_below C2.out hl.out)
  have HT := Aside0.mk (HT.out.trans hl)
  clear hl
  go_wp2_with fail
  (with_reducible refine (number_made _ _).mono ?_)
  rintro e w5 ⟨rfl, hl⟩
  have C1 := Aside0.mk (Kd.C_below C1.out hl.out)
  have C2 := Aside0.mk (Kd.C_below C2.out hl.out)
  have HT := Aside0.mk (HT.out.trans hl)
  clear hl
  go_wp2_with fail
  (with_reducible refine (mark_made _ _).mono ?_)
  rintro e w6 ⟨rfl, hl⟩
  have C1 := Aside0.mk (Kd.C_below C1.out hl.out)
  have C2 := Aside0.mk (Kd.C_below C2.out hl.out)
  have HT := Aside0.mk (HT.out.trans hl)
  clear hl
  go_wp2_with fail
  (with_reducible refine (name_made _ _).mono ?_)
  rintro e w7 ⟨rfl, hl⟩
  have C1 := Aside0.mk (Kd.C_below C1.out hl.out)
  have C2 := Aside0.mk (Kd.C_below C2.out hl.out)
  have HT := Aside0.mk (HT.out.trans hl)
  clear hl
  go_wp2_with fail
  (with_reducible refine (mark_made _ _).mono ?_)
  rintro e w8 ⟨rfl, hl⟩
  have C1 := Aside0.mk (Kd.C_below C1.out hl.out)
  have C2 := Aside0.mk (Kd.C_below C2.out hl.out)
  have HT := Aside0.mk (HT.out.trans hl)
  clear hl
  go_wp2_with fail
  (with_reducible refine (same_n tGR 6 rfl _ _ _ _ _ ?s1 ?s2 ?s3 ?s4 ?s5).mono ?_)
  case s1 => exact Kd.C_below C1.out (below_alloc (Below.refl _ _) _)
  case s2 => exact hd1
  case s3 => exact tGR_row w8
  case s4 => decide
  case s5 => decide
  rintro e w9 ⟨rfl, hl⟩
  have hl := ((Lt.refl _).a _).trans hl
  have C1 := Aside0.mk (Kd.C_below C1.out hl.out)
  have C2 := Aside0.mk (Kd.C_below C2.out hl.out)
  have HT := Aside0.mk (HT.out.trans hl)
  clear hl
  go_wp2_with fail
  (with_reducible refine (number_made _ _).mono ?_)
  rintro e w10 ⟨rfl, hl⟩
  have C1 := Aside0.mk (Kd.C_below C1.out hl.out)
  have C2 := Aside0.mk (Kd.C_below C2.out hl.out)
  have HT := Aside0.mk (HT.out.trans hl)
  clear hl
  go_wp2_with fail
  (with_reducible refine (same_n tDN 2 rfl _ _ _ _ _ ?s1 ?s2 ?s3 ?s4 ?s5).mono ?_)
  case s1 => exact Kd.C_below C2.out (below_alloc (Below.refl _ _) _)
  case s2 => exact hd2
  case s3 => exact tDN_row w10
  case s4 => decide
  case s5 => decide
  rintro e w11 ⟨rfl, hl⟩
  have hl := ((Lt.refl _).a _).trans hl
  have C1 := Aside0.mk (Kd.C_below C1.out hl.out)
  have C2 := Aside0.mk (Kd.C_below C2.out hl.out)
  have HT := Aside0.mk (HT.out.trans hl)
  clear hl
  go_wp2_with fail
  refine wp_loop_rounds 5 ?_
  rw [rounds_succ]
  go_wp2_with fail
  (with_reducible refine (Words_to _ [] 2 0 rfl er0 (by decide) _ ?k0).mono ?_)
  case k0 => exact HC.out.l ((HT.out.a _).a _)
  rintro e w12 ⟨Br, dr, rfl, _, _, hl⟩
  have row := Aside0.mk (blk_lt_on hl (blk_alloc (blk_new w11 (.cells #[.string ⟨#[97, 32, 48, 53]⟩, .int .i64 2, .string ⟨#[97, 32, 36]⟩, .int .i64 2, .string ⟨#[51, 120]⟩, .int .i64 0, .string ⟨#[64, 49, 57, 55, 48]⟩, .int .i64 0] 107)) (.cells #[.string ⟨#[97, 32, 48, 53]⟩, .int .i64 2] 107)))
  have hbox := blk_lt_on hl (blk_new (w11.alloc (.cells #[.string ⟨#[97, 32, 48, 53]⟩, .int .i64 2, .string ⟨#[97, 32, 36]⟩, .int .i64 2, .string ⟨#[51, 120]⟩, .int .i64 0, .string ⟨#[64, 49, 57, 55, 48]⟩, .int .i64 0] 107)) (.cells #[.string ⟨#[97, 32, 48, 53]⟩, .int .i64 2] 107))
  rw [show ((w11.alloc (.cells #[.string ⟨#[97, 32, 48, 53]⟩, .int .i64 2, .string ⟨#[97, 32, 36]⟩, .int .i64 2, .string ⟨#[51, 120]⟩, .int .i64 0, .string ⟨#[64, 49, 57, 55, 48]⟩, .int .i64 0] 107))).heap.size = w11.heap.size + 1 from Array.size_push ..] at hbox
  have cb : w12.cell? ⟨w11.heap.size + 1, 1, none⟩ = some (.int .i64 2) := (blk_cell hbox 1).trans rfl
  have HT := Aside0.mk (((HT.out.a _).a _).trans hl)
  clear hl hbox
  have c0 : w12.cell? ⟨w11.heap.size, 2, none⟩ = some (.string ⟨#[97, 32, 36]⟩) := (blk_cell row.out 2).trans rfl
  have c1 : w12.cell? ⟨w11.heap.size, 3, none⟩ = some (.int .i64 2) := (blk_cell row.out 3).trans rfl
  go_wp2_with fail
  rw [rounds_succ]
  go_wp2_with fail
  clear cb c0 c1
  (with_reducible refine (Words_to _ [] 2 0 rfl er1 (by decide) _ ?k0).mono ?_)
  case k0 => exact HC.out.l (HT.out.a _)
  rintro e w13 ⟨Br, dr, rfl, _, _, hl⟩
  have row := Aside0.mk (blk_lt_on hl (blk_alloc row.out (.cells #[.string ⟨#[97, 32, 36]⟩, .int .i64 2] 107)))
  have hbox := blk_lt_on hl (blk_new w12 (.cells #[.string ⟨#[97, 32, 36]⟩, .int .i64 2] 107))
  have cb : w13.cell? ⟨w12.heap.size, 1, none⟩ = some (.int .i64 2) := (blk_cell hbox 1).trans rfl
  have HT := Aside0.mk ((HT.out.a _).trans hl)
  clear hl hbox
  have c0 : w13.cell? ⟨w11.heap.size, 4, none⟩ = some (.string ⟨#[51, 120]⟩) := (blk_cell row.out 4).trans rfl
  have c1 : w13.cell? ⟨w11.heap.size, 5, none⟩ = some (.int .i64 0) := (blk_cell row.out 5).trans rfl
  go_wp2_with fail
  rw [rounds_succ]
  go_wp2_with fail
  clear cb c0 c1
  (with_reducible refine (Words_to _ [] 0 0 rfl er2 (by decide) _ ?k0).mono ?_)
  case k0 => exact HC.out.l (HT.out.a _)
  rintro e w14 ⟨Br, dr, rfl, _, _, hl⟩
  have row := Aside0.mk (blk_lt_on hl (blk_alloc row.out (.cells #[.string ⟨#[51, 120]⟩, .int .i64 0] 107)))
  have hbox := blk_lt_on hl (blk_new w13 (.cells #[.string ⟨#[51, 120]⟩, .int .i64 0] 107))
  have cb : w14.cell? ⟨w13.heap.size, 1, none⟩ = some (.int .i64 0) := (blk_cell hbox 1).trans rfl
  have HT := Aside0.mk ((HT.out.a _).trans hl)
  clear hl hbox
  have c0 : w14.cell? ⟨w11.heap.size, 6, none⟩ = some (.string ⟨#[64, 49, 57, 55, 48]⟩) := (blk_cell row.out 6).trans rfl
  have c1 : w14.cell? ⟨w11.heap.size, 7, none⟩ = some (.int .i64 0) := (blk_cell row.out 7).trans rfl
  go_wp2_with fail
  rw [rounds_succ]
  go_wp2_with fail
  clear cb c0 c1
  (with_reducible refine (Words_to _ [] 0 0 rfl er3 (by decide) _ ?k0).mono ?_)
  case k0 => exact HC.out.l (HT.out.a _)
  rintro e w15 ⟨Br, dr, rfl, _, _, hl⟩
  have row := Aside0.mk (blk_lt_on hl (blk_alloc row.out (.cells #[.string ⟨#[64, 49, 57, 55, 48]⟩, .int .i64 0] 107)))
  have hbox := blk_lt_on hl (blk_new w14 (.cells #[.string ⟨#[64, 49, 57, 55, 48]⟩, .int .i64 0] 107))
  have cb : w15.cell? ⟨w14.heap.size, 1, none⟩ = some (.int .i64 0) := (blk_cell hbox 1).trans rfl
  have HT := Aside0.mk ((HT.out.a _).trans hl)
  clear hl hbox
  go_wp2_with fail
  rw [rounds_succ]
  go_wp2_with fail
  clear cb
  (with_reducible refine (name_made _ _).mono ?_)
  rintro e w16 ⟨rfl, hl⟩
  have HT := Aside0.mk (HT.out.trans hl)
  clear hl
  go_wp2_with fail
  (with_reducible refine (number_made _ _).mono ?_)
  rintro e w17 ⟨rfl, hl⟩
  have HT := Aside0.mk (HT.out.trans hl)
  clear hl
  go_wp2_with fail
  (with_reducible refine (Text_n tAN 2 rfl _ ex2 _ 2 _ ?k0 ?k1 ?k2 ?k3 tAN_w tAN_right).mono ?_)
  case k0 => exact HC.out.l (HT.out.a _)
  case k1 => exact tAN_row w17
  case k2 => decide
  case k3 => decide
  rintro e w18 ⟨rfl, hl⟩
  have HT := Aside0.mk ((HT.out.a _).trans hl)
  clear hl
  go_wp2_with fail
  go_ret
  exact ⟨rfl, HT.out⟩
end Go.Proofs.YtcinojbfjiohjaaGreatDoor.Lx
end

section
namespace Go.Proofs.YtcinojbfjiohjaaGreatDoor.Lx
open Go Go.RowKit Go.Proofs.YtcinojbfjiohjaaGreatDoor.PPrintTells Go.Proofs.YtcinojbfjiohjaaGreatDoor.Ex Go.Proofs.YtcinojbfjiohjaaGreatDoor.Civ
set_option linter.unusedVariables false
set_option linter.unusedSimpArgs false
/-- A run is not longer, nor shorter, where the line is cut behind it. -/
theorem span_cut (p : UInt8 → Bool) : ∀ (l : List UInt8) (m : Nat), spanN p l ≤ m → spanN p (l.take m) = spanN p l
  | [], m, _ => by rw [List.take_nil]
  | b :: l, m, h => by
    by_cases hb : p b = true
    · have e : spanN p (b :: l) = spanN p l + 1 := by show (if p b = true then spanN p l + 1 else 0) = _; rw [if_pos hb]
      rw [e] at h ⊢
      obtain ⟨m, rfl⟩ : ∃ k, m = k + 1 := ⟨m - 1, by omega⟩
      rw [List.take_succ_cons]
      show (if p b = true then spanN p (l.take m) + 1 else 0) = _
      rw [if_pos hb, span_cut p l m (by omega)]
    · have e : ∀ r, spanN p (b :: r) = 0 := fun r => by show (if p b = true then spanN p r + 1 else 0) = _; rw [if_neg hb]
      rw [e]
      cases m with
      | zero => rfl
      | succ m => rw [List.take_succ_cons, e]
theorem take_cut (l : List UInt8) (k m : Nat) (h : k ≤ m) : (l.take m).take k = l.take k := by rw [List.take_take, Nat.min_eq_left h]
/-- Where a word begins, it does where the line is cut behind it. -/
theorem next_cut (b : UInt8) (l : List UInt8) (m : Nat) (h : (nextL (b :: l)).2.2 = true) (hm : (nextL (b :: l)).2.1 ≤ m + 1) : nextL (b :: l.take m) = nextL (b :: l) := by
  by_cases hmk : markB b = true
  · show (if markB b = true then _ else _) = (if markB b = true then _ else _)
    rw [if_pos hmk, if_pos hmk]
  · rw [nextL_else hmk] at h hm ⊢
    rw [nextL_else hmk]
    by_cases h64 : b.toNat = 64
    · rw [if_pos h64] at h hm ⊢
      rw [if_pos h64]
      have h1 : spanN dashB l ≤ m := by dsimp only at hm; omega
      rw [span_cut _ _ _ h1, take_cut _ _ _ h1]
    · rw [if_neg h64] at h hm ⊢
      rw [if_neg h64]
      by_cases hd : b.toNat = 45 ∨ digitB b = true
      · rw [if_pos hd] at h hm ⊢
        rw [if_pos hd]
        have h1 : spanN letterB l ≤ m := by dsimp only at hm; omega
        rw [span_cut _ _ _ h1, take_cut _ _ _ h1]
      · rw [if_neg hd] at h hm ⊢
        rw [if_neg hd]
        have h1 : spanN letterB (b :: l) ≤ m + 1 := hm
        have e : b :: l.take m = (b :: l).take (m + 1) := (List.take_succ_cons ..).symm
        rw [e, span_cut _ _ _ h1, take_cut _ _ _ h1]
/-- What is ahead of an error has words; the error begins there. -/
theorem place (n : Nat) : ∀ (l : List UInt8), l.length ≤ n → ∀ a : Nat, (lexL l).2 = (a : Int) → a < l.length ∧ (lexL (l.take a)).2 = -1 ∧ (lexL (l.drop a)).2 = 0 := by
  induction n with
  | zero =>
    intro l h a ha
    obtain rfl : l = [] := List.eq_nil_of_length_eq_zero (by omega)
    rw [lexL_nil] at ha
    exact absurd ha (by show ¬ ((-1 : Int) = (a : Int)); omega)
  | succ n ih =>
    intro l h a ha
    cases l with
    | nil =>
      rw [lexL_nil] at ha
      exact absurd ha (by show ¬ ((-1 : Int) = (a : Int)); omega)
    | cons b l =>
      rw [List.length_cons] at h
      have hcons : ∀ (t : List Tok) (k : Nat) (r : List Tok × Int), -1 ≤ r.2 → (consE t k r).2 = (a : Int) → ∃ e : Nat, r.2 = (e : Int) ∧ a = e + k := fun t k r hr h => by
        unfold consE at h
        split at h
        · exact absurd h (by show ¬ ((-1 : Int) = (a : Int)); omega)
        · rename_i hne
          have h : r.2 + (k : Int) = (a : Int) := h
          exact ⟨r.2.toNat, by omega, by omega⟩
      have hm1 : ∀ (t : List Tok) (k : Nat) (r : List Tok × Int), r.2 = -1 → (consE t k r).2 = -1 := fun t k r h => by
        unfold consE
        rw [if_pos h]
      rw [lexL_cons] at ha
      by_cases hbl : blankB b = true
      · rw [if_pos hbl] at ha
        obtain ⟨e, he, rfl⟩ := hcons _ _ _ (lexL_ge _) ha
        obtain ⟨h1, h2, h3⟩ := ih l (by omega) e he
        refine ⟨by rw [List.length_cons]; omega, ?_, ?_⟩
        · rw [List.take_succ_cons, lexL_cons, if_pos hbl]
          exact hm1 _ _ _ h2
        · rw [List.drop_succ_cons]
          exact h3
      · rw [if_neg hbl] at ha
        by_cases hok : (nextL (b :: l)).2.2 = true
        · rw [if_pos hok] at ha
          obtain ⟨e, he, rfl⟩ := hcons _ _ _ (lexL_ge _) ha
          obtain ⟨p1, p2⟩ := next_pos hok
          obtain ⟨h1, h2, h3⟩ := ih (l.drop ((nextL (b :: l)).2.1 - 1)) (by rw [List.length_drop]; omega) e he
          rw [List.length_drop] at h1
          obtain ⟨k, hk⟩ : ∃ k, (nextL (b :: l)).2.1 = k + 1 := ⟨(nextL (b :: l)).2.1 - 1, by omega⟩
          refine ⟨by rw [List.length_cons]; omega, ?_, ?_⟩
          · have hc := next_cut b l (e + k) hok (by omega)
            rw [hk, show e + (k + 1) = (e + k) + 1 by omega, List.take_succ_cons, lexL_cons, if_neg hbl, hc, if_pos hok, hk]
            apply hm1
            rw [hk] at h2
            have e1 : (l.take (e + k)).drop (k + 1 - 1) = (l.drop (k + 1 - 1)).take e := by
              rw [show k + 1 - 1 = k by omega, List.drop_take]
              congr 1
              omega
            rw [e1]
            exact h2
          · rw [hk, show e + (k + 1) = (e + k) + 1 by omega, List.drop_succ_cons]
            rw [hk, show k + 1 - 1 = k by omega, List.drop_drop] at h3
            rw [show e + k = k + e by omega]
            exact h3
        · rw [if_neg hok] at ha
          have h0 : a = 0 := by have : (0 : Int) = (a : Int) := ha; omega
          subst h0
          refine ⟨by simp, by rw [List.take_zero]; rfl, ?_⟩
          rw [List.drop_zero, lexL_cons, if_neg hbl, if_neg hok]
end Go.Proofs.YtcinojbfjiohjaaGreatDoor.Lx
end

section
namespace Go.Proofs.YtcinojbfjiohjaaGreatDoor.Lx
open Go Go.RowKit Go.Proofs.YtcinojbfjiohjaaGreatDoor.PPrintTells Go.Proofs.YtcinojbfjiohjaaGreatDoor.Ex Go.Proofs.YtcinojbfjiohjaaGreatDoor.Civ
set_option linter.unusedVariables false
set_option linter.unusedSimpArgs false
/-- A run ends where what follows does not go on. -/
theorem span_all (p : UInt8 → Bool) : ∀ (l r : List UInt8), l.all p = true → (∀ b, r.head? = some b → p b = false) → spanN p (l ++ r) = l.length
  | [], r, _, h => by
    cases r with
    | nil => rfl
    | cons b r =>
      show (if p b = true then spanN p r + 1 else 0) = 0
      rw [h b rfl]
      rfl
  | b :: l, r, ha, h => by
    rw [List.all_cons, Bool.and_eq_true] at ha
    show (if p b = true then spanN p (l ++ r) + 1 else 0) = _
    rw [if_pos ha.1, span_all p l r ha.2 h]
    rfl
theorem span_full (p : UInt8 → Bool) : ∀ l : List UInt8, spanN p l = l.length → l.all p = true
  | [], _ => rfl
  | b :: l, h => by
    by_cases hb : p b = true
    · have e : spanN p (b :: l) = spanN p l + 1 := by show (if p b = true then spanN p l + 1 else 0) = _; rw [if_pos hb]
      rw [e, List.length_cons] at h
      rw [List.all_cons, hb, span_full p l (by omega)]
      rfl
    · have e : spanN p (b :: l) = 0 := by show (if p b = true then spanN p l + 1 else 0) = _; rw [if_neg hb]
      rw [e, List.length_cons] at h
      omega
theorem all_imp {p q : UInt8 → Bool} (h : ∀ b, p b = true → q b = true) {l : List UInt8} (hl : l.all p = true) : l.all q = true :=
  List.all_eq_true.2 fun b hb => h b (List.all_eq_true.1 hl b hb)
theorem digit_letter (b : UInt8) (h : digitB b = true) : letterB b = true := by unfold letterB; rw [h, Bool.or_true]
theorem digit_dash (b : UInt8) (h : digitB b = true) : dashB b = true := by unfold dashB; rw [digit_letter b h, Bool.or_true]
theorem first_digit (b : UInt8) (h : b.toNat = 45 ∨ digitB b = true) : markB b = false ∧ b.toNat ≠ 64 ∧ blankB b = false := by
  have := byte_all (fun b => !(decide (b.toNat = 45) || digitB b) || (!markB b && decide (b.toNat ≠ 64) && !blankB b)) (by decide +kernel) b
  have e : (decide (b.toNat = 45) || digitB b) = true := by rw [Bool.or_eq_true, decide_eq_true_eq]; exact h
  rw [e] at this
  simpa [and_assoc] using this
theorem first_alpha (b : UInt8) (h : letterB b = true) (hd : digitB b = false) : markB b = false ∧ b.toNat ≠ 64 ∧ blankB b = false ∧ b.toNat ≠ 45 := by
  have := byte_all (fun b => !(letterB b && !digitB b) || (!markB b && decide (b.toNat ≠ 64) && !blankB b && decide (b.toNat ≠ 45))) (by decide +kernel) b
  rw [h, hd] at this
  simpa [and_assoc] using this
theorem mark_blank (b : UInt8) (h : markB b = true) : blankB b = false := by
  have := byte_all (fun b => !markB b || !blankB b) (by decide +kernel) b
  rw [h] at this
  simpa using this
theorem dash_letter (b : UInt8) (h : dashB b = false) : letterB b = false := by
  unfold dashB at h
  rw [Bool.or_eq_false_iff] at h
  exact h.2
theorem decFrom_le : ∀ (l : List UInt8) (acc u : Nat), Lib.decFrom acc l = some u → acc ≤ u
  | [], acc, u, h => by
    have h : some acc = some u := h
    injection h with h
    omega
  | b :: l, acc, u, h => by
    rw [Lib.decFrom] at h
    cases hd : Lib.digitVal b with
    | none => rw [hd] at h; cases h
    | some d =>
      rw [hd] at h
      have := decFrom_le l _ u h
      omega
theorem uint_dec : ∀ (l : List UInt8) (acc u : Nat), l.all digitB = true → Lib.decFrom acc l = some u → u < 18446744073709551616 → Lib.parseUint10 acc l = .ok u
  | [], acc, u, _, h, _ => by
    have h : some acc = some u := h
    injection h with h
    rw [h]
    rfl
  | b :: l, acc, u, ha, h, hu => by
    rw [List.all_cons, Bool.and_eq_true] at ha
    have hb : 48 ≤ b.toNat ∧ b.toNat ≤ 57 := by
      have := ha.1
      unfold digitB at this
      rw [Bool.and_eq_true, decide_eq_true_eq, decide_eq_true_eq] at this
      exact this
    have hd : Lib.digitVal b = some (b.toNat - 48) := by unfold Lib.digitVal; rw [if_pos hb]
    rw [Lib.decFrom, hd] at h
    have h : Lib.decFrom (acc * 10 + (b.toNat - 48)) l = some u := h
    have hle := decFrom_le l _ u h
    rw [Lib.parseUint10, if_pos hb, if_neg (by omega), if_neg (by omega)]
    exact uint_dec l _ u ha.2 h hu
theorem dec_first (u : Nat) : ∃ c r, Lib.decDigits u = c :: r ∧ digitB c = true ∧ r.all digitB = true := by
  have h := (decDigits_spec u).1
  cases hd : Lib.decDigits u with
  | nil =>
    exfalso
    by_cases h : u < 10
    · rw [Lib.decDigits_one h] at hd; cases hd
    · rw [Lib.decDigits, dif_neg h] at hd
      simp at hd
  | cons c r =>
    rw [hd, List.all_cons, Bool.and_eq_true] at h
    exact ⟨c, r, rfl, h.1, h.2⟩
theorem mag_dec (u : Nat) (hu : u < 18446744073709551616) : Lib.parseMag (Lib.decDigits u) = .ok u := by
  obtain ⟨c, r, h, _⟩ := dec_first u
  obtain ⟨s1, s2⟩ := decDigits_spec u
  unfold Lib.parseMag
  rw [if_neg (by rw [h]; exact List.cons_ne_nil _ _)]
  exact uint_dec _ 0 u s1 (by rw [s2, Nat.zero_mul, Nat.zero_add]) hu
theorem parse_itoa (n : Int) (h0 : -9223372036854775808 ≤ n) (h1 : n ≤ 9223372036854775807) : Lib.parseIntB 64 (Lib.itoa n) = .ok n := by
  rw [Lib.parseIntB_64]
  by_cases hn : n < 0
  · obtain ⟨u, rfl⟩ : ∃ u : Nat, n = -(u : Int) := ⟨n.natAbs, by omega⟩
    rw [Lib.itoa_neg u (by omega), Lib.atoiAll_minus, mag_dec u (by omega)]
    show (if 9223372036854775808 < u then _ else _) = _
    rw [if_neg (by omega)]
  · obtain ⟨u, rfl⟩ : ∃ u : Nat, n = (u : Int) := ⟨n.toNat, by omega⟩
    have hm := mag_dec u (by omega)
    rw [Lib.itoa_nonneg u]
    obtain ⟨c, r, h, hc, _⟩ := dec_first u
    rw [h] at hm ⊢
    have h45 : c.toNat ≠ 43 ∧ c.toNat ≠ 45 := by
      unfold digitB at hc
      rw [Bool.and_eq_true, decide_eq_true_eq, decide_eq_true_eq] at hc
      omega
    rw [Lib.atoiAll_plain c r h45.1 h45.2, hm]
    show (if 9223372036854775808 ≤ u then _ else _) = _
    rw [if_neg (by omega)]
theorem itoa_first (n : Int) : ∃ b l, Lib.itoa n = b :: l ∧ (b.toNat = 45 ∨ digitB b = true) ∧ l.all digitB = true := by
  by_cases hn : n < 0
  · obtain ⟨u, rfl⟩ : ∃ u : Nat, n = -(u : Int) := ⟨n.natAbs, by omega⟩
    rw [Lib.itoa_neg u (by omega)]
    exact ⟨45, _, rfl, .inl rfl, (decDigits_spec u).1⟩
  · obtain ⟨u, rfl⟩ : ∃ u : Nat, n = (u : Int) := ⟨n.toNat, by omega⟩
    rw [Lib.itoa_nonneg u]
    obtain ⟨c, r, h, hc, hr⟩ := dec_first u
    exact ⟨c, r, h, .inr hc, hr⟩
theorem pad_dash (n : Int) (k : Nat) (h0 : 0 ≤ n) (h1 : n < 10 ^ k) (hk : 1 ≤ k) : (padF n k).all dashB = true := all_imp digit_dash (padF_spec n k h0 h1 hk).2.1
theorem text_dash {n : Int} (hn : In n) : (textF n).1.data.toList.all dashB = true := by
  have hok := (date_ok hn).1
  have hm := hok.month
  have hd : 1 ≤ dyF n ∧ dyF n ≤ 31 := ⟨hok.2.2.2.2.1, by have := hok.2.2.2.2.2; have := len_le (yrF n) (moF n); omega⟩
  have hy0 := hok.1
  have hy1 := hok.2.1
  have ht : (textF n).1 = ⟨(ymdL (yrF n) (moF n) (dyF n)).toArray⟩ := by unfold textF; rw [if_pos hn]
  rw [ht]
  show ((ymdL (yrF n) (moF n) (dyF n)).toArray.toList).all dashB = true
  rw [List.toList_toArray]
  have key : ∀ z : Int, 0 ≤ z → z ≤ 9999 → (partsL z (moF n) (dyF n)).all dashB = true := by
    intro z hz0 hz1
    rw [partsL_eq]
    have p1 := pad_dash z 4 hz0 (by omega) (by omega)
    have p2 := pad_dash (moF n) 2 (by omega) (by omega) (by omega)
    have p3 := pad_dash (dyF n) 2 (by omega) (by omega) (by omega)
    simp only [List.all_append, List.all_cons, List.all_nil, p1, p2, p3, Bool.and_true, Bool.true_and]
    decide
  unfold ymdL
  split
  · rw [List.all_cons, key _ (by omega) (by omega)]
    decide
  · exact key _ (by omega) (by omega)
theorem size_nil {s : ByteArray} (h : s.toList.isEmpty = true) : s = nil8 := by
  rw [Lib.toList_data] at h
  cases s with
  | mk a =>
    have h : a.toList = [] := List.isEmpty_iff.1 h
    rw [show a = #[] from Array.toList_eq_nil_iff.1 h]
theorem next_text (t : Tok) (hW : TokW t) (hR : rightT t = true) (r : List UInt8) (hr : ∀ b, r.head? = some b → dashB b = false) :
    ∃ b l, (textT t).1.data.toList = b :: l ∧ blankB b = false ∧ nextL (b :: (l ++ r)) = (t, l.length + 1, true) := by
  have hr2 : ∀ b, r.head? = some b → letterB b = false := fun b h => dash_letter b (hr b h)
  obtain ⟨n0, n1, _⟩ := hW
  obtain ⟨k, s, n⟩ := t
  dsimp only at n0 n1
  unfold rightT at hR
  unfold textT at hR ⊢
  dsimp only at hR ⊢
  by_cases k1 : k = 1
  · subst k1
    rw [if_pos rfl] at hR ⊢
    dsimp only at hR ⊢
    rw [Bool.and_eq_true, Bool.and_eq_true, decide_eq_true_eq, decide_eq_true_eq] at hR
    obtain ⟨⟨h1, rfl⟩, h3⟩ := hR
    cases hL : s.data.toList with
    | nil => rw [hL] at h1; cases h1
    | cons b l =>
      have hsz : s.size = (b :: l).length := by rw [← hL]; exact (Array.length_toList).symm
      rw [hL, hsz] at h3
      rw [hL] at h1
      have hall := span_full _ _ h3
      have hd : digitB b = false := by
        have h1 : (decide (l.length < 30) && !digitB b) = true := h1
        rw [Bool.and_eq_true] at h1
        simpa using h1.2
      have hb : letterB b = true := by rw [List.all_cons, Bool.and_eq_true] at hall; exact hall.1
      obtain ⟨f1, f2, f3, f4⟩ := first_alpha b hb hd
      refine ⟨b, l, rfl, f3, ?_⟩
      have hsp : spanN letterB (b :: (l ++ r)) = l.length + 1 := span_all letterB (b :: l) r hall hr2
      have htk : (b :: (l ++ r)).take (l.length + 1) = b :: l := by
        rw [List.take_succ_cons, List.take_left]
      rw [nextL_else (by rw [f1]; decide), if_neg f2, if_neg (by rw [hd]; simpa using f4), hsp, htk, h1]
      have hs : toB (b :: l) = s := by
        cases s with
        | mk a =>
          have hL : a.toList = b :: l := hL
          show (⟨(b :: l).toArray⟩ : ByteArray) = _
          rw [← hL]
      rw [hs]
  · rw [if_neg k1] at hR ⊢
    by_cases k2 : k = 2
    · subst k2
      rw [if_pos rfl] at hR ⊢
      dsimp only at hR ⊢
      obtain rfl := size_nil hR
      obtain ⟨b, l, h, hb, hl⟩ := itoa_first n
      have hp := parse_itoa n n0 n1
      obtain ⟨f1, f2, f3⟩ := first_digit b hb
      refine ⟨b, l, by show (Lib.itoa n).toArray.toList = _; rw [List.toList_toArray, h], f3, ?_⟩
      have hsp : spanN letterB (l ++ r) = l.length := span_all letterB l r (all_imp digit_letter hl) hr2
      rw [nextL_else (by rw [f1]; decide), if_neg f2, if_pos hb, hsp, List.take_left]
      have hN : numT (b :: l) = (n, true) := by
        unfold numT
        rw [← h, hp]
        show (n, decide (Lib.itoa n = Lib.itoa n)) = _
        rw [decide_eq_true rfl]
      rw [hN]
    · rw [if_neg k2] at hR ⊢
      by_cases k3 : k = 3
      · subst k3
        rw [if_pos rfl] at hR ⊢
        dsimp only at hR ⊢
        rw [Bool.and_eq_true, decide_eq_true_eq] at hR
        obtain ⟨h1, h2⟩ := hR
        obtain rfl := size_nil h2
        have hn : In n := by
          unfold textF at h1
          split at h1
          · assumption
          · cases h1
        have hall := text_dash hn
        have hread := text_read hn
        obtain ⟨D, hD⟩ : ∃ D, D = (textF n).1.data.toList := ⟨_, rfl⟩
        have hT : (AT ++ (textF n).1).data.toList = 64 :: D := by
          rw [ByteArray.data_append, Array.toList_append, ← hD]
          rfl
        have hB : toB D = (textF n).1 := by
          cases hx : (textF n).1 with
          | mk a =>
            rw [hx] at hD
            show (⟨D.toArray⟩ : ByteArray) = _
            rw [hD]
        rw [← hD] at hall
        refine ⟨64, D, hT, by decide, ?_⟩
        have hsp : spanN dashB (D ++ r) = D.length := span_all dashB D r hall hr
        rw [nextL_else (by decide), if_pos (by decide), hsp, List.take_left, hB, hread]
        rfl
      · rw [if_neg k3] at hR ⊢
        by_cases k4 : k = 4
        · subst k4
          rw [if_pos rfl] at hR ⊢
          dsimp only at hR ⊢
          rw [Bool.and_eq_true, Bool.and_eq_true, decide_eq_true_eq, decide_eq_true_eq] at hR
          obtain ⟨⟨rfl, h2⟩, h3⟩ := hR
          have hsz : s.data.toList.length = 1 := by rw [← h2]; exact Array.length_toList
          obtain ⟨b, hb⟩ := List.length_eq_one_iff.1 hsz
          rw [hb, List.all_cons, Bool.and_eq_true] at h3
          refine ⟨b, [], hb, mark_blank b h3.1, ?_⟩
          show (if markB b = true then _ else _) = _
          rw [if_pos h3.1]
          have hs : toB [b] = s := by
            cases s with
            | mk a =>
              have hL : a.toList = [b] := hb
              show (⟨[b].toArray⟩ : ByteArray) = _
              rw [← hL]
          rw [hs]
          rfl
        · rw [if_neg k4] at hR
          cases hR
theorem join_two (x y : List UInt8) (r : List (List UInt8)) (sep : List UInt8) : Lib.join (x :: y :: r) sep = x ++ sep ++ Lib.join (y :: r) sep := by
  rw [Lib.join_cons, Lib.join_cons]
  unfold Lib.joinTail
  rw [List.map_cons, List.flatten_cons, List.append_assoc, List.append_assoc]
/-- The words of the text of right words are these. -/
theorem lex_text : ∀ (L : List Tok), (∀ t ∈ L, TokW t) → (∀ t ∈ L, rightT t = true) → lexL (Lib.join (L.map (fun t => (textT t).1.data.toList)) [32]) = (L, -1)
  | [], _, _ => rfl
  | [t], hW, hR => by
    obtain ⟨b, l, h1, h2, h3⟩ := next_text t (hW t (by simp)) (hR t (by simp)) [] (fun b h => by cases h)
    rw [List.append_nil] at h3
    rw [List.map_cons, List.map_nil, Lib.join_one, h1, lexL_cons, h2, h3]
    show consE [t] _ (lexL (l.drop (l.length + 1 - 1))) = _
    rw [Nat.add_sub_cancel, List.drop_length, lexL_nil]
    rfl
  | t :: u :: L, hW, hR => by
    have ih := lex_text (u :: L) (fun x hx => hW x (List.mem_cons_of_mem _ hx)) (fun x hx => hR x (List.mem_cons_of_mem _ hx))
    obtain ⟨J, hJ⟩ : ∃ J, J = Lib.join ((u :: L).map (fun t => (textT t).1.data.toList)) [32] := ⟨_, rfl⟩
    rw [← hJ] at ih
    obtain ⟨b, l, h1, h2, h3⟩ := next_text t (hW t (by simp)) (hR t (by simp)) (32 :: J) (fun b h => by
      have h : some (32 : UInt8) = some b := h
      injection h with h
      subst h
      decide)
    have e : Lib.join ((t :: u :: L).map (fun t => (textT t).1.data.toList)) [32] = b :: (l ++ 32 :: J) := by
      rw [List.map_cons] at hJ
      rw [List.map_cons, List.map_cons, join_two, ← hJ, h1, List.append_assoc]
      rfl
    rw [e, lexL_cons, h2, h3]
    show consE [t] _ (lexL ((l ++ 32 :: J).drop (l.length + 1 - 1))) = _
    rw [Nat.add_sub_cancel, List.drop_left, lexL_cons, show blankB 32 = true by decide, if_pos rfl, ih]
    rfl
theorem textL_lex (L : List Tok) (hW : ∀ t ∈ L, TokW t) (hR : ∀ t ∈ L, rightT t = true) : lexL (textL L).data.toList = (L, -1) := by
  unfold textL
  rw [toB_list]
  exact lex_text L hW hR
end Go.Proofs.YtcinojbfjiohjaaGreatDoor.Lx
end

section
namespace Go.Proofs.YtcinojbfjiohjaaGreatDoor.Lx
open Go Go.RowKit Go.Proofs.YtcinojbfjiohjaaGreatDoor.PPrintTells Go.Proofs.YtcinojbfjiohjaaGreatDoor.Ex Go.Proofs.YtcinojbfjiohjaaGreatDoor.Civ
set_option linter.unusedVariables false
set_option linter.unusedSimpArgs false
theorem span_self (p : UInt8 → Bool) (l : List UInt8) : spanN p (l.take (spanN p l)) = spanN p l := span_cut p l _ (Nat.le_refl _)
theorem toB_size (l : List UInt8) : (toB l).size = l.length := by
  show l.toArray.size = _
  rw [List.size_toArray]
theorem z_64 : (-9223372036854775808 : Int) ≤ 0 ∧ (0 : Int) ≤ 9223372036854775807 := by decide
theorem in_64 {n : Int} (hn : In n) : -9223372036854775808 ≤ n ∧ n ≤ 9223372036854775807 := by
  unfold In at hn
  omega
/-- What begins, where it is a word, is right. -/
theorem next_right {b : UInt8} {l : List UInt8} (h : (nextL (b :: l)).2.2 = true) (hs : l.length < 9223372036854775807) : rightT (nextL (b :: l)).1 = true ∧ TokW (nextL (b :: l)).1 := by
  by_cases hm : markB b = true
  · have hn : nextL (b :: l) = (⟨4, toB [b], 0⟩, 1, true) := by show (if markB b = true then _ else _) = _; rw [if_pos hm]
    rw [hn]
    refine ⟨?_, ⟨z_64.1, z_64.2, by rw [toB_size, List.length_singleton]; omega⟩⟩
    show (decide ((0 : Int) = 0) && decide ((toB [b]).size = 1) && (toB [b]).data.toList.all markB) = true
    rw [toB_size, toB_list, List.all_cons, hm]
    rfl
  · rw [nextL_else hm] at h ⊢
    by_cases h64 : b.toNat = 64
    · rw [if_pos h64] at h ⊢
      dsimp only at h ⊢
      obtain ⟨T, hT⟩ : ∃ T, T = l.take (spanN dashB l) := ⟨_, rfl⟩
      rw [← hT] at h ⊢
      have h0 : (readF (toB T)).2 = 0 := of_decide_eq_true h
      obtain ⟨n, e, hd⟩ : ∃ n e, readF (toB T) = (n, e) := ⟨_, _, rfl⟩
      rw [hd] at h0 ⊢
      obtain rfl : e = 0 := h0
      have hn := (read_form hd).1
      refine ⟨?_, ⟨(in_64 hn).1, (in_64 hn).2, Nat.zero_le _⟩⟩
      show (decide ((textF n).2 = 0) && nil8.toList.isEmpty) = true
      have ht : (textF n).2 = 0 := by unfold textF; rw [if_pos hn]
      rw [ht, Lib.toList_data]
      rfl
    · rw [if_neg h64] at h ⊢
      by_cases hd : b.toNat = 45 ∨ digitB b = true
      · rw [if_pos hd] at h ⊢
        dsimp only at h ⊢
        obtain ⟨T, hT⟩ : ∃ T, T = b :: l.take (spanN letterB l) := ⟨_, rfl⟩
        rw [← hT] at h ⊢
        unfold numT at h ⊢
        cases hp : Lib.parseIntB 64 T with
        | ok v =>
          have hv := Lib.parseIntB_bounds hp
          refine ⟨?_, ⟨?_, ?_, Nat.zero_le _⟩⟩
          · show nil8.toList.isEmpty = true
            rw [Lib.toList_data]
            rfl
          · show -9223372036854775808 ≤ v
            omega
          · show v ≤ 9223372036854775807
            omega
        | _ => rw [hp] at h; cases h
      · rw [if_neg hd] at h ⊢
        dsimp only at h ⊢
        have hle := span_le letterB (b :: l)
        have hsf := span_self letterB (b :: l)
        have hlen : ((b :: l).take (spanN letterB (b :: l))).length = spanN letterB (b :: l) := by rw [List.length_take]; omega
        obtain ⟨T, hT⟩ : ∃ T, T = (b :: l).take (spanN letterB (b :: l)) := ⟨_, rfl⟩
        rw [← hT] at h hsf hlen ⊢
        rw [List.length_cons] at hle
        refine ⟨?_, ⟨z_64.1, z_64.2, by rw [toB_size]; omega⟩⟩
        show (namedL (toB T).data.toList && decide ((0 : Int) = 0) && decide (spanN letterB (toB T).data.toList = (toB T).size)) = true
        rw [toB_list, toB_size, h, hsf, hlen]
        simp
theorem lex_right (n : Nat) : ∀ l : List UInt8, l.length ≤ n → l.length < 9223372036854775807 → ∀ t ∈ (lexL l).1, rightT t = true ∧ TokW t := by
  have hcons : ∀ (u : List Tok) (k : Nat) (r : List Tok × Int) (t : Tok), t ∈ (consE u k r).1 → t ∈ u ∨ t ∈ r.1 := fun u k r t h => by
    unfold consE at h
    split at h
    · exact List.mem_append.1 h
    · cases h
  induction n with
  | zero =>
    intro l h _ t ht
    obtain rfl : l = [] := List.eq_nil_of_length_eq_zero (by omega)
    rw [lexL_nil] at ht
    cases ht
  | succ n ih =>
    intro l h hs t ht
    cases l with
    | nil => rw [lexL_nil] at ht; cases ht
    | cons b l =>
      rw [List.length_cons] at h hs
      rw [lexL_cons] at ht
      split at ht
      · rcases hcons _ _ _ _ ht with h1 | h1
        · cases h1
        · exact ih l (by omega) (by omega) t h1
      · split at ht
        · rename_i hok
          rcases hcons _ _ _ _ ht with h1 | h1
          · rw [List.mem_singleton] at h1
            rw [h1]
            exact next_right hok (by omega)
          · exact ih (l.drop _) (by rw [List.length_drop]; omega) (by rw [List.length_drop]; omega) t h1
        · cases ht
/-- As many words as bytes, at most. -/
theorem lex_len (n : Nat) : ∀ l : List UInt8, l.length ≤ n → (lexL l).1.length ≤ l.length := by
  have hcons : ∀ (u : List Tok) (k : Nat) (r : List Tok × Int), (consE u k r).1.length ≤ u.length + r.1.length := fun u k r => by
    unfold consE
    split
    · rw [List.length_append]
      exact Nat.le_refl _
    · exact Nat.zero_le _
  induction n with
  | zero =>
    intro l h
    obtain rfl : l = [] := List.eq_nil_of_length_eq_zero (by omega)
    exact Nat.zero_le _
  | succ n ih =>
    intro l h
    cases l with
    | nil => exact Nat.zero_le _
    | cons b l =>
      rw [List.length_cons] at h
      rw [lexL_cons, List.length_cons]
      split
      · have := hcons [] 1 (lexL l)
        have := ih l (by omega)
        simp only [List.length_nil] at *
        omega
      · split
        · have h1 := hcons [(nextL (b :: l)).1] (nextL (b :: l)).2.1 (lexL (l.drop ((nextL (b :: l)).2.1 - 1)))
          have h2 := ih (l.drop ((nextL (b :: l)).2.1 - 1)) (by rw [List.length_drop]; omega)
          rw [List.length_drop] at h2
          rw [List.length_singleton] at h1
          omega
        · exact Nat.zero_le _
end Go.Proofs.YtcinojbfjiohjaaGreatDoor.Lx
end

section
namespace Go.Proofs.YtcinojbfjiohjaaGreatDoor.Lx
open Go Go.RowKit Go.Proofs.YtcinojbfjiohjaaGreatDoor.PPrintTells Go.Proofs.YtcinojbfjiohjaaGreatDoor.Ex Go.Proofs.YtcinojbfjiohjaaGreatDoor.Civ Go.Proofs.YtcinojbfjiohjaaGreatDoorW.PrintWords Go.Proofs.YtcinojbfjiohjaaGreatDoorW.PrintLast Go.Proofs.YtcinojbfjiohjaaGreatDoorW.PrintMore
set_option linter.unusedVariables false
set_option linter.unusedSimpArgs false
set_option maxHeartbeats 8000000 in
set_option maxRecDepth 100000 in
/-- The first word that is to go. -/
theorem IndexFunc_to (L : List Tok) (N : Nat) (hN : L.length = N) (A : Option Addr) (c : Nat) (w : World) (hC : LCal w) (hL : Kd.C kTk w A N L) (hc : N ≤ c) (hW : ∀ t ∈ L, TokW t) (n : Nat) (hn : n < N) (hR : ∀ i (h : i < L.length), i < n → rightT L[i] = true) (hX : ∀ (h : n < L.length), rightT L[n] = false) :
    Calls Tryz.prog 120 #[.slice A N c, .func (.func 74) #[] #[]] w fun e w' => e = .returned (.int .i64 (n : Int)) ∧ Lt w w' := by
  have eg : ∀ args w, (callFunc 74 args).run Tryz.prog w = .ok (.enter 74 args) w := fun args w => by kernel_rfl
  rw [← hN] at hL
  have hm := hL.2.1
  have HC := Aside0.mk hC
  have HL := Aside0.mk hL
  have HW := Aside0.mk hW
  have HR := Aside0.mk hR
  have HX := Aside0.mk hX
  have HN := Aside0.mk hN
  rw [hN] at hm
  clear hC hL hW hR hX hN
  go_enter Tryz.func120, Tryz.ntmps120
  go_wp2_with fail
  go_loopw [8] (fun i wr => ∃ k : Nat, k ≤ n ∧ i = .int .i64 (k : Int) ∧ Lt w wr) (fun i _ => N - (intOf i).toNat)
  case atStart => exact ⟨0, Nat.zero_le _, rfl, Lt.refl _⟩
  case round =>
    obtain ⟨k, hk, rfl, hlt⟩ := hrel
    have HT := Aside0.mk hlt
    clear hlt
    have hkL : k < L.length := by have := HN.out; omega
    have h1 : (k : Int) < (N : Int) := by omega
    have h2 : decide ((k : Int) < (N : Int)) = true := decide_eq_true h1
    obtain ⟨ad, rfl, c0, c1, c2⟩ := tok_at HL.out k hkL
    have hmem : L[k]'hkL ∈ L := List.getElem_mem _
    obtain ⟨t, ht⟩ : ∃ t, t = L[k]'hkL := ⟨_, rfl⟩
    rw [← ht] at c0 c1 c2 hmem
    have d0 := cell_lt HT.out c0
    have d1 := cell_lt HT.out c1
    have d2 := cell_lt HT.out c2
    have CD := Aside0.mk (del_calls t (HW.out t hmem) wr (HC.out.l HT.out))
    by_cases hkn : k < n
    · have hr : rightT t = true := by rw [ht]; exact HR.out k hkL hkn
      rw [hr] at CD
      clear c0 c1 c2 ht hmem hr hkL
      go_wp2_with fail
      (with_reducible refine CD.out.mono ?_)
      rintro e w1 ⟨rfl, hl⟩
      have HT := Aside0.mk (HT.out.trans hl)
      clear hl CD d0 d1 d2
      go_wp2
      go_roundw
      case rel => exact ⟨k + 1, by omega, by go_num, HT.out⟩
      case measure => simp [intOf]; omega
    · obtain rfl : k = n := by omega
      have hr : rightT t = false := by rw [ht]; exact HX.out hkL
      rw [hr] at CD
      clear c0 c1 c2 ht hmem hr hkL
      go_wp2_with fail
      (with_reducible refine CD.out.mono ?_)
      rintro e w1 ⟨rfl, hl⟩
      have HT := Aside0.mk (HT.out.trans hl)
      clear hl CD d0 d1 d2
      go_wp2_with fail
      go_ret
      exact ⟨rfl, HT.out⟩
end Go.Proofs.YtcinojbfjiohjaaGreatDoor.Lx
end

section
namespace Go.Proofs.YtcinojbfjiohjaaGreatDoor.Lx
open Go Go.RowKit Go.Proofs.YtcinojbfjiohjaaGreatDoor.PPrintTells Go.Proofs.YtcinojbfjiohjaaGreatDoor.Ex Go.Proofs.YtcinojbfjiohjaaGreatDoor.Civ Go.Proofs.YtcinojbfjiohjaaGreatDoorW.PrintWords Go.Proofs.YtcinojbfjiohjaaGreatDoorW.PrintLast Go.Proofs.YtcinojbfjiohjaaGreatDoorW.PrintMore
set_option linter.unusedVariables false
set_option linter.unusedSimpArgs false
/-- clear of a row of words: cells from a place on are turned, and no others. -/
theorem clear_tok (W : World) (g o n c : Nat) (cs : Array Value) (hb : W.heap[g]? = some (.cells cs TT (0, 0))) (hn : 0 < n) (hl : o + n * 3 ≤ cs.size) :
    ∃ seg, seg.length = n * 3 ∧ ∀ ty, (Builtin.clear_ #[32] ty #[.slice (some ⟨g, o, none⟩) n c]).run Tryz.prog W = .ok (.tuple #[]) (W.setCells g o seg) := by
  obtain ⟨seg, hseg⟩ : ∃ seg, seg = (Builtin.zeroCells (Value.agg #[.int .u8 0, .string nil8, .int .i64 0]).cells n).toList := ⟨_, rfl⟩
  have hzl : seg.length = n * 3 := by
    rw [hseg]
    unfold Builtin.zeroCells
    rw [Array.length_toList, Array.size_map, Array.size_range]
    rfl
  have h1 : ∀ v ∈ seg, v.oneCell' = true := by
    intro v hv
    rw [hseg] at hv
    unfold Builtin.zeroCells at hv
    rw [Array.mem_toList_iff, Array.mem_map] at hv
    obtain ⟨i, _, rfl⟩ := hv
    have h3 : i % 3 = 0 ∨ i % 3 = 1 ∨ i % 3 = 2 := by omega
    show ((#[Value.int .u8 0, .string nil8, .int .i64 0] : Array Value)[i % 3]!).oneCell' = true
    rcases h3 with h | h | h <;> rw [h] <;> rfl
  refine ⟨seg, hzl, fun ty => ?_⟩
  have hst := run_storeCells_cells (P := Tryz.prog) g o seg 0 W (fun j hj => by rw [cell_of_row W g _ cs TT (0, 0) hb]; rw [hzl] at hj; simp; omega) (fun j _ => blk_frozen hb _) h1
  simp only [Nat.add_zero] at hst
  have hv : (zeroValue TT).run Tryz.prog W = .ok (.agg #[.int .u8 0, .string nil8, .int .i64 0]) W := by kernel_rfl
  obtain ⟨m, rfl⟩ : ∃ m, n = m + 1 := ⟨n - 1, by omega⟩
  have hu : Tryz.prog.underlying 32 = some (.slice TT) := Tryz.underlying32
  simp [Builtin.clear_, run_underlying hu, hv, ← hseg, hst]
theorem C_cleared {W : World} {g m : Nat} {xs : List Tok} (seg : List Value) (h : Kd.C kTk W (some ⟨g, 0, none⟩) xs.length xs) (hm : m ≤ xs.length) : Kd.C kTk (W.setCells g (m * 3) seg) (some ⟨g, 0, none⟩) m (xs.take m) := by
  have h' := Kd.C_take h hm
  have hl : (xs.take m).length = m := by rw [List.length_take]; omega
  rw [hl] at h'
  refine ⟨hl, h'.2.1, fun hp => ?_⟩
  obtain ⟨ad, hA, hc⟩ := h'.2.2 hp
  obtain rfl := Option.some.inj hA
  refine ⟨_, rfl, fun j p hj => ?_⟩
  obtain ⟨cs, h1, h2, h3⟩ := hc j p hj
  have hjm : j < m := by have := (List.getElem?_eq_some_iff.1 hj).1; omega
  have hcs := k51_open h2
  refine ⟨cs, h1, by rw [hcs]; exact k51_mk _ p, fun i u hu => ?_⟩
  rw [← h3 i u hu]
  have h1 : cs.length = 3 := h1
  have hi : i < 3 := by have := (List.getElem?_eq_some_iff.1 hu).1; omega
  have hsz : kTk.sz = 3 := rfl
  rw [hsz]
  refine World.cell?_setCells_out g seg (m * 3) W _ (fun _ _ => .inl ?_)
  unfold Addr.add
  split
  · show 0 < m * 3
    omega
  · show 0 + (j * 3 + i) < m * 3
    omega
theorem Lt_cells {w : World} {g : Nat} (hg : w.heap.size ≤ g) : ∀ (seg : List Value) (o : Nat) {W : World}, Lt w W → Lt w (W.setCells g o seg)
  | [], _, _, h => h
  | v :: r, o, W, h => by
    rw [World.setCells]
    exact Lt_cells hg r (o + 1) (Lt_s h hg)
theorem take_set_one : ∀ (xs : List Tok) (i : Nat) (t : Tok), i < xs.length → (xs.set i t).take (i + 1) = xs.take i ++ [t]
  | [], i, t, h => absurd h (Nat.not_lt_zero _)
  | x :: xs, 0, t, h => by simp
  | x :: xs, i + 1, t, h => by
    rw [List.length_cons] at h
    rw [List.set_cons_succ, List.take_succ_cons, List.take_succ_cons, take_set_one xs i t (by omega)]
    rfl
theorem drop_set_far (xs : List Tok) (i j : Nat) (t : Tok) (h : i < j) : (xs.set i t).drop j = xs.drop j := by
  apply List.ext_getElem?
  intro k
  rw [List.getElem?_drop, List.getElem?_drop, List.getElem?_set_ne (by omega)]
theorem filt_succ (L : List Tok) (j : Nat) (h : j < L.length) : (L.take (j + 1)).filter rightT = (L.take j).filter rightT ++ (if rightT L[j] = true then [L[j]] else []) := by
  rw [List.take_add_one, List.getElem?_eq_getElem h, List.filter_append]
  congr 1
  by_cases hr : rightT L[j] = true
  · rw [if_pos hr]; simp [hr]
  · rw [if_neg hr]; simp [hr]
/-- Where the loop is: the right ones of what it has seen stand ahead; what it has not seen stands as it was. -/
structure DelAt (w0 : World) (g N cap : Nat) (L : List Tok) (i j : Nat) (W : World) (xs : List Tok) : Prop where
  row : Kd.R kTk TT W w0.heap.size (fun _ => True) (.slice (some ⟨g, 0, none⟩) N cap) xs
  len : xs.length = N
  hij : i < j
  hj : j ≤ N
  pre : xs.take i = (L.take j).filter rightT
  post : xs.drop j = L.drop j
  lt : Lt w0 W
theorem DelAt.below {w0 W W2 : World} {g N cap i j : Nat} {L xs : List Tok} (h : DelAt w0 g N cap L i j W xs) (hl : Lt W W2) : DelAt w0 g N cap L i j W2 xs := ⟨Kd.R_below h.row hl.out, h.len, h.hij, h.hj, h.pre, h.post, h.lt.trans hl⟩
theorem DelAt.skip {w0 W : World} {g N cap i j : Nat} {L xs : List Tok} (h : DelAt w0 g N cap L i j W xs) (hL : L.length = N) (hjN : j < N) (hr : rightT (L[j]'(by omega)) = false) : DelAt w0 g N cap L i (j + 1) W xs :=
  ⟨h.row, h.len, by have := h.hij; omega, hjN, by rw [filt_succ L j (by omega), if_neg (by rw [hr]; decide), List.append_nil]; exact h.pre, by rw [List.drop_add_one_eq_tail_drop, List.drop_add_one_eq_tail_drop, h.post], h.lt⟩
theorem DelAt.put {w0 W W2 : World} {g N cap i j : Nat} {L xs : List Tok} (h : DelAt w0 g N cap L i j W xs) (hL : L.length = N) (hjN : j < N) (hr : rightT (L[j]'(by omega)) = true)
    (hrow : Kd.R kTk TT W2 w0.heap.size (fun _ => True) (.slice (some ⟨g, 0, none⟩) N cap) (xs.set i (L[j]'(by omega)))) (hl : Lt w0 W2) : DelAt w0 g N cap L (i + 1) (j + 1) W2 (xs.set i (L[j]'(by omega))) :=
  ⟨hrow, by rw [List.length_set]; exact h.len, by have := h.hij; omega, hjN, by rw [take_set_one _ _ _ (by have := h.len; have := h.hij; omega), filt_succ L j (by omega), if_pos hr, h.pre],
    by rw [drop_set_far _ _ _ _ (by have := h.hij; omega), List.drop_add_one_eq_tail_drop, List.drop_add_one_eq_tail_drop, h.post], hl⟩
theorem DelAt.get {w0 W : World} {g N cap i j : Nat} {L xs : List Tok} (h : DelAt w0 g N cap L i j W xs) (hL : L.length = N) (hjN : j < N) : W.cell? ⟨g, j * 3, none⟩ = some (.int .u8 (L[j]'(by omega)).f0) ∧ W.cell? ⟨g, j * 3 + 1, none⟩ = some (.string (L[j]'(by omega)).f1) ∧ W.cell? ⟨g, j * 3 + 2, none⟩ = some (.int .i64 (L[j]'(by omega)).f2) := by
  have hl := h.len
  have e : xs[j]'(by omega) = L[j]'(by omega) := by
    have h1 := congrArg (fun l => l[0]?) h.post
    simp only [List.getElem?_drop, Nat.add_zero] at h1
    rw [List.getElem?_eq_getElem (by omega), List.getElem?_eq_getElem (by omega)] at h1
    exact Option.some.inj h1
  obtain ⟨ad, hA, c0, c1, c2⟩ := tok_at (Kd.R_reads' h.row).2.2 j (by omega)
  obtain rfl := Option.some.inj hA
  rw [e] at c0 c1 c2
  have ha : (⟨g, 0, none⟩ : Addr).add (j * 3) = ⟨g, j * 3, none⟩ := by
    unfold Addr.add
    split
    · rename_i h0
      rw [h0]
    · rw [Nat.zero_add]
  rw [ha] at c0 c1 c2
  exact ⟨c0, c1, c2⟩
end Go.Proofs.YtcinojbfjiohjaaGreatDoor.Lx
end

section
namespace Go.Proofs.YtcinojbfjiohjaaGreatDoor.Lx
open Go Go.RowKit Go.Proofs.YtcinojbfjiohjaaGreatDoor.PPrintTells Go.Proofs.YtcinojbfjiohjaaGreatDoor.Ex Go.Proofs.YtcinojbfjiohjaaGreatDoor.Civ Go.Proofs.YtcinojbfjiohjaaGreatDoorW.PrintWords Go.Proofs.YtcinojbfjiohjaaGreatDoorW.PrintLast Go.Proofs.YtcinojbfjiohjaaGreatDoorW.PrintMore
set_option linter.unusedVariables false
set_option linter.unusedSimpArgs false
theorem one_tok (t : Tok) : ∀ q ∈ [Value.int .u8 t.f0, .string t.f1, .int .i64 t.f2], q.oneCell' = true := by
  intro q hq
  simp only [List.mem_cons, List.not_mem_nil, or_false] at hq
  rcases hq with rfl | rfl | rfl <;> rfl
theorem DelAt.old {w0 W : World} {g N cap i j : Nat} {L xs : List Tok} (h : DelAt w0 g N cap L i j W xs) (hi : i < N) (t : Tok) : ∃ c : List Value, c.length = kTk.sz ∧ (∀ k u, c[k]? = some u → W.cell? ⟨g, (i : Int).toNat * kTk.sz + k, none⟩ = some u) ∧ kTk.M W w0.heap.size (fun _ => False) t (c.take 0 ++ [.int .u8 t.f0, .string t.f1, .int .i64 t.f2] ++ c.drop (0 + 3)) := by
  obtain ⟨ad, c, hA, hl, _, hc⟩ := Kd.C_get (Kd.R_reads' h.row).2.2 ⟨0, nil8, 0⟩ (i : Int) (by omega) (by have := h.len; omega)
  obtain rfl := Option.some.inj hA
  refine ⟨c, hl, fun k u hu => ?_, ?_⟩
  · rw [← hc k u hu]
    unfold Addr.add
    split
    · rename_i h0
      rw [h0]
    · rw [Nat.zero_add]
  · have hl : c.length = 3 := hl
    rw [List.drop_eq_nil_of_le (by omega), List.take_zero, List.append_nil, List.nil_append]
    exact k51_mkM _ _ _ t
set_option maxHeartbeats 16000000 in
set_option maxRecDepth 100000 in
theorem DeleteFunc_to (L : List Tok) (N : Nat) (hN : L.length = N) (w0 : World) (g cap : Nat) (w : World) (hC : LCal w0) (hHO : Kd.R kTk TT w w0.heap.size (fun _ => True) (.slice (some ⟨g, 0, none⟩) N cap) L) (hl0 : Lt w0 w) (hW : ∀ t ∈ L, TokW t) (n : Nat) (hn : n < N) (hR : ∀ i (h : i < L.length), i < n → rightT L[i] = true) (hX : ∀ (h : n < L.length), rightT L[n] = false) :
    Calls Tryz.prog 72 #[.slice (some ⟨g, 0, none⟩) N cap, .func (.func 74) #[] #[]] w fun e w' => ∃ m, m = (L.filter rightT).length ∧ m ≤ cap ∧ e = .returned (.slice (some ⟨g, 0, none⟩) m cap) ∧ Kd.C kTk w' (some ⟨g, 0, none⟩) m (L.filter rightT) ∧ Lt w0 w' := by
  have eg : ∀ args w, (callFunc 74 args).run Tryz.prog w = .ok (.enter 74 args) w := fun args w => by kernel_rfl
  obtain ⟨hq, hNc, hCC⟩ := Kd.R_reads' hHO
  clear hq
  have hm := hCC.2.1
  rw [hN] at hm
  have hst : DelAt w0 g N cap L n (n + 1) w L := ⟨hHO, hN, Nat.lt_succ_self n, hn, by
    rw [filt_succ L n (by omega), if_neg (by rw [hX (by omega)]; decide), List.append_nil, List.filter_eq_self.2]
    intro t ht
    obtain ⟨i, hi, rfl⟩ := List.mem_iff_getElem.1 ht
    rw [List.length_take] at hi
    rw [List.getElem_take]
    exact hR i (by omega) (by omega), rfl, hl0⟩
  have CI := Aside0.mk (IndexFunc_to L N hN (some ⟨g, 0, none⟩) cap w (hC.l hl0) (by rw [hN] at hCC; exact hCC) hNc hW n hn hR hX)
  have HC := Aside0.mk hC
  have HW := Aside0.mk hW
  have HN := Aside0.mk hN
  have HS := Aside0.mk hst
  have e1 : ((n : Int) == -1) = false := beq_eq_false_iff_ne.2 (by omega)
  clear hC hHO hl0 hW hR hX hN hst hCC
  go_enter Tryz.func72, Tryz.ntmps72
  go_wp2_with fail
  (with_reducible refine CI.out.mono ?_)
  rintro e w1 ⟨rfl, hl⟩
  have HS := Aside0.mk (HS.out.below hl)
  clear hl CI
  go_wp2_with fail
  go_loopw [5, 6] (fun vi vj wr => ∃ i j : Nat, ∃ xs, vi = .int .i64 (i : Int) ∧ vj = .int .i64 (j : Int) ∧ DelAt w0 g N cap L i j wr xs) (fun _ vj _ => N - (intOf vj).toNat)
  case atStart => exact ⟨n, n + 1, L, rfl, by go_num, HS.out⟩
  case round =>
    obtain ⟨i, j, xs, rfl, rfl, hat⟩ := hrel
    have hij := hat.hij
    have hjN := hat.hj
    have HS := Aside0.mk hat
    clear hat
    by_cases hj : j < N
    · have h1 : (j : Int) < (N : Int) := by omega
      have h2 : decide ((j : Int) < (N : Int)) = true := decide_eq_true h1
      have hi1 : (i : Int) < (N : Int) := by omega
      obtain ⟨c0, c1, c2⟩ := HS.out.get HN.out hj
      obtain ⟨t, ht⟩ : ∃ t, t = L[j]'(by have := HN.out; omega) := ⟨_, rfl⟩
      rw [← ht] at c0 c1 c2
      have hmem : t ∈ L := by rw [ht]; exact List.getElem_mem _
      have CD := fun W h => Aside0.mk (del_calls t (HW.out t hmem) W h)
      have HT := Aside0.mk ht
      clear ht hmem
      by_cases hr : rightT t = true
      · rw [hr] at CD
        have HA := Aside0.mk ((Lt.refl wr).a (tokC t))
        have hb := blk_new wr (tokC t)
        go_wp2_with fail
        (with_reducible refine (CD _ (HC.out.l (HS.out.lt.trans HA.out))).out.mono ?_)
        rintro e w2 ⟨rfl, hl⟩
        have HS2 := Aside0.mk (HS.out.below (HA.out.trans hl))
        have b2 := blk_lt_on hl hb
        obtain ⟨z0, z1, z2⟩ := cells3 b2
        obtain ⟨oc, hoc, hcc, hMM⟩ := HS2.out.old (by omega) t
        have HOC := Aside0.mk hcc
        have HLC := Aside0.mk hoc
        have HMM := Aside0.mk hMM
        clear hl hb b2 c0 c1 c2 CD HA hoc hcc hMM
        go_wp2_with ((with_reducible refine gate_ (.store 51 (.tmp 33) (.tmp 32)) rfl ?_); refine Kd.R_store kTk (w0 := w0) w0.heap.size rfl rfl TT (.tmp 33) (.tmp 32) rfl TT (i : Int) 0 xs t (tokV t) [.int .u8 t.f0, .string t.f1, .int .i64 t.f2] oc (fun _ => True) (fun _ => False) rfl rfl rfl rfl info_tk (one_tok t) HS2.out.row (by omega) (by omega) HLC.out HOC.out (Nat.le_refl 3) HMM.out (fun _ hk => hk.elim) HS2.out.lt.out ?_; intro w3 ho hb hg; have HP := Aside0.mk ho; have HB := Aside0.mk hb; clear ho hb hg)
        go_roundw
        case rel =>
          obtain rfl := HT.out
          exact ⟨i + 1, j + 1, _, by go_num, by go_num, HS2.out.put HN.out hj hr HP.out ⟨HB.out⟩⟩
        case measure => simp [intOf]; omega
      · have hr : rightT t = false := by simpa using hr
        rw [hr] at CD
        have HA := Aside0.mk ((Lt.refl wr).a (tokC t))
        go_wp2_with fail
        (with_reducible refine (CD _ (HC.out.l (HS.out.lt.trans HA.out))).out.mono ?_)
        rintro e w2 ⟨rfl, hl⟩
        have HS2 := Aside0.mk (HS.out.below (HA.out.trans hl))
        clear hl c0 c1 c2 CD HA
        go_wp2_with fail
        go_roundw
        case rel =>
          obtain rfl := HT.out
          exact ⟨i, j + 1, xs, rfl, by go_num, HS2.out.skip HN.out hj hr⟩
        case measure => simp [intOf]; omega
    · obtain rfl : j = N := by omega
      have h1 : ¬ ((j : Int) < (j : Int)) := by omega
      have h2 : decide ((j : Int) < (j : Int)) = false := decide_eq_false h1
      obtain ⟨inner, ho⟩ := Kd.R_own HS.out.row
      obtain ⟨cs, hbk, hsz⟩ : ∃ cs, wr.heap[g]? = some (.cells cs TT (0, 0)) ∧ j * 3 ≤ cs.size := by
        rcases ho.2 with ⟨hv, _⟩ | ⟨g', cap', cur, hv, hb, hh, hnc, hcm, hcs, _⟩
        · cases hv
        injection hv with ha _ hc
        injection ha with ha
        injection ha with hg'
        subst hg'
        have h3 : kTk.sz = 3 := rfl
        rw [h3] at hcs
        have h4 : xs.length * 3 ≤ cap' * 3 := Nat.mul_le_mul_right _ (by omega)
        have := HS.out.len
        exact ⟨cur, hh, by omega⟩
      obtain ⟨seg, hseg, hclr⟩ := clear_tok wr g (i * 3) (j - i) (cap - i) cs hbk (by omega) (by omega)
      have hwc := hclr 0
      have hbase : w0.heap.size ≤ g := Kd.R_base HS.out.row g (by simp [Value.ownBlock])
      have HL2 := Aside0.mk (Lt_cells hbase seg (i * 3) HS.out.lt)
      have hxl := HS.out.len
      have hCx := (Kd.R_reads' HS.out.row).2.2
      have HF := Aside0.mk (C_cleared seg hCx (by omega : i ≤ xs.length))
      have hpre := HS.out.pre
      have htk : L.take j = L := List.take_of_length_le (by have := HN.out; omega)
      rw [htk] at hpre
      rw [hpre] at HF
      have hlen : i = (L.filter rightT).length := by rw [← hpre, List.length_take]; omega
      have HQ := Aside0.mk hlen
      clear ho hbk hsz hseg hclr hbase hxl hCx hpre htk hlen
      go_wp2_with fail
      go_ret
      have hq := HQ.out
      rw [← hq]
      exact ⟨by omega, rfl, HF.out, HL2.out⟩
end Go.Proofs.YtcinojbfjiohjaaGreatDoor.Lx
end

section
namespace Go.Proofs.YtcinojbfjiohjaaGreatDoor.Lx
open Go Go.RowKit Go.Proofs.YtcinojbfjiohjaaGreatDoor.PPrintTells Go.Proofs.YtcinojbfjiohjaaGreatDoor.Ex Go.Proofs.YtcinojbfjiohjaaGreatDoor.Civ Go.Proofs.YtcinojbfjiohjaaGreatDoorW.PrintWords Go.Proofs.YtcinojbfjiohjaaGreatDoorW.PrintLast Go.Proofs.YtcinojbfjiohjaaGreatDoorW.PrintMore
set_option linter.unusedVariables false
set_option linter.unusedSimpArgs false
theorem tok_at0 {w : World} {g : Nat} {L : List Tok} (h : Kd.C kTk w (some ⟨g, 0, none⟩) L.length L) (i : Nat) (hi : i < L.length) : w.cell? ⟨g, i * 3, none⟩ = some (.int .u8 L[i].f0) ∧ w.cell? ⟨g, i * 3 + 1, none⟩ = some (.string L[i].f1) ∧ w.cell? ⟨g, i * 3 + 2, none⟩ = some (.int .i64 L[i].f2) := by
  obtain ⟨ad, hA, c0, c1, c2⟩ := tok_at h i hi
  obtain rfl := Option.some.inj hA
  have ha : (⟨g, 0, none⟩ : Addr).add (i * 3) = ⟨g, i * 3, none⟩ := by
    unfold Addr.add
    split
    · rename_i h0
      rw [h0]
    · rw [Nat.zero_add]
  rw [ha] at c0 c1 c2
  exact ⟨c0, c1, c2⟩
theorem first_wrong : ∀ L : List Tok, (¬ ∀ t ∈ L, rightT t = true) → ∃ n, n < L.length ∧ (∀ i (h : i < L.length), i < n → rightT L[i] = true) ∧ (∀ h : n < L.length, rightT L[n] = false)
  | [], h => absurd (fun t ht => by cases ht) h
  | t :: L, h => by
    by_cases hr : rightT t = true
    · obtain ⟨n, h1, h2, h3⟩ := first_wrong L (fun k => h (fun u hu => by
        rcases List.mem_cons.1 hu with rfl | hu
        · exact hr
        · exact k u hu))
      refine ⟨n + 1, by rw [List.length_cons]; omega, fun i hi hn => ?_, fun hh => h3 h1⟩
      cases i with
      | zero => exact hr
      | succ i => exact h2 i (by rw [List.length_cons] at hi; omega) (by omega)
    · exact ⟨0, by rw [List.length_cons]; omega, fun i _ h0 => absurd h0 (Nat.not_lt_zero _), fun _ => by simpa using hr⟩
set_option maxHeartbeats 16000000 in
set_option maxRecDepth 100000 in
theorem Text_some (L : List Tok) (A : Option Addr) (c : Nat) (w : World) (hC : LCal w) (hL : Kd.C kTk w A L.length L) (hc : L.length ≤ c) (hm : L.length ≤ 4294967296) (hW : ∀ t ∈ L, TokW t) (hS : ¬ ∀ t ∈ L, rightT t = true) :
    Calls Tryz.prog 30 #[.slice A L.length c] w fun e w' => e = .returned (.string (textL (L.filter rightT))) ∧ Lt w w' := by
  obtain ⟨n, hn, hR, hX⟩ := first_wrong L hS
  obtain ⟨F, hF⟩ : ∃ F, F = L.filter rightT := ⟨_, rfl⟩
  have hFW : ∀ t ∈ F, TokW t := fun t ht => hW t (by rw [hF] at ht; exact (List.mem_filter.1 ht).1)
  have hFR : ∀ t ∈ F, rightT t = true := fun t ht => by rw [hF] at ht; exact (List.mem_filter.1 ht).2
  have hFL : F.length ≤ 4294967296 := by
    have := List.length_filter_le rightT L
    rw [hF]
    omega
  have CC := Aside0.mk (Clone_calls L A c w hL hc (by omega))
  have HC := Aside0.mk hC
  have HFW := Aside0.mk hFW
  have HFR := Aside0.mk hFR
  have CD := fun g cap W h2 h3 => Aside0.mk (DeleteFunc_to L L.length rfl w g cap W hC h2 h3 hW n hn hR hX)
  have HJ := Aside0.mk (show (Lib.join (F.map (fun t => (textT t).1.data.toList)) [32]).length ≤ 140737488355328 from by
    have h := join_len (F.map (fun t => (textT t).1.data.toList)) (fun x hx => by
      obtain ⟨t, ht, rfl⟩ := List.mem_map.1 hx
      have := right_short (hFW t ht) (hFR t ht)
      rw [Array.length_toList]
      exact this)
    rw [List.length_map] at h
    omega)
  rw [← hF] at CD ⊢
  have hp : 0 < L.length := by omega
  obtain ⟨N, hN⟩ : ∃ N, N = L.length := ⟨_, rfl⟩
  rw [← hN] at hc CC CD ⊢
  have HN := Aside0.mk hN
  have HP := Aside0.mk hp
  clear hC hL hW hm hn hR hX hS hF hFW hFR hN hp
  go_enter Tryz.func30, Tryz.ntmps30
  go_wp2_with fail
  (with_reducible refine CC.out.mono ?_)
  rintro e w1 ⟨v, rfl, ho, hl⟩
  obtain ⟨g, cap, rfl, _, _, _⟩ := Kd.R_form ho HP.out
  rw [← HN.out] at ho ⊢
  have HO := Aside0.mk ho
  have HT := Aside0.mk hl
  clear ho hl CC
  go_wp2_with fail
  (with_reducible refine (CD _ _ _ HO.out HT.out).out.mono ?_)
  rintro e w2 ⟨m, hFN, hmc, rfl, hK, hl⟩
  have hm : m ≤ 4294967296 := by omega
  have HFN := Aside0.mk hFN
  have HK := Aside0.mk hK
  have HT := Aside0.mk hl
  clear hl hK CD HO hFN hFL
  go_wp2_with fail
  go_loopw [3, 12] (fun v i wr => ∃ k : Nat, k ≤ m ∧ i = .int .i64 (k : Int) ∧ Lt w2 wr ∧ Kd.R kS SS wr w2.heap.size (fun _ => True) v ((F.take k).map fun t => (textT t).1)) (fun _ i _ => m - (intOf i).toNat)
  case atStart => exact ⟨0, Nat.zero_le _, rfl, Lt.refl _, Kd.R_nil _ _ _ _ _⟩
  case round =>
    obtain ⟨k, hk, rfl, hlt2, hr⟩ := hrel
    have HT0 := HT
    have HT := Aside0.mk (HT.out.trans hlt2)
    have HT2 := Aside0.mk hlt2
    have HRR := Aside0.mk hr
    obtain ⟨Av, cv, rfl⟩ := Kd.R_slice hr
    clear hlt2 hr
    obtain ⟨M, hM⟩ : ∃ M, M = ((F.take k).map fun t => (textT t).1).length := ⟨_, rfl⟩
    have hMk : M = k := by rw [hM, List.length_map, List.length_take, ← HFN.out, Nat.min_eq_left hk]
    rw [← hM] at HRR ⊢
    have HMK := Aside0.mk hMk
    clear hM hMk
    by_cases hkn : k < m
    · have h1 : (k : Int) < (m : Int) := by omega
      have h2 : decide ((k : Int) < (m : Int)) = true := decide_eq_true h1
      obtain ⟨c0, c1, c2⟩ := tok_at0 (by rw [← HFN.out]; exact HK.out) k (by have := HFN.out; omega)
      have hmem : F[k]'(by have := HFN.out; omega) ∈ F := List.getElem_mem _
      have htk : (F.take (k + 1)).map (fun t => (textT t).1) = (F.take k).map (fun t => (textT t).1) ++ [(textT (F[k]'(by have := HFN.out; omega))).1] := by
        rw [List.take_succ_eq_append_getElem (by have := HFN.out; omega), List.map_append]
        rfl
      obtain ⟨t, ht⟩ : ∃ t, t = F[k]'(by have := HFN.out; omega) := ⟨_, rfl⟩
      rw [← ht] at c0 c1 c2 hmem htk
      have d0 := cell_lt HT2.out c0
      have d1 := cell_lt HT2.out c1
      have d2 := cell_lt HT2.out c2
      have CT := Aside0.mk (text_calls t ⟨(HFW.out t hmem).n0, (HFW.out t hmem).n1⟩ (HFW.out t hmem).sz (wr.alloc (tokC t)) (HC.out.l (HT.out.a _)))
      have HTK := Aside0.mk htk
      obtain ⟨tx, b, htx⟩ : ∃ tx b, textT t = (tx, b) := ⟨_, _, rfl⟩
      rw [htx] at CT HTK
      dsimp only at CT HTK
      clear c0 c1 c2 ht hmem htk htx
      go_wp2_with fail
      (with_reducible refine CT.out.mono ?_)
      rintro e w3 ⟨rfl, hl⟩
      have HRR := Aside0.mk (Kd.R_below HRR.out (((Lt.refl _).a (tokC t)).trans hl).out)
      have HT := Aside0.mk ((HT.out.a (tokC t)).trans hl)
      have HT2 := Aside0.mk ((HT2.out.a (tokC t)).trans hl)
      clear hl CT d0 d1 d2
      go_wp2_with ((with_reducible refine gate_builtin (b := .append) (xs := #[.tmp 21, .tmp 23]) rfl ?_); at_builtin; refine Kd.R_append kS (w0 := w2) w2.heap.size rfl (.tmp 21) (.tmp 23) 38 SS (.string nil8) 16 rfl Tryz.underlying38 info_str rfl (by decide) (by omega) (.slice Av M cv) ((F.take k).map fun t => (textT t).1) tx [.string tx] (fun _ => True) (fun _ => False) rfl rfl ?aP (fun _ hk => hk.elim) ?aF ?aO ?aB ?aS ?aL ?_; (case aP => exact rfl); (case aF => exact fun _ _ => trivial); (case aO => exact HRR.out); (case aB => exact HT2.out.out); (case aS => exact HT2.out.out.size); (case aL => rw [List.length_map, List.length_take, ← HFN.out, Nat.min_eq_left hk]; omega); intro v1 wa ho hb hg hat; have HO := Aside0.mk ho; have HT2 := Aside0.mk (Lt.mk hb); clear ho hb hg hat)
      go_roundw
      case rel => exact ⟨k + 1, by omega, by go_num, HT2.out, by rw [HTK.out]; exact HO.out⟩
      case measure => simp [intOf]; omega
    · obtain rfl : k = m := by omega
      have h1 : ¬ (k : Int) < (k : Int) := by omega
      have h2 : decide ((k : Int) < (k : Int)) = false := decide_eq_false h1
      have hall : F.take k = F := by rw [HFN.out, List.take_length]
      rw [hall] at HRR
      have CJ := Aside0.mk (joined_calls (F.map fun t => (textT t).1) Av cv wr (by rw [List.length_map, ← HFN.out, ← HMK.out]; exact Kd.R_lower HRR.out (Nat.zero_le _)) (by rw [List.length_map, ← HFN.out]; omega) (by rw [List.map_map]; exact HJ.out))
      have eL : (F.map fun t => (textT t).1).length = M := by rw [List.length_map, ← HFN.out, HMK.out]
      rw [eL, List.map_map] at CJ
      have eT : toB (Lib.join (F.map ((fun x => x.data.toList) ∘ fun t => (textT t).1)) [32]) = textL F := rfl
      rw [eT] at CJ
      clear hall eL eT HRR
      go_wp2_with fail
      (with_reducible refine CJ.out.mono ?_)
      rintro e w3 ⟨rfl, hl⟩
      go_wp2
      go_ret
      exact ⟨rfl, HT.out.trans hl⟩
theorem Text_any (L : List Tok) (A : Option Addr) (c : Nat) (w : World) (hC : LCal w) (hL : Kd.C kTk w A L.length L) (hc : L.length ≤ c) (hm : L.length ≤ 4294967296) (hW : ∀ t ∈ L, TokW t) :
    Calls Tryz.prog 30 #[.slice A L.length c] w fun e w' => e = .returned (.string (textL (L.filter rightT))) ∧ Lt w w' := by
  by_cases h : ∀ t ∈ L, rightT t = true
  · rw [List.filter_eq_self.2 h]
    exact Text_right L A c w hC hL hc hm hW h
  · exact Text_some L A c w hC hL hc hm hW h
end Go.Proofs.YtcinojbfjiohjaaGreatDoor.Lx
end

section
namespace Go.Proofs.YtcinojbfjiohjaaGreatDoor.Lx
open Go Go.RowKit Go.Proofs.YtcinojbfjiohjaaGreatDoor.PPrintTells Go.Proofs.YtcinojbfjiohjaaGreatDoor.Ex Go.Proofs.YtcinojbfjiohjaaGreatDoor.Civ Go.Proofs.YtcinojbfjiohjaaGreatDoorW.PrintWords Go.Proofs.YtcinojbfjiohjaaGreatDoorW.PrintLast Go.Proofs.YtcinojbfjiohjaaGreatDoorW.PrintMore
set_option linter.unusedVariables false
set_option linter.unusedSimpArgs false
theorem Words_at (s : ByteArray) (hs : s.size < 4294967281) (w : World) (hC : LCal w) :
    Calls Tryz.prog 14 #[.string s] w fun e w' => ∃ B d, e = .returned (.tuple #[.slice B (lexL s.data.toList).1.length d, .int .i64 (lexL s.data.toList).2]) ∧ Kd.C kTk w' B (lexL s.data.toList).1.length (lexL s.data.toList).1 ∧ (lexL s.data.toList).1.length ≤ d ∧ Lt w w' := by
  refine (Words_calls s hs w hC).mono ?_
  rintro e w' ⟨v, rfl, ho, hl⟩
  obtain ⟨B, d, rfl, hd, hCC⟩ := Kd.R_reads ho
  exact ⟨B, d, rfl, hCC, hd, hl⟩
end Go.Proofs.YtcinojbfjiohjaaGreatDoor.Lx
end

section
namespace Go.Proofs.YtcinojbfjiohjaaGreatDoor.Lx
open Go Go.RowKit Go.Proofs.YtcinojbfjiohjaaGreatDoor.PPrintTells Go.Proofs.YtcinojbfjiohjaaGreatDoor.Ex Go.Proofs.YtcinojbfjiohjaaGreatDoor.Civ Go.Proofs.YtcinojbfjiohjaaGreatDoorW.PrintWords Go.Proofs.YtcinojbfjiohjaaGreatDoorW.PrintLast Go.Proofs.YtcinojbfjiohjaaGreatDoorW.PrintMore
set_option linter.unusedVariables false
set_option linter.unusedSimpArgs false
theorem textL_size (F : List Tok) (hW : ∀ t ∈ F, TokW t) (hR : ∀ t ∈ F, rightT t = true) : (textL F).size ≤ 301 * F.length := by
  have h := join_len (F.map (fun t => (textT t).1.data.toList)) (fun x hx => by
    obtain ⟨t, ht, rfl⟩ := List.mem_map.1 hx
    have := right_short (hW t ht) (hR t ht)
    rw [Array.length_toList]
    exact this)
  rw [List.length_map] at h
  unfold textL
  rw [toB_size]
  exact h
theorem Text_any_n (L : List Tok) (N : Nat) (hN : L.length = N) (F : List Tok) (hF : L.filter rightT = F) (A : Option Addr) (c : Nat) (w : World) (hC : LCal w) (hL : Kd.C kTk w A N L) (hc : N ≤ c) (hm : N ≤ 4294967296) (hW : ∀ t ∈ L, TokW t) :
    Calls Tryz.prog 30 #[.slice A N c] w fun e w' => e = .returned (.string (textL F)) ∧ Lt w w' := by
  subst hN
  subst hF
  exact Text_any L A c w hC hL hc hm hW
set_option maxHeartbeats 32000000 in
set_option maxRecDepth 100000 in
theorem LexBack_lt (L : List Tok) (A : Option Addr) (c N : Nat) (hN : L.length = N) (s : ByteArray) (w : World) (hC : LCal w) (hL : Kd.C kTk w A N L) (hc : N ≤ c) (hW : ∀ t ∈ L, TokW t) (hs0 : s.size ≤ 140737488351232) :
    Calls Tryz.prog 7 #[.slice A N c, .string s] w fun e w' => e = .returned (.bool true) ∧ Lt w w' := by
  have HC := Aside0.mk hC
  have hm := hL.2.1
  have CW := fun W (h : LCal W) => Aside0.mk (awake_calls W h)
  clear hC
  by_cases hbig : 50 < N
  · have g1 : (50 : Int) < (N : Int) := by omega
    have g2 : decide ((50 : Int) < (N : Int)) = true := decide_eq_true g1
    clear hL hW hN
    go_enter Tryz.func7, Tryz.ntmps7
    go_wp2_with fail
    (with_reducible refine (CW _ HC.out).out.mono ?_)
    rintro e w1 ⟨rfl, hl⟩
    go_wp2
    go_ret
    exact ⟨rfl, hl⟩
  have g1 : ¬ (50 : Int) < (N : Int) := by omega
  have g2 : decide ((50 : Int) < (N : Int)) = false := decide_eq_false g1
  by_cases hbig2 : 500 < s.size
  · have g3 : (500 : Int) < (s.size : Int) := by omega
    have g4 : decide ((500 : Int) < (s.size : Int)) = true := decide_eq_true g3
    clear hL hW hN
    go_enter Tryz.func7, Tryz.ntmps7
    go_wp2_with fail
    (with_reducible refine (CW _ HC.out).out.mono ?_)
    rintro e w1 ⟨rfl, hl⟩
    go_wp2
    go_ret
    exact ⟨rfl, hl⟩
  have g3 : ¬ (500 : Int) < (s.size : Int) := by omega
  have g4 : decide ((500 : Int) < (s.size : Int)) = false := decide_eq_false g3
  obtain ⟨F, hF⟩ : ∃ F, L.filter rightT = F := ⟨_, rfl⟩
  have hFW : ∀ t ∈ F, TokW t := fun t ht => hW t (by rw [← hF] at ht; exact (List.mem_filter.1 ht).1)
  have hFR : ∀ t ∈ F, rightT t = true := fun t ht => by rw [← hF] at ht; exact (List.mem_filter.1 ht).2
  have hFL : F.length ≤ N := by rw [← hF, ← hN]; exact List.length_filter_le _ _
  have CT := fun W h1 h2 => Aside0.mk (Text_any_n L N hN F hF A c W h1 h2 hc (by omega) hW)
  have hts : (textL F).size < 4294967281 := by have := textL_size F hFW hFR; omega
  have hlx := textL_lex F hFW hFR
  obtain ⟨T, hT⟩ : ∃ T, T = textL F := ⟨_, rfl⟩
  rw [← hT] at CT hts hlx
  obtain ⟨M, hM⟩ : ∃ M, F.length = M := ⟨_, rfl⟩
  rw [hM] at hFL
  have C1 := fun W h => Aside0.mk (Words_to T F (-1) M hM hlx hts W h)
  have CS := fun A B c d W h1 h2 h3 h4 => Aside0.mk (same_n F M hM A B c d W h1 h2 h3 h4 (by omega))
  have C2 := fun W h => Aside0.mk (Words_at s (by omega) W h)
  have hge := lexL_ge s.data.toList
  have herr := lexL_err s.data.toList
  have hri := lex_right s.data.toList.length s.data.toList (Nat.le_refl _) (by rw [Array.length_toList]; show s.size < _; omega)
  have hll := lex_len s.data.toList.length s.data.toList (Nat.le_refl _)
  have hpl := place s.data.toList.length s.data.toList (Nat.le_refl _)
  have hsz : s.size = s.data.toList.length := (Array.length_toList).symm
  obtain ⟨G, k, hG⟩ : ∃ G k, lexL s.data.toList = (G, k) := ⟨_, _, rfl⟩
  rw [hG] at C2 hge herr hri hll hpl
  dsimp only at C2 hge herr hri hll hpl
  have HRI := Aside0.mk hri
  have HLL := Aside0.mk (show G.length ≤ 500 by omega)
  have HGE := Aside0.mk hge
  have HERR := Aside0.mk herr
  have HPL := Aside0.mk (fun a h => show a < s.size by rw [hsz]; exact (hpl a h).1)
  have HL := Aside0.mk hL
  have HW := Aside0.mk hW
  have HN := Aside0.mk hN
  have HF := Aside0.mk hF
  have HM := Aside0.mk hM
  clear hL hW hN hF hFW hFR hts hlx hT hM hge herr hri hll hpl hsz hG
  go_enter Tryz.func7, Tryz.ntmps7
  go_wp2_with fail
  go_loopw [5, 27] (fun v i wr => ∃ j : Nat, j ≤ N ∧ i = .int .i64 (j : Int) ∧ Lt w wr ∧ Kd.R kTk TT wr w.heap.size (fun _ => True) v ((L.take j).filter rightT)) (fun _ i _ => N - (intOf i).toNat)
  case atStart => exact ⟨0, Nat.zero_le _, rfl, Lt.refl _, Kd.R_nil _ _ _ _ _⟩
  case round =>
    obtain ⟨j, hj, rfl, hlt, hr⟩ := hrel
    have HT := Aside0.mk hlt
    have HR := Aside0.mk hr
    obtain ⟨B, d, rfl⟩ := Kd.R_slice hr
    clear hlt hr
    by_cases hjN : j < N
    · have i1 : (j : Int) < (N : Int) := by omega
      have i2 : decide ((j : Int) < (N : Int)) = true := decide_eq_true i1
      obtain ⟨ad, rfl, c0, c1, c2⟩ := tok_at (by rw [HN.out]; exact HL.out) j (by have := HN.out; omega)
      have hmem : L[j]'(by have := HN.out; omega) ∈ L := List.getElem_mem _
      have hfs := filt_succ L j (by have := HN.out; omega)
      obtain ⟨t, ht⟩ : ∃ t, t = L[j]'(by have := HN.out; omega) := ⟨_, rfl⟩
      rw [← ht] at c0 c1 c2 hmem hfs
      have d0 := cell_lt HT.out c0
      have d1 := cell_lt HT.out c1
      have d2 := cell_lt HT.out c2
      have HA := Aside0.mk ((Lt.refl wr).a (tokC t))
      have hb := blk_new wr (tokC t)
      have CR := Aside0.mk (Right_calls t (HW.out t hmem) (wr.alloc (tokC t)) (HC.out.l (HT.out.trans HA.out)))
      have HTL : ((L.take j).filter rightT).length ≤ 1000 := by
        have h := List.length_filter_le rightT (L.take j)
        rw [List.length_take] at h
        omega
      obtain ⟨ts, hts⟩ : ∃ ts, ts = (L.take j).filter rightT := ⟨_, rfl⟩
      rw [← hts] at hfs HR HTL ⊢
      have HTL := Aside0.mk HTL
      have HFS := Aside0.mk hfs
      clear c0 c1 c2 ht hmem hfs hts
      by_cases hr : rightT t = true
      · rw [hr] at CR HFS
        rw [if_pos rfl] at HFS
        clear hr
        go_wp2_with fail
        (with_reducible refine CR.out.mono ?_)
        rintro e w2 ⟨rfl, hl⟩
        have b2 := blk_lt_on hl hb
        have HR := Aside0.mk (Kd.R_below HR.out (HA.out.trans hl).out)
        have HT := Aside0.mk (HT.out.trans (HA.out.trans hl))
        obtain ⟨z0, z1, z2⟩ := cells3 b2
        clear hl hb b2 CR d0 d1 d2 HA
        go_wp2_with ((with_reducible refine gate_builtin (b := .append) (xs := #[.tmp 33, .tmp 35]) rfl ?_); at_builtin; refine Kd.R_append kTk (w0 := w) w.heap.size rfl (.tmp 33) (.tmp 35) 32 TT (.agg #[.int .u8 0, .string nil8, .int .i64 0]) 32 rfl Tryz.underlying32 info_tkz rfl (by decide) (by omega) (.slice B ts.length d) ts t [.int .u8 t.f0, .string t.f1, .int .i64 t.f2] (fun _ => True) (fun _ => False) rfl rfl ?aP (fun _ hk => hk.elim) ?aF ?aO ?aB ?aS ?aL ?_; (case aP => exact k51_mkM _ _ _ t); (case aF => exact fun _ _ => trivial); (case aO => exact HR.out); (case aB => exact HT.out.out); (case aS => exact HT.out.out.size); (case aL => have := HTL.out; omega); intro v1 wa ho hb hg hat; have HO := Aside0.mk ho; have HW2 := Aside0.mk (Lt.mk hb); clear ho hb hg hat)
        go_roundw
        case rel => exact ⟨j + 1, by omega, by go_num, HW2.out, by rw [HFS.out]; exact HO.out⟩
        case measure => simp [intOf]; omega
      · have hr : rightT t = false := by simpa using hr
        rw [hr] at CR HFS
        rw [if_neg (by decide), List.append_nil] at HFS
        clear hr
        go_wp2_with fail
        (with_reducible refine CR.out.mono ?_)
        rintro e w2 ⟨rfl, hl⟩
        have HR := Aside0.mk (Kd.R_below HR.out (HA.out.trans hl).out)
        have HT := Aside0.mk (HT.out.trans (HA.out.trans hl))
        clear hl hb CR d0 d1 d2 HA
        go_wp2_with fail
        go_roundw
        case rel => exact ⟨j + 1, by omega, by go_num, HT.out, by rw [HFS.out]; exact HR.out⟩
        case measure => simp [intOf]; omega
    · obtain rfl : j = N := by omega
      have i1 : ¬ (j : Int) < (j : Int) := by omega
      have i2 : decide ((j : Int) < (j : Int)) = false := decide_eq_false i1
      have hall : (L.take j).filter rightT = F := by rw [← HF.out, List.take_of_length_le (by have := HN.out; omega)]
      rw [hall] at HR ⊢
      rw [HM.out] at HR ⊢
      obtain ⟨hq, hMd, hK⟩ := Kd.R_reads' HR.out
      clear hq
      rw [HM.out] at hK
      have HK := Aside0.mk hK
      clear hall hK
      go_wp2_with fail
      (with_reducible refine (CT _ (HC.out.l HT.out) (Kd.C_below HL.out HT.out.out)).out.mono ?_)
      rintro e w1 ⟨rfl, hl⟩
      have HR := Aside0.mk (Kd.R_below HR.out hl.out)
      have HT := Aside0.mk (HT.out.trans hl)
      have HK := Aside0.mk (Kd.C_below HK.out hl.out)
      clear hl CT
      go_wp2_with fail
      (with_reducible refine (C1 _ (HC.out.l HT.out)).out.mono ?_)
      rintro e w2 ⟨B2, d2, rfl, hK2, hd2, hl⟩
      have HK := Aside0.mk (Kd.C_below HK.out hl.out)
      have HT := Aside0.mk (HT.out.trans hl)
      have HK2 := Aside0.mk hK2
      clear hl C1 hK2
      go_wp2_with fail
      (with_reducible refine (CS _ _ _ _ _ HK2.out hd2 HK.out hMd).out.mono ?_)
      rintro e w3 ⟨rfl, hl⟩
      have HT := Aside0.mk (HT.out.trans hl)
      clear hl CS HK HK2 HR
      go_wp2_with fail
      (with_reducible refine (C2 _ (HC.out.l HT.out)).out.mono ?_)
      rintro e w4 ⟨B3, d3, rfl, hK3, hd3, hl⟩
      have HT := Aside0.mk (HT.out.trans hl)
      have HK3 := Aside0.mk hK3
      clear hl C2 hK3
      by_cases hk : k = -1
      · subst hk
        have hGW : ∀ t ∈ G, TokW t := fun t ht => (HRI.out t ht).2
        have hGR : ∀ t ∈ G, rightT t = true := fun t ht => (HRI.out t ht).1
        have hts2 : (textL G).size < 4294967281 := by have := textL_size G hGW hGR; have := HLL.out; omega
        have hlx2 := textL_lex G hGW hGR
        obtain ⟨P, hP⟩ : ∃ P, G.length = P := ⟨_, rfl⟩
        obtain ⟨U, hU⟩ : ∃ U, textL G = U := ⟨_, rfl⟩
        rw [hU] at hts2 hlx2
        have hPP : P ≤ 500 := by rw [← hP]; exact HLL.out
        rw [hP] at HK3 hd3 ⊢
        have CT2 := fun W h1 h2 => Aside0.mk (Text_n G P hP U hU B3 d3 W h1 h2 hd3 (by omega) hGW hGR)
        have C4 := fun W h => Aside0.mk (Words_to U G (-1) P hP hlx2 hts2 W h)
        have CS2 := fun A B c d W h1 h2 h3 h4 => Aside0.mk (same_n G P hP A B c d W h1 h2 h3 h4 (by omega))
        have HP := Aside0.mk hP
        have HGW := Aside0.mk hGW
        have HGR := Aside0.mk hGR
        clear hGW hGR hts2 hlx2 hP hU
        go_wp2_with fail
        (with_reducible refine (CT2 _ (HC.out.l HT.out) HK3.out).out.mono ?_)
        rintro e w5 ⟨rfl, hl⟩
        have HK3 := Aside0.mk (Kd.C_below HK3.out hl.out)
        have HT := Aside0.mk (HT.out.trans hl)
        clear hl CT2
        go_wp2_with fail
        (with_reducible refine (C4 _ (HC.out.l HT.out)).out.mono ?_)
        rintro e w6 ⟨B6, d6, rfl, hK6, hd6, hl⟩
        have HK3 := Aside0.mk (Kd.C_below HK3.out hl.out)
        have HT := Aside0.mk (HT.out.trans hl)
        have HK6 := Aside0.mk hK6
        clear hl C4 hK6
        go_wp2_with fail
        go_loopw [83] (fun i wr => ∃ j : Nat, j ≤ P ∧ i = .int .i64 (j : Int) ∧ Lt w6 wr) (fun i _ => P - (intOf i).toNat)
        case atStart => exact ⟨0, Nat.zero_le _, rfl, Lt.refl _⟩
        case round =>
          obtain ⟨q, hq, rfl, hlt⟩ := hrel
          have HT6 := Aside0.mk hlt
          clear hlt
          by_cases hqP : q < P
          · have i3 : (q : Int) < (P : Int) := by omega
            have i4 : decide ((q : Int) < (P : Int)) = true := decide_eq_true i3
            obtain ⟨ad3, rfl, c0, c1, c2⟩ := tok_at (by rw [HP.out]; exact HK3.out) q (by have := HP.out; omega)
            have hmem : G[q]'(by have := HP.out; omega) ∈ G := List.getElem_mem _
            obtain ⟨t, ht⟩ : ∃ t, t = G[q]'(by have := HP.out; omega) := ⟨_, rfl⟩
            rw [← ht] at c0 c1 c2 hmem
            have d0 := cell_lt HT6.out c0
            have d1 := cell_lt HT6.out c1
            have d2 := cell_lt HT6.out c2
            have HA := Aside0.mk ((Lt.refl wr).a (tokC t))
            have CR := Aside0.mk (Right_calls t (HGW.out t hmem) (wr.alloc (tokC t)) (HC.out.l (HT.out.trans (HT6.out.trans HA.out))))
            rw [HGR.out t hmem] at CR
            clear c0 c1 c2 ht hmem
            go_wp2_with fail
            (with_reducible refine CR.out.mono ?_)
            rintro e w7 ⟨rfl, hl⟩
            have HT6 := Aside0.mk (HT6.out.trans (HA.out.trans hl))
            clear hl CR d0 d1 d2 HA
            go_wp2_with fail
            go_roundw
            case rel => exact ⟨q + 1, by omega, by go_num, HT6.out⟩
            case measure => simp [intOf]; omega
          · obtain rfl : q = P := by omega
            have i3 : ¬ (q : Int) < (q : Int) := by omega
            have i4 : decide ((q : Int) < (q : Int)) = false := decide_eq_false i3
            have CS2 := Aside0.mk (CS2 B3 B6 d3 d6 wr (Kd.C_below HK3.out HT6.out.out) hd3 (Kd.C_below HK6.out HT6.out.out) hd6).out
            go_wp2_with fail
            (with_reducible refine CS2.out.mono ?_)
            rintro e w7 ⟨rfl, hl⟩
            have HT := Aside0.mk (HT.out.trans (HT6.out.trans hl))
            clear hl CS2
            go_wp2_with fail
            (with_reducible refine (CW _ (HC.out.l HT.out)).out.mono ?_)
            rintro e w8 ⟨rfl, hl⟩
            have HT := Aside0.mk (HT.out.trans hl)
            go_wp2
            go_ret
            exact ⟨rfl, HT.out⟩
      · obtain rfl : G = [] := HERR.out hk
        obtain ⟨a, rfl⟩ : ∃ a : Nat, k = (a : Int) := ⟨k.toNat, by have := HGE.out; omega⟩
        have ha := HPL.out a rfl
        have j1 : ((a : Int) != -1) = true := by rw [bne, beq_eq_false_iff_ne.2 (by omega : (a : Int) ≠ -1)]; rfl
        have j0 : ((a : Int) == -1) = false := beq_eq_false_iff_ne.2 (by omega)
        have j2 : (a : Int) < (s.size : Int) := by omega
        have j3 : decide ((a : Int) < (s.size : Int)) = true := decide_eq_true j2
        have j4 : (0 : Int) ≤ (a : Int) := by omega
        have j5 : decide ((0 : Int) ≤ (a : Int)) = true := decide_eq_true j4
        have j6 : decide ((a : Int) ≥ 0) = true := decide_eq_true j4
        clear hk
        go_wp2_with fail
        (with_reducible refine (CW _ (HC.out.l HT.out)).out.mono ?_)
        rintro e w5 ⟨rfl, hl⟩
        have HT := Aside0.mk (HT.out.trans hl)
        go_wp2
        go_ret
        exact ⟨rfl, HT.out⟩
end Go.Proofs.YtcinojbfjiohjaaGreatDoor.Lx
end

section
namespace Go.Proofs.YtcinojbfjiohjaaGreatDoor.DLaid
open Go Go.ChangeShapes Go.WideShapes Go.ChangeAt Go.RowKit
set_option linter.unusedVariables false
theorem own : ownKnob Tryz.prog.godebug = none := by kernel_rfl
abbrev laidL : List (String × DataW Unit) := [("math/bits.deBruijn32tab", Rows.laid_math_bits_deBruijn32tab), ("math/bits.deBruijn64tab", Rows.laid_math_bits_deBruijn64tab), ("internal/strconv.uint64pow10", Rows.laid_internal_strconv_uint64pow10), ("unicode/utf8.acceptRanges", Rows.laid_unicode_utf8_acceptRanges), ("epact/civil.ahead", Rows.laid_epact_civil_ahead), ("strconv.ErrRange", Rows.laid_strconv_ErrRange), ("strconv.ErrSyntax", Rows.laid_strconv_ErrSyntax), ("unicode/utf8.first", Rows.laid_unicode_utf8_first)]
theorem gAhead : Tryz.prog.globalNamed "epact/civil.ahead" = some 4 := by kernel_rfl
theorem tAhead : (Tryz.prog.globals[4]?).map (·.type) = some 251 := by kernel_rfl
theorem gPow : Tryz.prog.globalNamed "internal/strconv.uint64pow10" = some 3 := by kernel_rfl
theorem tPow : (Tryz.prog.globals[3]?).map (·.type) = some 245 := by kernel_rfl
theorem cellsI : Tryz.prog.cellsOf 3 = 1 := by kernel_rfl
set_option maxRecDepth 100000 in
theorem door_met (os : Os) (args : Array Value) : laidMetH Tryz.prog laidL ((World.laidAll Tryz.prog os laidL).forCall (fun _ _ => 0) ⟨#[], args, []⟩).memory := by
  rw [MakeChecks.laidMetH_plain _ _ _ (by kernel_rfl)]
  exact laidMet_laidAll _ (by kernel_rfl) (by kernel_rfl)
theorem powData : (Rows.laid_internal_strconv_uint64pow10 : DataW Unit) = Lib.tabData .u64 Lib.pow10Tab := by kernel_rfl
theorem cal_of {W : World} (h : laidMetH Tryz.prog laidL W) (hs : W.ShapedOpen Tryz.prog) : Civ.Cal W := by
  rw [MakeChecks.laidMetH_plain _ _ _ (by kernel_rfl)] at h
  obtain ⟨ps, hv, _⟩ := h
  obtain ⟨_, _, _, _, _, q1, _, _, _, _, hv, _⟩ := hv
  obtain ⟨_, _, _, _, _, q2, _, _, _, _, hv, _⟩ := hv
  obtain ⟨g3, t3, cs3, f3, p3, q3, hg3, ht3, hv3, hd3, hv, _⟩ := hv
  obtain ⟨_, _, _, _, _, q4, _, _, _, _, hv, _⟩ := hv
  obtain ⟨g0, t0, cs0, f0, p0, q5, hg0, ht0, hv0, hd0, _, _⟩ := hv
  refine ⟨?_, ?_, ?_⟩
  · obtain rfl := Option.some.inj (gAhead.symm.trans hg0)
    obtain rfl := Option.some.inj (tAhead.symm.trans ht0)
    obtain ⟨xs, m1, rfl, hx1, hlen, hn3, hel⟩ := DataW.trod_array Tryz.underlying251 hd0
    rw [cellsI] at hel
    have hm : xs.map (·.1) = [.lit (.int .i64 0), .lit (.int .i64 31), .lit (.int .i64 59), .lit (.int .i64 90), .lit (.int .i64 120), .lit (.int .i64 151), .lit (.int .i64 181), .lit (.int .i64 212), .lit (.int .i64 243), .lit (.int .i64 273), .lit (.int .i64 304), .lit (.int .i64 334), .lit (.int .i64 365)] := by
      have h1 := (Prod.mk.inj hx1).1
      exact (DataW.agg.inj h1).symm
    refine ⟨fun i hi => ?_⟩
    rw [World.var?_cell hg0 hv0 i]
    have hd : (xs.map (·.1))[i]? = some (.lit (.int .i64 (Civ.tab i))) := by
      rw [hm]
      rcases (show i = 0 ∨ i = 1 ∨ i = 2 ∨ i = 3 ∨ i = 4 ∨ i = 5 ∨ i = 6 ∨ i = 7 ∨ i = 8 ∨ i = 9 ∨ i = 10 ∨ i = 11 ∨ i = 12 by omega) with rfl | rfl | rfl | rfl | rfl | rfl | rfl | rfl | rfl | rfl | rfl | rfl | rfl <;> rfl
    rw [List.getElem?_map, Option.map_eq_some_iff] at hd
    obtain ⟨x, hx, hx'⟩ := hd
    have he := (hel i hi).trans hx
    obtain ⟨k, e1, e2, _⟩ := DataW.trod_int Tryz.underlying3 he
    rw [e2] at hx'
    obtain rfl : k = Civ.tab i := by simpa using hx'
    rw [Nat.mul_one] at e1
    have h3 : (cs0.toList.drop i)[0]? = some (.int .i64 (Civ.tab i)) := by
      cases hl : cs0.toList.drop i with
      | nil => rw [hl] at e1; cases e1
      | cons c cs =>
        rw [hl] at e1
        simp at e1
        simp [e1]
    rw [List.getElem?_drop] at h3
    simpa using h3
  · obtain rfl := Option.some.inj (gPow.symm.trans hg3)
    obtain rfl := Option.some.inj (tPow.symm.trans ht3)
    unfold Lib.TabIs
    rw [powData] at hd3
    rw [hv3, ← Lib.cells_of_tab Tryz.underlying245 Tryz.underlying163 (by kernel_rfl) (by kernel_rfl) hd3]
  · exact cell_of_shapedOpen_int (P := Tryz.prog) (g := 1) (t := 3) (zero := #[.int .i64 0]) hs (of_decide_eq_true (by kernel_rfl)) (by kernel_rfl) rfl (by kernel_rfl) (by kernel_rfl) Tryz.underlying3
end Go.Proofs.YtcinojbfjiohjaaGreatDoor.DLaid
end

section
namespace Go.Proofs.YtcinojbfjiohjaaGreatDoor.LLaid
open Go Go.ChangeShapes Go.WideShapes Go.ChangeAt Go.RowKit Go.Proofs.YtcinojbfjiohjaaGreatDoor.PPrintTells Go.Proofs.YtcinojbfjiohjaaGreatDoorW.PrintWords Go.Proofs.YtcinojbfjiohjaaGreatDoorW.PrintLast Go.Proofs.YtcinojbfjiohjaaGreatDoorW.PrintMore
set_option linter.unusedVariables false
theorem own : ownKnob Tryz.prog.godebug = none := DLaid.own
abbrev laidL : List (String × DataW Unit) := DLaid.laidL
theorem door_met (os : Os) (args : Array Value) : laidMetH Tryz.prog laidL ((World.laidAll Tryz.prog os laidL).forCall (fun _ _ => 0) ⟨#[], args, []⟩).memory := DLaid.door_met os args
theorem gES : Tryz.prog.globalNamed "strconv.ErrSyntax" = some 5 := by kernel_rfl
theorem tES : (Tryz.prog.globals[5]?).map (·.type) = some 90 := by kernel_rfl
theorem gER : Tryz.prog.globalNamed "strconv.ErrRange" = some 6 := by kernel_rfl
theorem tER : (Tryz.prog.globals[6]?).map (·.type) = some 90 := by kernel_rfl
theorem star : "*" ++ "errors.errorString" = "*errors.errorString" := by decide
theorem rowP (u : TypeId) (h : Tryz.prog.typeName? 3 u = some "*errors.errorString") : u = 265 :=
  typeName_ptr_named (nm := "errors.errorString") (by rw [star]; kernel_rfl) (by kernel_rfl) (by decide) u (by rw [star]; exact h)
theorem cellsE : Tryz.prog.cellsOf 267 = 1 := by kernel_rfl
theorem cellsS : Tryz.prog.cellsOf 9 = 1 := by kernel_rfl
set_option maxRecDepth 100000 in
theorem cal_of {W : World} (h : laidMetH Tryz.prog laidL W) (hs : W.ShapedOpen Tryz.prog) : Lx.LCal W := by
  have hd := DLaid.cal_of h hs
  rw [MakeChecks.laidMetH_plain _ _ _ (by kernel_rfl)] at h
  have h5 := h.tail.tail.tail.tail.tail
  obtain ⟨a1, s1, hv1, _⟩ := laid_sentinel h5 gER tER Tryz.underlying90 rowP Tryz.underlying265 Tryz.underlying267 rfl rfl Tryz.underlying9 cellsE cellsS
  obtain ⟨a2, s2, hv2, _⟩ := laid_sentinel h5.tail gES tES Tryz.underlying90 rowP Tryz.underlying265 Tryz.underlying267 rfl rfl Tryz.underlying9 cellsE cellsS
  exact ⟨hd, ⟨_, _, by simpa using World.var?_cell gES hv2 0⟩, ⟨_, _, by simpa using World.var?_cell gER hv1 0⟩⟩
theorem cells_tok : Tryz.prog.cellsOf 51 = 3 := by kernel_rfl
theorem cells_byte : Tryz.prog.cellsOf 5 = 1 := by kernel_rfl
theorem cells_int64 : Tryz.prog.cellsOf 2 = 1 := by kernel_rfl
end Go.Proofs.YtcinojbfjiohjaaGreatDoor.LLaid
end

section
namespace Go.Proofs.YtcinojbfjiohjaaGreatDoor.LLaid
open Go Go.ChangeShapes Go.WideShapes Go.ChangeAt Go.RowKit Go.Proofs.YtcinojbfjiohjaaGreatDoor.PPrintTells Go.Proofs.YtcinojbfjiohjaaGreatDoorW.PrintWords Go.Proofs.YtcinojbfjiohjaaGreatDoorW.PrintLast Go.Proofs.YtcinojbfjiohjaaGreatDoorW.PrintMore
set_option linter.unusedVariables false
theorem cells_str : Tryz.prog.cellsOf 9 = 1 := by kernel_rfl
section
variable {H : Type} {enc : TypeId × Value → H} {w : World} {base : Nat}
set_option maxRecDepth 100000 in
theorem tok_of_trod {fuel : Nat} {cs : List Value} {y : DataW H × List MemPlace} (h : DataW.trod enc Tryz.prog w base (fun _ => true) true fuel 51 cs = some y) : ∃ t : S51, cs = [.int .u8 t.f0, .string t.f1, .int .i64 t.f2] ∧ Lx.TokW t := by
  obtain ⟨xs, n, rfl, rfl, hlen, hsz, hall⟩ := DataW.trod_struct Tryz.underlying51 h
  rw [cells_tok] at hlen
  match cs, hlen with
  | [v0, v1, v2], _ =>
  match xs, hsz with
  | [y0, y1, y2], _ =>
  have e0 : DataW.trod enc Tryz.prog w base (fun _ => true) true n 5 (([v0, v1, v2].drop 0).take (Tryz.prog.cellsOf 5)) = some y0 := hall 0 _ rfl
  have e1 : DataW.trod enc Tryz.prog w base (fun _ => true) true n 9 (([v0, v1, v2].drop 1).take (Tryz.prog.cellsOf 9)) = some y1 := hall 1 _ rfl
  have e2 : DataW.trod enc Tryz.prog w base (fun _ => true) true n 2 (([v0, v1, v2].drop 2).take (Tryz.prog.cellsOf 2)) = some y2 := hall 2 _ rfl
  rw [cells_byte] at e0
  rw [cells_str] at e1
  rw [cells_int64] at e2
  obtain ⟨o, h0, rfl, hw0⟩ := DataW.trod_int Tryz.underlying5 e0
  obtain ⟨s, h1, rfl, hs⟩ := DataW.trod_string Tryz.underlying9 e1
  obtain ⟨n2, h2, rfl, hw2⟩ := DataW.trod_int Tryz.underlying2 e2
  obtain rfl : v0 = .int .u8 o := by simpa using h0
  obtain rfl : v1 = .string s := by simpa using h1
  obtain rfl : v2 = .int .i64 n2 := by simpa using h2
  exact ⟨⟨o, s, n2⟩, rfl, ⟨(bounds_i64 hw2).1, (bounds_i64 hw2).2, by unfold maxLen at hs; exact hs⟩⟩
set_option maxRecDepth 100000 in
/-- Words that came in. -/
theorem toks_of_trod {fuel : Nat} {cs : List Value} {y : DataW H × List MemPlace} (h : DataW.trod enc Tryz.prog w base (fun _ => true) true fuel 32 cs = some y) :
    ∃ A c, ∃ L : List S51, cs = [.slice A L.length c] ∧ L.length ≤ c ∧ Kd.C k51 w A L.length L ∧ ∀ t ∈ L, Lx.TokW t := by
  rcases DataW.trod_slice Tryz.underlying32 h with ⟨h3, rfl⟩ | ⟨a, len, cap, elems, rest, n', rfl, h3, rfl, hb, hl, hm, hle, hel, _, _⟩
  · exact ⟨none, 0, [], h3, Nat.le_refl 0, Kd.C_nil _ _, fun t h => by cases h⟩
  · rw [cells_tok] at hel
    have each : ∀ i, i < len → ∃ t : S51, w.cells? base (a.add (i * 3)) 3 = some [.int .u8 t.f0, .string t.f1, .int .i64 t.f2] ∧ Lx.TokW t := by
      intro i hi
      have h1 := hel i (by omega)
      rw [List.getElem?_eq_getElem (by omega)] at h1
      obtain ⟨cs', h2, h4⟩ := Option.bind_eq_some_iff.1 h1
      obtain ⟨t, rfl, hT⟩ := tok_of_trod h4
      exact ⟨t, h2, hT⟩
    have rows : ∀ k, k ≤ len → ∃ L : List S51, L.length = k ∧ (∀ t ∈ L, Lx.TokW t) ∧ ∀ i, ∀ hi : i < L.length, w.cells? base (a.add (i * 3)) 3 = some [.int .u8 L[i].f0, .string L[i].f1, .int .i64 L[i].f2] := by
      intro k
      induction k with
      | zero => intro _; exact ⟨[], rfl, (fun t h => nomatch h), fun i hi => by simp at hi⟩
      | succ k ihk =>
        intro hk
        obtain ⟨L, hL, hLT, hy⟩ := ihk (by omega)
        obtain ⟨t, ht, hTt⟩ := each k (by omega)
        refine ⟨L ++ [t], by simp [hL], fun u hu => ?_, fun i hi => ?_⟩
        · rcases List.mem_append.1 hu with h | h
          · exact hLT u h
          · rw [List.mem_singleton.1 h]; exact hTt
        rw [List.length_append] at hi
        simp only [List.length_cons, List.length_nil] at hi
        by_cases hik : i < L.length
        · rw [List.getElem_append_left hik]
          exact hy i hik
        · obtain rfl : i = L.length := by omega
          rw [List.getElem_concat_length rfl]
          rw [hL]
          exact ht
    obtain ⟨L, hL, hLT, hy⟩ := rows len (Nat.le_refl _)
    subst hL
    refine ⟨some a, cap, L, h3, hl, ⟨rfl, by show L.length ≤ 9223372036854775807; unfold maxLen at hm; omega, fun _ => ⟨a, rfl, ?_⟩⟩, hLT⟩
    intro j p hj
    obtain ⟨hjl, rfl⟩ := List.getElem?_eq_some_iff.1 hj
    have hc := hy j hjl
    refine ⟨_, rfl, k51_mk w L[j], ?_⟩
    intro i u hu
    obtain ⟨_, hl4, hcell⟩ := World.cells?_some hc
    have hi : i < 3 := by
      have := (List.getElem?_eq_some_iff.1 hu).1
      simpa using this
    have h5 := hcell i hi
    rw [hu] at h5
    have h6 : (a.add (j * 3)).add i = a.add (j * 3 + i) := by first | exact Addr.add_add a _ _ | exact Go.Addr.add_add a _ _ | (unfold Addr.add; repeat' split <;> simp_all <;> omega)
    rw [h6] at h5
    exact h5
end
end Go.Proofs.YtcinojbfjiohjaaGreatDoor.LLaid
end
