/-
  expr.name, expr.right, expr.Right: which names, parts and expressions are right.
-/
import Derived.Test.YtjeofffddbibeaaDoorExprO
import Derived.Test.YtjeofffddbibeaaDoorNameM
import Derived.Test.YtjeofffddbibeaaDoorShelf
import Derived.ShutString
namespace Go.Proofs.YtjeofffddbibeaaDoor.Ex
open Go Go.RowKit Go.Proofs.YtjeofffddbibeaaDoor.PExprTells Go.Proofs.YtjeofffddbibeaaDoorW.PrintWords Go.Proofs.YtjeofffddbibeaaDoorW.PrintLast Go.Proofs.YtjeofffddbibeaaDoorW.PrintMore
set_option linter.unusedVariables false
set_option linter.unusedSimpArgs false

abbrev cutset : ByteArray := { data := #[95, 97, 98, 99, 100, 101, 102, 103, 104, 105, 106, 107, 108, 109, 110, 111, 112, 113, 114, 115, 116, 117, 118, 119, 120, 121, 122, 65, 66, 67, 68, 69, 70, 71, 72, 73, 74, 75, 76, 77, 78, 79, 80, 81, 82, 83, 84, 85, 86, 87, 88, 89, 90, 48, 49, 50, 51, 52, 53, 54, 55, 56, 57] }
abbrev lettersS : ByteArray := { data := #[95, 97, 98, 99, 100, 101, 102, 103, 104, 105, 106, 107, 108, 109, 110, 111, 112, 113, 114, 115, 116, 117, 118, 119, 120, 121, 122, 65, 66, 67, 68, 69, 70, 71, 72, 73, 74, 75, 76, 77, 78, 79, 80, 81, 82, 83, 84, 85, 86, 87, 88, 89, 90] }
theorem Trim_calls (s : ByteArray) (w : World) (hs : s.size ≤ 9223372036854775807) :
    Calls Tryd.prog 90 #[.string s, .string cutset] w fun e w' => e = .returned (.string ⟨(Lib.trimS s.data.toList (lettersL ++ digitsL)).toArray⟩) ∧ Below w.heap.size w w' :=
  Any.strings_Trim_laid Tryd.lays160 (by kernel_rfl) s cutset w hs (by decide) (ascii_of_all (by decide))
theorem toList_data (s : ByteArray) : s.toList = s.data.toList := Lib.toList_data s
theorem empty_iff (s : ByteArray) : s.toList.isEmpty = true ↔ s.data.toList = [] := by
  rw [toList_data, List.isEmpty_iff]
set_option maxHeartbeats 4000000 in
set_option maxRecDepth 100000 in
theorem name_calls (s : ByteArray) (w : World) (hs : s.size ≤ 9223372036854775807) :
    Calls Tryd.prog 76 #[.string s] w fun e w' => e = .returned (.bool (nameB s)) ∧ Below w.heap.size w w' := by
  have hsz : s.size = s.data.toList.length := (Array.length_toList).symm
  cases hL : s.data.toList with
  | nil =>
    have hn : nameB s = false := by unfold nameB; rw [hL]; rfl
    rw [hn]
    have he : s.toList = [] := by rw [toList_data, hL]
    clear hL hn hsz
    go_enter Tryd.func76, Tryd.ntmps76
    go_wp2
    go_ret
    exact ⟨rfl, Below.refl _ _⟩
  | cons b l =>
    have he : s.toList.isEmpty = false := by rw [toList_data, hL]; rfl
    have hn : nameB s = (decide (l.length < 30) && alphaB b && l.all letterB) := by unfold nameB; rw [hL]; rfl
    rw [hL, List.length_cons] at hsz
    by_cases h30 : 30 < s.size
    · have h30' : (30 : Int) < (s.size : Int) := by omega
      rw [hn, decide_eq_false (by omega), Bool.false_and, Bool.false_and]
      clear hL hn hsz
      go_enter Tryd.func76, Tryd.ntmps76
      go_wp2
      go_ret
      exact ⟨rfl, Below.refl _ _⟩
    · have h30' : (s.size : Int) ≤ 30 := by omega
      have h0 : 0 < s.size := by omega
      rw [hn, decide_eq_true (by omega), Bool.true_and]
      have hb : s[0] = b := by
        have h1 : s.data.toList[0]? = some b := by rw [hL]; rfl
        have h2 : s.data.toList[0]? = some s[0] := by
          rw [List.getElem?_eq_getElem (by rw [Array.length_toList]; exact h0)]
          rfl
        exact Option.some.inj (h2.symm.trans h1)
      have CT := Aside0.mk (Trim_calls s w hs)
      have hall : ((⟨(Lib.trimS s.data.toList (lettersL ++ digitsL)).toArray⟩ : ByteArray)).toList.isEmpty = ((alphaB b || digitB b) && l.all letterB) := by
        rw [toList_data, Bool.eq_iff_iff, List.isEmpty_iff]
        show Lib.trimS s.data.toList (lettersL ++ digitsL) = [] ↔ _
        rw [trimS_nil, hL, List.all_cons, contains_both]
        have : (l.all ((lettersL ++ digitsL).contains ·)) = l.all letterB := by
          congr 1
          funext x
          exact contains_both x
        rw [this]
        rfl
      have hidx : decide (0 ≤ Lib.indexByte lettersS.data.toList b) = alphaB b := by
        rw [Bool.eq_iff_iff, decide_eq_true_eq, ← contains_letters]
        exact indexByte_ge lettersL b
      have hbb : ((b.toNat : Int).toNat.toUInt8) = b := by simp
      have CI := Aside0.mk (fun w => Tryd.strings_IndexByte lettersS (b.toNat : Int) w)
      rw [hbb] at CI
      clear hbb hn hsz hL
      generalize (⟨(Lib.trimS s.data.toList (lettersL ++ digitsL)).toArray⟩ : ByteArray) = t at *
      generalize Lib.indexByte lettersS.data.toList b = j at *
      by_cases h1 : ((alphaB b || digitB b) && l.all letterB) = true
      · rw [h1] at hall
        have hl : l.all letterB = true := by rw [Bool.and_eq_true] at h1; exact h1.2
        rw [hl, Bool.and_true]
        have HF := Aside0.mk hidx
        clear hl h1
        by_cases hj : 0 ≤ j
        · rw [decide_eq_true hj] at HF
          clear hidx
          go_enter Tryd.func76, Tryd.ntmps76
          go_wp2_with fail
          (with_reducible refine CT.out.mono ?_)
          rintro e w1 ⟨rfl, hb1⟩
          go_wp2_with fail
          (with_reducible refine (CI.out _).mono ?_)
          rintro e w2 ⟨rfl, rfl⟩
          go_wp2
          go_ret
          exact ⟨by rw [← HF.out]; rfl, hb1⟩
        · rw [decide_eq_false hj] at HF
          have hj' : j < 0 := by omega
          clear hidx
          go_enter Tryd.func76, Tryd.ntmps76
          go_wp2_with fail
          (with_reducible refine CT.out.mono ?_)
          rintro e w1 ⟨rfl, hb1⟩
          go_wp2_with fail
          (with_reducible refine (CI.out _).mono ?_)
          rintro e w2 ⟨rfl, rfl⟩
          go_wp2
          go_ret
          exact ⟨by rw [← HF.out]; simp; omega, hb1⟩
      · have h1' := Bool.eq_false_iff.2 h1
        rw [h1'] at hall
        have hz : (alphaB b && l.all letterB) = false := by
          rw [Bool.eq_false_iff]
          intro hz
          rw [Bool.and_eq_true] at hz
          exact h1 (by rw [hz.1, hz.2]; rfl)
        rw [hz]
        clear hz h1 h1' hidx hb
        go_enter Tryd.func76, Tryd.ntmps76
        go_wp2_with fail
        (with_reducible refine CT.out.mono ?_)
        rintro e w1 ⟨rfl, hb1⟩
        go_wp2
        go_ret
        exact ⟨rfl, hb1⟩

/-! ### right: a part by itself -/
def rightB (x : X) : Bool :=
  decide (x.f0 ≤ 12) && decide ((x.f2.length : Int) = numsOf x.f0) && decide ((x.f3.length : Int) = argsOf x.f0) && (if x.f0 = 0 then nameB x.f1 else x.f1.toList.isEmpty)
set_option maxHeartbeats 4000000 in
set_option maxRecDepth 100000 in
theorem right_calls (w0 w : World) (p : Addr) (x : X) (A2 : Option Addr) (c2 : Nat) (A3 : Option Addr) (c3 : Nat) (hN : Node w0 w p x A2 c2 A3 c3) (hwf : Wf x) :
    Calls Tryd.prog 48 #[.pointer (some p)] w fun e w' => e = .returned (.bool (rightB x)) ∧ Below w.heap.size w w' := by
  have CO := Aside0.mk (fun w => of_calls x.f0 w hwf.op.1 hwf.op.2)
  have CN := Aside0.mk (fun w => name_calls x.f1 w (by have := hwf.name; omega))
  have hpl := World.block_lt_of_cell? _ _ hN.q0
  have q0 := hN.q0
  have q1 : w.cell? ⟨p.block, p.off + 1, none⟩ = _ := hN.q1
  have q2 : w.cell? ⟨p.block, p.off + 2, none⟩ = _ := hN.q2
  have q3 : w.cell? ⟨p.block, p.off + 3, none⟩ = _ := hN.q3
  have hR : rightB x = (decide (x.f0 ≤ 12) && decide ((x.f2.length : Int) = numsOf x.f0) && decide ((x.f3.length : Int) = argsOf x.f0) && (if x.f0 = 0 then nameB x.f1 else x.f1.toList.isEmpty)) := rfl
  rw [hR]
  clear hR hN
  generalize numsOf x.f0 = n at *
  generalize argsOf x.f0 = m at *
  by_cases h12 : ¬ x.f0 ≤ 12
  · have hd : decide (x.f0 ≤ 12) = false := decide_eq_false h12
    rw [hd, Bool.false_and, Bool.false_and, Bool.false_and]
    rw [hd] at CO
    clear hd h12
    go_enter Tryd.func48, Tryd.ntmps48
    go_wp2_with fail
    (with_reducible refine (CO.out _).mono ?_)
    rintro e w1 ⟨rfl, hb1⟩
    have p0 := cell_later hb1 q0
    have p1 := cell_later hb1 q1
    have p2 := cell_later hb1 q2
    have p3 := cell_later hb1 q3
    have hpl1 : p.block < w1.heap.size := Nat.lt_of_lt_of_le hpl hb1.size
    clear q0 q1 q2 q3 hpl
    go_wp2_with fail
    go_quiet (fail)
    go_wp2
    go_ret
    exact ⟨rfl, pw_below_drewN (below_alloc hb1 _) _⟩
  have hd : decide (x.f0 ≤ 12) = true := decide_eq_true (Decidable.of_not_not h12)
  rw [hd, Bool.true_and]
  rw [hd] at CO
  clear hd h12
  by_cases hn : ¬ ((x.f2.length : Int) = n)
  · rw [decide_eq_false hn, Bool.false_and, Bool.false_and]
    have hn1 : ((x.f2.length : Int) == n) = false := beq_eq_false_iff_ne.2 hn
    have hn2 : ((x.f2.length : Int) != n) = true := bne_iff_ne.2 hn
    clear hn
    go_enter Tryd.func48, Tryd.ntmps48
    go_wp2_with fail
    (with_reducible refine (CO.out _).mono ?_)
    rintro e w1 ⟨rfl, hb1⟩
    have p0 := cell_later hb1 q0
    have p1 := cell_later hb1 q1
    have p2 := cell_later hb1 q2
    have p3 := cell_later hb1 q3
    have hpl1 : p.block < w1.heap.size := Nat.lt_of_lt_of_le hpl hb1.size
    clear q0 q1 q2 q3 hpl
    go_wp2_with fail
    go_quiet (fail)
    go_wp2
    go_ret
    exact ⟨rfl, pw_below_drewN (below_alloc hb1 _) _⟩
  have hn' := Decidable.of_not_not hn
  rw [decide_eq_true hn', Bool.true_and]
  have hn1 : ((x.f2.length : Int) == n) = true := beq_iff_eq.2 hn'
  have hn2 : ((x.f2.length : Int) != n) = false := bne_eq_false_iff_eq.2 hn'
  clear hn hn'
  by_cases hm : ¬ ((x.f3.length : Int) = m)
  · rw [decide_eq_false hm, Bool.false_and]
    have hm1 : ((x.f3.length : Int) == m) = false := beq_eq_false_iff_ne.2 hm
    have hm2 : ((x.f3.length : Int) != m) = true := bne_iff_ne.2 hm
    clear hm
    go_enter Tryd.func48, Tryd.ntmps48
    go_wp2_with fail
    (with_reducible refine (CO.out _).mono ?_)
    rintro e w1 ⟨rfl, hb1⟩
    have p0 := cell_later hb1 q0
    have p1 := cell_later hb1 q1
    have p2 := cell_later hb1 q2
    have p3 := cell_later hb1 q3
    have hpl1 : p.block < w1.heap.size := Nat.lt_of_lt_of_le hpl hb1.size
    clear q0 q1 q2 q3 hpl
    go_wp2_with fail
    go_quiet (fail)
    go_wp2
    go_ret
    exact ⟨rfl, pw_below_drewN (below_alloc hb1 _) _⟩
  have hm' := Decidable.of_not_not hm
  rw [decide_eq_true hm', Bool.true_and]
  have hm1 : ((x.f3.length : Int) == m) = true := beq_iff_eq.2 hm'
  have hm2 : ((x.f3.length : Int) != m) = false := bne_eq_false_iff_eq.2 hm'
  clear hm hm'
  by_cases h0 : x.f0 = 0
  · rw [if_pos h0]
    have h01 : (x.f0 == 0) = true := beq_iff_eq.2 h0
    clear h0
    go_enter Tryd.func48, Tryd.ntmps48
    go_wp2_with fail
    (with_reducible refine (CO.out _).mono ?_)
    rintro e w1 ⟨rfl, hb1⟩
    have p0 := cell_later hb1 q0
    have p1 := cell_later hb1 q1
    have p2 := cell_later hb1 q2
    have p3 := cell_later hb1 q3
    have hpl1 : p.block < w1.heap.size := Nat.lt_of_lt_of_le hpl hb1.size
    clear q0 q1 q2 q3 hpl
    go_wp2_with fail
    go_quiet (fail)
    go_wp2_with fail
    (with_reducible refine (CN.out _).mono ?_)
    rintro e w2 ⟨rfl, hb2⟩
    go_wp2
    go_ret
    exact ⟨rfl, below_then (pw_below_drewN (below_alloc hb1 _) _) (pw_below_drewN (below_alloc hb1 _) _).size hb2⟩
  · rw [if_neg h0]
    have h01 : (x.f0 == 0) = false := beq_eq_false_iff_ne.2 h0
    clear h0
    go_enter Tryd.func48, Tryd.ntmps48
    go_wp2_with fail
    (with_reducible refine (CO.out _).mono ?_)
    rintro e w1 ⟨rfl, hb1⟩
    have p0 := cell_later hb1 q0
    have p1 := cell_later hb1 q1
    have p2 := cell_later hb1 q2
    have p3 := cell_later hb1 q3
    have hpl1 : p.block < w1.heap.size := Nat.lt_of_lt_of_le hpl hb1.size
    clear q0 q1 q2 q3 hpl
    go_wp2_with fail
    go_quiet (fail)
    go_wp2
    go_ret
    exact ⟨rfl, pw_below_drewN (below_alloc hb1 _) _⟩

/-! ### Right: an expression -/
mutual
def allR : X → Bool
  | ⟨o, n, ns, xs⟩ => rightB ⟨o, n, ns, xs⟩ && allRL xs
def allRL : List X → Bool
  | [] => true
  | y :: ys => allR y && allRL ys
end
theorem allR_eq (x : X) : allR x = (rightB x && allRL x.f3) := by cases x; rw [allR]
theorem allRL_cons (y : X) (ys : List X) : allRL (y :: ys) = (allR y && allRL ys) := by rw [allRL]
theorem allRL_nil : allRL [] = true := by rw [allRL]
def RightB (x : X) : Bool := allR x && decide (dep x ≤ 40) && decide (cnt x ≤ 2000)
def rgtF (s : Int × Bool) (x : X) (d : Int) : (Int × Bool) × Bool :=
  ((wrap64 (s.1 + 1), rightB x && decide (d ≤ 40) && decide (wrap64 (s.1 + 1) ≤ 2000)), rightB x && decide (d ≤ 40) && decide (wrap64 (s.1 + 1) ≤ 2000))
mutual
theorem goX_rgt : ∀ (x : X) (n : Int) (o : Bool) (d : Int), 0 ≤ n → n + cnt x ≤ 4611686018427387904 →
    ∃ n', goX rgtF (n, o) x d = ((n', allR x && decide (d + dep x - 1 ≤ 40) && decide (n + cnt x ≤ 2000)), allR x && decide (d + dep x - 1 ≤ 40) && decide (n + cnt x ≤ 2000)) ∧
      ((allR x && decide (d + dep x - 1 ≤ 40) && decide (n + cnt x ≤ 2000)) = true → n' = n + cnt x)
  | ⟨o, nm, ns, xs⟩, n, ok, d, h0, h1 => by
    have hc := cnt_eq ⟨o, nm, ns, xs⟩
    have hd := dep_eq ⟨o, nm, ns, xs⟩
    have ha := allR_eq ⟨o, nm, ns, xs⟩
    generalize hx : (⟨o, nm, ns, xs⟩ : X) = x at *
    have hxs : x.f3 = xs := by rw [← hx]
    rw [hxs] at hc hd ha
    rw [goX_eq, hxs]
    have hw : wrap64 (n + 1) = n + 1 := w64 (by omega) (by omega)
    simp only [rgtF, hw]
    by_cases hb : (rightB x && decide (d ≤ 40) && decide (n + 1 ≤ 2000)) = true
    · rw [if_pos hb]
      simp only [Bool.and_eq_true, decide_eq_true_eq] at hb
      obtain ⟨n', e1, e2⟩ := goL_rgt xs (n + 1) (d + 1) (by omega) (by omega) (by omega) (by omega)
      refine ⟨n', ?_, ?_⟩
      · rw [hb.1.1, decide_eq_true hb.1.2, decide_eq_true hb.2, Bool.true_and, Bool.true_and, e1]
        have e : (allR x && decide (d + (dep x : Int) - 1 ≤ 40) && decide (n + (cnt x : Int) ≤ 2000)) = (allRL xs && decide (d + 1 + (depL xs : Int) - 1 ≤ 40) && decide (n + 1 + (cntL xs : Int) ≤ 2000)) := by
          rw [ha, hb.1.1, Bool.true_and, decide_eq_decide.2 (show (d + (dep x : Int) - 1 ≤ 40) ↔ (d + 1 + (depL xs : Int) - 1 ≤ 40) by omega), decide_eq_decide.2 (show (n + (cnt x : Int) ≤ 2000) ↔ (n + 1 + (cntL xs : Int) ≤ 2000) by omega)]
        rw [e]
      · intro h
        have := e2 (by
          rw [Bool.and_eq_true, Bool.and_eq_true, decide_eq_true_eq, decide_eq_true_eq] at h ⊢
          rw [ha, hb.1.1, Bool.true_and] at h
          exact ⟨⟨h.1.1, by omega⟩, by omega⟩)
        omega
    · rw [if_neg hb]
      have hb' := Bool.eq_false_iff.2 hb
      have e : (allR x && decide (d + (dep x : Int) - 1 ≤ 40) && decide (n + (cnt x : Int) ≤ 2000)) = false := by
        rw [Bool.eq_false_iff]
        intro h
        apply hb
        rw [Bool.and_eq_true, Bool.and_eq_true, decide_eq_true_eq, decide_eq_true_eq] at h ⊢
        rw [ha, Bool.and_eq_true] at h
        exact ⟨⟨h.1.1.1, by omega⟩, by omega⟩
      refine ⟨n + 1, ?_, ?_⟩
      · rw [e, hb']
      · intro h
        rw [e] at h
        cases h
theorem goL_rgt : ∀ (xs : List X) (n : Int) (d : Int), 0 ≤ n → n + cntL xs ≤ 4611686018427387904 → d - 1 ≤ 40 → n ≤ 2000 →
    ∃ n', goL rgtF (n, true) xs d = ((n', allRL xs && decide (d + depL xs - 1 ≤ 40) && decide (n + cntL xs ≤ 2000)), allRL xs && decide (d + depL xs - 1 ≤ 40) && decide (n + cntL xs ≤ 2000)) ∧
      ((allRL xs && decide (d + depL xs - 1 ≤ 40) && decide (n + cntL xs ≤ 2000)) = true → n' = n + cntL xs)
  | [], n, d, h0, h1, h2, h3 => by
    refine ⟨n, ?_, ?_⟩
    · rw [goL_nil, allRL_nil, depL_nil, cntL_nil]
      have e1 : decide (d + ((0 : Nat) : Int) - 1 ≤ 40) = true := decide_eq_true (by omega)
      have e2 : decide (n + ((0 : Nat) : Int) ≤ 2000) = true := decide_eq_true (by omega)
      rw [e1, e2]
      rfl
    · intro _
      rw [cntL_nil]
      omega
  | y :: ys, n, d, h0, h1, h2, h3 => by
    rw [cntL_cons] at h1
    obtain ⟨n1, e1, e2⟩ := goX_rgt y n true d h0 (by omega)
    rw [goL_cons, e1]
    simp only
    have hcy := cnt_pos y
    by_cases hb : (allR y && decide (d + (dep y : Int) - 1 ≤ 40) && decide (n + (cnt y : Int) ≤ 2000)) = true
    · rw [if_pos hb]
      have hn1 := e2 hb
      rw [hb]
      simp only [Bool.and_eq_true, decide_eq_true_eq] at hb
      obtain ⟨n', e3, e4⟩ := goL_rgt ys n1 d (by omega) (by omega) h2 (by omega)
      have e : (allRL (y :: ys) && decide (d + (depL (y :: ys) : Int) - 1 ≤ 40) && decide (n + (cntL (y :: ys) : Int) ≤ 2000)) = (allRL ys && decide (d + (depL ys : Int) - 1 ≤ 40) && decide (n1 + (cntL ys : Int) ≤ 2000)) := by
        rw [allRL_cons, hb.1.1, Bool.true_and, depL_cons, cntL_cons, decide_eq_decide.2 (show (d + (max (dep y) (depL ys) : Nat) - 1 ≤ 40) ↔ (d + (depL ys : Int) - 1 ≤ 40) by omega), decide_eq_decide.2 (show (n + (cnt y + cntL ys : Nat) ≤ 2000) ↔ (n1 + (cntL ys : Int) ≤ 2000) by omega)]
      refine ⟨n', ?_, ?_⟩
      · rw [e3, e]
      · intro h
        rw [e] at h
        have := e4 h
        rw [cntL_cons]
        omega
    · rw [if_neg hb]
      have hb' := Bool.eq_false_iff.2 hb
      have e : (allRL (y :: ys) && decide (d + (depL (y :: ys) : Int) - 1 ≤ 40) && decide (n + (cntL (y :: ys) : Int) ≤ 2000)) = false := by
        rw [Bool.eq_false_iff]
        intro h
        apply hb
        rw [Bool.and_eq_true, Bool.and_eq_true, decide_eq_true_eq, decide_eq_true_eq] at h ⊢
        rw [allRL_cons, Bool.and_eq_true, depL_cons, cntL_cons] at h
        exact ⟨⟨h.1.1.1, by omega⟩, by omega⟩
      refine ⟨n1, ?_, ?_⟩
      · rw [hb', e]
      · intro h
        rw [e] at h
        cases h
end
theorem goX_right (x : X) (hc : cnt x ≤ 1099511627776) : (goX rgtF (0, true) x 1).1.2 = RightB x := by
  obtain ⟨n', e, _⟩ := goX_rgt x 0 true 1 (by omega) (by omega)
  rw [e]
  unfold RightB
  simp only
  rw [decide_eq_decide.2 (show ((1 : Int) + (dep x : Int) - 1 ≤ 40) ↔ (dep x ≤ 40) by omega), decide_eq_decide.2 (show ((0 : Int) + (cnt x : Int) ≤ 2000) ↔ (cnt x ≤ 2000) by omega)]
set_option maxHeartbeats 4000000 in
set_option maxRecDepth 100000 in
theorem Right1_calls (a b : Nat) (w0 : World) (ha : w0.heap.size ≤ a) (hb : w0.heap.size ≤ b) (hab : a ≠ b) (L : Nat) (D : Int) (hD : D ≤ 4611686018427387904) : Does 47 #[.pointer (some ⟨a, 0, none⟩), .pointer (some ⟨b, 0, none⟩)] (fun k => k = a ∨ k = b) w0 rgtF (fun s w => Box a 3 (.int .i64 s.1) w ∧ Box b 4 (.bool s.2) w) D (fun _ => 0) L 0 where
  enter := fun args w => by kernel_rfl
  draws := fun s w n h => ⟨h.1.d n, h.2.d n⟩
  allocs := fun s w o h => ⟨h.1.a o, h.2.a o⟩
  above := fun k h => by rcases h with h | h <;> rw [h] <;> assumption
  step := fun _ _ _ => by omega
  run := by
    intro s w p x d A2 c2 A3 c3 hwf _ _ hI hB hN hp hd hdD
    show Calls Tryd.prog 47 #[.pointer (some p), .int .i64 d, .pointer (some ⟨a, 0, none⟩), .pointer (some ⟨b, 0, none⟩)] w _
    obtain ⟨n, o⟩ := s
    have hca := hI.1.cell
    have hfa := hI.1.free
    have hcb := hI.2.cell
    have hfb := hI.2.free
    have HI := Aside0.mk hI
    have HN := Aside0.mk hN
    clear hI hN
    go_enter Tryd.func47, Tryd.ntmps47
    go_wp2_with fail
    have K1 : Kept w (w.setCell ⟨a, 0, none⟩ (.int .i64 (wrap64 (n + 1)))) (fun k => k = a ∨ k = b) := (Kept.refl w _).setCell (p := ⟨a, 0, none⟩) (.inl (.inl rfl)) _
    have B1 : Below w0.heap.size w0 (w.setCell ⟨a, 0, none⟩ (.int .i64 (wrap64 (n + 1)))) := hB.setCell ha _
    have X1 : Box a 3 (.int .i64 (wrap64 (n + 1))) (w.setCell ⟨a, 0, none⟩ (.int .i64 (wrap64 (n + 1)))) := HI.out.1.set
    have Y1 : Box b 4 (.bool o) (w.setCell ⟨a, 0, none⟩ (.int .i64 (wrap64 (n + 1)))) := HI.out.2.keep ((Kept.refl w (fun k => k = a)).setCell (p := ⟨a, 0, none⟩) (.inl rfl) _) (fun h => hab h.symm)
    have N1 := HN.out.keep K1 hp
    (with_reducible refine (right_calls w0 _ p x A2 c2 A3 c3 N1 hwf).mono ?_)
    rintro e w2 ⟨rfl, hb2⟩
    have X2 := X1.keep (Kept.of_below hb2 (fun _ => False)) (fun h => h)
    have Y2 := Y1.keep (Kept.of_below hb2 (fun _ => False)) (fun h => h)
    have K2 := K1.below hb2
    have B2 := below_then B1 B1.size hb2
    clear hca hfa hcb hfb K1 B1 X1 Y1 N1 hb2
    have ca := X2.cell
    have cb := Y2.cell
    have fb := Y2.free
    have HX := Aside0.mk X2
    have HY := Aside0.mk Y2
    clear X2 Y2
    have fin : ∀ r : Bool, (rgtF (n, o) x d).2 = r → (rgtF (n, o) x d).1 = (wrap64 (n + 1), r) := by
      intro r h
      unfold rgtF at h ⊢
      simp only at h ⊢
      rw [h]
    have FIN := Aside0.mk fin
    have hrg : (rgtF (n, o) x d).2 = (rightB x && decide (d ≤ 40) && decide (wrap64 (n + 1) ≤ 2000)) := rfl
    have HRG := Aside0.mk hrg
    clear fin hrg
    generalize wrap64 (n + 1) = n1 at *
    by_cases h1 : ¬ rightB x = true
    · have h1' := Bool.eq_false_iff.2 h1
      rw [h1'] at HRG ⊢
      clear h1 h1'
      rw [Bool.false_and, Bool.false_and] at HRG
      go_wp2
      go_ret
      exact ⟨by rw [HRG.out]; rfl, by rw [FIN.out _ HRG.out]; exact ⟨HX.out.keep ((Kept.refl w2 (fun k => k = b)).setCell (p := ⟨b, 0, none⟩) (.inl rfl) _) hab, HY.out.set⟩, B2.setCell hb _, K2.setCell (p := ⟨b, 0, none⟩) (.inl (.inr rfl)) _⟩
    have h1' := Decidable.of_not_not h1
    rw [h1'] at HRG ⊢
    clear h1 h1'
    rw [Bool.true_and] at HRG
    by_cases h2 : ¬ d ≤ 40
    · have h2' : decide (d ≤ 40) = false := decide_eq_false h2
      rw [h2', Bool.false_and] at HRG
      clear h2
      go_wp2
      go_ret
      exact ⟨by rw [HRG.out]; rfl, by rw [FIN.out _ HRG.out]; exact ⟨HX.out.keep ((Kept.refl w2 (fun k => k = b)).setCell (p := ⟨b, 0, none⟩) (.inl rfl) _) hab, HY.out.set⟩, B2.setCell hb _, K2.setCell (p := ⟨b, 0, none⟩) (.inl (.inr rfl)) _⟩
    have h2' : d ≤ 40 := Decidable.of_not_not h2
    rw [decide_eq_true h2', Bool.true_and] at HRG
    clear h2
    by_cases h3 : n1 ≤ 2000
    · rw [decide_eq_true h3] at HRG
      go_wp2
      go_ret
      exact ⟨by rw [HRG.out]; rfl, by rw [FIN.out _ HRG.out]; exact ⟨HX.out.keep ((Kept.refl w2 (fun k => k = b)).setCell (p := ⟨b, 0, none⟩) (.inl rfl) _) hab, HY.out.set⟩, B2.setCell hb _, K2.setCell (p := ⟨b, 0, none⟩) (.inl (.inr rfl)) _⟩
    · have h3' : decide (n1 ≤ 2000) = false := decide_eq_false h3
      rw [h3'] at HRG
      clear h3
      go_wp2
      go_ret
      exact ⟨by rw [HRG.out]; rfl, by rw [FIN.out _ HRG.out]; exact ⟨HX.out.keep ((Kept.refl w2 (fun k => k = b)).setCell (p := ⟨b, 0, none⟩) (.inl rfl) _) hab, HY.out.set⟩, B2.setCell hb _, K2.setCell (p := ⟨b, 0, none⟩) (.inl (.inr rfl)) _⟩
set_option maxHeartbeats 4000000 in
set_option maxRecDepth 100000 in
theorem Right_calls (x : X) (A2 : Option Addr) (c2 : Nat) (A3 : Option Addr) (c3 : Nat) (w : World) (hx : Has w x A2 c2 A3 c3) (hc : cnt x ≤ 1099511627776) :
    Calls Tryd.prog 16 #[agg x A2 c2 A3 c3] w fun e w' => e = .returned (.bool (RightB x)) ∧ Below w.heap.size w w' := by
  have HR := Aside0.mk (goX_right x hc)
  go_enter Tryd.func16, Tryd.ntmps16
  go_wp2_with fail
  (with_reducible refine (each_calls (Right1_calls (w.heap.size + 1) (w.heap.size + 1 + 1) w (by omega) (by omega) (by omega) (cnt x) (1 + cnt x) (by omega)) (by omega) x (by omega) hx.wf (0, true) _ A2 c2 A3 c3 (by omega) (by omega) ?i1 ?i2 hx.l2 hx.C2 hx.l3 hx.C3 (by simp <;> omega) (by simp <;> omega) (by simp <;> omega)).mono ?_)
  case i1 => exact ⟨(Box.new_at (w.alloc _) _ _ _ (by simp)).a _, Box.new_at ((w.alloc _).alloc _) _ _ _ (by simp)⟩
  case i2 => exact below_alloc (below_alloc (below_alloc (Below.refl _ _) _) _) _
  rintro e w1 ⟨rfl, hI, hB, hK⟩
  have hcl := hI.2.cell
  rw [HR.out] at hcl
  clear hI
  go_wp2
  go_ret
  exact ⟨rfl, hB⟩
end Go.Proofs.YtjeofffddbibeaaDoor.Ex
