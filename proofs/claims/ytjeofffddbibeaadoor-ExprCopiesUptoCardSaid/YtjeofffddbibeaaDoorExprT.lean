/-
  The document's own answers about expressions (package epactref09), plain: what the printed functions compute is what the expression's parts say.
-/
import Derived.Test.YtjeofffddbibeaaDoorExprR
import Derived.Test.YtjeofffddbibeaaDoorPExprTellsx2
import Derived.Test.YtjeofffddbibeaaDoorPExprTellsx1
namespace Go.Proofs.YtjeofffddbibeaaDoor.Ex
open Go Go.RowKit Go.Proofs.YtjeofffddbibeaaDoor.PExprTells Go.Proofs.YtjeofffddbibeaaDoorW.PrintWords Go.Proofs.YtjeofffddbibeaaDoorW.PrintLast Go.Proofs.YtjeofffddbibeaaDoorW.PrintMore
set_option linter.unusedVariables false
set_option linter.unusedSimpArgs false

theorem rd_at (ys : List X) (i : Nat) (hi : i < ys.length) : rd_T25 ys (i : Int) = ys[i] := by
  unfold rd_T25
  rw [Int.toNat_natCast, List.getD_eq_getElem?_getD, List.getElem?_eq_getElem hi]
  rfl
theorem cntL_drop (ys : List X) (i : Nat) (hi : i < ys.length) : cntL (ys.drop i) = cnt ys[i] + cntL (ys.drop (i + 1)) := by
  rw [List.drop_eq_getElem_cons hi, cntL_cons]
theorem depL_drop (ys : List X) (i : Nat) (hi : i < ys.length) : depL (ys.drop i) = max (dep ys[i]) (depL (ys.drop (i + 1))) := by
  rw [List.drop_eq_getElem_cons hi, depL_cons]
theorem refCount_l0 (o : Int) (s : ByteArray) (ns : List Int) (ys : List X) (hl : cntL ys ≤ 1099511627776)
    (hf : ∀ (i : Nat) (hi : i < ys.length) (k : Nat), 2 * cnt ys[i] ≤ k → epactref09_Count.f k ys[i].f0 ys[i].f1 ys[i].f2 ys[i].f3 = some (cnt ys[i] : Int)) :
    ∀ (n i : Nat), i + n = ys.length → ∀ (k : Nat) (acc : Int), 2 * cntL (ys.drop i) + 1 ≤ k → 0 ≤ acc → acc + cntL (ys.drop i) ≤ 4398046511104 →
      epactref09_Count.l0 k acc i o s ns ys = some (acc + cntL (ys.drop i)) := by
  intro n
  induction n with
  | zero =>
    intro i hi k acc hk h0 h1
    obtain ⟨k, rfl⟩ : ∃ m, k = m + 1 := ⟨k - 1, by omega⟩
    simp only [epactref09_Count.l0]
    rw [if_neg (by omega), List.drop_eq_nil_of_le (by omega), cntL_nil]
    simp
  | succ n ih =>
    intro i hi k acc hk h0 h1
    obtain ⟨k, rfl⟩ : ∃ m, k = m + 1 := ⟨k - 1, by omega⟩
    have hil : i < ys.length := by omega
    have hd := cntL_drop ys i hil
    have hp := cnt_pos ys[i]
    have hlen := len_cntL ys
    simp only [epactref09_Count.l0]
    rw [if_pos (by omega), if_pos (by omega), rd_at ys i hil, hf i hil k (by omega)]
    show epactref09_Count.l0 k (wrap64 (acc + (cnt ys[i] : Int))) (wrap64 ((i : Int) + 1)) o s ns ys = _
    rw [w64 (by omega) (by omega), w64 (by omega) (by omega)]
    have := ih (i + 1) (by omega) k (acc + (cnt ys[i] : Int)) (by omega) (by omega) (by omega)
    rw [show ((i + 1 : Nat) : Int) = (i : Int) + 1 by omega] at this
    rw [this, hd]
    congr 1
    omega
theorem refCount_f (N : Nat) : ∀ x : X, cnt x ≤ N → cnt x ≤ 1099511627776 → ∀ k : Nat, 2 * cnt x ≤ k → epactref09_Count.f k x.f0 x.f1 x.f2 x.f3 = some (cnt x : Int) := by
  induction N with
  | zero => intro x hx; have := cnt_pos x; omega
  | succ N ih =>
    intro x hx hb k hk
    have hc := cnt_eq x
    have hp := cnt_pos x
    obtain ⟨k, rfl⟩ : ∃ m, k = m + 1 := ⟨k - 1, by omega⟩
    simp only [epactref09_Count.f]
    have h := refCount_l0 x.f0 x.f1 x.f2 x.f3 (by omega) (fun i hi m hm => ih x.f3[i] (by have := cnt_child (List.getElem_mem hi); omega) (by have := cnt_child (List.getElem_mem hi); omega) m hm) x.f3.length 0 (by omega) k 1 (by rw [List.drop_zero]; omega) (by omega) (by rw [List.drop_zero]; omega)
    rw [List.drop_zero] at h
    rw [show ((0 : Nat) : Int) = 0 from rfl] at h
    rw [h, hc]
    congr 1
theorem refDepth_l0 (o : Int) (s : ByteArray) (ns : List Int) (ys : List X) (hl : cntL ys ≤ 1099511627776)
    (hf : ∀ (i : Nat) (hi : i < ys.length) (k : Nat), 2 * cnt ys[i] ≤ k → epactref09_Depth.f k ys[i].f0 ys[i].f1 ys[i].f2 ys[i].f3 = some (dep ys[i] : Int)) :
    ∀ (n i : Nat), i + n = ys.length → ∀ (k acc : Nat), 2 * cntL (ys.drop i) + 1 ≤ k → acc ≤ 1099511627776 →
      epactref09_Depth.l0 k acc i o s ns ys = some (((max acc (depL (ys.drop i)) : Nat) : Int) + 1) := by
  intro n
  induction n with
  | zero =>
    intro i hi k acc hk h1
    obtain ⟨k, rfl⟩ : ∃ m, k = m + 1 := ⟨k - 1, by omega⟩
    simp only [epactref09_Depth.l0]
    rw [if_neg (by omega), List.drop_eq_nil_of_le (by omega), depL_nil, w64 (by omega) (by omega), Nat.max_eq_left (Nat.zero_le _)]
  | succ n ih =>
    intro i hi k acc hk h1
    obtain ⟨k, rfl⟩ : ∃ m, k = m + 1 := ⟨k - 1, by omega⟩
    have hil : i < ys.length := by omega
    have hd := cntL_drop ys i hil
    have he := depL_drop ys i hil
    have hp := cnt_pos ys[i]
    have hlen := len_cntL ys
    have hde := depL_le (ys.drop i)
    have hcd : cntL (ys.drop i) ≤ cntL ys := by
      have h := cntL_append (ys.take i) (ys.drop i)
      rw [List.take_append_drop] at h
      omega
    simp only [epactref09_Depth.l0]
    rw [if_pos (by omega), if_pos (by omega), rd_at ys i hil, hf i hil k (by omega)]
    show (if (dep ys[i] : Int) > (acc : Int) then epactref09_Depth.l0 k (dep ys[i] : Int) (wrap64 ((i : Int) + 1)) o s ns ys else epactref09_Depth.l0 k (acc : Int) (wrap64 ((i : Int) + 1)) o s ns ys) = _
    rw [w64 (by omega) (by omega), show (i : Int) + 1 = ((i + 1 : Nat) : Int) by omega]
    have hdi : dep ys[i] ≤ depL (ys.drop i) := by rw [he]; exact Nat.le_max_left _ _
    by_cases hg : (dep ys[i] : Int) > (acc : Int)
    · rw [if_pos hg, ih (i + 1) (by omega) k (dep ys[i]) (by omega) (by omega), he]
      congr 3
      omega
    · rw [if_neg hg, ih (i + 1) (by omega) k acc (by omega) (by omega), he]
      congr 3
      omega
theorem refDepth_f (N : Nat) : ∀ x : X, cnt x ≤ N → cnt x ≤ 1099511627776 → ∀ k : Nat, 2 * cnt x ≤ k → epactref09_Depth.f k x.f0 x.f1 x.f2 x.f3 = some (dep x : Int) := by
  induction N with
  | zero => intro x hx; have := cnt_pos x; omega
  | succ N ih =>
    intro x hx hb k hk
    have hc := cnt_eq x
    have hp := cnt_pos x
    have hde := depL_le x.f3
    obtain ⟨k, rfl⟩ : ∃ m, k = m + 1 := ⟨k - 1, by omega⟩
    simp only [epactref09_Depth.f]
    have h := refDepth_l0 x.f0 x.f1 x.f2 x.f3 (by omega) (fun i hi m hm => ih x.f3[i] (by have := cnt_child (List.getElem_mem hi); omega) (by have := cnt_child (List.getElem_mem hi); omega) m hm) x.f3.length 0 (by omega) k 0 (by rw [List.drop_zero]; omega) (by omega)
    rw [List.drop_zero] at h
    rw [show ((0 : Nat) : Int) = 0 from rfl] at h
    rw [h, dep_eq x]
    congr 1
    rw [Nat.max_eq_right (Nat.zero_le _)]
    omega

/-! ### The table of operators -/
theorem refKind_f (o : Int) (h0 : 0 ≤ o) : epactref09_kind.f 3 o = some (if o ≤ 12 then numsOf o else -1, argsOf o) := by
  by_cases h : o ≤ 12
  · rcases (show o = 0 ∨ o = 1 ∨ o = 2 ∨ o = 3 ∨ o = 4 ∨ o = 5 ∨ o = 6 ∨ o = 7 ∨ o = 8 ∨ o = 9 ∨ o = 10 ∨ o = 11 ∨ o = 12 by omega) with rfl | rfl | rfl | rfl | rfl | rfl | rfl | rfl | rfl | rfl | rfl | rfl | rfl <;> decide
  · have e2 : argsOf o = 0 := by unfold argsOf; rw [if_pos (by omega)]
    rw [if_neg h, e2]
    have hb : ∀ n : Int, n ≤ 12 → (o == n) = false := fun n hn => beq_eq_false_iff_ne.2 (by omega)
    simp only [epactref09_kind.f, epactref09_kind.j0, epactref09_kind.j1]
    rw [if_neg (by omega), if_neg (by omega), hb 2 (by omega), if_neg (by simp), if_neg (by omega), if_neg (by omega), if_neg (by omega), hb 9 (by omega), if_neg (by simp), if_neg (by omega), if_neg (by omega), if_neg (by omega), if_neg (by omega), if_neg (by omega), if_neg (by omega)]
theorem numsOf_nonneg (o : Int) : 0 ≤ numsOf o := by unfold numsOf; repeat' split <;> omega
theorem refNums_f (o : Int) (h0 : 0 ≤ o) : epactref09_Nums.f 3 o = some (numsOf o, decide (o ≤ 12)) := by
  unfold epactref09_Nums.f
  rw [refKind_f o h0]
  have := numsOf_nonneg o
  by_cases h : o ≤ 12
  · rw [if_pos h, decide_eq_true h]
    show (if numsOf o < 0 then _ else some (numsOf o, true)) = _
    rw [if_neg (by omega)]
  · have e1 : numsOf o = 0 := by unfold numsOf; rw [if_neg (by omega), if_neg (by omega), if_neg (by omega)]
    rw [if_neg h, decide_eq_false h, e1]
    rfl
theorem refArgs_f (o : Int) (h0 : 0 ≤ o) : epactref09_Args.f 3 o = some (argsOf o) := by
  unfold epactref09_Args.f
  rw [refKind_f o h0]
  rfl

/-! ### Names -/
theorem bt_data (s : ByteArray) (i : Nat) (hi : i < s.data.toList.length) : bt s i = (s.data.toList[i].toNat : Int) := by
  have hs : i < s.size := by simpa using hi
  unfold bt
  rw [Int.toNat_natCast, dif_pos hs]
  rfl
theorem letter_iff (b : UInt8) : letterB b = true ↔ ((b.toNat : Int) = 95 ∨ (48 ≤ (b.toNat : Int) ∧ (b.toNat : Int) ≤ 57) ∨ (97 ≤ (b.toNat : Int) ∧ (b.toNat : Int) ≤ 122) ∨ (65 ≤ (b.toNat : Int) ∧ (b.toNat : Int) ≤ 90)) := by
  unfold letterB alphaB digitB
  simp only [Bool.or_eq_true, Bool.and_eq_true, decide_eq_true_eq]
  omega
theorem refName_l0 (s : ByteArray) (hs : s.size ≤ 1000) : ∀ (n i : Nat), i + n = s.data.toList.length → ∀ k : Nat, n + 1 ≤ k → epactref09_Name.l0 k s i = some ((s.data.toList.drop i).all letterB) := by
  have hsz : s.size = s.data.toList.length := by simp
  intro n
  induction n with
  | zero =>
    intro i hi k hk
    obtain ⟨k, rfl⟩ : ∃ m, k = m + 1 := ⟨k - 1, by omega⟩
    simp only [epactref09_Name.l0]
    rw [if_neg (by omega), List.drop_eq_nil_of_le (by omega)]
    rfl
  | succ n ih =>
    intro i hi k hk
    obtain ⟨k, rfl⟩ : ∃ m, k = m + 1 := ⟨k - 1, by omega⟩
    have hil : i < s.data.toList.length := by omega
    rw [List.drop_eq_getElem_cons hil, List.all_cons]
    have hn := ih (i + 1) (by omega) k (by omega)
    rw [show ((i + 1 : Nat) : Int) = (i : Int) + 1 by omega] at hn
    have hL := letter_iff s.data.toList[i]
    simp only [epactref09_Name.l0]
    rw [w64 (by omega) (by omega), bt_data s i hil, hn, if_pos (by omega), if_pos (by omega)]
    generalize (s.data.toList[i].toNat : Int) = c at *
    by_cases hl : letterB s.data.toList[i] = true
    · have hc := hL.1 hl
      rw [hl, Bool.true_and]
      repeat' split
      all_goals first | rfl | (exfalso; omega)
    · have hc : ¬ _ := fun h => hl (hL.2 h)
      rw [Bool.eq_false_iff.2 hl, Bool.false_and]
      repeat' split
      all_goals first | rfl | (exfalso; omega)
theorem refName_f (s : ByteArray) (k : Nat) (hk : 40 ≤ k) : epactref09_Name.f k s = some (nameB s) := by
  have hsz : s.size = s.data.toList.length := by simp
  obtain ⟨k, rfl⟩ : ∃ m, k = m + 1 := ⟨k - 1, by omega⟩
  unfold epactref09_Name.f nameB
  cases hd : s.data.toList with
  | nil =>
    rw [hd] at hsz
    rw [if_pos (by rw [hsz]; decide)]
    simp only [epactref09_Name.j0]
    rfl
  | cons b l =>
    have hl : s.size = l.length + 1 := by rw [hsz, hd]; rfl
    rw [if_neg (by omega)]
    have h0 : bt s 0 = (b.toNat : Int) := by
      have := bt_data s 0 (by rw [hd]; simp)
      rw [show ((0 : Nat) : Int) = 0 from rfl] at this
      rw [this]
      simp [hd]
    have ha : alphaB b = true ↔ (letterB b = true ∧ ¬ (48 ≤ (b.toNat : Int) ∧ (b.toNat : Int) ≤ 57)) := by
      rw [letter_iff]
      unfold alphaB
      simp only [Bool.or_eq_true, Bool.and_eq_true, decide_eq_true_eq]
      omega
    rw [show nameL (b :: l) = (decide (l.length < 30) && alphaB b && l.all letterB) from rfl]
    by_cases hg : (s.size : Int) > 30
    · rw [if_pos hg]
      simp only [epactref09_Name.j0]
      rw [decide_eq_false (by omega)]
      rfl
    · rw [if_neg hg, if_pos (by omega), h0]
      rw [decide_eq_true (show l.length < 30 by omega), Bool.true_and]
      have hrun := refName_l0 s (by omega) s.data.toList.length 0 (by omega) k (by omega)
      rw [List.drop_zero, hd, List.all_cons, show ((0 : Nat) : Int) = 0 from rfl] at hrun
      by_cases hdg : 48 ≤ (b.toNat : Int) ∧ (b.toNat : Int) ≤ 57
      · rw [if_pos (by omega)]
        simp only [epactref09_Name.j0]
        rw [if_pos (decide_eq_true hdg.2)]
        have : alphaB b = false := Bool.eq_false_iff.2 (fun h => (ha.1 h).2 hdg)
        rw [this]
        rfl
      · have hal : alphaB b = letterB b := by
          by_cases hb : letterB b = true
          · rw [hb, ha]; exact ⟨hb, hdg⟩
          · rw [Bool.eq_false_iff.2 hb, Bool.eq_false_iff]; exact fun h => hb (ha.1 h).1
        rw [hal]
        split
        · simp only [epactref09_Name.j0]
          rw [if_neg (by rw [decide_eq_true_eq]; omega)]
          exact hrun
        · simp only [epactref09_Name.j0]
          rw [if_neg (by simp)]
          exact hrun
end Go.Proofs.YtjeofffddbibeaaDoor.Ex
