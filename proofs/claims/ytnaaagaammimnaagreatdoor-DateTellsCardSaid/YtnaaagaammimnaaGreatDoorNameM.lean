/-
  Right names, in plain Lean: letters, digits and _, one to thirty of them, the first one no digit.
-/
import Derived.Shelf.Strings.SlTrimAscii
import Derived.Lib.Bytealg
namespace Go.Proofs.YtnaaagaammimnaaGreatDoor.Ex
open Go

def digitB (b : UInt8) : Bool := decide (48 ≤ b.toNat) && decide (b.toNat ≤ 57)
def alphaB (b : UInt8) : Bool := decide (b.toNat = 95) || (decide (97 ≤ b.toNat) && decide (b.toNat ≤ 122)) || (decide (65 ≤ b.toNat) && decide (b.toNat ≤ 90))
def letterB (b : UInt8) : Bool := alphaB b || digitB b
/-- A right name. -/
def nameL : List UInt8 → Bool
  | [] => false
  | b :: l => decide (l.length < 30) && alphaB b && l.all letterB
def nameB (s : ByteArray) : Bool := nameL s.data.toList
def lettersL : List UInt8 := [95, 97, 98, 99, 100, 101, 102, 103, 104, 105, 106, 107, 108, 109, 110, 111, 112, 113, 114, 115, 116, 117, 118, 119, 120, 121, 122, 65, 66, 67, 68, 69, 70, 71, 72, 73, 74, 75, 76, 77, 78, 79, 80, 81, 82, 83, 84, 85, 86, 87, 88, 89, 90]
def digitsL : List UInt8 := [48, 49, 50, 51, 52, 53, 54, 55, 56, 57]
theorem byte_all (p : UInt8 → Bool) (h : ∀ n : Fin 256, p (UInt8.ofNat n.val) = true) (b : UInt8) : p b = true := by
  have h1 := h ⟨b.toNat, b.toNat_lt⟩
  have h2 : UInt8.ofNat b.toNat = b := by simp
  rw [← h2]
  exact h1
theorem contains_letters (b : UInt8) : lettersL.contains b = alphaB b := by
  have := byte_all (fun b => lettersL.contains b == alphaB b) (by decide +kernel) b
  exact eq_of_beq this
theorem contains_both (b : UInt8) : (lettersL ++ digitsL).contains b = letterB b := by
  have := byte_all (fun b => (lettersL ++ digitsL).contains b == letterB b) (by decide +kernel) b
  exact eq_of_beq this
theorem contains_digits (b : UInt8) : digitsL.contains b = digitB b := by
  have := byte_all (fun b => digitsL.contains b == digitB b) (by decide +kernel) b
  exact eq_of_beq this
theorem dropWhile_nil {α : Type} (p : α → Bool) (l : List α) : l.dropWhile p = [] ↔ l.all p = true := by
  induction l with
  | nil => simp
  | cons x l ih =>
    rw [List.dropWhile_cons, List.all_cons]
    by_cases h : p x = true
    · rw [if_pos h, h, Bool.true_and]; exact ih
    · rw [if_neg h]
      simp [h]
theorem trimS_nil (l cs : List UInt8) : Lib.trimS l cs = [] ↔ l.all (cs.contains ·) = true := by
  unfold Lib.trimS Lib.trimLeftS
  rw [dropWhile_nil]
  constructor
  · intro h
    unfold Lib.trimRightS at h
    rw [List.all_reverse] at h
    have hd : l.reverse.dropWhile (cs.contains ·) = [] := by
      cases hr : l.reverse.dropWhile (cs.contains ·) with
      | nil => rfl
      | cons x r =>
        rw [hr, List.all_cons, Bool.and_eq_true] at h
        have := List.head_dropWhile_not (p := (cs.contains ·)) (l := l.reverse) (by rw [hr]; simp)
        simp only [hr, List.head_cons] at this
        rw [h.1] at this
        cases this
    rw [dropWhile_nil, List.all_reverse] at hd
    exact hd
  · intro h
    have hd : l.reverse.dropWhile (cs.contains ·) = [] := by rw [dropWhile_nil, List.all_reverse]; exact h
    unfold Lib.trimRightS
    rw [hd]
    rfl
theorem indexByte_ge (l : List UInt8) (c : UInt8) : (0 ≤ Lib.indexByte l c) ↔ l.contains c = true := by
  have lo : ∀ l : List UInt8, -1 ≤ Lib.indexByte l c := by
    intro l
    induction l with
    | nil => simp [Lib.indexByte]
    | cons b l ih =>
      unfold Lib.indexByte
      split
      · omega
      · split
        · omega
        · omega
  induction l with
  | nil => simp [Lib.indexByte]
  | cons b l ih =>
    unfold Lib.indexByte
    rw [List.contains_cons]
    by_cases h : (b == c) = true
    · have h' : (c == b) = true := by rw [beq_iff_eq] at h ⊢; exact h.symm
      rw [if_pos h, h']
      simp
    · have h' : (c == b) = false := by
        rw [beq_eq_false_iff_ne]
        intro e
        exact h (by rw [e]; exact beq_self_eq_true _)
      rw [if_neg h, h', Bool.false_or]
      refine Iff.trans ?_ ih
      have := lo l
      by_cases h2 : Lib.indexByte l c = -1
      · rw [if_pos (beq_iff_eq.2 h2)]
        omega
      · rw [if_neg (by rw [beq_iff_eq]; exact h2)]
        omega
end Go.Proofs.YtnaaagaammimnaaGreatDoor.Ex
