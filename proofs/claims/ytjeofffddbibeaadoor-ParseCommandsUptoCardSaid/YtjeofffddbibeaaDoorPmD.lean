/-
 Part 4 of what the row stands on,put together by a program: PPar7,PPar8,PPar9,PPar10.
-/
import Derived.Test.YtjeofffddbibeaaDoorPmC
set_option linter.unusedVariables false
set_option linter.unusedSimpArgs false
section
namespace Go.Proofs.YtjeofffddbibeaaDoor.PParseTells
open Go.RowKit YtjeofffddbibeaaDoorW.PrintWords YtjeofffddbibeaaDoorW.PrintLast YtjeofffddbibeaaDoorW.PrintMore
attribute [local go_sem] tH tM tG tL tK tJ tN tI
def dW.f (k : Nat) (a0 : Int) : Option (List ByteArray):=(wD.f k a0).bind fun bt187 => (if bt187.2.2.2 = 0 then ((uR.f k bt187.1).bind fun t191 => (if t191.size + 1 ≤ 9223372036854775807 then ((xI.f k bt187.2.1 2).bind fun t192 => (if (t191 ++ (⟨#[45]⟩ : ByteArray)).size + t192.size ≤ 9223372036854775807 then (if ((t191 ++ (⟨#[45]⟩ : ByteArray)) ++ t192).size + 1 ≤ 9223372036854775807 then ((xI.f k bt187.2.2.1 2).bind fun t193 => (if (((t191 ++ (⟨#[45]⟩ : ByteArray)) ++ t192) ++ (⟨#[45]⟩ : ByteArray)).size + t193.size ≤ 9223372036854775807 then ((some (([(((t191 ++ (⟨#[45]⟩ : ByteArray)) ++ t192) ++ (⟨#[45]⟩ : ByteArray)) ++ t193] : List ByteArray) : List ByteArray)).bind fun y194 => ((qR.f k a0).bind fun bt197 => ((uR.f k bt187.1).bind fun t200 => (if t200.size + 1 ≤ 9223372036854775807 then ((xI.f k bt197.2.1 3).bind fun t201 => (if (t200 ++ (⟨#[45]⟩ : ByteArray)).size + t201.size ≤ 9223372036854775807 then (if y194.length < 8796093022208 then ((some (y194 ++ [(t200 ++ (⟨#[45]⟩ : ByteArray)) ++ t201] : List ByteArray)).bind fun y202 => ((vK.f k a0).bind fun bt205 => (if bt205.2.2.2 = 0 then ((uR.f k bt205.1).bind fun t209 => (if t209.size + 2 ≤ 9223372036854775807 then ((xI.f k bt205.2.1 2).bind fun t210 => (if (t209 ++ (⟨#[45,87]⟩ : ByteArray)).size + t210.size ≤ 9223372036854775807 then (if ((t209 ++ (⟨#[45,87]⟩ : ByteArray)) ++ t210).size + 1 ≤ 9223372036854775807 then ((xI.f k bt205.2.2.1 1).bind fun t211 => (if (((t209 ++ (⟨#[45,87]⟩ : ByteArray)) ++ t210) ++ (⟨#[45]⟩ : ByteArray)).size + t211.size ≤ 9223372036854775807 then (if y202.length < 8796093022208 then (some (y202 ++ [(((t209 ++ (⟨#[45,87]⟩ : ByteArray)) ++ t210) ++ (⟨#[45]⟩ : ByteArray)) ++ t211])) else (none)) else (none))) else (none)) else (none))) else (none))) else (some y202)))) else (none)) else (none))) else (none))))) else (none))) else (none)) else (none))) else (none))) else (some ([] : List ByteArray)))
set_option maxHeartbeats 8000000 in
set_option maxRecDepth 100000 in
theorem dW.calls (k : Nat) (a0 : Int) (r : List ByteArray) (w : World) (h : dW.f k a0 = some r) :
  Calls Tryd.prog 124 #[.int .i64 a0] w fun e w' => ∃ v0_ : Value,e = .returned (v0_) ∧ Kd.R Kd.string 9 w' w.heap.size (fun _ => True) v0_ r ∧ Below w.heap.size w w':=by
 have HB:=zZ.mk (Below.refl w.heap.size w)
 have H : ((wD.f k a0).bind fun bt187 => (if bt187.2.2.2 = 0 then ((uR.f k bt187.1).bind fun t191 => (if t191.size + 1 ≤ 9223372036854775807 then ((xI.f k bt187.2.1 2).bind fun t192 => (if (t191 ++ (⟨#[45]⟩ : ByteArray)).size + t192.size ≤ 9223372036854775807 then (if ((t191 ++ (⟨#[45]⟩ : ByteArray)) ++ t192).size + 1 ≤ 9223372036854775807 then ((xI.f k bt187.2.2.1 2).bind fun t193 => (if (((t191 ++ (⟨#[45]⟩ : ByteArray)) ++ t192) ++ (⟨#[45]⟩ : ByteArray)).size + t193.size ≤ 9223372036854775807 then ((some (([(((t191 ++ (⟨#[45]⟩ : ByteArray)) ++ t192) ++ (⟨#[45]⟩ : ByteArray)) ++ t193] : List ByteArray) : List ByteArray)).bind fun y194 => ((qR.f k a0).bind fun bt197 => ((uR.f k bt187.1).bind fun t200 => (if t200.size + 1 ≤ 9223372036854775807 then ((xI.f k bt197.2.1 3).bind fun t201 => (if (t200 ++ (⟨#[45]⟩ : ByteArray)).size + t201.size ≤ 9223372036854775807 then (if y194.length < 8796093022208 then ((some (y194 ++ [(t200 ++ (⟨#[45]⟩ : ByteArray)) ++ t201] : List ByteArray)).bind fun y202 => ((vK.f k a0).bind fun bt205 => (if bt205.2.2.2 = 0 then ((uR.f k bt205.1).bind fun t209 => (if t209.size + 2 ≤ 9223372036854775807 then ((xI.f k bt205.2.1 2).bind fun t210 => (if (t209 ++ (⟨#[45,87]⟩ : ByteArray)).size + t210.size ≤ 9223372036854775807 then (if ((t209 ++ (⟨#[45,87]⟩ : ByteArray)) ++ t210).size + 1 ≤ 9223372036854775807 then ((xI.f k bt205.2.2.1 1).bind fun t211 => (if (((t209 ++ (⟨#[45,87]⟩ : ByteArray)) ++ t210) ++ (⟨#[45]⟩ : ByteArray)).size + t211.size ≤ 9223372036854775807 then (if y202.length < 8796093022208 then (some (y202 ++ [(((t209 ++ (⟨#[45,87]⟩ : ByteArray)) ++ t210) ++ (⟨#[45]⟩ : ByteArray)) ++ t211])) else (none)) else (none))) else (none)) else (none))) else (none))) else (some y202)))) else (none)) else (none))) else (none))))) else (none))) else (none)) else (none))) else (none))) else (some ([] : List ByteArray)))) = some r:=h
 clear h
 replace H:=Option.bind_eq_some_iff.mp H
 obtain ⟨⟨t187,t188,t189,t190⟩,A20,H⟩:=H
 replace H : (if t190 = 0 then ((uR.f k t187).bind fun t191 => (if t191.size + 1 ≤ 9223372036854775807 then ((xI.f k t188 2).bind fun t192 => (if (t191 ++ (⟨#[45]⟩ : ByteArray)).size + t192.size ≤ 9223372036854775807 then (if ((t191 ++ (⟨#[45]⟩ : ByteArray)) ++ t192).size + 1 ≤ 9223372036854775807 then ((xI.f k t189 2).bind fun t193 => (if (((t191 ++ (⟨#[45]⟩ : ByteArray)) ++ t192) ++ (⟨#[45]⟩ : ByteArray)).size + t193.size ≤ 9223372036854775807 then ((some (([(((t191 ++ (⟨#[45]⟩ : ByteArray)) ++ t192) ++ (⟨#[45]⟩ : ByteArray)) ++ t193] : List ByteArray) : List ByteArray)).bind fun y194 => ((qR.f k a0).bind fun bt197 => ((uR.f k t187).bind fun t200 => (if t200.size + 1 ≤ 9223372036854775807 then ((xI.f k bt197.2.1 3).bind fun t201 => (if (t200 ++ (⟨#[45]⟩ : ByteArray)).size + t201.size ≤ 9223372036854775807 then (if y194.length < 8796093022208 then ((some (y194 ++ [(t200 ++ (⟨#[45]⟩ : ByteArray)) ++ t201] : List ByteArray)).bind fun y202 => ((vK.f k a0).bind fun bt205 => (if bt205.2.2.2 = 0 then ((uR.f k bt205.1).bind fun t209 => (if t209.size + 2 ≤ 9223372036854775807 then ((xI.f k bt205.2.1 2).bind fun t210 => (if (t209 ++ (⟨#[45,87]⟩ : ByteArray)).size + t210.size ≤ 9223372036854775807 then (if ((t209 ++ (⟨#[45,87]⟩ : ByteArray)) ++ t210).size + 1 ≤ 9223372036854775807 then ((xI.f k bt205.2.2.1 1).bind fun t211 => (if (((t209 ++ (⟨#[45,87]⟩ : ByteArray)) ++ t210) ++ (⟨#[45]⟩ : ByteArray)).size + t211.size ≤ 9223372036854775807 then (if y202.length < 8796093022208 then (some (y202 ++ [(((t209 ++ (⟨#[45,87]⟩ : ByteArray)) ++ t210) ++ (⟨#[45]⟩ : ByteArray)) ++ t211])) else (none)) else (none))) else (none)) else (none))) else (none))) else (some y202)))) else (none)) else (none))) else (none))))) else (none))) else (none)) else (none))) else (none))) else (some ([] : List ByteArray))) = some r:=H
 have A2:=zZ.mk A20
 clear A20
 by_cases c3 : t190 = 0
 ·
  rw [if_pos c3] at H
  have c3b0 : (t190 == 0) = true:=beq_iff_eq.mpr c3
  have c3b1 : (t190 != 0) = false:=bne_eq_false_iff_eq.mpr c3
  clear c3
  replace H:=Option.bind_eq_some_iff.mp H
  obtain ⟨t191,A40,H⟩:=H
  replace H : (if t191.size + 1 ≤ 9223372036854775807 then ((xI.f k t188 2).bind fun t192 => (if (t191 ++ (⟨#[45]⟩ : ByteArray)).size + t192.size ≤ 9223372036854775807 then (if ((t191 ++ (⟨#[45]⟩ : ByteArray)) ++ t192).size + 1 ≤ 9223372036854775807 then ((xI.f k t189 2).bind fun t193 => (if (((t191 ++ (⟨#[45]⟩ : ByteArray)) ++ t192) ++ (⟨#[45]⟩ : ByteArray)).size + t193.size ≤ 9223372036854775807 then ((some (([(((t191 ++ (⟨#[45]⟩ : ByteArray)) ++ t192) ++ (⟨#[45]⟩ : ByteArray)) ++ t193] : List ByteArray) : List ByteArray)).bind fun y194 => ((qR.f k a0).bind fun bt197 => ((uR.f k t187).bind fun t200 => (if t200.size + 1 ≤ 9223372036854775807 then ((xI.f k bt197.2.1 3).bind fun t201 => (if (t200 ++ (⟨#[45]⟩ : ByteArray)).size + t201.size ≤ 9223372036854775807 then (if y194.length < 8796093022208 then ((some (y194 ++ [(t200 ++ (⟨#[45]⟩ : ByteArray)) ++ t201] : List ByteArray)).bind fun y202 => ((vK.f k a0).bind fun bt205 => (if bt205.2.2.2 = 0 then ((uR.f k bt205.1).bind fun t209 => (if t209.size + 2 ≤ 9223372036854775807 then ((xI.f k bt205.2.1 2).bind fun t210 => (if (t209 ++ (⟨#[45,87]⟩ : ByteArray)).size + t210.size ≤ 9223372036854775807 then (if ((t209 ++ (⟨#[45,87]⟩ : ByteArray)) ++ t210).size + 1 ≤ 9223372036854775807 then ((xI.f k bt205.2.2.1 1).bind fun t211 => (if (((t209 ++ (⟨#[45,87]⟩ : ByteArray)) ++ t210) ++ (⟨#[45]⟩ : ByteArray)).size + t211.size ≤ 9223372036854775807 then (if y202.length < 8796093022208 then (some (y202 ++ [(((t209 ++ (⟨#[45,87]⟩ : ByteArray)) ++ t210) ++ (⟨#[45]⟩ : ByteArray)) ++ t211])) else (none)) else (none))) else (none)) else (none))) else (none))) else (some y202)))) else (none)) else (none))) else (none))))) else (none))) else (none)) else (none))) else (none)) = some r:=H
  have A4:=zZ.mk A40
  clear A40
  by_cases c5 : t191.size + 1 ≤ 9223372036854775807
  ·
   rw [if_pos c5] at H
   have c5b0:=eq_true c5
   have c5b1 : decide (t191.size + 1 ≤ 9223372036854775807) = true:=decide_eq_true c5
   try have c5b2 : (9223372036854775807 < t191.size + 1) = False:=eq_false (Nat.not_lt.2 c5)
   replace H:=Option.bind_eq_some_iff.mp H
   obtain ⟨t192,A60,H⟩:=H
   replace H : (if (t191 ++ (⟨#[45]⟩ : ByteArray)).size + t192.size ≤ 9223372036854775807 then (if ((t191 ++ (⟨#[45]⟩ : ByteArray)) ++ t192).size + 1 ≤ 9223372036854775807 then ((xI.f k t189 2).bind fun t193 => (if (((t191 ++ (⟨#[45]⟩ : ByteArray)) ++ t192) ++ (⟨#[45]⟩ : ByteArray)).size + t193.size ≤ 9223372036854775807 then ((some (([(((t191 ++ (⟨#[45]⟩ : ByteArray)) ++ t192) ++ (⟨#[45]⟩ : ByteArray)) ++ t193] : List ByteArray) : List ByteArray)).bind fun y194 => ((qR.f k a0).bind fun bt197 => ((uR.f k t187).bind fun t200 => (if t200.size + 1 ≤ 9223372036854775807 then ((xI.f k bt197.2.1 3).bind fun t201 => (if (t200 ++ (⟨#[45]⟩ : ByteArray)).size + t201.size ≤ 9223372036854775807 then (if y194.length < 8796093022208 then ((some (y194 ++ [(t200 ++ (⟨#[45]⟩ : ByteArray)) ++ t201] : List ByteArray)).bind fun y202 => ((vK.f k a0).bind fun bt205 => (if bt205.2.2.2 = 0 then ((uR.f k bt205.1).bind fun t209 => (if t209.size + 2 ≤ 9223372036854775807 then ((xI.f k bt205.2.1 2).bind fun t210 => (if (t209 ++ (⟨#[45,87]⟩ : ByteArray)).size + t210.size ≤ 9223372036854775807 then (if ((t209 ++ (⟨#[45,87]⟩ : ByteArray)) ++ t210).size + 1 ≤ 9223372036854775807 then ((xI.f k bt205.2.2.1 1).bind fun t211 => (if (((t209 ++ (⟨#[45,87]⟩ : ByteArray)) ++ t210) ++ (⟨#[45]⟩ : ByteArray)).size + t211.size ≤ 9223372036854775807 then (if y202.length < 8796093022208 then (some (y202 ++ [(((t209 ++ (⟨#[45,87]⟩ : ByteArray)) ++ t210) ++ (⟨#[45]⟩ : ByteArray)) ++ t211])) else (none)) else (none))) else (none)) else (none))) else (none))) else (some y202)))) else (none)) else (none))) else (none))))) else (none))) else (none)) else (none)) = some r:=H
   have A6:=zZ.mk A60
   clear A60
   by_cases c7 : (t191 ++ (⟨#[45]⟩ : ByteArray)).size + t192.size ≤ 9223372036854775807
   ·
    rw [if_pos c7] at H
    have c7b0:=eq_true c7
    have c7b1 : decide ((t191 ++ (⟨#[45]⟩ : ByteArray)).size + t192.size ≤ 9223372036854775807) = true:=decide_eq_true c7
    try have c7b2 : (9223372036854775807 < (t191 ++ (⟨#[45]⟩ : ByteArray)).size + t192.size) = False:=eq_false (Nat.not_lt.2 c7)
    have c7b7 : (9223372036854775807 < t191.size + 1 + t192.size) = False:=eq_false (Nat.not_lt.2 (by have h_:=c7; simp only [ByteArray.size_append,show (⟨#[45]⟩ : ByteArray).size = 1 from rfl,show (⟨#[45,87]⟩ : ByteArray).size = 2 from rfl] at h_; omega))
    by_cases c8 : ((t191 ++ (⟨#[45]⟩ : ByteArray)) ++ t192).size + 1 ≤ 9223372036854775807
    ·
     rw [if_pos c8] at H
     have c8b0:=eq_true c8
     have c8b1 : decide (((t191 ++ (⟨#[45]⟩ : ByteArray)) ++ t192).size + 1 ≤ 9223372036854775807) = true:=decide_eq_true c8
     try have c8b2 : (9223372036854775807 < ((t191 ++ (⟨#[45]⟩ : ByteArray)) ++ t192).size + 1) = False:=eq_false (Nat.not_lt.2 c8)
     have c8b7 : (9223372036854775807 < t191.size + 1 + t192.size + 1) = False:=eq_false (Nat.not_lt.2 (by have h_:=c8; simp only [ByteArray.size_append,show (⟨#[45]⟩ : ByteArray).size = 1 from rfl,show (⟨#[45,87]⟩ : ByteArray).size = 2 from rfl] at h_; omega))
     replace H:=Option.bind_eq_some_iff.mp H
     obtain ⟨t193,A90,H⟩:=H
     replace H : (if (((t191 ++ (⟨#[45]⟩ : ByteArray)) ++ t192) ++ (⟨#[45]⟩ : ByteArray)).size + t193.size ≤ 9223372036854775807 then ((some (([(((t191 ++ (⟨#[45]⟩ : ByteArray)) ++ t192) ++ (⟨#[45]⟩ : ByteArray)) ++ t193] : List ByteArray) : List ByteArray)).bind fun y194 => ((qR.f k a0).bind fun bt197 => ((uR.f k t187).bind fun t200 => (if t200.size + 1 ≤ 9223372036854775807 then ((xI.f k bt197.2.1 3).bind fun t201 => (if (t200 ++ (⟨#[45]⟩ : ByteArray)).size + t201.size ≤ 9223372036854775807 then (if y194.length < 8796093022208 then ((some (y194 ++ [(t200 ++ (⟨#[45]⟩ : ByteArray)) ++ t201] : List ByteArray)).bind fun y202 => ((vK.f k a0).bind fun bt205 => (if bt205.2.2.2 = 0 then ((uR.f k bt205.1).bind fun t209 => (if t209.size + 2 ≤ 9223372036854775807 then ((xI.f k bt205.2.1 2).bind fun t210 => (if (t209 ++ (⟨#[45,87]⟩ : ByteArray)).size + t210.size ≤ 9223372036854775807 then (if ((t209 ++ (⟨#[45,87]⟩ : ByteArray)) ++ t210).size + 1 ≤ 9223372036854775807 then ((xI.f k bt205.2.2.1 1).bind fun t211 => (if (((t209 ++ (⟨#[45,87]⟩ : ByteArray)) ++ t210) ++ (⟨#[45]⟩ : ByteArray)).size + t211.size ≤ 9223372036854775807 then (if y202.length < 8796093022208 then (some (y202 ++ [(((t209 ++ (⟨#[45,87]⟩ : ByteArray)) ++ t210) ++ (⟨#[45]⟩ : ByteArray)) ++ t211])) else (none)) else (none))) else (none)) else (none))) else (none))) else (some y202)))) else (none)) else (none))) else (none))))) else (none)) = some r:=H
     have A9:=zZ.mk A90
     clear A90
     by_cases c10 : (((t191 ++ (⟨#[45]⟩ : ByteArray)) ++ t192) ++ (⟨#[45]⟩ : ByteArray)).size + t193.size ≤ 9223372036854775807
     ·
      rw [if_pos c10] at H
      have c10b0:=eq_true c10
      have c10b1 : decide ((((t191 ++ (⟨#[45]⟩ : ByteArray)) ++ t192) ++ (⟨#[45]⟩ : ByteArray)).size + t193.size ≤ 9223372036854775807) = true:=decide_eq_true c10
      try have c10b2 : (9223372036854775807 < (((t191 ++ (⟨#[45]⟩ : ByteArray)) ++ t192) ++ (⟨#[45]⟩ : ByteArray)).size + t193.size) = False:=eq_false (Nat.not_lt.2 c10)
      have c10b7 : (9223372036854775807 < t191.size + 1 + t192.size + 1 + t193.size) = False:=eq_false (Nat.not_lt.2 (by have h_:=c10; simp only [ByteArray.size_append,show (⟨#[45]⟩ : ByteArray).size = 1 from rfl,show (⟨#[45,87]⟩ : ByteArray).size = 2 from rfl] at h_; omega))
      obtain ⟨y194,hy194⟩ : ∃ y_ : List ByteArray,y_ = (([(((t191 ++ (⟨#[45]⟩ : ByteArray)) ++ t192) ++ (⟨#[45]⟩ : ByteArray)) ++ t193] : List ByteArray)):=⟨_,rfl⟩
      replace H : ((qR.f k a0).bind fun bt197 => ((uR.f k t187).bind fun t200 => (if t200.size + 1 ≤ 9223372036854775807 then ((xI.f k bt197.2.1 3).bind fun t201 => (if (t200 ++ (⟨#[45]⟩ : ByteArray)).size + t201.size ≤ 9223372036854775807 then (if y194.length < 8796093022208 then ((some (y194 ++ [(t200 ++ (⟨#[45]⟩ : ByteArray)) ++ t201] : List ByteArray)).bind fun y202 => ((vK.f k a0).bind fun bt205 => (if bt205.2.2.2 = 0 then ((uR.f k bt205.1).bind fun t209 => (if t209.size + 2 ≤ 9223372036854775807 then ((xI.f k bt205.2.1 2).bind fun t210 => (if (t209 ++ (⟨#[45,87]⟩ : ByteArray)).size + t210.size ≤ 9223372036854775807 then (if ((t209 ++ (⟨#[45,87]⟩ : ByteArray)) ++ t210).size + 1 ≤ 9223372036854775807 then ((xI.f k bt205.2.2.1 1).bind fun t211 => (if (((t209 ++ (⟨#[45,87]⟩ : ByteArray)) ++ t210) ++ (⟨#[45]⟩ : ByteArray)).size + t211.size ≤ 9223372036854775807 then (if y202.length < 8796093022208 then (some (y202 ++ [(((t209 ++ (⟨#[45,87]⟩ : ByteArray)) ++ t210) ++ (⟨#[45]⟩ : ByteArray)) ++ t211])) else (none)) else (none))) else (none)) else (none))) else (none))) else (some y202)))) else (none)) else (none))) else (none)))) = some r:=by first|(rw [hy194]; with_reducible exact H)|(have yA:=(Option.bind_some _ _).symm.trans H; rw [hy194]; with_reducible exact yA)|(have yA:=(Option.bind_some _ _).symm.trans H; with_reducible exact yA)|with_reducible exact H|(rw [hy194]; exact H)|exact H
      have Ny194:=zZ.mk hy194
      clear hy194
      replace H:=Option.bind_eq_some_iff.mp H
      obtain ⟨⟨t197,t198,t199⟩,A110,H⟩:=H
      replace H : ((uR.f k t187).bind fun t200 => (if t200.size + 1 ≤ 9223372036854775807 then ((xI.f k t198 3).bind fun t201 => (if (t200 ++ (⟨#[45]⟩ : ByteArray)).size + t201.size ≤ 9223372036854775807 then (if y194.length < 8796093022208 then ((some (y194 ++ [(t200 ++ (⟨#[45]⟩ : ByteArray)) ++ t201] : List ByteArray)).bind fun y202 => ((vK.f k a0).bind fun bt205 => (if bt205.2.2.2 = 0 then ((uR.f k bt205.1).bind fun t209 => (if t209.size + 2 ≤ 9223372036854775807 then ((xI.f k bt205.2.1 2).bind fun t210 => (if (t209 ++ (⟨#[45,87]⟩ : ByteArray)).size + t210.size ≤ 9223372036854775807 then (if ((t209 ++ (⟨#[45,87]⟩ : ByteArray)) ++ t210).size + 1 ≤ 9223372036854775807 then ((xI.f k bt205.2.2.1 1).bind fun t211 => (if (((t209 ++ (⟨#[45,87]⟩ : ByteArray)) ++ t210) ++ (⟨#[45]⟩ : ByteArray)).size + t211.size ≤ 9223372036854775807 then (if y202.length < 8796093022208 then (some (y202 ++ [(((t209 ++ (⟨#[45,87]⟩ : ByteArray)) ++ t210) ++ (⟨#[45]⟩ : ByteArray)) ++ t211])) else (none)) else (none))) else (none)) else (none))) else (none))) else (some y202)))) else (none)) else (none))) else (none))) = some r:=H
      have A11:=zZ.mk A110
      clear A110
      replace H:=Option.bind_eq_some_iff.mp H
      obtain ⟨t200,A120,H⟩:=H
      replace H : (if t200.size + 1 ≤ 9223372036854775807 then ((xI.f k t198 3).bind fun t201 => (if (t200 ++ (⟨#[45]⟩ : ByteArray)).size + t201.size ≤ 9223372036854775807 then (if y194.length < 8796093022208 then ((some (y194 ++ [(t200 ++ (⟨#[45]⟩ : ByteArray)) ++ t201] : List ByteArray)).bind fun y202 => ((vK.f k a0).bind fun bt205 => (if bt205.2.2.2 = 0 then ((uR.f k bt205.1).bind fun t209 => (if t209.size + 2 ≤ 9223372036854775807 then ((xI.f k bt205.2.1 2).bind fun t210 => (if (t209 ++ (⟨#[45,87]⟩ : ByteArray)).size + t210.size ≤ 9223372036854775807 then (if ((t209 ++ (⟨#[45,87]⟩ : ByteArray)) ++ t210).size + 1 ≤ 9223372036854775807 then ((xI.f k bt205.2.2.1 1).bind fun t211 => (if (((t209 ++ (⟨#[45,87]⟩ : ByteArray)) ++ t210) ++ (⟨#[45]⟩ : ByteArray)).size + t211.size ≤ 9223372036854775807 then (if y202.length < 8796093022208 then (some (y202 ++ [(((t209 ++ (⟨#[45,87]⟩ : ByteArray)) ++ t210) ++ (⟨#[45]⟩ : ByteArray)) ++ t211])) else (none)) else (none))) else (none)) else (none))) else (none))) else (some y202)))) else (none)) else (none))) else (none)) = some r:=H
      have A12:=zZ.mk A120
      clear A120
      by_cases c13 : t200.size + 1 ≤ 9223372036854775807
      ·
       rw [if_pos c13] at H
       have c13b0:=eq_true c13
       have c13b1 : decide (t200.size + 1 ≤ 9223372036854775807) = true:=decide_eq_true c13
       try have c13b2 : (9223372036854775807 < t200.size + 1) = False:=eq_false (Nat.not_lt.2 c13)
       replace H:=Option.bind_eq_some_iff.mp H
       obtain ⟨t201,A140,H⟩:=H
       replace H : (if (t200 ++ (⟨#[45]⟩ : ByteArray)).size + t201.size ≤ 9223372036854775807 then (if y194.length < 8796093022208 then ((some (y194 ++ [(t200 ++ (⟨#[45]⟩ : ByteArray)) ++ t201] : List ByteArray)).bind fun y202 => ((vK.f k a0).bind fun bt205 => (if bt205.2.2.2 = 0 then ((uR.f k bt205.1).bind fun t209 => (if t209.size + 2 ≤ 9223372036854775807 then ((xI.f k bt205.2.1 2).bind fun t210 => (if (t209 ++ (⟨#[45,87]⟩ : ByteArray)).size + t210.size ≤ 9223372036854775807 then (if ((t209 ++ (⟨#[45,87]⟩ : ByteArray)) ++ t210).size + 1 ≤ 9223372036854775807 then ((xI.f k bt205.2.2.1 1).bind fun t211 => (if (((t209 ++ (⟨#[45,87]⟩ : ByteArray)) ++ t210) ++ (⟨#[45]⟩ : ByteArray)).size + t211.size ≤ 9223372036854775807 then (if y202.length < 8796093022208 then (some (y202 ++ [(((t209 ++ (⟨#[45,87]⟩ : ByteArray)) ++ t210) ++ (⟨#[45]⟩ : ByteArray)) ++ t211])) else (none)) else (none))) else (none)) else (none))) else (none))) else (some y202)))) else (none)) else (none)) = some r:=H
       have A14:=zZ.mk A140
       clear A140
       by_cases c15 : (t200 ++ (⟨#[45]⟩ : ByteArray)).size + t201.size ≤ 9223372036854775807
       ·
        rw [if_pos c15] at H
        have c15b0:=eq_true c15
        have c15b1 : decide ((t200 ++ (⟨#[45]⟩ : ByteArray)).size + t201.size ≤ 9223372036854775807) = true:=decide_eq_true c15
        try have c15b2 : (9223372036854775807 < (t200 ++ (⟨#[45]⟩ : ByteArray)).size + t201.size) = False:=eq_false (Nat.not_lt.2 c15)
        have c15b7 : (9223372036854775807 < t200.size + 1 + t201.size) = False:=eq_false (Nat.not_lt.2 (by have h_:=c15; simp only [ByteArray.size_append,show (⟨#[45]⟩ : ByteArray).size = 1 from rfl,show (⟨#[45,87]⟩ : ByteArray).size = 2 from rfl] at h_; omega))
        by_cases c16 : y194.length < 8796093022208
        ·
         rw [if_pos c16] at H
         have LMc16:=zZ.mk c16
         clear c16
         obtain ⟨y202,hy202⟩ : ∃ y_ : List ByteArray,y_ = (y194 ++ [(t200 ++ (⟨#[45]⟩ : ByteArray)) ++ t201]):=⟨_,rfl⟩
         replace H : ((vK.f k a0).bind fun bt205 => (if bt205.2.2.2 = 0 then ((uR.f k bt205.1).bind fun t209 => (if t209.size + 2 ≤ 9223372036854775807 then ((xI.f k bt205.2.1 2).bind fun t210 => (if (t209 ++ (⟨#[45,87]⟩ : ByteArray)).size + t210.size ≤ 9223372036854775807 then (if ((t209 ++ (⟨#[45,87]⟩ : ByteArray)) ++ t210).size + 1 ≤ 9223372036854775807 then ((xI.f k bt205.2.2.1 1).bind fun t211 => (if (((t209 ++ (⟨#[45,87]⟩ : ByteArray)) ++ t210) ++ (⟨#[45]⟩ : ByteArray)).size + t211.size ≤ 9223372036854775807 then (if y202.length < 8796093022208 then (some (y202 ++ [(((t209 ++ (⟨#[45,87]⟩ : ByteArray)) ++ t210) ++ (⟨#[45]⟩ : ByteArray)) ++ t211])) else (none)) else (none))) else (none)) else (none))) else (none))) else (some y202))) = some r:=by first|(rw [hy202]; with_reducible exact H)|(have yA:=(Option.bind_some _ _).symm.trans H; rw [hy202]; with_reducible exact yA)|(have yA:=(Option.bind_some _ _).symm.trans H; with_reducible exact yA)|with_reducible exact H|(rw [hy202]; exact H)|exact H
         have Ny202:=zZ.mk hy202
         clear hy202
         replace H:=Option.bind_eq_some_iff.mp H
         obtain ⟨⟨t205,t206,t207,t208⟩,A170,H⟩:=H
         replace H : (if t208 = 0 then ((uR.f k t205).bind fun t209 => (if t209.size + 2 ≤ 9223372036854775807 then ((xI.f k t206 2).bind fun t210 => (if (t209 ++ (⟨#[45,87]⟩ : ByteArray)).size + t210.size ≤ 9223372036854775807 then (if ((t209 ++ (⟨#[45,87]⟩ : ByteArray)) ++ t210).size + 1 ≤ 9223372036854775807 then ((xI.f k t207 1).bind fun t211 => (if (((t209 ++ (⟨#[45,87]⟩ : ByteArray)) ++ t210) ++ (⟨#[45]⟩ : ByteArray)).size + t211.size ≤ 9223372036854775807 then (if y202.length < 8796093022208 then (some (y202 ++ [(((t209 ++ (⟨#[45,87]⟩ : ByteArray)) ++ t210) ++ (⟨#[45]⟩ : ByteArray)) ++ t211])) else (none)) else (none))) else (none)) else (none))) else (none))) else (some y202)) = some r:=H
         have A17:=zZ.mk A170
         clear A170
         by_cases c18 : t208 = 0
         ·
          rw [if_pos c18] at H
          have c18b0 : (t208 == 0) = true:=beq_iff_eq.mpr c18
          have c18b1 : (t208 != 0) = false:=bne_eq_false_iff_eq.mpr c18
          clear c18
          replace H:=Option.bind_eq_some_iff.mp H
          obtain ⟨t209,A190,H⟩:=H
          replace H : (if t209.size + 2 ≤ 9223372036854775807 then ((xI.f k t206 2).bind fun t210 => (if (t209 ++ (⟨#[45,87]⟩ : ByteArray)).size + t210.size ≤ 9223372036854775807 then (if ((t209 ++ (⟨#[45,87]⟩ : ByteArray)) ++ t210).size + 1 ≤ 9223372036854775807 then ((xI.f k t207 1).bind fun t211 => (if (((t209 ++ (⟨#[45,87]⟩ : ByteArray)) ++ t210) ++ (⟨#[45]⟩ : ByteArray)).size + t211.size ≤ 9223372036854775807 then (if y202.length < 8796093022208 then (some (y202 ++ [(((t209 ++ (⟨#[45,87]⟩ : ByteArray)) ++ t210) ++ (⟨#[45]⟩ : ByteArray)) ++ t211])) else (none)) else (none))) else (none)) else (none))) else (none)) = some r:=H
          have A19:=zZ.mk A190
          clear A190
          by_cases c20 : t209.size + 2 ≤ 9223372036854775807
          ·
           rw [if_pos c20] at H
           have c20b0:=eq_true c20
           have c20b1 : decide (t209.size + 2 ≤ 9223372036854775807) = true:=decide_eq_true c20
           try have c20b2 : (9223372036854775807 < t209.size + 2) = False:=eq_false (Nat.not_lt.2 c20)
           replace H:=Option.bind_eq_some_iff.mp H
           obtain ⟨t210,A210,H⟩:=H
           replace H : (if (t209 ++ (⟨#[45,87]⟩ : ByteArray)).size + t210.size ≤ 9223372036854775807 then (if ((t209 ++ (⟨#[45,87]⟩ : ByteArray)) ++ t210).size + 1 ≤ 9223372036854775807 then ((xI.f k t207 1).bind fun t211 => (if (((t209 ++ (⟨#[45,87]⟩ : ByteArray)) ++ t210) ++ (⟨#[45]⟩ : ByteArray)).size + t211.size ≤ 9223372036854775807 then (if y202.length < 8796093022208 then (some (y202 ++ [(((t209 ++ (⟨#[45,87]⟩ : ByteArray)) ++ t210) ++ (⟨#[45]⟩ : ByteArray)) ++ t211])) else (none)) else (none))) else (none)) else (none)) = some r:=H
           have A21:=zZ.mk A210
           clear A210
           by_cases c22 : (t209 ++ (⟨#[45,87]⟩ : ByteArray)).size + t210.size ≤ 9223372036854775807
           ·
            rw [if_pos c22] at H
            have c22b0:=eq_true c22
            have c22b1 : decide ((t209 ++ (⟨#[45,87]⟩ : ByteArray)).size + t210.size ≤ 9223372036854775807) = true:=decide_eq_true c22
            try have c22b2 : (9223372036854775807 < (t209 ++ (⟨#[45,87]⟩ : ByteArray)).size + t210.size) = False:=eq_false (Nat.not_lt.2 c22)
            have c22b7 : (9223372036854775807 < t209.size + 2 + t210.size) = False:=eq_false (Nat.not_lt.2 (by have h_:=c22; simp only [ByteArray.size_append,show (⟨#[45]⟩ : ByteArray).size = 1 from rfl,show (⟨#[45,87]⟩ : ByteArray).size = 2 from rfl] at h_; omega))
            by_cases c23 : ((t209 ++ (⟨#[45,87]⟩ : ByteArray)) ++ t210).size + 1 ≤ 9223372036854775807
            ·
             rw [if_pos c23] at H
             have c23b0:=eq_true c23
             have c23b1 : decide (((t209 ++ (⟨#[45,87]⟩ : ByteArray)) ++ t210).size + 1 ≤ 9223372036854775807) = true:=decide_eq_true c23
             try have c23b2 : (9223372036854775807 < ((t209 ++ (⟨#[45,87]⟩ : ByteArray)) ++ t210).size + 1) = False:=eq_false (Nat.not_lt.2 c23)
             have c23b7 : (9223372036854775807 < t209.size + 2 + t210.size + 1) = False:=eq_false (Nat.not_lt.2 (by have h_:=c23; simp only [ByteArray.size_append,show (⟨#[45]⟩ : ByteArray).size = 1 from rfl,show (⟨#[45,87]⟩ : ByteArray).size = 2 from rfl] at h_; omega))
             replace H:=Option.bind_eq_some_iff.mp H
             obtain ⟨t211,A240,H⟩:=H
             replace H : (if (((t209 ++ (⟨#[45,87]⟩ : ByteArray)) ++ t210) ++ (⟨#[45]⟩ : ByteArray)).size + t211.size ≤ 9223372036854775807 then (if y202.length < 8796093022208 then (some (y202 ++ [(((t209 ++ (⟨#[45,87]⟩ : ByteArray)) ++ t210) ++ (⟨#[45]⟩ : ByteArray)) ++ t211])) else (none)) else (none)) = some r:=H
             have A24:=zZ.mk A240
             clear A240
             by_cases c25 : (((t209 ++ (⟨#[45,87]⟩ : ByteArray)) ++ t210) ++ (⟨#[45]⟩ : ByteArray)).size + t211.size ≤ 9223372036854775807
             ·
              rw [if_pos c25] at H
              have c25b0:=eq_true c25
              have c25b1 : decide ((((t209 ++ (⟨#[45,87]⟩ : ByteArray)) ++ t210) ++ (⟨#[45]⟩ : ByteArray)).size + t211.size ≤ 9223372036854775807) = true:=decide_eq_true c25
              try have c25b2 : (9223372036854775807 < (((t209 ++ (⟨#[45,87]⟩ : ByteArray)) ++ t210) ++ (⟨#[45]⟩ : ByteArray)).size + t211.size) = False:=eq_false (Nat.not_lt.2 c25)
              have c25b7 : (9223372036854775807 < t209.size + 2 + t210.size + 1 + t211.size) = False:=eq_false (Nat.not_lt.2 (by have h_:=c25; simp only [ByteArray.size_append,show (⟨#[45]⟩ : ByteArray).size = 1 from rfl,show (⟨#[45,87]⟩ : ByteArray).size = 2 from rfl] at h_; omega))
              by_cases c26 : y202.length < 8796093022208
              ·
               rw [if_pos c26] at H
               have LMc26:=zZ.mk c26
               clear c26
               obtain ⟨y212,hy212⟩ : ∃ y_ : List ByteArray,y_ = (y202 ++ [(((t209 ++ (⟨#[45,87]⟩ : ByteArray)) ++ t210) ++ (⟨#[45]⟩ : ByteArray)) ++ t211]):=⟨_,rfl⟩
               replace H : (some y212) = some r:=by first|(rw [hy212]; with_reducible exact H)|(have yA:=(Option.bind_some _ _).symm.trans H; rw [hy212]; with_reducible exact yA)|(have yA:=(Option.bind_some _ _).symm.trans H; with_reducible exact yA)|with_reducible exact H|(rw [hy212]; exact H)|exact H
               have Ny212:=zZ.mk hy212
               clear hy212
               obtain rfl:=Option.some.inj H
               go_enter Tryd.func124,Tryd.ntmps124
               go_wp2_with (first|((with_reducible refine yD (f:=131) rfl ?_); refine yE (some 17) rfl rfl Tryd.func131 (by kernel_rfl) rfl #[.int .i64 a0] rfl (by (try simp only [List.map_toArray,List.map_cons,List.map_nil]); first|done|rfl|(simp only [List.length_drop,List.length_take]; rfl)) ?_; (with_reducible refine (wD.calls k a0 t187 t188 t189 t190 _ A2.out).mono ?_); rintro e w' ⟨rfl,⟨nd,rfl⟩⟩; refine ⟨_,rfl,?_⟩)|((with_reducible refine yD (f:=132) rfl ?_); refine yE (some 25) rfl rfl Tryd.func132 (by kernel_rfl) rfl #[.int .i64 t187] rfl (by (try simp only [List.map_toArray,List.map_cons,List.map_nil]); first|done|rfl|(simp only [List.length_drop,List.length_take]; rfl)) ?_; (with_reducible refine (uR.calls k t187 t191 _ A4.out).mono ?_); rintro e w27 ⟨rfl,hb⟩; refine ⟨_,rfl,?_⟩; have zS:=zZ.mk (xW (by repeat (first|(with_reducible first|exact HB.out|apply zY|apply zV|apply zU)|exact HB.out)) hb); clear HB; have HB:=zS; clear zS; (try clear hb); (try clear hb2); (try clear hk); (try clear hi))|((with_reducible refine yD (f:=133) rfl ?_); refine yE (some 28) rfl rfl Tryd.func133 (by kernel_rfl) rfl #[.int .i64 t188,.int .i64 2] rfl (by (try simp only [List.map_toArray,List.map_cons,List.map_nil]); first|done|rfl|(simp only [List.length_drop,List.length_take]; rfl)) ?_; (with_reducible refine (xI.calls k t188 2 t192 _ A6.out).mono ?_); rintro e w28 ⟨rfl,hb⟩; refine ⟨_,rfl,?_⟩; have zS:=zZ.mk (xW (by repeat (first|(with_reducible first|exact HB.out|apply zY|apply zV|apply zU)|exact HB.out)) hb); clear HB; have HB:=zS; clear zS; (try clear hb); (try clear hb2); (try clear hk); (try clear hi))|((with_reducible refine yD (f:=133) rfl ?_); refine yE (some 32) rfl rfl Tryd.func133 (by kernel_rfl) rfl #[.int .i64 t189,.int .i64 2] rfl (by (try simp only [List.map_toArray,List.map_cons,List.map_nil]); first|done|rfl|(simp only [List.length_drop,List.length_take]; rfl)) ?_; (with_reducible refine (xI.calls k t189 2 t193 _ A9.out).mono ?_); rintro e w29 ⟨rfl,hb⟩; refine ⟨_,rfl,?_⟩; have zS:=zZ.mk (xW (by repeat (first|(with_reducible first|exact HB.out|apply zY|apply zV|apply zU)|exact HB.out)) hb); clear HB; have HB:=zS; clear zS; (try clear hb); (try clear hb2); (try clear hk); (try clear hi))|((with_reducible refine uU (N:=34) rfl ?_); refine Kd.R_lit Kd.string _ 9 ?hg (N:=34) ?hd (xs:=([(((t191 ++ (⟨#[45]⟩ : ByteArray)) ++ t192) ++ (⟨#[45]⟩ : ByteArray)) ++ t193] : List ByteArray)) (inner:=[.string ((((t191 ++ (⟨#[45]⟩ : ByteArray)) ++ t192) ++ (⟨#[45]⟩ : ByteArray)) ++ t193)]) (ok:=fun _ => True) (okp:=fun _ => True) ?hr ?hp (fun _ hk => hk) trivial (Below.refl _ _) (Nat.le_refl _) (by simp) ?_; (case hd => rfl); (case hg => rfl); (case hr => first|(go_simp; done)|(go_simp; rfl)); (case hp => exact (Reps.one (show Kd.M Kd.string _ _ _ ((((t191 ++ (⟨#[45]⟩ : ByteArray)) ++ t192) ++ (⟨#[45]⟩ : ByteArray)) ++ t193) [.string ((((t191 ++ (⟨#[45]⟩ : ByteArray)) ++ t192) ++ (⟨#[45]⟩ : ByteArray)) ++ t193)] from rfl) (Reps.none _ _))); intro v195 w30 ho31 hb hg_ hnew_; clear hg_ hnew_; (first|rw [← Ny194.out] at ho31|(simp only [Int.reduceToNat] at ho31; rw [← Ny194.out] at ho31)); have zS:=zZ.mk (Kd.R_lower ho31 (xS (by repeat (first|(with_reducible first|exact HB.out|apply zY|apply zV|apply zU)|exact HB.out)))); have zO:=zZ.mk (xW (by repeat (first|(with_reducible first|exact HB.out|apply zY|apply zV|apply zU)|exact HB.out)) hb); clear HB; have HO196:=zS; have HB:=zO; clear zS zO; clear hb ho31)|((with_reducible refine yD (f:=134) rfl ?_); refine yE (some 37) rfl rfl Tryd.func134 (by kernel_rfl) rfl #[.int .i64 a0] rfl (by (try simp only [List.map_toArray,List.map_cons,List.map_nil]); first|done|rfl|(simp only [List.length_drop,List.length_take]; rfl)) ?_; (with_reducible refine (qR.calls k a0 t197 t198 t199 _ A11.out).mono ?_); rintro e w' ⟨rfl,⟨nd,rfl⟩⟩; refine ⟨_,rfl,?_⟩)|((with_reducible refine yD (f:=132) rfl ?_); refine yE (some 43) rfl rfl Tryd.func132 (by kernel_rfl) rfl #[.int .i64 t187] rfl (by (try simp only [List.map_toArray,List.map_cons,List.map_nil]); first|done|rfl|(simp only [List.length_drop,List.length_take]; rfl)) ?_; (with_reducible refine (uR.calls k t187 t200 _ A12.out).mono ?_); rintro e w32 ⟨rfl,hb⟩; refine ⟨_,rfl,?_⟩; have zS:=zZ.mk (Kd.R_below (by (with_reducible repeat (first|apply Kd.R_alloc|apply Kd.R_drewN|apply Kd.R_drew)); exact HO196.out) hb); have zO:=zZ.mk (xW (by repeat (first|(with_reducible first|exact HB.out|apply zY|apply zV|apply zU)|exact HB.out)) hb); clear HO196; clear HB; have HO196:=zS; have HB:=zO; clear zS zO; (try clear hb); (try clear hb2); (try clear hk); (try clear hi))|((with_reducible refine yD (f:=133) rfl ?_); refine yE (some 46) rfl rfl Tryd.func133 (by kernel_rfl) rfl #[.int .i64 t198,.int .i64 3] rfl (by (try simp only [List.map_toArray,List.map_cons,List.map_nil]); first|done|rfl|(simp only [List.length_drop,List.length_take]; rfl)) ?_; (with_reducible refine (xI.calls k t198 3 t201 _ A14.out).mono ?_); rintro e w33 ⟨rfl,hb⟩; refine ⟨_,rfl,?_⟩; have zS:=zZ.mk (Kd.R_below (by (with_reducible repeat (first|apply Kd.R_alloc|apply Kd.R_drewN|apply Kd.R_drew)); exact HO196.out) hb); have zO:=zZ.mk (xW (by repeat (first|(with_reducible first|exact HB.out|apply zY|apply zV|apply zU)|exact HB.out)) hb); clear HO196; clear HB; have HO196:=zS; have HB:=zO; clear zS zO; (try clear hb); (try clear hb2); (try clear hk); (try clear hi))|((with_reducible refine uX (b:=.append) (xs:=#[.tmp 41,.tmp 48]) rfl ?_); at_builtin; refine Kd.R_append Kd.string (w0:=w) w.heap.size rfl (.tmp 41) (.tmp 48) 28 9 (.string ⟨#[]⟩) 16 rfl Tryd.underlying28 info9 rfl (by decide) (by omega) v195 y194 ((t200 ++ (⟨#[45]⟩ : ByteArray)) ++ t201) [.string ((t200 ++ (⟨#[45]⟩ : ByteArray)) ++ t201)] (fun _ => True) (fun _ => False) rfl rfl ?aP (fun _ hk => hk.elim) ?aF ?aO ?aB ?aS ?aL ?_; (case aP => exact rfl); (case aB => exact (by repeat (first|(with_reducible first|exact HB.out|apply zY|apply zV|apply zU)|exact HB.out))); (case aF => exact (fun _ _ => trivial)); (case aO => exact (by (with_reducible repeat (first|apply Kd.R_alloc|apply Kd.R_drewN|apply Kd.R_drew)); exact HO196.out)); (case aS => exact (xS (by repeat (first|(with_reducible first|exact HB.out|apply zY|apply zV|apply zU)|exact HB.out)))); (case aL => have:=LMc16.out; omega); intro v203 w34 ho hb hg hat; rw [← Ny202.out] at ho; have zS:=zZ.mk (hb); have zO:=zZ.mk (ho); clear HB; clear HO196; have HB:=zS; have HO204:=zO; clear zS zO; clear ho hb hg hat)|((with_reducible refine yD (f:=135) rfl ?_); refine yE (some 52) rfl rfl Tryd.func135 (by kernel_rfl) rfl #[.int .i64 a0] rfl (by (try simp only [List.map_toArray,List.map_cons,List.map_nil]); first|done|rfl|(simp only [List.length_drop,List.length_take]; rfl)) ?_; (with_reducible refine (vK.calls k a0 t205 t206 t207 t208 _ A17.out).mono ?_); rintro e w' ⟨rfl,⟨nd,rfl⟩⟩; refine ⟨_,rfl,?_⟩)|((with_reducible refine yD (f:=132) rfl ?_); refine yE (some 61) rfl rfl Tryd.func132 (by kernel_rfl) rfl #[.int .i64 t205] rfl (by (try simp only [List.map_toArray,List.map_cons,List.map_nil]); first|done|rfl|(simp only [List.length_drop,List.length_take]; rfl)) ?_; (with_reducible refine (uR.calls k t205 t209 _ A19.out).mono ?_); rintro e w35 ⟨rfl,hb⟩; refine ⟨_,rfl,?_⟩; have zS:=zZ.mk (Kd.R_below (by (with_reducible repeat (first|apply Kd.R_alloc|apply Kd.R_drewN|apply Kd.R_drew)); exact HO204.out) hb); have zO:=zZ.mk (xW (by repeat (first|(with_reducible first|exact HB.out|apply zY|apply zV|apply zU)|exact HB.out)) hb); clear HO204; clear HB; have HO204:=zS; have HB:=zO; clear zS zO; (try clear hb); (try clear hb2); (try clear hk); (try clear hi))|((with_reducible refine yD (f:=133) rfl ?_); refine yE (some 64) rfl rfl Tryd.func133 (by kernel_rfl) rfl #[.int .i64 t206,.int .i64 2] rfl (by (try simp only [List.map_toArray,List.map_cons,List.map_nil]); first|done|rfl|(simp only [List.length_drop,List.length_take]; rfl)) ?_; (with_reducible refine (xI.calls k t206 2 t210 _ A21.out).mono ?_); rintro e w36 ⟨rfl,hb⟩; refine ⟨_,rfl,?_⟩; have zS:=zZ.mk (Kd.R_below (by (with_reducible repeat (first|apply Kd.R_alloc|apply Kd.R_drewN|apply Kd.R_drew)); exact HO204.out) hb); have zO:=zZ.mk (xW (by repeat (first|(with_reducible first|exact HB.out|apply zY|apply zV|apply zU)|exact HB.out)) hb); clear HO204; clear HB; have HO204:=zS; have HB:=zO; clear zS zO; (try clear hb); (try clear hb2); (try clear hk); (try clear hi))|((with_reducible refine yD (f:=133) rfl ?_); refine yE (some 68) rfl rfl Tryd.func133 (by kernel_rfl) rfl #[.int .i64 t207,.int .i64 1] rfl (by (try simp only [List.map_toArray,List.map_cons,List.map_nil]); first|done|rfl|(simp only [List.length_drop,List.length_take]; rfl)) ?_; (with_reducible refine (xI.calls k t207 1 t211 _ A24.out).mono ?_); rintro e w37 ⟨rfl,hb⟩; refine ⟨_,rfl,?_⟩; have zS:=zZ.mk (Kd.R_below (by (with_reducible repeat (first|apply Kd.R_alloc|apply Kd.R_drewN|apply Kd.R_drew)); exact HO204.out) hb); have zO:=zZ.mk (xW (by repeat (first|(with_reducible first|exact HB.out|apply zY|apply zV|apply zU)|exact HB.out)) hb); clear HO204; clear HB; have HO204:=zS; have HB:=zO; clear zS zO; (try clear hb); (try clear hb2); (try clear hk); (try clear hi))|((with_reducible refine uX (b:=.append) (xs:=#[.tmp 59,.tmp 70]) rfl ?_); at_builtin; refine Kd.R_append Kd.string (w0:=w) w.heap.size rfl (.tmp 59) (.tmp 70) 28 9 (.string ⟨#[]⟩) 16 rfl Tryd.underlying28 info9 rfl (by decide) (by omega) v203 y202 ((((t209 ++ (⟨#[45,87]⟩ : ByteArray)) ++ t210) ++ (⟨#[45]⟩ : ByteArray)) ++ t211) [.string ((((t209 ++ (⟨#[45,87]⟩ : ByteArray)) ++ t210) ++ (⟨#[45]⟩ : ByteArray)) ++ t211)] (fun _ => True) (fun _ => False) rfl rfl ?aP (fun _ hk => hk.elim) ?aF ?aO ?aB ?aS ?aL ?_; (case aP => exact rfl); (case aB => exact (by repeat (first|(with_reducible first|exact HB.out|apply zY|apply zV|apply zU)|exact HB.out))); (case aF => exact (fun _ _ => trivial)); (case aO => exact (by (with_reducible repeat (first|apply Kd.R_alloc|apply Kd.R_drewN|apply Kd.R_drew)); exact HO204.out)); (case aS => exact (xS (by repeat (first|(with_reducible first|exact HB.out|apply zY|apply zV|apply zU)|exact HB.out)))); (case aL => have:=LMc26.out; omega); intro v213 w38 ho hb hg hat; rw [← Ny212.out] at ho; have zS:=zZ.mk (hb); have zO:=zZ.mk (ho); clear HB; clear HO204; have HB:=zS; have HO214:=zO; clear zS zO; clear ho hb hg hat))
               go_ret
               exact ⟨_,by first|rfl|(simp [yG,yF] <;> rfl)|(simp [*,yG,yF] <;> rfl),by (with_reducible repeat (first|apply Kd.R_alloc|apply Kd.R_drewN|apply Kd.R_drew)); exact HO214.out,by repeat (first|(with_reducible first|exact HB.out|apply zY|apply zV|apply zU)|exact HB.out)⟩
              ·
               rw [if_neg c26] at H
               exact absurd H (by simp)
             ·
              rw [if_neg c25] at H
              exact absurd H (by simp)
            ·
             rw [if_neg c23] at H
             exact absurd H (by simp)
           ·
            rw [if_neg c22] at H
            exact absurd H (by simp)
          ·
           rw [if_neg c20] at H
           exact absurd H (by simp)
         ·
          rw [if_neg c18] at H
          have c18b0 : (t208 == 0) = false:=beq_eq_false_iff_ne.mpr c18
          have c18b1 : (t208 != 0) = true:=bne_iff_ne.mpr c18
          obtain rfl:=Option.some.inj H
          go_enter Tryd.func124,Tryd.ntmps124
          go_wp2_with (first|((with_reducible refine yD (f:=131) rfl ?_); refine yE (some 17) rfl rfl Tryd.func131 (by kernel_rfl) rfl #[.int .i64 a0] rfl (by (try simp only [List.map_toArray,List.map_cons,List.map_nil]); first|done|rfl|(simp only [List.length_drop,List.length_take]; rfl)) ?_; (with_reducible refine (wD.calls k a0 t187 t188 t189 t190 _ A2.out).mono ?_); rintro e w' ⟨rfl,⟨nd,rfl⟩⟩; refine ⟨_,rfl,?_⟩)|((with_reducible refine yD (f:=132) rfl ?_); refine yE (some 25) rfl rfl Tryd.func132 (by kernel_rfl) rfl #[.int .i64 t187] rfl (by (try simp only [List.map_toArray,List.map_cons,List.map_nil]); first|done|rfl|(simp only [List.length_drop,List.length_take]; rfl)) ?_; (with_reducible refine (uR.calls k t187 t191 _ A4.out).mono ?_); rintro e w39 ⟨rfl,hb⟩; refine ⟨_,rfl,?_⟩; have zS:=zZ.mk (xW (by repeat (first|(with_reducible first|exact HB.out|apply zY|apply zV|apply zU)|exact HB.out)) hb); clear HB; have HB:=zS; clear zS; (try clear hb); (try clear hb2); (try clear hk); (try clear hi))|((with_reducible refine yD (f:=133) rfl ?_); refine yE (some 28) rfl rfl Tryd.func133 (by kernel_rfl) rfl #[.int .i64 t188,.int .i64 2] rfl (by (try simp only [List.map_toArray,List.map_cons,List.map_nil]); first|done|rfl|(simp only [List.length_drop,List.length_take]; rfl)) ?_; (with_reducible refine (xI.calls k t188 2 t192 _ A6.out).mono ?_); rintro e w40 ⟨rfl,hb⟩; refine ⟨_,rfl,?_⟩; have zS:=zZ.mk (xW (by repeat (first|(with_reducible first|exact HB.out|apply zY|apply zV|apply zU)|exact HB.out)) hb); clear HB; have HB:=zS; clear zS; (try clear hb); (try clear hb2); (try clear hk); (try clear hi))|((with_reducible refine yD (f:=133) rfl ?_); refine yE (some 32) rfl rfl Tryd.func133 (by kernel_rfl) rfl #[.int .i64 t189,.int .i64 2] rfl (by (try simp only [List.map_toArray,List.map_cons,List.map_nil]); first|done|rfl|(simp only [List.length_drop,List.length_take]; rfl)) ?_; (with_reducible refine (xI.calls k t189 2 t193 _ A9.out).mono ?_); rintro e w41 ⟨rfl,hb⟩; refine ⟨_,rfl,?_⟩; have zS:=zZ.mk (xW (by repeat (first|(with_reducible first|exact HB.out|apply zY|apply zV|apply zU)|exact HB.out)) hb); clear HB; have HB:=zS; clear zS; (try clear hb); (try clear hb2); (try clear hk); (try clear hi))|((with_reducible refine uU (N:=34) rfl ?_); refine Kd.R_lit Kd.string _ 9 ?hg (N:=34) ?hd (xs:=([(((t191 ++ (⟨#[45]⟩ : ByteArray)) ++ t192) ++ (⟨#[45]⟩ : ByteArray)) ++ t193] : List ByteArray)) (inner:=[.string ((((t191 ++ (⟨#[45]⟩ : ByteArray)) ++ t192) ++ (⟨#[45]⟩ : ByteArray)) ++ t193)]) (ok:=fun _ => True) (okp:=fun _ => True) ?hr ?hp (fun _ hk => hk) trivial (Below.refl _ _) (Nat.le_refl _) (by simp) ?_; (case hd => rfl); (case hg => rfl); (case hr => first|(go_simp; done)|(go_simp; rfl)); (case hp => exact (Reps.one (show Kd.M Kd.string _ _ _ ((((t191 ++ (⟨#[45]⟩ : ByteArray)) ++ t192) ++ (⟨#[45]⟩ : ByteArray)) ++ t193) [.string ((((t191 ++ (⟨#[45]⟩ : ByteArray)) ++ t192) ++ (⟨#[45]⟩ : ByteArray)) ++ t193)] from rfl) (Reps.none _ _))); intro v195 w42 ho43 hb hg_ hnew_; clear hg_ hnew_; (first|rw [← Ny194.out] at ho43|(simp only [Int.reduceToNat] at ho43; rw [← Ny194.out] at ho43)); have zS:=zZ.mk (Kd.R_lower ho43 (xS (by repeat (first|(with_reducible first|exact HB.out|apply zY|apply zV|apply zU)|exact HB.out)))); have zO:=zZ.mk (xW (by repeat (first|(with_reducible first|exact HB.out|apply zY|apply zV|apply zU)|exact HB.out)) hb); clear HB; have HO196:=zS; have HB:=zO; clear zS zO; clear hb ho43)|((with_reducible refine yD (f:=134) rfl ?_); refine yE (some 37) rfl rfl Tryd.func134 (by kernel_rfl) rfl #[.int .i64 a0] rfl (by (try simp only [List.map_toArray,List.map_cons,List.map_nil]); first|done|rfl|(simp only [List.length_drop,List.length_take]; rfl)) ?_; (with_reducible refine (qR.calls k a0 t197 t198 t199 _ A11.out).mono ?_); rintro e w' ⟨rfl,⟨nd,rfl⟩⟩; refine ⟨_,rfl,?_⟩)|((with_reducible refine yD (f:=132) rfl ?_); refine yE (some 43) rfl rfl Tryd.func132 (by kernel_rfl) rfl #[.int .i64 t187] rfl (by (try simp only [List.map_toArray,List.map_cons,List.map_nil]); first|done|rfl|(simp only [List.length_drop,List.length_take]; rfl)) ?_; (with_reducible refine (uR.calls k t187 t200 _ A12.out).mono ?_); rintro e w44 ⟨rfl,hb⟩; refine ⟨_,rfl,?_⟩; have zS:=zZ.mk (Kd.R_below (by (with_reducible repeat (first|apply Kd.R_alloc|apply Kd.R_drewN|apply Kd.R_drew)); exact HO196.out) hb); have zO:=zZ.mk (xW (by repeat (first|(with_reducible first|exact HB.out|apply zY|apply zV|apply zU)|exact HB.out)) hb); clear HO196; clear HB; have HO196:=zS; have HB:=zO; clear zS zO; (try clear hb); (try clear hb2); (try clear hk); (try clear hi))|((with_reducible refine yD (f:=133) rfl ?_); refine yE (some 46) rfl rfl Tryd.func133 (by kernel_rfl) rfl #[.int .i64 t198,.int .i64 3] rfl (by (try simp only [List.map_toArray,List.map_cons,List.map_nil]); first|done|rfl|(simp only [List.length_drop,List.length_take]; rfl)) ?_; (with_reducible refine (xI.calls k t198 3 t201 _ A14.out).mono ?_); rintro e w45 ⟨rfl,hb⟩; refine ⟨_,rfl,?_⟩; have zS:=zZ.mk (Kd.R_below (by (with_reducible repeat (first|apply Kd.R_alloc|apply Kd.R_drewN|apply Kd.R_drew)); exact HO196.out) hb); have zO:=zZ.mk (xW (by repeat (first|(with_reducible first|exact HB.out|apply zY|apply zV|apply zU)|exact HB.out)) hb); clear HO196; clear HB; have HO196:=zS; have HB:=zO; clear zS zO; (try clear hb); (try clear hb2); (try clear hk); (try clear hi))|((with_reducible refine uX (b:=.append) (xs:=#[.tmp 41,.tmp 48]) rfl ?_); at_builtin; refine Kd.R_append Kd.string (w0:=w) w.heap.size rfl (.tmp 41) (.tmp 48) 28 9 (.string ⟨#[]⟩) 16 rfl Tryd.underlying28 info9 rfl (by decide) (by omega) v195 y194 ((t200 ++ (⟨#[45]⟩ : ByteArray)) ++ t201) [.string ((t200 ++ (⟨#[45]⟩ : ByteArray)) ++ t201)] (fun _ => True) (fun _ => False) rfl rfl ?aP (fun _ hk => hk.elim) ?aF ?aO ?aB ?aS ?aL ?_; (case aP => exact rfl); (case aB => exact (by repeat (first|(with_reducible first|exact HB.out|apply zY|apply zV|apply zU)|exact HB.out))); (case aF => exact (fun _ _ => trivial)); (case aO => exact (by (with_reducible repeat (first|apply Kd.R_alloc|apply Kd.R_drewN|apply Kd.R_drew)); exact HO196.out)); (case aS => exact (xS (by repeat (first|(with_reducible first|exact HB.out|apply zY|apply zV|apply zU)|exact HB.out)))); (case aL => have:=LMc16.out; omega); intro v203 w46 ho hb hg hat; rw [← Ny202.out] at ho; have zS:=zZ.mk (hb); have zO:=zZ.mk (ho); clear HB; clear HO196; have HB:=zS; have HO204:=zO; clear zS zO; clear ho hb hg hat)|((with_reducible refine yD (f:=135) rfl ?_); refine yE (some 52) rfl rfl Tryd.func135 (by kernel_rfl) rfl #[.int .i64 a0] rfl (by (try simp only [List.map_toArray,List.map_cons,List.map_nil]); first|done|rfl|(simp only [List.length_drop,List.length_take]; rfl)) ?_; (with_reducible refine (vK.calls k a0 t205 t206 t207 t208 _ A17.out).mono ?_); rintro e w' ⟨rfl,⟨nd,rfl⟩⟩; refine ⟨_,rfl,?_⟩))
          go_ret
          exact ⟨_,by first|rfl|(simp [yG,yF] <;> rfl)|(simp [*,yG,yF] <;> rfl),by (with_reducible repeat (first|apply Kd.R_alloc|apply Kd.R_drewN|apply Kd.R_drew)); exact HO204.out,by repeat (first|(with_reducible first|exact HB.out|apply zY|apply zV|apply zU)|exact HB.out)⟩
        ·
         rw [if_neg c16] at H
         exact absurd H (by simp)
       ·
        rw [if_neg c15] at H
        exact absurd H (by simp)
      ·
       rw [if_neg c13] at H
       exact absurd H (by simp)
     ·
      rw [if_neg c10] at H
      exact absurd H (by simp)
    ·
     rw [if_neg c8] at H
     exact absurd H (by simp)
   ·
    rw [if_neg c7] at H
    exact absurd H (by simp)
  ·
   rw [if_neg c5] at H
   exact absurd H (by simp)
 ·
  rw [if_neg c3] at H
  have c3b0 : (t190 == 0) = false:=beq_eq_false_iff_ne.mpr c3
  have c3b1 : (t190 != 0) = true:=bne_iff_ne.mpr c3
  obtain rfl:=Option.some.inj H
  go_enter Tryd.func124,Tryd.ntmps124
  go_wp2_with (first|((with_reducible refine yD (f:=131) rfl ?_); refine yE (some 17) rfl rfl Tryd.func131 (by kernel_rfl) rfl #[.int .i64 a0] rfl (by (try simp only [List.map_toArray,List.map_cons,List.map_nil]); first|done|rfl|(simp only [List.length_drop,List.length_take]; rfl)) ?_; (with_reducible refine (wD.calls k a0 t187 t188 t189 t190 _ A2.out).mono ?_); rintro e w' ⟨rfl,⟨nd,rfl⟩⟩; refine ⟨_,rfl,?_⟩))
  go_ret
  exact ⟨_,by first|rfl|(simp [yG,yF] <;> rfl)|(simp [*,yG,yF] <;> rfl),by first|exact Kd.R_nil _ _ _ _ _|exact Kd.N_nil _ _ _ _ _|exact Kd.V_nil _ _ _ _ _|exact Kd.Q_nil _ _ _ _ _|exact Kd.S_nil _ _ _ _ _,by repeat (first|(with_reducible first|exact HB.out|apply zY|apply zV|apply zU)|exact HB.out)⟩
mutual
def wJ.j0 : Nat → ByteArray → Int → Bool → Option (Int × Int)
 | 0,_,_,_ => none
 | k + 1,x0,x4,x18 => if x18 = true then (wJ.j1 k x0 1) else (wJ.j1 k x0 x4)
def wJ.j1 : Nat → ByteArray → Int → Option (Int × Int)
 | 0,_,_ => none
 | k + 1,x0,x4 => if (x0.size : Int) < (wrap64 (x4 + 8)) then (some (0,30)) else (if 0 ≤ x4 then (if x4 ≤ (wrap64 (x4 + 4)) then (if (wrap64 (x4 + 4)) ≤ (x0.size : Int) then ((rB.f k (x0.extract (x4 : Int).toNat ((wrap64 (x4 + 4)) : Int).toNat)).bind fun t215 => (if t215 < 0 then (some (0,30)) else (if x4 = 1 then (wJ.j2 k x0 (wrap64 (-t215))) else (wJ.j2 k x0 t215)))) else (none)) else (none)) else (none))
def wJ.j2 : Nat → ByteArray → Int → Option (Int × Int)
 | 0,_,_ => none
 | k + 1,x0,x5 => (vY.f k x5 1 1).bind fun bt216 => (if bt216.2 = 0 then (wJ.l0 k x0 bt216.1 (wrap64 (bt216.1 - 7))) else (some (0,30)))
def wJ.l0 : Nat → ByteArray → Int → Int → Option (Int × Int)
 | 0,_,_,_ => none
 | k + 1,x0,x6,x8 => if x8 < (wrap64 (x6 + 373)) then ((dW.f k x8).bind fun t218 => (wJ.l1 k x0 x6 x8 t218 0)) else (some (0,30))
def wJ.l1 : Nat → ByteArray → Int → Int → List ByteArray → Int → Option (Int × Int)
 | 0,_,_,_,_,_ => none
 | k + 1,x0,x6,x8,x9,x10 => if x10 < (x9.length : Int) then (if 0 ≤ x10 then (if (rdOf ByteArray.empty x9 x10).toList = x0.toList then (some (x8,0)) else (wJ.l1 k x0 x6 x8 x9 (wrap64 (x10 + 1)))) else (none)) else (wJ.l0 k x0 x6 (wrap64 (x8 + 1)))
end
def wJ.f (k : Nat) (a0 : ByteArray) : Option (Int × Int):=if (a0.size : Int) > 0 then (if 0 < (a0.size : Int) then (wJ.j0 k a0 0 ((bt a0 0) == 45)) else (none)) else (wJ.j0 k a0 0 false)
set_option maxHeartbeats 8000000 in
set_option maxRecDepth 100000 in
theorem wJ.calls (k : Nat) (a0 : ByteArray) (r1 : Int) (r2 : Int) (w : World) (h : wJ.f k a0 = some (r1,r2)) :
  Calls Tryd.prog 108 #[.string a0] w fun e w' => e = .returned (.tuple #[.int .i64 r1,.int .i64 r2]) ∧ Below w.heap.size w w':=by
 have HB:=zZ.mk (Below.refl w.heap.size w)
 have H : (if (a0.size : Int) > 0 then (if 0 < (a0.size : Int) then (wJ.j0 k a0 0 ((bt a0 0) == 45)) else (none)) else (wJ.j0 k a0 0 false)) = some (r1,r2):=h
 clear h
 have HC2:=zZ.mk H
 clear H
 go_enter Tryd.func108,Tryd.ntmps108
 go_upto_region 2 with (fail)
 go_cut [18] (fun v18 wc => ∃ (kq : Nat) (nZ : Bool),v18 = .bool nZ ∧ zZ (wJ.j0 kq a0 0 nZ = some (r1,r2)) ∧ zZ (kq ≤ k) ∧ zZ (Below w.heap.size w wc))
 case first =>
  have H:=HC2.out
  clear HC2
  by_cases c3 : (a0.size : Int) > 0
  ·
   rw [if_pos c3] at H
   have c3b0 : decide (0 < (a0.size : Int)) = true:=decide_eq_true c3
   have c3b1 : decide (0 < a0.size) = true:=decide_eq_true (by omega)
   clear c3
   (first|rw [c3b0]|(simp only [yV,yU]; rw [c3b0])|skip)
   by_cases c4 : 0 < (a0.size : Int)
   ·
    rw [if_pos c4] at H
    have c4b0 : decide (0 < (a0.size : Int)) = true:=decide_eq_true c4
    have c4b1 : decide (0 < a0.size) = true:=decide_eq_true (by omega)
    clear c4
    have H':=zZ.mk H
    clear H
    have p5 : 0 ≤ (0 : Int):=(by omega)
    have q5 : 0 < a0.size:=(by have : (0 : Int) < (a0.size : Int):=of_decide_eq_true (by first|(with_reducible assumption)|assumption); omega)
    have hx5 : ∀ h : 0 < a0.size,((a0[0]'h).toNat : Int) = bt a0 0:=xG a0 0
    clear p5
    have qi5 : (0 < (a0.size : Int)) = True:=eq_true (of_decide_eq_true (by first|(with_reducible assumption)|assumption))
    replace q5:=eq_true q5
    go_wp2
    go_meet
    case rel => exact ⟨_,(((bt a0 0) == 45)),(by first|rfl|(simp;done)|(simp [*];done)),H',⟨by first|omega|exact Nat.le_refl _⟩,⟨by repeat (first|(with_reducible first|exact HB.out|apply zY|apply zV|apply zU)|exact HB.out)⟩⟩
   ·
    rw [if_neg c4] at H
    exact absurd H (by simp)
  ·
   rw [if_neg c3] at H
   have c3b0 : decide (0 < (a0.size : Int)) = false:=decide_eq_false c3
   have c3b1 : decide (0 < a0.size) = false:=decide_eq_false (by omega)
   clear c3
   (first|rw [c3b0]|(simp only [yV,yU]; rw [c3b0])|skip)
   have H':=zZ.mk H
   clear H
   go_wp2
   go_meet
   case rel => exact ⟨_,(false),(by first|rfl|(simp;done)|(simp [*];done)),H',⟨by first|omega|exact Nat.le_refl _⟩,⟨by repeat (first|(with_reducible first|exact HB.out|apply zY|apply zV|apply zU)|exact HB.out)⟩⟩
 case rest =>
  clear HC2
  try clear c1
  try clear p2
  try clear c3
  try clear c3b0
  try clear c3b1
  try clear c4
  try clear c4b0
  try clear c4b1
  try clear p5 p5
  try clear q5 q5
  try clear hx5
  try clear qi5
  obtain ⟨kq,nZ,rfl,HA,HJ1,HB⟩:=hcut
  cases kq with
  | zero => exact absurd HA.out (by simp [wJ.j0])
  | succ kj1 =>
   have H:=HA.out
   clear HA
   simp only [wJ.j0] at H
   have HC6:=zZ.mk H
   clear H
   go_upto_if 18 with (fail)
   go_cut [4] (fun v4 wc => ∃ (kq : Nat) (uN : Int),v4 = .int .i64 uN ∧ zZ (wJ.j1 kq a0 uN = some (r1,r2)) ∧ zZ (kq ≤ kj1) ∧ zZ (Below w.heap.size w wc))
   case first =>
    have H:=HC6.out
    clear HC6
    by_cases c7 : nZ = true
    ·
     subst c7
     have H1 : (wJ.j1 kj1 a0 1) = some (r1,r2):=by rw [if_pos rfl] at H; exact H
     clear H
     have H:=H1
     clear H1
     have H':=zZ.mk H
     clear H
     go_wp2
     go_meet
     case rel => exact ⟨_,(1),(by first|rfl|(simp;done)|(simp [*];done)),H',⟨by have:=HJ1.out; first|omega|exact Nat.le_refl _⟩,⟨by repeat (first|(with_reducible first|exact HB.out|apply zY|apply zV|apply zU)|exact HB.out)⟩⟩
    ·
     replace c7:=Bool.eq_false_iff.mpr c7
     subst c7
     have H1 : (wJ.j1 kj1 a0 0) = some (r1,r2):=by rw [if_neg (show ¬ (false = true) by decide)] at H; exact H
     clear H
     have H:=H1
     clear H1
     have H':=zZ.mk H
     clear H
     go_wp2
     go_meet
     case rel => exact ⟨_,(0),(by first|rfl|(simp;done)|(simp [*];done)),H',⟨by have:=HJ1.out; first|omega|exact Nat.le_refl _⟩,⟨by repeat (first|(with_reducible first|exact HB.out|apply zY|apply zV|apply zU)|exact HB.out)⟩⟩
   case rest =>
    clear HC6
    try clear c1
    try clear p2 p2
    try clear c3
    try clear c3b0
    try clear c3b1
    try clear c4
    try clear c4b0
    try clear c4b1
    try clear p5 p5
    try clear q5 q5
    try clear hx5
    try clear qi5
    try clear c7
    obtain ⟨kq,uN,rfl,HA,HJ5,HB⟩:=hcut
    cases kq with
    | zero => exact absurd HA.out (by simp [wJ.j1])
    | succ kj5 =>
     have H:=HA.out
     clear HA
     simp only [wJ.j1] at H
     by_cases c8 : (a0.size : Int) < (wrap64 (uN + 8))
     ·
      rw [if_pos c8] at H
      have c8b0 : decide ((a0.size : Int) < (wrap64 (uN + 8))) = true:=decide_eq_true c8
      clear c8
      simp only [Option.some.injEq,Prod.mk.injEq] at H
      obtain ⟨rfl,rfl⟩:=H
      go_wp2
      go_ret2
      exact ⟨by first|rfl|(simp [yG,yF] <;> rfl)|(simp [*,yG,yF] <;> rfl),by repeat (first|(with_reducible first|exact HB.out|apply zY|apply zV|apply zU)|exact HB.out)⟩
     ·
      rw [if_neg c8] at H
      have c8b0 : decide ((a0.size : Int) < (wrap64 (uN + 8))) = false:=decide_eq_false c8
      clear c8
      by_cases c9 : 0 ≤ uN
      ·
       rw [if_pos c9] at H
       have c9b0:=eq_true c9
       have c9b1 : decide (0 ≤ uN) = true:=decide_eq_true c9
       clear c9
       by_cases c10 : uN ≤ (wrap64 (uN + 4))
       ·
        rw [if_pos c10] at H
        have c10b0:=eq_true c10
        have c10b1 : decide (uN ≤ (wrap64 (uN + 4))) = true:=decide_eq_true c10
        by_cases c11 : (wrap64 (uN + 4)) ≤ (a0.size : Int)
        ·
         rw [if_pos c11] at H
         have c11b0:=eq_true c11
         have c11b1 : decide ((wrap64 (uN + 4)) ≤ (a0.size : Int)) = true:=decide_eq_true c11
         replace H:=Option.bind_eq_some_iff.mp H
         obtain ⟨t215,A120,H⟩:=H
         replace H : (if t215 < 0 then (some (0,30)) else (if uN = 1 then (wJ.j2 kj5 a0 (wrap64 (-t215))) else (wJ.j2 kj5 a0 t215))) = some (r1,r2):=H
         have A12:=zZ.mk A120
         clear A120
         by_cases c13 : t215 < 0
         ·
          rw [if_pos c13] at H
          have c13b0 : decide (t215 < 0) = true:=decide_eq_true c13
          clear c13
          simp only [Option.some.injEq,Prod.mk.injEq] at H
          obtain ⟨rfl,rfl⟩:=H
          go_wp2_with (first|((with_reducible refine yD (f:=122) rfl ?_); refine yE (some 29) rfl rfl Tryd.func122 (by kernel_rfl) rfl #[.string (a0.extract (uN : Int).toNat ((wrap64 (uN + 4)) : Int).toNat)] rfl (by (try simp only [List.map_toArray,List.map_cons,List.map_nil]); first|done|rfl|(simp only [List.length_drop,List.length_take]; rfl)) ?_; (with_reducible refine (rB.calls kj5 (a0.extract (uN : Int).toNat ((wrap64 (uN + 4)) : Int).toNat) t215 _ A12.out).mono ?_); rintro e w' ⟨rfl,⟨nd,rfl⟩⟩; refine ⟨_,rfl,?_⟩))
          go_ret2
          exact ⟨by first|rfl|(simp [yG,yF] <;> rfl)|(simp [*,yG,yF] <;> rfl),by repeat (first|(with_reducible first|exact HB.out|apply zY|apply zV|apply zU)|exact HB.out)⟩
         ·
          rw [if_neg c13] at H
          have c13b0 : decide (t215 < 0) = false:=decide_eq_false c13
          clear c13
          have HC14:=zZ.mk H
          clear H
          go_upto_if 33 with (first|((with_reducible refine yD (f:=122) rfl ?_); refine yE (some 29) rfl rfl Tryd.func122 (by kernel_rfl) rfl #[.string (a0.extract (uN : Int).toNat ((wrap64 (uN + 4)) : Int).toNat)] rfl (by (try simp only [List.map_toArray,List.map_cons,List.map_nil]); first|done|rfl|(simp only [List.length_drop,List.length_take]; rfl)) ?_; (with_reducible refine (rB.calls kj5 (a0.extract (uN : Int).toNat ((wrap64 (uN + 4)) : Int).toNat) t215 _ A12.out).mono ?_); rintro e w' ⟨rfl,⟨nd,rfl⟩⟩; refine ⟨_,rfl,?_⟩))
          (try simp only [Act.put,List.setIfInBounds_toArray,List.set_cons_zero,List.set_cons_succ])
          go_cut [5] (fun v5 wc => ∃ (kq : Nat) (lI : Int),v5 = .int .i64 lI ∧ zZ (wJ.j2 kq a0 lI = some (r1,r2)) ∧ zZ (kq ≤ kj5) ∧ zZ (Below w.heap.size w wc))
          case first =>
           have H:=HC14.out
           clear HC14
           by_cases c15 : uN = 1
           ·
            rw [if_pos c15] at H
            have c15b0 : (uN == 1) = true:=beq_iff_eq.mpr c15
            have c15b1 : (uN != 1) = false:=bne_eq_false_iff_eq.mpr c15
            clear c15
            (first|rw [c15b0]|(simp only [yV,yU]; rw [c15b0])|skip)
            have H':=zZ.mk H
            clear H
            go_wp2
            go_meet
            case rel => exact ⟨_,(wrap64 (-t215)),(by first|rfl|(simp;done)|(simp [*];done)),H',⟨by have:=HJ1.out; have:=HJ5.out; first|omega|exact Nat.le_refl _⟩,⟨by repeat (first|(with_reducible first|exact HB.out|apply zY|apply zV|apply zU)|exact HB.out)⟩⟩
           ·
            rw [if_neg c15] at H
            have c15b0 : (uN == 1) = false:=beq_eq_false_iff_ne.mpr c15
            have c15b1 : (uN != 1) = true:=bne_iff_ne.mpr c15
            (first|rw [c15b0]|(simp only [yV,yU]; rw [c15b0])|skip)
            have H':=zZ.mk H
            clear H
            go_wp2
            go_meet
            case rel => exact ⟨_,(t215),(by first|rfl|(simp;done)|(simp [*];done)),H',⟨by have:=HJ1.out; have:=HJ5.out; first|omega|exact Nat.le_refl _⟩,⟨by repeat (first|(with_reducible first|exact HB.out|apply zY|apply zV|apply zU)|exact HB.out)⟩⟩
          case rest =>
           clear HC14
           try clear c1
           try clear p2 p2
           try clear c3
           try clear c3b0
           try clear c3b1
           try clear c4
           try clear c4b0
           try clear c4b1
           try clear p5 p5
           try clear q5 q5
           try clear hx5
           try clear qi5
           try clear p6
           try clear c7
           try clear c8
           try clear c8b0
           try clear c9
           try clear c9b0
           try clear c9b1
           try clear c10
           try clear c10b0
           try clear c10b1
           try clear c11
           try clear c11b0
           try clear c11b1
           try clear c12
           try clear c13
           try clear c13b0
           try clear c15
           try clear c15b0
           try clear c15b1
           obtain ⟨kq,lI,rfl,HA,HJ13,HB⟩:=hcut
           cases kq with
           | zero => exact absurd HA.out (by simp [wJ.j2])
           | succ kj13 =>
            have H:=HA.out
            clear HA
            simp only [wJ.j2] at H
            replace H:=Option.bind_eq_some_iff.mp H
            obtain ⟨⟨t216,t217⟩,A160,H⟩:=H
            replace H : (if t217 = 0 then (wJ.l0 kj13 a0 t216 (wrap64 (t216 - 7))) else (some (0,30))) = some (r1,r2):=H
            have A16:=zZ.mk A160
            clear A160
            by_cases c17 : t217 = 0
            ·
             rw [if_pos c17] at H
             have c17b0 : (t217 == 0) = true:=beq_iff_eq.mpr c17
             have c17b1 : (t217 != 0) = false:=bne_eq_false_iff_eq.mpr c17
             clear c17
             have H':=zZ.mk H
             clear H
             go_wp2_with (first|((with_reducible refine yD (f:=123) rfl ?_); refine yE (some 38) rfl rfl Tryd.func123 (by kernel_rfl) rfl #[.int .i64 lI,.int .i64 1,.int .i64 1] rfl (by (try simp only [List.map_toArray,List.map_cons,List.map_nil]); first|done|rfl|(simp only [List.length_drop,List.length_take]; rfl)) ?_; (with_reducible refine (vY.calls kj13 lI 1 1 t216 t217 _ A16.out).mono ?_); rintro e w' ⟨rfl,⟨nd,rfl⟩⟩; refine ⟨_,rfl,?_⟩))
             go_loopg [8] kj13 (fun kq v8 w' => ∃ (qI : Int),v8 = .int .i64 qI ∧ zZ (wJ.l0 kq a0 t216 qI = some (r1,r2)) ∧ zZ (kq ≤ kj13) ∧ zZ (Below w.heap.size w w'))
             case atStart => exact ⟨(wrap64 (t216 - 7)),(by first|rfl|(simp;done)|(simp [*];done)),H',⟨Nat.le_refl _⟩,⟨by repeat (first|(with_reducible first|exact HB.out|apply zY|apply zV|apply zU)|exact HB.out)⟩⟩
             case round =>
              clear H'
              try clear c1
              try clear p2 p2
              try clear c3
              try clear c3b0
              try clear c3b1
              try clear c4
              try clear c4b0
              try clear c4b1
              try clear p5 p5
              try clear q5 q5
              try clear hx5
              try clear qi5
              try clear p6 p6
              try clear c7
              try clear c8
              try clear c8b0
              try clear c9
              try clear c9b0
              try clear c9b1
              try clear c10
              try clear c10b0
              try clear c10b1
              try clear c11
              try clear c11b0
              try clear c11b1
              try clear c12
              try clear c13
              try clear c13b0
              try clear c15
              try clear c15b0
              try clear c15b1
              try clear c17
              try clear c17b0
              try clear c17b1
              obtain ⟨qI,rfl,HA,HK4,HB⟩:=hrel
              cases gk with
              | zero => exact absurd HA.out (by simp [wJ.l0])
              | succ k4 =>
               have H:=HA.out
               clear HA
               simp only [wJ.l0] at H
               by_cases c18 : qI < (wrap64 (t216 + 373))
               ·
                rw [if_pos c18] at H
                have c18b0 : decide (qI < (wrap64 (t216 + 373))) = true:=decide_eq_true c18
                clear c18
                replace H:=Option.bind_eq_some_iff.mp H
                obtain ⟨t218,A190,H⟩:=H
                replace H : (wJ.l1 k4 a0 t216 qI t218 0) = some (r1,r2):=H
                have A19:=zZ.mk A190
                clear A190
                have H':=zZ.mk H
                clear H
                go_wp2_with (first|((with_reducible refine yD (f:=124) rfl ?_); refine yE (some 52) rfl rfl Tryd.func124 (by kernel_rfl) rfl #[.int .i64 qI] rfl (by (try simp only [List.map_toArray,List.map_cons,List.map_nil]); first|done|rfl|(simp only [List.length_drop,List.length_take]; rfl)) ?_; (with_reducible refine (dW.calls k4 qI t218 _ A19.out).mono ?_); rintro e w20 ⟨v219,rfl,ho0,hb⟩; refine ⟨_,rfl,?_⟩; have zS:=zZ.mk (Kd.R_lower ho0 (xS (by repeat (first|(with_reducible first|exact HB.out|apply zY|apply zV|apply zU)|exact HB.out)))); have zO:=zZ.mk (xW (by repeat (first|(with_reducible first|exact HB.out|apply zY|apply zV|apply zU)|exact HB.out)) hb); clear HB; have HO220:=zS; have HB:=zO; clear zS zO; (try clear hb); (try clear hb2); (try clear hk); (try clear hi); (try clear ho0)))
                go_loopg [10] k4 (fun kq v10 w' => ∃ (uC : Int),v10 = .int .i64 uC ∧ zZ (wJ.l1 kq a0 t216 qI t218 uC = some (r1,r2)) ∧ zZ (kq ≤ k4) ∧ zZ (Kd.R Kd.string 9 w' w.heap.size (fun _ => True) v219 t218) ∧ zZ (Below w.heap.size w w'))
                case atStart => exact ⟨(0),(by first|rfl|(simp;done)|(simp [*];done)),H',⟨Nat.le_refl _⟩,⟨by (with_reducible repeat (first|apply Kd.R_alloc|apply Kd.R_drewN|apply Kd.R_drew)); exact HO220.out⟩,⟨by repeat (first|(with_reducible first|exact HB.out|apply zY|apply zV|apply zU)|exact HB.out)⟩⟩
                case round =>
                 clear H'
                 try clear c1
                 try clear p2 p2
                 try clear c3
                 try clear c3b0
                 try clear c3b1
                 try clear c4
                 try clear c4b0
                 try clear c4b1
                 try clear p5 p5
                 try clear q5 q5
                 try clear hx5
                 try clear qi5
                 try clear p6 p6
                 try clear c7
                 try clear c8
                 try clear c8b0
                 try clear c9
                 try clear c9b0
                 try clear c9b1
                 try clear c10
                 try clear c10b0
                 try clear c10b1
                 try clear c11
                 try clear c11b0
                 try clear c11b1
                 try clear c12
                 try clear c13
                 try clear c13b0
                 try clear c15
                 try clear c15b0
                 try clear c15b1
                 try clear c17
                 try clear c17b0
                 try clear c17b1
                 try clear c18
                 try clear c18b0
                 obtain ⟨uC,rfl,HA,HK5,HO_9,HB⟩:=hrel
                 cases gk with
                 | zero => exact absurd HA.out (by simp [wJ.l1])
                 | succ k5 =>
                  have H:=HA.out
                  clear HA
                  simp only [wJ.l1] at H
                  by_cases c21 : uC < (t218.length : Int)
                  ·
                   rw [if_pos c21] at H
                   have c21b0 : decide (uC < (t218.length : Int)) = true:=decide_eq_true c21
                   clear c21
                   by_cases c22 : 0 ≤ uC
                   ·
                    rw [if_pos c22] at H
                    have c22b0 : decide (0 ≤ uC) = true:=decide_eq_true c22
                    clear c22
                    by_cases c23 : (rdOf ByteArray.empty t218 uC).toList = a0.toList
                    ·
                     rw [if_pos c23] at H
                     have c23b0 : ((rdOf ByteArray.empty t218 uC).toList == a0.toList) = true:=beq_iff_eq.mpr c23
                     have c23b1 : ((rdOf ByteArray.empty t218 uC).toList != a0.toList) = false:=bne_eq_false_iff_eq.mpr c23
                     clear c23
                     simp only [Option.some.injEq,Prod.mk.injEq] at H
                     obtain ⟨rfl,rfl⟩:=H
                     obtain ⟨Ao24,co24,eo24⟩:=Kd.R_slice HO_9.out
                     subst eo24
                     have p221 : 0 ≤ (uC : Int):=of_decide_eq_true (by first|(with_reducible assumption)|assumption)
                     have q221 : uC < (t218.length : Int):=of_decide_eq_true (by first|(with_reducible assumption)|assumption)
                     obtain ⟨ad221,e221,zSY⟩:=Kd.at_string (Kd.R_reads' HO_9.out).2.2 uC p221 q221
                     cases e221
                     replace p221:=eq_true p221
                     replace q221:=eq_true q221
                     go_wp2
                     go_ret2
                     exact ⟨by first|rfl|(simp [yG,yF] <;> rfl)|(simp [*,yG,yF] <;> rfl),by repeat (first|(with_reducible first|exact HB.out|apply zY|apply zV|apply zU)|exact HB.out)⟩
                    ·
                     rw [if_neg c23] at H
                     have c23b0 : ((rdOf ByteArray.empty t218 uC).toList == a0.toList) = false:=beq_eq_false_iff_ne.mpr c23
                     have c23b1 : ((rdOf ByteArray.empty t218 uC).toList != a0.toList) = true:=bne_iff_ne.mpr c23
                     have H':=zZ.mk H
                     clear H
                     obtain ⟨Ao25,co25,eo25⟩:=Kd.R_slice HO_9.out
                     subst eo25
                     have p221 : 0 ≤ (uC : Int):=of_decide_eq_true (by first|(with_reducible assumption)|assumption)
                     have q221 : uC < (t218.length : Int):=of_decide_eq_true (by first|(with_reducible assumption)|assumption)
                     obtain ⟨ad221,e221,zSY⟩:=Kd.at_string (Kd.R_reads' HO_9.out).2.2 uC p221 q221
                     cases e221
                     replace p221:=eq_true p221
                     replace q221:=eq_true q221
                     go_wp2
                     go_roundg k5
                     case measure => have:=HJ1.out; have:=HJ5.out; have:=HJ13.out; have:=HK4.out; have:=HK5.out; omega
                     case rel => exact ⟨(wrap64 (uC + 1)),(by first|rfl|(simp;done)|(simp [*];done)),H',⟨by have:=HJ1.out; have:=HJ5.out; have:=HJ13.out; have:=HK4.out; have:=HK5.out; omega⟩,⟨by (with_reducible repeat (first|apply Kd.R_alloc|apply Kd.R_drewN|apply Kd.R_drew)); exact HO_9.out⟩,⟨by repeat (first|(with_reducible first|exact HB.out|apply zY|apply zV|apply zU)|exact HB.out)⟩⟩
                   ·
                    rw [if_neg c22] at H
                    exact absurd H (by simp)
                  ·
                   rw [if_neg c21] at H
                   have c21b0 : decide (uC < (t218.length : Int)) = false:=decide_eq_false c21
                   clear c21
                   have H':=zZ.mk H
                   clear H
                   obtain ⟨Ao26,co26,eo26⟩:=Kd.R_slice HO_9.out
                   subst eo26
                   go_wp2
                   go_roundg k5
                   case measure => have:=HJ1.out; have:=HJ5.out; have:=HJ13.out; have:=HK4.out; have:=HK5.out; omega
                   case rel => exact ⟨(wrap64 (qI + 1)),(by first|rfl|(simp;done)|(simp [*];done)),H',⟨by have:=HJ1.out; have:=HJ5.out; have:=HJ13.out; have:=HK4.out; have:=HK5.out; omega⟩,⟨by repeat (first|(with_reducible first|exact HB.out|apply zY|apply zV|apply zU)|exact HB.out)⟩⟩
               ·
                rw [if_neg c18] at H
                have c18b0 : decide (qI < (wrap64 (t216 + 373))) = false:=decide_eq_false c18
                clear c18
                simp only [Option.some.injEq,Prod.mk.injEq] at H
                obtain ⟨rfl,rfl⟩:=H
                go_wp2
                go_ret2
                exact ⟨by first|rfl|(simp [yG,yF] <;> rfl)|(simp [*,yG,yF] <;> rfl),by repeat (first|(with_reducible first|exact HB.out|apply zY|apply zV|apply zU)|exact HB.out)⟩
            ·
             rw [if_neg c17] at H
             have c17b0 : (t217 == 0) = false:=beq_eq_false_iff_ne.mpr c17
             have c17b1 : (t217 != 0) = true:=bne_iff_ne.mpr c17
             simp only [Option.some.injEq,Prod.mk.injEq] at H
             obtain ⟨rfl,rfl⟩:=H
             go_wp2_with (first|((with_reducible refine yD (f:=123) rfl ?_); refine yE (some 38) rfl rfl Tryd.func123 (by kernel_rfl) rfl #[.int .i64 lI,.int .i64 1,.int .i64 1] rfl (by (try simp only [List.map_toArray,List.map_cons,List.map_nil]); first|done|rfl|(simp only [List.length_drop,List.length_take]; rfl)) ?_; (with_reducible refine (vY.calls kj13 lI 1 1 t216 t217 _ A16.out).mono ?_); rintro e w' ⟨rfl,⟨nd,rfl⟩⟩; refine ⟨_,rfl,?_⟩))
             go_ret2
             exact ⟨by first|rfl|(simp [yG,yF] <;> rfl)|(simp [*,yG,yF] <;> rfl),by repeat (first|(with_reducible first|exact HB.out|apply zY|apply zV|apply zU)|exact HB.out)⟩
        ·
         rw [if_neg c11] at H
         exact absurd H (by simp)
       ·
        rw [if_neg c10] at H
        exact absurd H (by simp)
      ·
       rw [if_neg c9] at H
       exact absurd H (by simp)
def nB.f (a0 : Int) : Option (Bool):=if a0 ≥ 48 then (some (decide (a0 ≤ 57))) else (some false)
set_option maxHeartbeats 8000000 in
set_option maxRecDepth 100000 in
theorem nB.calls (a0 : Int) (r : Bool) (w : World) (h : nB.f a0 = some r) :
  Calls Tryd.prog 109 #[.int .u8 a0] w fun e w' => e = .returned (.bool r) ∧ Drawn0 w w':=by
 have H : (if a0 ≥ 48 then (some (decide (a0 ≤ 57))) else (some false)) = some r:=h
 clear h
 by_cases c2 : a0 ≥ 48
 ·
  rw [if_pos c2] at H
  have c2b0 : decide (48 ≤ a0) = true:=decide_eq_true c2
  clear c2
  obtain rfl:=Option.some.inj H
  go_enter Tryd.func109,Tryd.ntmps109
  go_wp2
  go_ret
  exact ⟨by first|rfl|(simp; done)|(simp [*]; done),by repeat (first|exact Drawn0.refl _|apply Drawn0.step)⟩
 ·
  rw [if_neg c2] at H
  have c2b0 : decide (48 ≤ a0) = false:=decide_eq_false c2
  clear c2
  obtain rfl:=Option.some.inj H
  go_enter Tryd.func109,Tryd.ntmps109
  go_wp2
  go_ret
  exact ⟨by first|rfl|(simp; done)|(simp [*]; done),by repeat (first|exact Drawn0.refl _|apply Drawn0.step)⟩
end Go.Proofs.YtjeofffddbibeaaDoor.PParseTells
end

section
namespace Go.Proofs.YtjeofffddbibeaaDoor.PParseTells
open Go.RowKit YtjeofffddbibeaaDoorW.PrintWords YtjeofffddbibeaaDoorW.PrintLast YtjeofffddbibeaaDoorW.PrintMore
attribute [local go_sem] tH tM tG tL tK tJ tN tI
mutual
def vV.j0 : Nat → ByteArray → Bool → Option (Int × Bool)
 | 0,_,_ => none
 | k + 1,x0,x4 => if x4 = true then (if 1 ≤ (x0.size : Int) then (vV.j1 k x4 (x0.extract 1 x0.size)) else (none)) else (vV.j1 k x4 x0)
def vV.j1 : Nat → Bool → ByteArray → Option (Int × Bool)
 | 0,_,_ => none
 | k + 1,x4,x5 => if x5.toList = ([] : List UInt8) then (vV.j2 k x4 x5 true) else (if 0 < (x5.size : Int) then (if (bt x5 0) = 48 then (if (x5.size : Int) > 1 then (vV.j2 k x4 x5 true) else (vV.j2 k x4 x5 x4)) else (vV.j2 k x4 x5 false)) else (none))
def vV.j2 : Nat → Bool → ByteArray → Bool → Option (Int × Bool)
 | 0,_,_,_ => none
 | k + 1,x4,x5,x34 => if x34 = true then (some (0,false)) else (vV.l0 k x4 x5 0 0)
def vV.l0 : Nat → Bool → ByteArray → Int → Int → Option (Int × Bool)
 | 0,_,_,_,_ => none
 | k + 1,x4,x5,x6,x7 => if x7 < (x5.size : Int) then (if 0 ≤ x7 then ((nB.f (bt x5 x7)).bind fun t222 => (if t222 = true then (if x6 > 922337203685477580 then (some (0,false)) else (vV.l0 k x4 x5 (IntKind.u64.wrap ((IntKind.u64.wrap (x6 * 10)) + (((bt x5 x7) - 48) % 256))) (wrap64 (x7 + 1)))) else (some (0,false)))) else (none)) else (if x4 = true then (if x6 ≤ 9223372036854775808 then (some (wrap64 (IntKind.u64.wrap (-x6)),true)) else (some (wrap64 (x6),false))) else (some (wrap64 (x6),decide (x6 ≤ 9223372036854775807))))
end
def vV.f (k : Nat) (a0 : ByteArray) : Option (Int × Bool):=if (a0.size : Int) > 0 then (if 0 < (a0.size : Int) then (vV.j0 k a0 ((bt a0 0) == 45)) else (none)) else (vV.j0 k a0 false)
set_option maxHeartbeats 8000000 in
set_option maxRecDepth 100000 in
theorem vV.calls (k : Nat) (a0 : ByteArray) (r1 : Int) (r2 : Bool) (w : World) (h : vV.f k a0 = some (r1,r2)) :
  Calls Tryd.prog 110 #[.string a0] w fun e w' => e = .returned (.tuple #[.int .i64 r1,.bool r2]) ∧ Drawn0 w w':=by
 have H : (if (a0.size : Int) > 0 then (if 0 < (a0.size : Int) then (vV.j0 k a0 ((bt a0 0) == 45)) else (none)) else (vV.j0 k a0 false)) = some (r1,r2):=h
 clear h
 have HC2:=zZ.mk H
 clear H
 go_enter Tryd.func110,Tryd.ntmps110
 go_upto_region 1 with (fail)
 go_cut [4] (fun v4 wc => ∃ (kq : Nat) (zD : Bool),v4 = .bool zD ∧ zZ (vV.j0 kq a0 zD = some (r1,r2)) ∧ zZ (kq ≤ k) ∧ Drawn0 w wc)
 case first =>
  have H:=HC2.out
  clear HC2
  by_cases c3 : (a0.size : Int) > 0
  ·
   rw [if_pos c3] at H
   have c3b0 : decide (0 < (a0.size : Int)) = true:=decide_eq_true c3
   have c3b1 : decide (0 < a0.size) = true:=decide_eq_true (by omega)
   clear c3
   (first|rw [c3b0]|(simp only [yV,yU]; rw [c3b0])|skip)
   by_cases c4 : 0 < (a0.size : Int)
   ·
    rw [if_pos c4] at H
    have c4b0 : decide (0 < (a0.size : Int)) = true:=decide_eq_true c4
    have c4b1 : decide (0 < a0.size) = true:=decide_eq_true (by omega)
    clear c4
    have H':=zZ.mk H
    clear H
    have p5 : 0 ≤ (0 : Int):=(by omega)
    have q5 : 0 < a0.size:=(by have : (0 : Int) < (a0.size : Int):=of_decide_eq_true (by first|(with_reducible assumption)|assumption); omega)
    have hx5 : ∀ h : 0 < a0.size,((a0[0]'h).toNat : Int) = bt a0 0:=xG a0 0
    clear p5
    have qi5 : (0 < (a0.size : Int)) = True:=eq_true (of_decide_eq_true (by first|(with_reducible assumption)|assumption))
    replace q5:=eq_true q5
    go_wp2
    go_meet
    case rel => exact ⟨_,(((bt a0 0) == 45)),(by first|rfl|(simp;done)|(simp [*];done)),H',⟨by first|omega|exact Nat.le_refl _⟩,by repeat (first|exact Drawn0.refl _|apply Drawn0.step)⟩
   ·
    rw [if_neg c4] at H
    exact absurd H (by simp)
  ·
   rw [if_neg c3] at H
   have c3b0 : decide (0 < (a0.size : Int)) = false:=decide_eq_false c3
   have c3b1 : decide (0 < a0.size) = false:=decide_eq_false (by omega)
   clear c3
   (first|rw [c3b0]|(simp only [yV,yU]; rw [c3b0])|skip)
   have H':=zZ.mk H
   clear H
   go_wp2
   go_meet
   case rel => exact ⟨_,(false),(by first|rfl|(simp;done)|(simp [*];done)),H',⟨by first|omega|exact Nat.le_refl _⟩,by repeat (first|exact Drawn0.refl _|apply Drawn0.step)⟩
 case rest =>
  clear HC2
  try clear c1
  try clear p2
  try clear c3
  try clear c3b0
  try clear c3b1
  try clear c4
  try clear c4b0
  try clear c4b1
  try clear p5 p5
  try clear q5 q5
  try clear hx5
  try clear qi5
  obtain ⟨kq,zD,rfl,HA,HJ1,⟨mc1,rfl⟩⟩:=hcut
  cases kq with
  | zero => exact absurd HA.out (by simp [vV.j0])
  | succ kj1 =>
   have H:=HA.out
   clear HA
   simp only [vV.j0] at H
   have HC6:=zZ.mk H
   clear H
   go_upto_if 17 with (fail)
   go_cut [5] (fun v5 wc => ∃ (kq : Nat) (xM : ByteArray),v5 = .string xM ∧ zZ (vV.j1 kq zD xM = some (r1,r2)) ∧ zZ (kq ≤ kj1) ∧ Drawn0 w wc)
   case first =>
    have H:=HC6.out
    clear HC6
    by_cases c7 : zD = true
    ·
     subst c7
     have H1 : (if 1 ≤ (a0.size : Int) then (vV.j1 kj1 true (a0.extract 1 a0.size)) else (none)) = some (r1,r2):=by rw [if_pos rfl] at H; exact H
     clear H
     have H:=H1
     clear H1
     by_cases c8 : 1 ≤ (a0.size : Int)
     ·
      rw [if_pos c8] at H
      have c8b0:=eq_true c8
      have c8b1 : decide (1 ≤ (a0.size : Int)) = true:=decide_eq_true c8
      clear c8
      have H':=zZ.mk H
      clear H
      go_wp2
      go_meet
      case rel => exact ⟨_,(a0.extract 1 a0.size),(by first|rfl|(simp;done)|(simp [*];done)),H',⟨by have:=HJ1.out; first|omega|exact Nat.le_refl _⟩,by repeat (first|exact Drawn0.refl _|apply Drawn0.step)⟩
     ·
      rw [if_neg c8] at H
      exact absurd H (by simp)
    ·
     replace c7:=Bool.eq_false_iff.mpr c7
     subst c7
     have H1 : (vV.j1 kj1 false a0) = some (r1,r2):=by rw [if_neg (show ¬ (false = true) by decide)] at H; exact H
     clear H
     have H:=H1
     clear H1
     have H':=zZ.mk H
     clear H
     go_wp2
     go_meet
     case rel => exact ⟨_,(a0),(by first|rfl|(simp;done)|(simp [*];done)),H',⟨by have:=HJ1.out; first|omega|exact Nat.le_refl _⟩,by repeat (first|exact Drawn0.refl _|apply Drawn0.step)⟩
   case rest =>
    clear HC6
    try clear c1
    try clear p2 p2
    try clear c3
    try clear c3b0
    try clear c3b1
    try clear c4
    try clear c4b0
    try clear c4b1
    try clear p5 p5
    try clear q5 q5
    try clear hx5
    try clear qi5
    try clear c7
    try clear c8
    try clear c8b0
    try clear c8b1
    obtain ⟨kq,xM,rfl,HA,HJ5,⟨mc5,rfl⟩⟩:=hcut
    cases kq with
    | zero => exact absurd HA.out (by simp [vV.j1])
    | succ kj5 =>
     have H:=HA.out
     clear HA
     simp only [vV.j1] at H
     have HC9:=zZ.mk H
     clear H
     go_upto_region 5 with (fail)
     go_cut [34] (fun v34 wc => ∃ (kq : Nat) (dI : Bool),v34 = .bool dI ∧ zZ (vV.j2 kq zD xM dI = some (r1,r2)) ∧ zZ (kq ≤ kj5) ∧ Drawn0 w wc)
     case first =>
      have H:=HC9.out
      clear HC9
      by_cases c10 : xM.toList = ([] : List UInt8)
      ·
       rw [if_pos c10] at H
       have c10b0 : (xM.toList == ([] : List UInt8)) = true:=beq_iff_eq.mpr c10
       have c10b1 : (xM.toList != ([] : List UInt8)) = false:=bne_eq_false_iff_eq.mpr c10
       have c10e2 : xM.toList.isEmpty = true:=List.isEmpty_iff.2 c10
       have c10e3 : (!xM.toList.isEmpty) = false:=by rw [c10e2]; rfl
       clear c10
       (first|rw [c10b0]|rw [c10e3]|rw [c10e2]|(simp only [yV,yU]; rw [c10b0])|skip)
       have H':=zZ.mk H
       clear H
       go_wp2
       go_meet
       case rel => exact ⟨_,(true),(by first|rfl|(simp;done)|(simp [*];done)),H',⟨by have:=HJ1.out; have:=HJ5.out; first|omega|exact Nat.le_refl _⟩,by repeat (first|exact Drawn0.refl _|apply Drawn0.step)⟩
      ·
       rw [if_neg c10] at H
       have c10b0 : (xM.toList == ([] : List UInt8)) = false:=beq_eq_false_iff_ne.mpr c10
       have c10b1 : (xM.toList != ([] : List UInt8)) = true:=bne_iff_ne.mpr c10
       have c10e2 : xM.toList.isEmpty = false:=by rw [Bool.eq_false_iff]; exact fun h => c10 (List.isEmpty_iff.1 h)
       have c10e3 : (!xM.toList.isEmpty) = true:=by rw [c10e2]; rfl
       (first|rw [c10b0]|rw [c10e3]|rw [c10e2]|(simp only [yV,yU]; rw [c10b0])|skip)
       by_cases c11 : 0 < (xM.size : Int)
       ·
        rw [if_pos c11] at H
        have c11b0 : decide (0 < (xM.size : Int)) = true:=decide_eq_true c11
        have c11b1 : decide (0 < xM.size) = true:=decide_eq_true (by omega)
        clear c11
        by_cases c13 : (bt xM 0) = 48
        ·
         rw [if_pos c13] at H
         have c13b0 : ((bt xM 0) == 48) = true:=beq_iff_eq.mpr c13
         have c13b1 : ((bt xM 0) != 48) = false:=bne_eq_false_iff_eq.mpr c13
         clear c13
         by_cases c14 : (xM.size : Int) > 1
         ·
          rw [if_pos c14] at H
          have c14b0 : decide (1 < (xM.size : Int)) = true:=decide_eq_true c14
          have c14b1 : decide (1 < xM.size) = true:=decide_eq_true (by omega)
          clear c14
          have H':=zZ.mk H
          clear H
          have p12 : 0 ≤ (0 : Int):=(by omega)
          have q12 : 0 < xM.size:=(by have : (0 : Int) < (xM.size : Int):=of_decide_eq_true (by first|(with_reducible assumption)|assumption); omega)
          have hx12 : ∀ h : 0 < xM.size,((xM[0]'h).toNat : Int) = bt xM 0:=xG xM 0
          clear p12
          have qi12 : (0 < (xM.size : Int)) = True:=eq_true (of_decide_eq_true (by first|(with_reducible assumption)|assumption))
          replace q12:=eq_true q12
          go_wp2
          go_meet
          case rel => exact ⟨_,(true),(by first|rfl|(simp;done)|(simp [*];done)),H',⟨by have:=HJ1.out; have:=HJ5.out; first|omega|exact Nat.le_refl _⟩,by repeat (first|exact Drawn0.refl _|apply Drawn0.step)⟩
         ·
          rw [if_neg c14] at H
          have c14b0 : decide (1 < (xM.size : Int)) = false:=decide_eq_false c14
          have c14b1 : decide (1 < xM.size) = false:=decide_eq_false (by omega)
          clear c14
          have H':=zZ.mk H
          clear H
          have p12 : 0 ≤ (0 : Int):=(by omega)
          have q12 : 0 < xM.size:=(by have : (0 : Int) < (xM.size : Int):=of_decide_eq_true (by first|(with_reducible assumption)|assumption); omega)
          have hx12 : ∀ h : 0 < xM.size,((xM[0]'h).toNat : Int) = bt xM 0:=xG xM 0
          clear p12
          have qi12 : (0 < (xM.size : Int)) = True:=eq_true (of_decide_eq_true (by first|(with_reducible assumption)|assumption))
          replace q12:=eq_true q12
          go_wp2
          go_meet
          case rel => exact ⟨_,(zD),(by first|rfl|(simp;done)|(simp [*];done)),H',⟨by have:=HJ1.out; have:=HJ5.out; first|omega|exact Nat.le_refl _⟩,by repeat (first|exact Drawn0.refl _|apply Drawn0.step)⟩
        ·
         rw [if_neg c13] at H
         have c13b0 : ((bt xM 0) == 48) = false:=beq_eq_false_iff_ne.mpr c13
         have c13b1 : ((bt xM 0) != 48) = true:=bne_iff_ne.mpr c13
         have H':=zZ.mk H
         clear H
         have p12 : 0 ≤ (0 : Int):=(by omega)
         have q12 : 0 < xM.size:=(by have : (0 : Int) < (xM.size : Int):=of_decide_eq_true (by first|(with_reducible assumption)|assumption); omega)
         have hx12 : ∀ h : 0 < xM.size,((xM[0]'h).toNat : Int) = bt xM 0:=xG xM 0
         clear p12
         have qi12 : (0 < (xM.size : Int)) = True:=eq_true (of_decide_eq_true (by first|(with_reducible assumption)|assumption))
         replace q12:=eq_true q12
         go_wp2
         go_meet
         case rel => exact ⟨_,(false),(by first|rfl|(simp;done)|(simp [*];done)),H',⟨by have:=HJ1.out; have:=HJ5.out; first|omega|exact Nat.le_refl _⟩,by repeat (first|exact Drawn0.refl _|apply Drawn0.step)⟩
       ·
        rw [if_neg c11] at H
        exact absurd H (by simp)
     case rest =>
      clear HC9
      try clear c1
      try clear p1
      try clear q1
      try clear hx1
      try clear qi1
      try clear p2 p2
      try clear c3
      try clear c3b0
      try clear c3b1
      try clear c4
      try clear c4b0
      try clear c4b1
      try clear c5
      try clear p5 p5
      try clear q5 q5
      try clear hx5
      try clear qi5
      try clear c7
      try clear c8
      try clear c8b0
      try clear c8b1
      try clear c10
      try clear c10b0
      try clear c10b1
      try clear c11
      try clear c11b0
      try clear c11b1
      try clear p12 p12
      try clear q12 q12
      try clear hx12
      try clear qi12
      try clear c13
      try clear c13b0
      try clear c13b1
      try clear c14
      try clear c14b0
      try clear c14b1
      obtain ⟨kq,dI,rfl,HA,HJ8,⟨mc8,rfl⟩⟩:=hcut
      cases kq with
      | zero => exact absurd HA.out (by simp [vV.j2])
      | succ kj8 =>
       have H:=HA.out
       clear HA
       simp only [vV.j2] at H
       by_cases c15 : dI = true
       ·
        subst c15
        have H1 : (some (0,false)) = some (r1,r2):=by rw [if_pos rfl] at H; exact H
        clear H
        have H:=H1
        clear H1
        simp only [Option.some.injEq,Prod.mk.injEq] at H
        obtain ⟨rfl,rfl⟩:=H
        go_wp2
        go_ret2
        exact ⟨by first|rfl|(simp; done)|(simp [*]; done),by repeat (first|exact Drawn0.refl _|apply Drawn0.step)⟩
       ·
        replace c15:=Bool.eq_false_iff.mpr c15
        subst c15
        have H1 : (vV.l0 kj8 zD xM 0 0) = some (r1,r2):=by rw [if_neg (show ¬ (false = true) by decide)] at H; exact H
        clear H
        have H:=H1
        clear H1
        have H':=zZ.mk H
        clear H
        go_wp2
        go_loopg [6,7] kj8 (fun kq v6 v7 w' => ∃ (sK : Int) (vG : Int),v6 = .int .u64 sK ∧ v7 = .int .i64 vG ∧ zZ (vV.l0 kq zD xM sK vG = some (r1,r2)) ∧ zZ (kq ≤ kj8) ∧ Drawn0 w w')
        case atStart => exact ⟨(0),(0),(by first|rfl|(simp;done)|(simp [*];done)),(by first|rfl|(simp;done)|(simp [*];done)),H',⟨Nat.le_refl _⟩,by repeat (first|exact Drawn0.refl _|apply Drawn0.step)⟩
        case round =>
         clear H'
         try clear c1
         try clear p1 p1
         try clear q1 q1
         try clear hx1
         try clear qi1
         try clear p2 p2
         try clear c3
         try clear c3b0
         try clear c3b1
         try clear c4
         try clear c4b0
         try clear c4b1
         try clear c5
         try clear p5 p5
         try clear q5 q5
         try clear hx5
         try clear qi5
         try clear c7
         try clear c8
         try clear c8b0
         try clear c8b1
         try clear c10
         try clear c10b0
         try clear c10b1
         try clear c11
         try clear c11b0
         try clear c11b1
         try clear p12 p12
         try clear q12 q12
         try clear hx12
         try clear qi12
         try clear c13
         try clear c13b0
         try clear c13b1
         try clear c14
         try clear c14b0
         try clear c14b1
         try clear c15
         obtain ⟨sK,vG,rfl,rfl,HA,HK4,⟨m4,rfl⟩⟩:=hrel
         cases gk with
         | zero => exact absurd HA.out (by simp [vV.l0])
         | succ k4 =>
          have H:=HA.out
          clear HA
          simp only [vV.l0] at H
          by_cases c16 : vG < (xM.size : Int)
          ·
           rw [if_pos c16] at H
           have c16b0 : decide (vG < (xM.size : Int)) = true:=decide_eq_true c16
           clear c16
           by_cases c17 : 0 ≤ vG
           ·
            rw [if_pos c17] at H
            have c17b0 : decide (0 ≤ vG) = true:=decide_eq_true c17
            clear c17
            replace H:=Option.bind_eq_some_iff.mp H
            obtain ⟨t222,A190,H⟩:=H
            replace H : (if t222 = true then (if sK > 922337203685477580 then (some (0,false)) else (vV.l0 k4 zD xM (IntKind.u64.wrap ((IntKind.u64.wrap (sK * 10)) + (((bt xM vG) - 48) % 256))) (wrap64 (vG + 1)))) else (some (0,false))) = some (r1,r2):=H
            have A19:=zZ.mk A190
            clear A190
            by_cases c20 : t222 = true
            ·
             subst c20
             have H1 : (if sK > 922337203685477580 then (some (0,false)) else (vV.l0 k4 zD xM (IntKind.u64.wrap ((IntKind.u64.wrap (sK * 10)) + (((bt xM vG) - 48) % 256))) (wrap64 (vG + 1)))) = some (r1,r2):=by rw [if_pos rfl] at H; exact H
             clear H
             have H:=H1
             clear H1
             by_cases c21 : sK > 922337203685477580
             ·
              rw [if_pos c21] at H
              have c21b0 : decide (922337203685477580 < sK) = true:=decide_eq_true c21
              clear c21
              simp only [Option.some.injEq,Prod.mk.injEq] at H
              obtain ⟨rfl,rfl⟩:=H
              have p18 : 0 ≤ (vG : Int):=of_decide_eq_true (by first|(with_reducible assumption)|assumption)
              have q18 : vG < (xM.size : Int):=of_decide_eq_true (by first|(with_reducible assumption)|assumption)
              have hx18:=xG xM vG
              replace p18:=eq_true p18
              replace q18:=eq_true q18
              go_wp2_with (first|((with_reducible refine yD (f:=109) rfl ?_); refine yE (some 44) rfl rfl Tryd.func109 (by kernel_rfl) rfl #[.int .u8 (bt xM vG)] rfl (by (try simp only [List.map_toArray,List.map_cons,List.map_nil]); first|done|rfl|(simp only [List.length_drop,List.length_take]; rfl)) ?_; (with_reducible refine (nB.calls (bt xM vG) true _ A19.out).mono ?_); rintro e w' ⟨rfl,⟨nd,rfl⟩⟩; refine ⟨_,rfl,?_⟩))
              go_ret2
              exact ⟨by first|rfl|(simp; done)|(simp [*]; done),by repeat (first|exact Drawn0.refl _|apply Drawn0.step)⟩
             ·
              rw [if_neg c21] at H
              have c21b0 : decide (922337203685477580 < sK) = false:=decide_eq_false c21
              clear c21
              have H':=zZ.mk H
              clear H
              have p18 : 0 ≤ (vG : Int):=of_decide_eq_true (by first|(with_reducible assumption)|assumption)
              have q18 : vG < (xM.size : Int):=of_decide_eq_true (by first|(with_reducible assumption)|assumption)
              have hx18:=xG xM vG
              replace p18:=eq_true p18
              replace q18:=eq_true q18
              go_wp2_with (first|((with_reducible refine yD (f:=109) rfl ?_); refine yE (some 44) rfl rfl Tryd.func109 (by kernel_rfl) rfl #[.int .u8 (bt xM vG)] rfl (by (try simp only [List.map_toArray,List.map_cons,List.map_nil]); first|done|rfl|(simp only [List.length_drop,List.length_take]; rfl)) ?_; (with_reducible refine (nB.calls (bt xM vG) true _ A19.out).mono ?_); rintro e w' ⟨rfl,⟨nd,rfl⟩⟩; refine ⟨_,rfl,?_⟩; have p22 : 0 ≤ (vG : Int):=of_decide_eq_true (by first|(with_reducible assumption)|assumption); have q22 : vG < (xM.size : Int):=of_decide_eq_true (by first|(with_reducible assumption)|assumption); have hx22:=xG xM vG; replace p22:=eq_true p22; replace q22:=eq_true q22))
              go_roundg k4
              case measure => have:=HJ1.out; have:=HJ5.out; have:=HJ8.out; have:=HK4.out; omega
              case rel => exact ⟨(IntKind.u64.wrap ((IntKind.u64.wrap (sK * 10)) + (((bt xM vG) - 48) % 256))),(wrap64 (vG + 1)),(by first|rfl|(simp;done)|(simp [*];done)),(by first|rfl|(simp;done)|(simp [*];done)),H',⟨by have:=HJ1.out; have:=HJ5.out; have:=HJ8.out; have:=HK4.out; omega⟩,by repeat (first|exact Drawn0.refl _|apply Drawn0.step)⟩
            ·
             replace c20:=Bool.eq_false_iff.mpr c20
             subst c20
             have H1 : (some (0,false)) = some (r1,r2):=by rw [if_neg (show ¬ (false = true) by decide)] at H; exact H
             clear H
             have H:=H1
             clear H1
             simp only [Option.some.injEq,Prod.mk.injEq] at H
             obtain ⟨rfl,rfl⟩:=H
             have p18 : 0 ≤ (vG : Int):=of_decide_eq_true (by first|(with_reducible assumption)|assumption)
             have q18 : vG < (xM.size : Int):=of_decide_eq_true (by first|(with_reducible assumption)|assumption)
             have hx18:=xG xM vG
             replace p18:=eq_true p18
             replace q18:=eq_true q18
             go_wp2_with (first|((with_reducible refine yD (f:=109) rfl ?_); refine yE (some 44) rfl rfl Tryd.func109 (by kernel_rfl) rfl #[.int .u8 (bt xM vG)] rfl (by (try simp only [List.map_toArray,List.map_cons,List.map_nil]); first|done|rfl|(simp only [List.length_drop,List.length_take]; rfl)) ?_; (with_reducible refine (nB.calls (bt xM vG) false _ A19.out).mono ?_); rintro e w' ⟨rfl,⟨nd,rfl⟩⟩; refine ⟨_,rfl,?_⟩))
             go_ret2
             exact ⟨by first|rfl|(simp; done)|(simp [*]; done),by repeat (first|exact Drawn0.refl _|apply Drawn0.step)⟩
           ·
            rw [if_neg c17] at H
            exact absurd H (by simp)
          ·
           rw [if_neg c16] at H
           have c16b0 : decide (vG < (xM.size : Int)) = false:=decide_eq_false c16
           clear c16
           by_cases c23 : zD = true
           ·
            subst c23
            have H1 : (if sK ≤ 9223372036854775808 then (some (wrap64 (IntKind.u64.wrap (-sK)),true)) else (some (wrap64 (sK),false))) = some (r1,r2):=by rw [if_pos rfl] at H; exact H
            clear H
            have H:=H1
            clear H1
            by_cases c24 : sK ≤ 9223372036854775808
            ·
             rw [if_pos c24] at H
             have c24b0 : decide (sK ≤ 9223372036854775808) = true:=decide_eq_true c24
             clear c24
             simp only [Option.some.injEq,Prod.mk.injEq] at H
             obtain ⟨rfl,rfl⟩:=H
             go_wp2
             go_ret2
             exact ⟨by first|rfl|(simp; done)|(simp [*]; done),by repeat (first|exact Drawn0.refl _|apply Drawn0.step)⟩
            ·
             rw [if_neg c24] at H
             have c24b0 : decide (sK ≤ 9223372036854775808) = false:=decide_eq_false c24
             clear c24
             simp only [Option.some.injEq,Prod.mk.injEq] at H
             obtain ⟨rfl,rfl⟩:=H
             go_wp2
             go_ret2
             exact ⟨by first|rfl|(simp; done)|(simp [*]; done),by repeat (first|exact Drawn0.refl _|apply Drawn0.step)⟩
           ·
            replace c23:=Bool.eq_false_iff.mpr c23
            subst c23
            have H1 : (some (wrap64 (sK),decide (sK ≤ 9223372036854775807))) = some (r1,r2):=by rw [if_neg (show ¬ (false = true) by decide)] at H; exact H
            clear H
            have H:=H1
            clear H1
            simp only [Option.some.injEq,Prod.mk.injEq] at H
            obtain ⟨rfl,rfl⟩:=H
            go_wp2
            go_ret2
            exact ⟨by first|rfl|(simp; done)|(simp [*]; done),by repeat (first|exact Drawn0.refl _|apply Drawn0.step)⟩
end Go.Proofs.YtjeofffddbibeaaDoor.PParseTells
end

section
namespace Go.Proofs.YtjeofffddbibeaaDoor.PParseTells
open Go.RowKit YtjeofffddbibeaaDoorW.PrintWords YtjeofffddbibeaaDoorW.PrintLast YtjeofffddbibeaaDoorW.PrintMore
attribute [local go_sem] tH tM tG tL tK tJ tN tI
mutual
def wQ.l0 : Nat → ByteArray → Int → Option (Int × ByteArray × Int × Int)
 | 0,_,_ => none
 | k + 1,x0,x4 => if x4 < (x0.size : Int) then (if 0 ≤ x4 then ((pR.f (bt x0 x4)).bind fun t225 => (if t225 = true then (wQ.l0 k x0 (wrap64 (x4 + 1))) else (if (bt x0 x4) = 45 then (wQ.l0 k x0 (wrap64 (x4 + 1))) else (if 1 ≤ x4 then (if x4 ≤ (x0.size : Int) then ((wJ.f k (x0.extract 1 (x4 : Int).toNat)).bind fun bt226 => (if bt226.2 = 0 then (some (3,(⟨#[]⟩ : ByteArray),bt226.1,x4)) else (some (0,(⟨#[]⟩ : ByteArray),0,0)))) else (none)) else (none))))) else (none)) else (if 1 ≤ x4 then (if x4 ≤ (x0.size : Int) then ((wJ.f k (x0.extract 1 (x4 : Int).toNat)).bind fun bt228 => (if bt228.2 = 0 then (some (3,(⟨#[]⟩ : ByteArray),bt228.1,x4)) else (some (0,(⟨#[]⟩ : ByteArray),0,0)))) else (none)) else (none))
def wQ.j1 : Nat → ByteArray → Int → Option (Int × ByteArray × Int × Int)
 | 0,_,_ => none
 | k + 1,x0,x4 => wQ.l1 k x0 x4
def wQ.j3 : Nat → ByteArray → Int → Option (Int × ByteArray × Int × Int)
 | 0,_,_ => none
 | k + 1,x0,x4 => if 0 < (x0.size : Int) then (if (bt x0 0) = 45 then (wQ.j4 k x0 x4 true) else ((nB.f (bt x0 0)).bind fun t231 => (wQ.j4 k x0 x4 t231))) else (none)
def wQ.j4 : Nat → ByteArray → Int → Bool → Option (Int × ByteArray × Int × Int)
 | 0,_,_,_ => none
 | k + 1,x0,x4,x71 => if x71 = true then (if 0 ≤ x4 then (if x4 ≤ (x0.size : Int) then ((vV.f k (x0.extract 0 (x4 : Int).toNat)).bind fun bt232 => (if bt232.2 = true then (some (2,(⟨#[]⟩ : ByteArray),bt232.1,x4)) else (some (0,(⟨#[]⟩ : ByteArray),0,0)))) else (none)) else (none)) else (if 0 ≤ x4 then (if x4 ≤ (x0.size : Int) then ((wM.f k (x0.extract 0 (x4 : Int).toNat)).bind fun t234 => (if t234 = true then (some (1,x0.extract 0 (x4 : Int).toNat,0,x4)) else (some (0,(⟨#[]⟩ : ByteArray),0,0)))) else (none)) else (none))
def wQ.l1 : Nat → ByteArray → Int → Option (Int × ByteArray × Int × Int)
 | 0,_,_ => none
 | k + 1,x0,x4 => if x4 < (x0.size : Int) then (if 0 ≤ x4 then ((pR.f (bt x0 x4)).bind fun t230 => (if t230 = true then (wQ.l1 k x0 (wrap64 (x4 + 1))) else (wQ.j3 k x0 x4))) else (none)) else (wQ.j3 k x0 x4)
end
def wQ.f (k : Nat) (a0 : ByteArray) : Option (Int × ByteArray × Int × Int):=if 0 < (a0.size : Int) then ((lP.f (bt a0 0)).bind fun t224 => (if t224 = true then (if 0 ≤ 1 then (if 1 ≤ (a0.size : Int) then (some (4,a0.extract 0 1,0,1)) else (none)) else (none)) else (if (bt a0 0) = 64 then (wQ.l0 k a0 1) else (if (bt a0 0) = 45 then (wQ.j1 k a0 1) else (wQ.j1 k a0 0))))) else (none)
set_option maxHeartbeats 8000000 in
set_option maxRecDepth 100000 in
theorem wQ.calls (k : Nat) (a0 : ByteArray) (r1 : Int) (r2 : ByteArray) (r3 : Int) (r4 : Int) (w : World) (h : wQ.f k a0 = some (r1,r2,r3,r4)) :
  Calls Tryd.prog 92 #[.string a0] w fun e w' => e = .returned (.tuple #[.agg #[.int .u8 r1,.string r2,.int .i64 r3],.int .i64 r4]) ∧ Below w.heap.size w w':=by
 have hu61:=Tryd.underlying61
 have HB:=zZ.mk (Below.refl w.heap.size w)
 have H : (if 0 < (a0.size : Int) then ((lP.f (bt a0 0)).bind fun t224 => (if t224 = true then (if 0 ≤ 1 then (if 1 ≤ (a0.size : Int) then (some (4,a0.extract 0 1,0,1)) else (none)) else (none)) else (if (bt a0 0) = 64 then (wQ.l0 k a0 1) else (if (bt a0 0) = 45 then (wQ.j1 k a0 1) else (wQ.j1 k a0 0))))) else (none)) = some (r1,r2,r3,r4):=h
 clear h
 by_cases c2 : 0 < (a0.size : Int)
 ·
  rw [if_pos c2] at H
  have c2b0 : decide (0 < (a0.size : Int)) = true:=decide_eq_true c2
  have c2b1 : decide (0 < a0.size) = true:=decide_eq_true (by omega)
  clear c2
  replace H:=Option.bind_eq_some_iff.mp H
  obtain ⟨t224,A40,H⟩:=H
  replace H : (if t224 = true then (if 0 ≤ 1 then (if 1 ≤ (a0.size : Int) then (some (4,a0.extract 0 1,0,1)) else (none)) else (none)) else (if (bt a0 0) = 64 then (wQ.l0 k a0 1) else (if (bt a0 0) = 45 then (wQ.j1 k a0 1) else (wQ.j1 k a0 0)))) = some (r1,r2,r3,r4):=H
  have A4:=zZ.mk A40
  clear A40
  by_cases c5 : t224 = true
  ·
   subst c5
   have H1 : (if 0 ≤ 1 then (if 1 ≤ (a0.size : Int) then (some (4,a0.extract 0 1,0,1)) else (none)) else (none)) = some (r1,r2,r3,r4):=by rw [if_pos rfl] at H; exact H
   clear H
   have H:=H1
   clear H1
   by_cases c6 : 0 ≤ 1
   ·
    rw [if_pos c6] at H
    have c6b0:=eq_true c6
    have c6b1 : decide (0 ≤ 1) = true:=decide_eq_true c6
    clear c6
    by_cases c7 : 1 ≤ (a0.size : Int)
    ·
     rw [if_pos c7] at H
     have c7b0:=eq_true c7
     have c7b1 : decide (1 ≤ (a0.size : Int)) = true:=decide_eq_true c7
     clear c7
     simp only [Option.some.injEq,Prod.mk.injEq] at H
     obtain ⟨rfl,rfl,rfl,rfl⟩:=H
     go_enter Tryd.func92,Tryd.ntmps92
     go_wp2_with (first|((with_reducible refine uU (N:=2) rfl ?_); refine tY ?hg (N:=2) ?hd (cs:=#[.int .u8 0,.string (⟨#[]⟩ : ByteArray),.int .i64 0]) (t:=61) ?hr ?_; (case hd => rfl); (case hg => rfl); (case hr => first|(go_simp; done)|(go_simp; rfl)); intro vI hg w8 hbox hb; have zS:=zZ.mk (xW (by repeat (first|(with_reducible first|exact HB.out|apply zY|apply zV|apply zU)|exact HB.out)) hb); have zO:=zZ.mk (hbox); have zI:=zZ.mk ((by rw [hg]; exact (xS (by repeat (first|(with_reducible first|exact HB.out|apply zY|apply zV|apply zU)|exact HB.out))) : w.heap.size ≤ vI)); have xV:=zZ.mk ((by rw [hg]; exact (xS (by repeat (first|(with_reducible first|exact HB.out|apply zY|apply zV|apply zU)|exact HB.out))) : w.heap.size ≤ vI)); clear HB; have HB:=zS; have xZ:=zO; have zVS:=zI; have vH:=xV; clear zS zO zI xV; clear hb hbox hg; have p3 : 0 ≤ (0 : Int):=(by omega); have q3 : 0 < a0.size:=(by have : (0 : Int) < (a0.size : Int):=of_decide_eq_true (by first|(with_reducible assumption)|assumption); omega); have hx3 : ∀ h : 0 < a0.size,((a0[0]'h).toNat : Int) = bt a0 0:=xG a0 0; clear p3; have qi3 : (0 < (a0.size : Int)) = True:=eq_true (of_decide_eq_true (by first|(with_reducible assumption)|assumption)); replace q3:=eq_true q3)|((with_reducible refine yD (f:=106) rfl ?_); refine yE (some 11) rfl rfl Tryd.func106 (by kernel_rfl) rfl #[.int .u8 (bt a0 0)] rfl (by (try simp only [List.map_toArray,List.map_cons,List.map_nil]); first|done|rfl|(simp only [List.length_drop,List.length_take]; rfl)) ?_; (with_reducible refine (lP.calls (bt a0 0) true _ A4.out).mono ?_); rintro e w' ⟨rfl,⟨nd,rfl⟩⟩; refine ⟨_,rfl,?_⟩; (try (rw [lQ w8]; generalize hq_ : World.drewN w8 _ = w8; have zS : zZ (w8.heap[vI]? = some (.cells #[.int .u8 0,.string (⟨#[]⟩ : ByteArray),.int .i64 0] 61 (0,0))):=⟨by rw [← hq_]; exact (by (with_reducible repeat (first|apply zN|apply zM|apply zR)); exact xZ.out)⟩; have zO : zZ (Below w.heap.size w w8):=⟨by rw [← hq_]; exact (by repeat (first|(with_reducible first|exact HB.out|apply zY|apply zV|apply zU|refine zQ ?_ vH.out)|exact HB.out))⟩; clear xZ HB hq_; have xZ:=zS; have HB:=zO; clear zS zO)); obtain ⟨pM,pL,pK⟩:=kc3 xZ.out; have gI:=zP xZ.out 0; have gH:=zP xZ.out 1; have gG:=zP xZ.out 2))
     refine bodyPost_ret (uT rfl _ _ vI 61 #[.int .u8 4,.string (a0.extract 0 1),.int .i64 0] (0,0) _ rfl (by (with_reducible repeat (first|apply zN|apply zM|apply zR)); refine zF (cs:=#[.int .u8 4,.string (a0.extract 0 1),.int .i64 0]) ?_ 2 _ rfl; (with_reducible repeat (first|apply zN|apply zM|apply zR)); refine zF (cs:=#[.int .u8 4,.string (⟨#[]⟩ : ByteArray),.int .i64 0]) ?_ 1 _ rfl; (with_reducible repeat (first|apply zN|apply zM|apply zR)); refine zF (cs:=#[.int .u8 0,.string (⟨#[]⟩ : ByteArray),.int .i64 0]) ?_ 0 _ rfl; (with_reducible repeat (first|apply zN|apply zM|apply zR)); exact xZ.out) Tryd.underlying61 rfl (by kernel_rfl)) rfl ?_
     exact ⟨by first|rfl|(simp [yG,yF] <;> rfl)|(simp [*,yG,yF] <;> rfl),by repeat (first|(with_reducible first|exact HB.out|apply zY|apply zV|apply zU|refine zQ ?_ vH.out)|exact HB.out)⟩
    ·
     rw [if_neg c7] at H
     exact absurd H (by simp)
   ·
    rw [if_neg c6] at H
    exact absurd H (by simp)
  ·
   replace c5:=Bool.eq_false_iff.mpr c5
   subst c5
   have H1 : (if (bt a0 0) = 64 then (wQ.l0 k a0 1) else (if (bt a0 0) = 45 then (wQ.j1 k a0 1) else (wQ.j1 k a0 0))) = some (r1,r2,r3,r4):=by rw [if_neg (show ¬ (false = true) by decide)] at H; exact H
   clear H
   have H:=H1
   clear H1
   by_cases c11 : (bt a0 0) = 64
   ·
    rw [if_pos c11] at H
    have c11b0 : ((bt a0 0) == 64) = true:=beq_iff_eq.mpr c11
    have c11b1 : ((bt a0 0) != 64) = false:=bne_eq_false_iff_eq.mpr c11
    clear c11
    have H':=zZ.mk H
    clear H
    go_enter Tryd.func92,Tryd.ntmps92
    go_wp2_with (first|((with_reducible refine uU (N:=2) rfl ?_); refine tY ?hg (N:=2) ?hd (cs:=#[.int .u8 0,.string (⟨#[]⟩ : ByteArray),.int .i64 0]) (t:=61) ?hr ?_; (case hd => rfl); (case hg => rfl); (case hr => first|(go_simp; done)|(go_simp; rfl)); intro vI hg w12 hbox hb; have zS:=zZ.mk (xW (by repeat (first|(with_reducible first|exact HB.out|apply zY|apply zV|apply zU)|exact HB.out)) hb); have zO:=zZ.mk (hbox); have zI:=zZ.mk ((by rw [hg]; exact (xS (by repeat (first|(with_reducible first|exact HB.out|apply zY|apply zV|apply zU)|exact HB.out))) : w.heap.size ≤ vI)); have xV:=zZ.mk ((by rw [hg]; exact (xS (by repeat (first|(with_reducible first|exact HB.out|apply zY|apply zV|apply zU)|exact HB.out))) : w.heap.size ≤ vI)); clear HB; have HB:=zS; have xZ:=zO; have zVS:=zI; have vH:=xV; clear zS zO zI xV; clear hb hbox hg; have p3 : 0 ≤ (0 : Int):=(by omega); have q3 : 0 < a0.size:=(by have : (0 : Int) < (a0.size : Int):=of_decide_eq_true (by first|(with_reducible assumption)|assumption); omega); have hx3 : ∀ h : 0 < a0.size,((a0[0]'h).toNat : Int) = bt a0 0:=xG a0 0; clear p3; have qi3 : (0 < (a0.size : Int)) = True:=eq_true (of_decide_eq_true (by first|(with_reducible assumption)|assumption)); replace q3:=eq_true q3)|((with_reducible refine yD (f:=106) rfl ?_); refine yE (some 11) rfl rfl Tryd.func106 (by kernel_rfl) rfl #[.int .u8 (bt a0 0)] rfl (by (try simp only [List.map_toArray,List.map_cons,List.map_nil]); first|done|rfl|(simp only [List.length_drop,List.length_take]; rfl)) ?_; (with_reducible refine (lP.calls (bt a0 0) false _ A4.out).mono ?_); rintro e w' ⟨rfl,⟨nd,rfl⟩⟩; refine ⟨_,rfl,?_⟩; have p10 : 0 ≤ (0 : Int):=(by omega); have q10 : 0 < a0.size:=(by have : (0 : Int) < (a0.size : Int):=of_decide_eq_true (by first|(with_reducible assumption)|assumption); omega); have hx10 : ∀ h : 0 < a0.size,((a0[0]'h).toNat : Int) = bt a0 0:=xG a0 0; clear p10; have qi10 : (0 < (a0.size : Int)) = True:=eq_true (of_decide_eq_true (by first|(with_reducible assumption)|assumption)); replace q10:=eq_true q10))
    go_loopg [4] k (fun kq v4 w' => ∃ (zD : Int),v4 = .int .i64 zD ∧ zZ (wQ.l0 kq a0 zD = some (r1,r2,r3,r4)) ∧ zZ (kq ≤ k) ∧ zZ (w'.heap[vI]? = some (.cells #[.int .u8 0,.string (⟨#[]⟩ : ByteArray),.int .i64 0] 61 (0,0))) ∧ zZ (Below w.heap.size w w'))
    case atStart => exact ⟨(1),(by first|rfl|(simp;done)|(simp [*];done)),H',⟨Nat.le_refl _⟩,⟨by (with_reducible repeat (first|apply zN|apply zM|apply zR)); exact xZ.out⟩,⟨by repeat (first|(with_reducible first|exact HB.out|apply zY|apply zV|apply zU|refine zQ ?_ vH.out)|exact HB.out)⟩⟩
    case round =>
     clear H'
     try clear c1
     try clear p1
     try clear q1
     try clear hx1
     try clear qi1
     try clear c2
     try clear c2b0
     try clear c2b1
     try clear p2
     try clear p3 p3
     try clear q3 q3
     try clear hx3
     try clear qi3
     try clear c5
     try clear c6
     try clear c6b0
     try clear c6b1
     try clear c7
     try clear c7b0
     try clear c7b1
     try clear c9
     try clear c10
     try clear p10 p10
     try clear q10 q10
     try clear hx10
     try clear qi10
     try clear c11
     try clear c11b0
     try clear c11b1
     try clear pM pL pK
     try clear gI gH gG
     obtain ⟨zD,rfl,HA,HK1,xZ,HB⟩:=hrel
     cases gk with
     | zero => exact absurd HA.out (by simp [wQ.l0])
     | succ k1 =>
      have H:=HA.out
      clear HA
      simp only [wQ.l0] at H
      by_cases c13 : zD < (a0.size : Int)
      ·
       rw [if_pos c13] at H
       have c13b0 : decide (zD < (a0.size : Int)) = true:=decide_eq_true c13
       clear c13
       by_cases c14 : 0 ≤ zD
       ·
        rw [if_pos c14] at H
        have c14b0 : decide (0 ≤ zD) = true:=decide_eq_true c14
        clear c14
        replace H:=Option.bind_eq_some_iff.mp H
        obtain ⟨t225,A160,H⟩:=H
        replace H : (if t225 = true then (wQ.l0 k1 a0 (wrap64 (zD + 1))) else (if (bt a0 zD) = 45 then (wQ.l0 k1 a0 (wrap64 (zD + 1))) else (if 1 ≤ zD then (if zD ≤ (a0.size : Int) then ((wJ.f k1 (a0.extract 1 (zD : Int).toNat)).bind fun bt226 => (if bt226.2 = 0 then (some (3,(⟨#[]⟩ : ByteArray),bt226.1,zD)) else (some (0,(⟨#[]⟩ : ByteArray),0,0)))) else (none)) else (none)))) = some (r1,r2,r3,r4):=H
        have A16:=zZ.mk A160
        clear A160
        by_cases c17 : t225 = true
        ·
         subst c17
         have H1 : (wQ.l0 k1 a0 (wrap64 (zD + 1))) = some (r1,r2,r3,r4):=by rw [if_pos rfl] at H; exact H
         clear H
         have H:=H1
         clear H1
         have H':=zZ.mk H
         clear H
         have p15 : 0 ≤ (zD : Int):=of_decide_eq_true (by first|(with_reducible assumption)|assumption)
         have q15 : zD < (a0.size : Int):=of_decide_eq_true (by first|(with_reducible assumption)|assumption)
         have hx15:=xG a0 zD
         replace p15:=eq_true p15
         replace q15:=eq_true q15
         go_wp2_with (first|(go_at_call 107; (with_reducible refine (pR.calls (bt a0 zD) true _ A16.out).mono ?_); rintro e w' ⟨rfl,⟨nd,rfl⟩⟩))
         go_roundg k1
         case measure => have:=HK1.out; omega
         case rel => exact ⟨(wrap64 (zD + 1)),(by first|rfl|(simp;done)|(simp [*];done)),H',⟨by have:=HK1.out; omega⟩,⟨by (with_reducible repeat (first|apply zN|apply zM|apply zR)); exact xZ.out⟩,⟨by repeat (first|(with_reducible first|exact HB.out|apply zY|apply zV|apply zU|refine zQ ?_ vH.out)|exact HB.out)⟩⟩
        ·
         replace c17:=Bool.eq_false_iff.mpr c17
         subst c17
         have H1 : (if (bt a0 zD) = 45 then (wQ.l0 k1 a0 (wrap64 (zD + 1))) else (if 1 ≤ zD then (if zD ≤ (a0.size : Int) then ((wJ.f k1 (a0.extract 1 (zD : Int).toNat)).bind fun bt226 => (if bt226.2 = 0 then (some (3,(⟨#[]⟩ : ByteArray),bt226.1,zD)) else (some (0,(⟨#[]⟩ : ByteArray),0,0)))) else (none)) else (none))) = some (r1,r2,r3,r4):=by rw [if_neg (show ¬ (false = true) by decide)] at H; exact H
         clear H
         have H:=H1
         clear H1
         by_cases c19 : (bt a0 zD) = 45
         ·
          rw [if_pos c19] at H
          have c19b0 : ((bt a0 zD) == 45) = true:=beq_iff_eq.mpr c19
          have c19b1 : ((bt a0 zD) != 45) = false:=bne_eq_false_iff_eq.mpr c19
          clear c19
          have H':=zZ.mk H
          clear H
          have p15 : 0 ≤ (zD : Int):=of_decide_eq_true (by first|(with_reducible assumption)|assumption)
          have q15 : zD < (a0.size : Int):=of_decide_eq_true (by first|(with_reducible assumption)|assumption)
          have hx15:=xG a0 zD
          replace p15:=eq_true p15
          replace q15:=eq_true q15
          go_wp2_with (first|(go_at_call 107; (with_reducible refine (pR.calls (bt a0 zD) false _ A16.out).mono ?_); rintro e w' ⟨rfl,⟨nd,rfl⟩⟩; have p18 : 0 ≤ (zD : Int):=of_decide_eq_true (by first|(with_reducible assumption)|assumption); have q18 : zD < (a0.size : Int):=of_decide_eq_true (by first|(with_reducible assumption)|assumption); have hx18:=xG a0 zD; replace p18:=eq_true p18; replace q18:=eq_true q18))
          go_roundg k1
          case measure => have:=HK1.out; omega
          case rel => exact ⟨(wrap64 (zD + 1)),(by first|rfl|(simp;done)|(simp [*];done)),H',⟨by have:=HK1.out; omega⟩,⟨by (with_reducible repeat (first|apply zN|apply zM|apply zR)); exact xZ.out⟩,⟨by repeat (first|(with_reducible first|exact HB.out|apply zY|apply zV|apply zU|refine zQ ?_ vH.out)|exact HB.out)⟩⟩
         ·
          rw [if_neg c19] at H
          have c19b0 : ((bt a0 zD) == 45) = false:=beq_eq_false_iff_ne.mpr c19
          have c19b1 : ((bt a0 zD) != 45) = true:=bne_iff_ne.mpr c19
          by_cases c20 : 1 ≤ zD
          ·
           rw [if_pos c20] at H
           have c20b0:=eq_true c20
           have c20b1 : decide (1 ≤ zD) = true:=decide_eq_true c20
           clear c20
           by_cases c21 : zD ≤ (a0.size : Int)
           ·
            rw [if_pos c21] at H
            have c21b0:=eq_true c21
            have c21b1 : decide (zD ≤ (a0.size : Int)) = true:=decide_eq_true c21
            clear c21
            replace H:=Option.bind_eq_some_iff.mp H
            obtain ⟨⟨t226,t227⟩,A220,H⟩:=H
            replace H : (if t227 = 0 then (some (3,(⟨#[]⟩ : ByteArray),t226,zD)) else (some (0,(⟨#[]⟩ : ByteArray),0,0))) = some (r1,r2,r3,r4):=H
            have A22:=zZ.mk A220
            clear A220
            by_cases c23 : t227 = 0
            ·
             rw [if_pos c23] at H
             have c23b0 : (t227 == 0) = true:=beq_iff_eq.mpr c23
             have c23b1 : (t227 != 0) = false:=bne_eq_false_iff_eq.mpr c23
             clear c23
             simp only [Option.some.injEq,Prod.mk.injEq] at H
             obtain ⟨rfl,rfl,rfl,rfl⟩:=H
             have p15 : 0 ≤ (zD : Int):=of_decide_eq_true (by first|(with_reducible assumption)|assumption)
             have q15 : zD < (a0.size : Int):=of_decide_eq_true (by first|(with_reducible assumption)|assumption)
             have hx15:=xG a0 zD
             replace p15:=eq_true p15
             replace q15:=eq_true q15
             go_wp2_with (first|(go_at_call 107; (with_reducible refine (pR.calls (bt a0 zD) false _ A16.out).mono ?_); rintro e w' ⟨rfl,⟨nd,rfl⟩⟩; (try (rw [lQ wr]; generalize hq_ : World.drewN wr _ = wr; have zS : zZ (wr.heap[vI]? = some (.cells #[.int .u8 0,.string (⟨#[]⟩ : ByteArray),.int .i64 0] 61 (0,0))):=⟨by rw [← hq_]; exact (by (with_reducible repeat (first|apply zN|apply zM|apply zR)); exact xZ.out)⟩; have zO : zZ (Below w.heap.size w wr):=⟨by rw [← hq_]; exact (by repeat (first|(with_reducible first|exact HB.out|apply zY|apply zV|apply zU|refine zQ ?_ vH.out)|exact HB.out))⟩; clear xZ HB hq_; have xZ:=zS; have HB:=zO; clear zS zO)); have p18 : 0 ≤ (zD : Int):=of_decide_eq_true (by first|(with_reducible assumption)|assumption); have q18 : zD < (a0.size : Int):=of_decide_eq_true (by first|(with_reducible assumption)|assumption); have hx18:=xG a0 zD; replace p18:=eq_true p18; replace q18:=eq_true q18)|((with_reducible refine yD (f:=108) rfl ?_); refine yE (some 40) rfl rfl Tryd.func108 (by kernel_rfl) rfl #[.string (a0.extract 1 (zD : Int).toNat)] rfl (by (try simp only [List.map_toArray,List.map_cons,List.map_nil]); first|done|rfl|(simp only [List.length_drop,List.length_take]; rfl)) ?_; (with_reducible refine (wJ.calls k1 (a0.extract 1 (zD : Int).toNat) t226 t227 _ A22.out).mono ?_); rintro e w24 ⟨rfl,hb⟩; refine ⟨_,rfl,?_⟩; have zS:=zZ.mk (xX (g:=vI) (o:=.cells #[.int .u8 0,.string (⟨#[]⟩ : ByteArray),.int .i64 0] 61 (0,0)) (by (with_reducible repeat (first|apply zN|apply zM|apply zR)); exact xZ.out) hb); have zO:=zZ.mk (xW (by repeat (first|(with_reducible first|exact HB.out|apply zY|apply zV|apply zU|refine zQ ?_ vH.out)|exact HB.out)) hb); clear xZ; clear HB; have xZ:=zS; have HB:=zO; clear zS zO; (try clear hb); (try clear hb2); (try clear hk); (try clear hi); obtain ⟨nY,nX,nW⟩:=kc3 xZ.out; have dH:=zP xZ.out 0; have dG:=zP xZ.out 1; have dF:=zP xZ.out 2))
             refine bodyPost_ret (uT rfl _ _ vI 61 #[.int .u8 3,.string (⟨#[]⟩ : ByteArray),.int .i64 t226] (0,0) _ rfl (by (with_reducible repeat (first|apply zN|apply zM|apply zR)); refine zF (cs:=#[.int .u8 3,.string (⟨#[]⟩ : ByteArray),.int .i64 0]) ?_ 2 _ rfl; (with_reducible repeat (first|apply zN|apply zM|apply zR)); refine zF (cs:=#[.int .u8 3,.string (⟨#[]⟩ : ByteArray),.int .i64 0]) ?_ 1 _ rfl; (with_reducible repeat (first|apply zN|apply zM|apply zR)); refine zF (cs:=#[.int .u8 0,.string (⟨#[]⟩ : ByteArray),.int .i64 0]) ?_ 0 _ rfl; (with_reducible repeat (first|apply zN|apply zM|apply zR)); exact xZ.out) Tryd.underlying61 rfl (by kernel_rfl)) rfl ?_
             exact ⟨by first|rfl|(simp [yG,yF] <;> rfl)|(simp [*,yG,yF] <;> rfl),by repeat (first|(with_reducible first|exact HB.out|apply zY|apply zV|apply zU|refine zQ ?_ vH.out)|exact HB.out)⟩
            ·
             rw [if_neg c23] at H
             have c23b0 : (t227 == 0) = false:=beq_eq_false_iff_ne.mpr c23
             have c23b1 : (t227 != 0) = true:=bne_iff_ne.mpr c23
             simp only [Option.some.injEq,Prod.mk.injEq] at H
             obtain ⟨rfl,rfl,rfl,rfl⟩:=H
             have p15 : 0 ≤ (zD : Int):=of_decide_eq_true (by first|(with_reducible assumption)|assumption)
             have q15 : zD < (a0.size : Int):=of_decide_eq_true (by first|(with_reducible assumption)|assumption)
             have hx15:=xG a0 zD
             replace p15:=eq_true p15
             replace q15:=eq_true q15
             go_wp2_with (first|(go_at_call 107; (with_reducible refine (pR.calls (bt a0 zD) false _ A16.out).mono ?_); rintro e w' ⟨rfl,⟨nd,rfl⟩⟩; (try (rw [lQ wr]; generalize hq_ : World.drewN wr _ = wr; have zS : zZ (wr.heap[vI]? = some (.cells #[.int .u8 0,.string (⟨#[]⟩ : ByteArray),.int .i64 0] 61 (0,0))):=⟨by rw [← hq_]; exact (by (with_reducible repeat (first|apply zN|apply zM|apply zR)); exact xZ.out)⟩; have zO : zZ (Below w.heap.size w wr):=⟨by rw [← hq_]; exact (by repeat (first|(with_reducible first|exact HB.out|apply zY|apply zV|apply zU|refine zQ ?_ vH.out)|exact HB.out))⟩; clear xZ HB hq_; have xZ:=zS; have HB:=zO; clear zS zO)); have p18 : 0 ≤ (zD : Int):=of_decide_eq_true (by first|(with_reducible assumption)|assumption); have q18 : zD < (a0.size : Int):=of_decide_eq_true (by first|(with_reducible assumption)|assumption); have hx18:=xG a0 zD; replace p18:=eq_true p18; replace q18:=eq_true q18)|((with_reducible refine yD (f:=108) rfl ?_); refine yE (some 40) rfl rfl Tryd.func108 (by kernel_rfl) rfl #[.string (a0.extract 1 (zD : Int).toNat)] rfl (by (try simp only [List.map_toArray,List.map_cons,List.map_nil]); first|done|rfl|(simp only [List.length_drop,List.length_take]; rfl)) ?_; (with_reducible refine (wJ.calls k1 (a0.extract 1 (zD : Int).toNat) t226 t227 _ A22.out).mono ?_); rintro e w26 ⟨rfl,hb⟩; refine ⟨_,rfl,?_⟩; have zS:=zZ.mk (xX (g:=vI) (o:=.cells #[.int .u8 0,.string (⟨#[]⟩ : ByteArray),.int .i64 0] 61 (0,0)) (by (with_reducible repeat (first|apply zN|apply zM|apply zR)); exact xZ.out) hb); have zO:=zZ.mk (xW (by repeat (first|(with_reducible first|exact HB.out|apply zY|apply zV|apply zU|refine zQ ?_ vH.out)|exact HB.out)) hb); clear xZ; clear HB; have xZ:=zS; have HB:=zO; clear zS zO; (try clear hb); (try clear hb2); (try clear hk); (try clear hi); obtain ⟨mU,mT,mS⟩:=kc3 xZ.out; have kM:=zP xZ.out 0; have kL:=zP xZ.out 1; have kK:=zP xZ.out 2))
             refine bodyPost_ret (uT rfl _ _ vI 61 #[.int .u8 0,.string (⟨#[]⟩ : ByteArray),.int .i64 0] (0,0) _ rfl (by (with_reducible repeat (first|apply zN|apply zM|apply zR)); refine zF (cs:=#[.int .u8 0,.string (⟨#[]⟩ : ByteArray),.int .i64 0]) ?_ 2 _ rfl; (with_reducible repeat (first|apply zN|apply zM|apply zR)); refine zF (cs:=#[.int .u8 0,.string (⟨#[]⟩ : ByteArray),.int .i64 0]) ?_ 1 _ rfl; (with_reducible repeat (first|apply zN|apply zM|apply zR)); refine zF (cs:=#[.int .u8 0,.string (⟨#[]⟩ : ByteArray),.int .i64 0]) ?_ 0 _ rfl; (with_reducible repeat (first|apply zN|apply zM|apply zR)); exact xZ.out) Tryd.underlying61 rfl (by kernel_rfl)) rfl ?_
             exact ⟨by first|rfl|(simp [yG,yF] <;> rfl)|(simp [*,yG,yF] <;> rfl),by repeat (first|(with_reducible first|exact HB.out|apply zY|apply zV|apply zU|refine zQ ?_ vH.out)|exact HB.out)⟩
           ·
            rw [if_neg c21] at H
            exact absurd H (by simp)
          ·
           rw [if_neg c20] at H
           exact absurd H (by simp)
       ·
        rw [if_neg c14] at H
        exact absurd H (by simp)
      ·
       rw [if_neg c13] at H
       have c13b0 : decide (zD < (a0.size : Int)) = false:=decide_eq_false c13
       clear c13
       by_cases c28 : 1 ≤ zD
       ·
        rw [if_pos c28] at H
        have c28b0:=eq_true c28
        have c28b1 : decide (1 ≤ zD) = true:=decide_eq_true c28
        clear c28
        by_cases c29 : zD ≤ (a0.size : Int)
        ·
         rw [if_pos c29] at H
         have c29b0:=eq_true c29
         have c29b1 : decide (zD ≤ (a0.size : Int)) = true:=decide_eq_true c29
         clear c29
         replace H:=Option.bind_eq_some_iff.mp H
         obtain ⟨⟨t228,t229⟩,A300,H⟩:=H
         replace H : (if t229 = 0 then (some (3,(⟨#[]⟩ : ByteArray),t228,zD)) else (some (0,(⟨#[]⟩ : ByteArray),0,0))) = some (r1,r2,r3,r4):=H
         have A30:=zZ.mk A300
         clear A300
         by_cases c31 : t229 = 0
         ·
          rw [if_pos c31] at H
          have c31b0 : (t229 == 0) = true:=beq_iff_eq.mpr c31
          have c31b1 : (t229 != 0) = false:=bne_eq_false_iff_eq.mpr c31
          clear c31
          simp only [Option.some.injEq,Prod.mk.injEq] at H
          obtain ⟨rfl,rfl,rfl,rfl⟩:=H
          go_wp2_with (first|((with_reducible refine yD (f:=108) rfl ?_); refine yE (some 40) rfl rfl Tryd.func108 (by kernel_rfl) rfl #[.string (a0.extract 1 (zD : Int).toNat)] rfl (by (try simp only [List.map_toArray,List.map_cons,List.map_nil]); first|done|rfl|(simp only [List.length_drop,List.length_take]; rfl)) ?_; (with_reducible refine (wJ.calls k1 (a0.extract 1 (zD : Int).toNat) t228 t229 _ A30.out).mono ?_); rintro e w32 ⟨rfl,hb⟩; refine ⟨_,rfl,?_⟩; have zS:=zZ.mk (xX (g:=vI) (o:=.cells #[.int .u8 0,.string (⟨#[]⟩ : ByteArray),.int .i64 0] 61 (0,0)) (by (with_reducible repeat (first|apply zN|apply zM|apply zR)); exact xZ.out) hb); have zO:=zZ.mk (xW (by repeat (first|(with_reducible first|exact HB.out|apply zY|apply zV|apply zU|refine zQ ?_ vH.out)|exact HB.out)) hb); clear xZ; clear HB; have xZ:=zS; have HB:=zO; clear zS zO; (try clear hb); (try clear hb2); (try clear hk); (try clear hi); obtain ⟨pG,pF,pE⟩:=kc3 xZ.out; have kJ:=zP xZ.out 0; have kH:=zP xZ.out 1; have kG:=zP xZ.out 2))
          refine bodyPost_ret (uT rfl _ _ vI 61 #[.int .u8 3,.string (⟨#[]⟩ : ByteArray),.int .i64 t228] (0,0) _ rfl (by (with_reducible repeat (first|apply zN|apply zM|apply zR)); refine zF (cs:=#[.int .u8 3,.string (⟨#[]⟩ : ByteArray),.int .i64 0]) ?_ 2 _ rfl; (with_reducible repeat (first|apply zN|apply zM|apply zR)); refine zF (cs:=#[.int .u8 3,.string (⟨#[]⟩ : ByteArray),.int .i64 0]) ?_ 1 _ rfl; (with_reducible repeat (first|apply zN|apply zM|apply zR)); refine zF (cs:=#[.int .u8 0,.string (⟨#[]⟩ : ByteArray),.int .i64 0]) ?_ 0 _ rfl; (with_reducible repeat (first|apply zN|apply zM|apply zR)); exact xZ.out) Tryd.underlying61 rfl (by kernel_rfl)) rfl ?_
          exact ⟨by first|rfl|(simp [yG,yF] <;> rfl)|(simp [*,yG,yF] <;> rfl),by repeat (first|(with_reducible first|exact HB.out|apply zY|apply zV|apply zU|refine zQ ?_ vH.out)|exact HB.out)⟩
         ·
          rw [if_neg c31] at H
          have c31b0 : (t229 == 0) = false:=beq_eq_false_iff_ne.mpr c31
          have c31b1 : (t229 != 0) = true:=bne_iff_ne.mpr c31
          simp only [Option.some.injEq,Prod.mk.injEq] at H
          obtain ⟨rfl,rfl,rfl,rfl⟩:=H
          go_wp2_with (first|((with_reducible refine yD (f:=108) rfl ?_); refine yE (some 40) rfl rfl Tryd.func108 (by kernel_rfl) rfl #[.string (a0.extract 1 (zD : Int).toNat)] rfl (by (try simp only [List.map_toArray,List.map_cons,List.map_nil]); first|done|rfl|(simp only [List.length_drop,List.length_take]; rfl)) ?_; (with_reducible refine (wJ.calls k1 (a0.extract 1 (zD : Int).toNat) t228 t229 _ A30.out).mono ?_); rintro e w34 ⟨rfl,hb⟩; refine ⟨_,rfl,?_⟩; have zS:=zZ.mk (xX (g:=vI) (o:=.cells #[.int .u8 0,.string (⟨#[]⟩ : ByteArray),.int .i64 0] 61 (0,0)) (by (with_reducible repeat (first|apply zN|apply zM|apply zR)); exact xZ.out) hb); have zO:=zZ.mk (xW (by repeat (first|(with_reducible first|exact HB.out|apply zY|apply zV|apply zU|refine zQ ?_ vH.out)|exact HB.out)) hb); clear xZ; clear HB; have xZ:=zS; have HB:=zO; clear zS zO; (try clear hb); (try clear hb2); (try clear hk); (try clear hi); obtain ⟨kF,kE,kD⟩:=kc3 xZ.out; have kC:=zP xZ.out 0; have kB:=zP xZ.out 1; have kA:=zP xZ.out 2))
          refine bodyPost_ret (uT rfl _ _ vI 61 #[.int .u8 0,.string (⟨#[]⟩ : ByteArray),.int .i64 0] (0,0) _ rfl (by (with_reducible repeat (first|apply zN|apply zM|apply zR)); refine zF (cs:=#[.int .u8 0,.string (⟨#[]⟩ : ByteArray),.int .i64 0]) ?_ 2 _ rfl; (with_reducible repeat (first|apply zN|apply zM|apply zR)); refine zF (cs:=#[.int .u8 0,.string (⟨#[]⟩ : ByteArray),.int .i64 0]) ?_ 1 _ rfl; (with_reducible repeat (first|apply zN|apply zM|apply zR)); refine zF (cs:=#[.int .u8 0,.string (⟨#[]⟩ : ByteArray),.int .i64 0]) ?_ 0 _ rfl; (with_reducible repeat (first|apply zN|apply zM|apply zR)); exact xZ.out) Tryd.underlying61 rfl (by kernel_rfl)) rfl ?_
          exact ⟨by first|rfl|(simp [yG,yF] <;> rfl)|(simp [*,yG,yF] <;> rfl),by repeat (first|(with_reducible first|exact HB.out|apply zY|apply zV|apply zU|refine zQ ?_ vH.out)|exact HB.out)⟩
        ·
         rw [if_neg c29] at H
         exact absurd H (by simp)
       ·
        rw [if_neg c28] at H
        exact absurd H (by simp)
   ·
    rw [if_neg c11] at H
    have c11b0 : ((bt a0 0) == 64) = false:=beq_eq_false_iff_ne.mpr c11
    have c11b1 : ((bt a0 0) != 64) = true:=bne_iff_ne.mpr c11
    have HC37:=zZ.mk H
    clear H
    go_enter Tryd.func92,Tryd.ntmps92
    go_upto_if 51 with (first|((with_reducible refine uU (N:=2) rfl ?_); refine tY ?hg (N:=2) ?hd (cs:=#[.int .u8 0,.string (⟨#[]⟩ : ByteArray),.int .i64 0]) (t:=61) ?hr ?_; (case hd => rfl); (case hg => rfl); (case hr => first|(go_simp; done)|(go_simp; rfl)); intro vI hg w38 hbox hb; have zS:=zZ.mk (xW (by repeat (first|(with_reducible first|exact HB.out|apply zY|apply zV|apply zU)|exact HB.out)) hb); have zO:=zZ.mk (hbox); have zI:=zZ.mk ((by rw [hg]; exact (xS (by repeat (first|(with_reducible first|exact HB.out|apply zY|apply zV|apply zU)|exact HB.out))) : w.heap.size ≤ vI)); have xV:=zZ.mk ((by rw [hg]; exact (xS (by repeat (first|(with_reducible first|exact HB.out|apply zY|apply zV|apply zU)|exact HB.out))) : w.heap.size ≤ vI)); clear HB; have HB:=zS; have xZ:=zO; have zVS:=zI; have vH:=xV; clear zS zO zI xV; clear hb hbox hg; have p3 : 0 ≤ (0 : Int):=(by omega); have q3 : 0 < a0.size:=(by have : (0 : Int) < (a0.size : Int):=of_decide_eq_true (by first|(with_reducible assumption)|assumption); omega); have hx3 : ∀ h : 0 < a0.size,((a0[0]'h).toNat : Int) = bt a0 0:=xG a0 0; clear p3; have qi3 : (0 < (a0.size : Int)) = True:=eq_true (of_decide_eq_true (by first|(with_reducible assumption)|assumption)); replace q3:=eq_true q3)|((with_reducible refine yD (f:=106) rfl ?_); refine yE (some 11) rfl rfl Tryd.func106 (by kernel_rfl) rfl #[.int .u8 (bt a0 0)] rfl (by (try simp only [List.map_toArray,List.map_cons,List.map_nil]); first|done|rfl|(simp only [List.length_drop,List.length_take]; rfl)) ?_; (with_reducible refine (lP.calls (bt a0 0) false _ A4.out).mono ?_); rintro e w' ⟨rfl,⟨nd,rfl⟩⟩; refine ⟨_,rfl,?_⟩; have p10 : 0 ≤ (0 : Int):=(by omega); have q10 : 0 < a0.size:=(by have : (0 : Int) < (a0.size : Int):=of_decide_eq_true (by first|(with_reducible assumption)|assumption); omega); have hx10 : ∀ h : 0 < a0.size,((a0[0]'h).toNat : Int) = bt a0 0:=xG a0 0; clear p10; have qi10 : (0 < (a0.size : Int)) = True:=eq_true (of_decide_eq_true (by first|(with_reducible assumption)|assumption)); replace q10:=eq_true q10; have p36 : 0 ≤ (0 : Int):=(by omega); have q36 : 0 < a0.size:=(by have : (0 : Int) < (a0.size : Int):=of_decide_eq_true (by first|(with_reducible assumption)|assumption); omega); have hx36 : ∀ h : 0 < a0.size,((a0[0]'h).toNat : Int) = bt a0 0:=xG a0 0; clear p36; have qi36 : (0 < (a0.size : Int)) = True:=eq_true (of_decide_eq_true (by first|(with_reducible assumption)|assumption)); replace q36:=eq_true q36))
    (try simp only [Act.put,List.setIfInBounds_toArray,List.set_cons_zero,List.set_cons_succ])
    go_cut [4] (fun v4 wc => ∃ (kq : Nat) (dE : Int),v4 = .int .i64 dE ∧ zZ (wQ.j1 kq a0 dE = some (r1,r2,r3,r4)) ∧ zZ (kq ≤ k) ∧ zZ (wc.heap[vI]? = some (.cells #[.int .u8 0,.string (⟨#[]⟩ : ByteArray),.int .i64 0] 61 (0,0))) ∧ zZ (Below w.heap.size w wc))
    case first =>
     have H:=HC37.out
     clear HC37
     by_cases c39 : (bt a0 0) = 45
     ·
      rw [if_pos c39] at H
      have c39b0 : ((bt a0 0) == 45) = true:=beq_iff_eq.mpr c39
      have c39b1 : ((bt a0 0) != 45) = false:=bne_eq_false_iff_eq.mpr c39
      clear c39
      (first|rw [c39b0]|(simp only [yV,yU]; rw [c39b0])|skip)
      have H':=zZ.mk H
      clear H
      go_wp2
      go_meet
      case rel => exact ⟨_,(1),(by first|rfl|(simp;done)|(simp [*];done)),H',⟨by first|omega|exact Nat.le_refl _⟩,⟨by (with_reducible repeat (first|apply zN|apply zM|apply zR)); exact xZ.out⟩,⟨by repeat (first|(with_reducible first|exact HB.out|apply zY|apply zV|apply zU|refine zQ ?_ vH.out)|exact HB.out)⟩⟩
     ·
      rw [if_neg c39] at H
      have c39b0 : ((bt a0 0) == 45) = false:=beq_eq_false_iff_ne.mpr c39
      have c39b1 : ((bt a0 0) != 45) = true:=bne_iff_ne.mpr c39
      (first|rw [c39b0]|(simp only [yV,yU]; rw [c39b0])|skip)
      have H':=zZ.mk H
      clear H
      go_wp2
      go_meet
      case rel => exact ⟨_,(0),(by first|rfl|(simp;done)|(simp [*];done)),H',⟨by first|omega|exact Nat.le_refl _⟩,⟨by (with_reducible repeat (first|apply zN|apply zM|apply zR)); exact xZ.out⟩,⟨by repeat (first|(with_reducible first|exact HB.out|apply zY|apply zV|apply zU|refine zQ ?_ vH.out)|exact HB.out)⟩⟩
    case rest =>
     clear HC37
     try clear c1
     try clear p1 p1
     try clear q1 q1
     try clear hx1
     try clear qi1
     try clear c2
     try clear c2b0
     try clear c2b1
     try clear p2 p2
     try clear c3
     try clear p3 p3
     try clear q3 q3
     try clear hx3
     try clear qi3
     try clear c5
     try clear c6
     try clear c6b0
     try clear c6b1
     try clear p6
     try clear c7
     try clear c7b0
     try clear c7b1
     try clear c9
     try clear c10
     try clear p10 p10
     try clear q10 q10
     try clear hx10
     try clear qi10
     try clear c11
     try clear c11b0
     try clear c11b1
     try clear c13
     try clear c13b0
     try clear c14
     try clear c14b0
     try clear p15 p15
     try clear q15 q15
     try clear hx15
     try clear c17
     try clear p18 p18
     try clear q18 q18
     try clear hx18
     try clear c19
     try clear c19b0
     try clear c19b1
     try clear c20
     try clear c20b0
     try clear c20b1
     try clear c21
     try clear c21b0
     try clear c21b1
     try clear c23
     try clear c23b0
     try clear c23b1
     try clear c28
     try clear c28b0
     try clear c28b1
     try clear c29
     try clear c29b0
     try clear c29b1
     try clear c31
     try clear c31b0
     try clear c31b1
     try clear p36 p36
     try clear q36 q36
     try clear hx36
     try clear qi36
     try clear c39
     try clear c39b0
     try clear c39b1
     try clear nY nX nW
     try clear mU mT mS
     try clear pG pF pE
     try clear kF kE kD
     try clear pM pL pK
     try clear dH dG dF
     try clear kM kL kK
     try clear kJ kH kG
     try clear kC kB kA
     try clear gI gH gG
     obtain ⟨kq,dE,rfl,HA,HJ36,xZ,HB⟩:=hcut
     cases kq with
     | zero => exact absurd HA.out (by simp [wQ.j1])
     | succ kj36 =>
      have H:=HA.out
      clear HA
      simp only [wQ.j1] at H
      have HC40:=zZ.mk H
      clear H
      go_upto_block 2 with (fail)
      go_cut [4] (fun v4 wc => ∃ (kq : Nat) (vX : Int),v4 = .int .i64 vX ∧ zZ (wQ.j3 kq a0 vX = some (r1,r2,r3,r4)) ∧ zZ (kq ≤ kj36) ∧ zZ (wc.heap[vI]? = some (.cells #[.int .u8 0,.string (⟨#[]⟩ : ByteArray),.int .i64 0] 61 (0,0))) ∧ zZ (Below w.heap.size w wc))
      case first =>
       have H:=HC40.out
       clear HC40
       have H':=zZ.mk H
       clear H
       go_wp2
       go_loopg [4] kj36 (fun kq v4 w' => ∃ (yT : Int),v4 = .int .i64 yT ∧ zZ (wQ.l1 kq a0 yT = some (r1,r2,r3,r4)) ∧ zZ (kq ≤ kj36) ∧ zZ (w'.heap[vI]? = some (.cells #[.int .u8 0,.string (⟨#[]⟩ : ByteArray),.int .i64 0] 61 (0,0))) ∧ zZ (Below w.heap.size w w'))
       case atStart => exact ⟨(dE),(by first|rfl|(simp;done)|(simp [*];done)),H',⟨Nat.le_refl _⟩,⟨by (with_reducible repeat (first|apply zN|apply zM|apply zR)); exact xZ.out⟩,⟨by repeat (first|(with_reducible first|exact HB.out|apply zY|apply zV|apply zU|refine zQ ?_ vH.out)|exact HB.out)⟩⟩
       case round =>
        clear H'
        try clear c1
        try clear p1 p1
        try clear q1 q1
        try clear hx1
        try clear qi1
        try clear c2
        try clear c2b0
        try clear c2b1
        try clear p2 p2
        try clear c3
        try clear p3 p3
        try clear q3 q3
        try clear hx3
        try clear qi3
        try clear c5
        try clear c6
        try clear c6b0
        try clear c6b1
        try clear p6 p6
        try clear c7
        try clear c7b0
        try clear c7b1
        try clear c9
        try clear c10
        try clear p10 p10
        try clear q10 q10
        try clear hx10
        try clear qi10
        try clear c11
        try clear c11b0
        try clear c11b1
        try clear c13
        try clear c13b0
        try clear c14
        try clear c14b0
        try clear p15 p15
        try clear q15 q15
        try clear hx15
        try clear c17
        try clear p18 p18
        try clear q18 q18
        try clear hx18
        try clear c19
        try clear c19b0
        try clear c19b1
        try clear c20
        try clear c20b0
        try clear c20b1
        try clear c21
        try clear c21b0
        try clear c21b1
        try clear c23
        try clear c23b0
        try clear c23b1
        try clear c28
        try clear c28b0
        try clear c28b1
        try clear c29
        try clear c29b0
        try clear c29b1
        try clear c31
        try clear c31b0
        try clear c31b1
        try clear p36 p36
        try clear q36 q36
        try clear hx36
        try clear qi36
        try clear c39
        try clear c39b0
        try clear c39b1
        try clear nY nX nW
        try clear mU mT mS
        try clear pG pF pE
        try clear kF kE kD
        try clear pM pL pK
        try clear dH dG dF
        try clear kM kL kK
        try clear kJ kH kG
        try clear kC kB kA
        try clear gI gH gG
        obtain ⟨yT,rfl,HA,HK2,xZ,HB⟩:=hrel
        cases gk with
        | zero => exact absurd HA.out (by simp [wQ.l1])
        | succ k2 =>
         have H:=HA.out
         clear HA
         simp only [wQ.l1] at H
         by_cases c41 : yT < (a0.size : Int)
         ·
          rw [if_pos c41] at H
          have c41b0 : decide (yT < (a0.size : Int)) = true:=decide_eq_true c41
          clear c41
          (first|rw [c41b0]|(simp only [yV,yU]; rw [c41b0])|skip)
          by_cases c42 : 0 ≤ yT
          ·
           rw [if_pos c42] at H
           have c42b0 : decide (0 ≤ yT) = true:=decide_eq_true c42
           clear c42
           replace H:=Option.bind_eq_some_iff.mp H
           obtain ⟨t230,A440,H⟩:=H
           replace H : (if t230 = true then (wQ.l1 k2 a0 (wrap64 (yT + 1))) else (wQ.j3 k2 a0 yT)) = some (r1,r2,r3,r4):=H
           have A44:=zZ.mk A440
           clear A440
           by_cases c45 : t230 = true
           ·
            subst c45
            have H1 : (wQ.l1 k2 a0 (wrap64 (yT + 1))) = some (r1,r2,r3,r4):=by rw [if_pos rfl] at H; exact H
            clear H
            have H:=H1
            clear H1
            have H':=zZ.mk H
            clear H
            have p43 : 0 ≤ (yT : Int):=of_decide_eq_true (by first|(with_reducible assumption)|assumption)
            have q43 : yT < (a0.size : Int):=of_decide_eq_true (by first|(with_reducible assumption)|assumption)
            have hx43:=xG a0 yT
            replace p43:=eq_true p43
            replace q43:=eq_true q43
            go_wp2_with (first|(go_at_call 107; (with_reducible refine (pR.calls (bt a0 yT) true _ A44.out).mono ?_); rintro e w' ⟨rfl,⟨nd,rfl⟩⟩))
            go_roundg k2
            case measure => have:=HJ36.out; have:=HK2.out; omega
            case rel => exact ⟨(wrap64 (yT + 1)),(by first|rfl|(simp;done)|(simp [*];done)),H',⟨by have:=HJ36.out; have:=HK2.out; omega⟩,⟨by (with_reducible repeat (first|apply zN|apply zM|apply zR)); exact xZ.out⟩,⟨by repeat (first|(with_reducible first|exact HB.out|apply zY|apply zV|apply zU|refine zQ ?_ vH.out)|exact HB.out)⟩⟩
           ·
            replace c45:=Bool.eq_false_iff.mpr c45
            subst c45
            have H1 : (wQ.j3 k2 a0 yT) = some (r1,r2,r3,r4):=by rw [if_neg (show ¬ (false = true) by decide)] at H; exact H
            clear H
            have H:=H1
            clear H1
            have H':=zZ.mk H
            clear H
            have p43 : 0 ≤ (yT : Int):=of_decide_eq_true (by first|(with_reducible assumption)|assumption)
            have q43 : yT < (a0.size : Int):=of_decide_eq_true (by first|(with_reducible assumption)|assumption)
            have hx43:=xG a0 yT
            replace p43:=eq_true p43
            replace q43:=eq_true q43
            go_wp2_with (first|(go_at_call 107; (with_reducible refine (pR.calls (bt a0 yT) false _ A44.out).mono ?_); rintro e w' ⟨rfl,⟨nd,rfl⟩⟩))
            go_meet
            case rel => exact ⟨_,(yT),(by first|rfl|(simp;done)|(simp [*];done)),H',⟨by have:=HJ36.out; have:=HK2.out; first|omega|exact Nat.le_refl _⟩,⟨by (with_reducible repeat (first|apply zN|apply zM|apply zR)); exact xZ.out⟩,⟨by repeat (first|(with_reducible first|exact HB.out|apply zY|apply zV|apply zU|refine zQ ?_ vH.out)|exact HB.out)⟩⟩
          ·
           rw [if_neg c42] at H
           exact absurd H (by simp)
         ·
          rw [if_neg c41] at H
          have c41b0 : decide (yT < (a0.size : Int)) = false:=decide_eq_false c41
          clear c41
          (first|rw [c41b0]|(simp only [yV,yU]; rw [c41b0])|skip)
          have H':=zZ.mk H
          clear H
          go_wp2
          go_meet
          case rel => exact ⟨_,(yT),(by first|rfl|(simp;done)|(simp [*];done)),H',⟨by have:=HJ36.out; have:=HK2.out; first|omega|exact Nat.le_refl _⟩,⟨by (with_reducible repeat (first|apply zN|apply zM|apply zR)); exact xZ.out⟩,⟨by repeat (first|(with_reducible first|exact HB.out|apply zY|apply zV|apply zU|refine zQ ?_ vH.out)|exact HB.out)⟩⟩
      case rest =>
       clear HC40
       try clear c1
       try clear p1 p1
       try clear q1 q1
       try clear hx1
       try clear qi1
       try clear c2
       try clear c2b0
       try clear c2b1
       try clear p2 p2
       try clear c3
       try clear p3 p3
       try clear q3 q3
       try clear hx3
       try clear qi3
       try clear c4
       try clear p4
       try clear q4
       try clear hx4
       try clear c5
       try clear c6
       try clear c6b0
       try clear c6b1
       try clear p6 p6
       try clear c7
       try clear c7b0
       try clear c7b1
       try clear c9
       try clear c10
       try clear p10 p10
       try clear q10 q10
       try clear hx10
       try clear qi10
       try clear c11
       try clear c11b0
       try clear c11b1
       try clear c13
       try clear c13b0
       try clear c14
       try clear c14b0
       try clear p15 p15
       try clear q15 q15
       try clear hx15
       try clear c17
       try clear p18 p18
       try clear q18 q18
       try clear hx18
       try clear c19
       try clear c19b0
       try clear c19b1
       try clear c20
       try clear c20b0
       try clear c20b1
       try clear c21
       try clear c21b0
       try clear c21b1
       try clear c23
       try clear c23b0
       try clear c23b1
       try clear c28
       try clear c28b0
       try clear c28b1
       try clear c29
       try clear c29b0
       try clear c29b1
       try clear c31
       try clear c31b0
       try clear c31b1
       try clear p36 p36
       try clear q36 q36
       try clear hx36
       try clear qi36
       try clear c39
       try clear c39b0
       try clear c39b1
       try clear c41
       try clear c41b0
       try clear c42
       try clear c42b0
       try clear p43 p43
       try clear q43 q43
       try clear hx43
       try clear c45
       try clear nY nX nW
       try clear mU mT mS
       try clear pG pF pE
       try clear kF kE kD
       try clear pM pL pK
       try clear dH dG dF
       try clear kM kL kK
       try clear kJ kH kG
       try clear kC kB kA
       try clear gI gH gG
       obtain ⟨kq,vX,rfl,HA,HJ39,xZ,HB⟩:=hcut
       cases kq with
       | zero => exact absurd HA.out (by simp [wQ.j3])
       | succ kj39 =>
        have H:=HA.out
        clear HA
        simp only [wQ.j3] at H
        have HC46:=zZ.mk H
        clear H
        go_upto_region 16 with (fail)
        go_cut [71] (fun v71 wc => ∃ (kq : Nat) (dD : Bool),v71 = .bool dD ∧ zZ (wQ.j4 kq a0 vX dD = some (r1,r2,r3,r4)) ∧ zZ (kq ≤ kj39) ∧ zZ (wc.heap[vI]? = some (.cells #[.int .u8 0,.string (⟨#[]⟩ : ByteArray),.int .i64 0] 61 (0,0))) ∧ zZ (Below w.heap.size w wc))
        case first =>
         have H:=HC46.out
         clear HC46
         by_cases c47 : 0 < (a0.size : Int)
         ·
          rw [if_pos c47] at H
          have c47b0 : decide (0 < (a0.size : Int)) = true:=decide_eq_true c47
          have c47b1 : decide (0 < a0.size) = true:=decide_eq_true (by omega)
          clear c47
          (first|rw [c47b0]|(simp only [yV,yU]; rw [c47b0])|skip)
          by_cases c49 : (bt a0 0) = 45
          ·
           rw [if_pos c49] at H
           have c49b0 : ((bt a0 0) == 45) = true:=beq_iff_eq.mpr c49
           have c49b1 : ((bt a0 0) != 45) = false:=bne_eq_false_iff_eq.mpr c49
           clear c49
           have H':=zZ.mk H
           clear H
           have p48 : 0 ≤ (0 : Int):=(by omega)
           have q48 : 0 < a0.size:=(by have : (0 : Int) < (a0.size : Int):=of_decide_eq_true (by first|(with_reducible assumption)|assumption); omega)
           have hx48 : ∀ h : 0 < a0.size,((a0[0]'h).toNat : Int) = bt a0 0:=xG a0 0
           clear p48
           have qi48 : (0 < (a0.size : Int)) = True:=eq_true (of_decide_eq_true (by first|(with_reducible assumption)|assumption))
           replace q48:=eq_true q48
           go_wp2
           go_meet
           case rel => exact ⟨_,(true),(by first|rfl|(simp;done)|(simp [*];done)),H',⟨by have:=HJ36.out; have:=HJ39.out; first|omega|exact Nat.le_refl _⟩,⟨by (with_reducible repeat (first|apply zN|apply zM|apply zR)); exact xZ.out⟩,⟨by repeat (first|(with_reducible first|exact HB.out|apply zY|apply zV|apply zU|refine zQ ?_ vH.out)|exact HB.out)⟩⟩
          ·
           rw [if_neg c49] at H
           have c49b0 : ((bt a0 0) == 45) = false:=beq_eq_false_iff_ne.mpr c49
           have c49b1 : ((bt a0 0) != 45) = true:=bne_iff_ne.mpr c49
           replace H:=Option.bind_eq_some_iff.mp H
           obtain ⟨t231,A510,H⟩:=H
           replace H : (wQ.j4 kj39 a0 vX t231) = some (r1,r2,r3,r4):=H
           have A51:=zZ.mk A510
           clear A510
           have H':=zZ.mk H
           clear H
           have p48 : 0 ≤ (0 : Int):=(by omega)
           have q48 : 0 < a0.size:=(by have : (0 : Int) < (a0.size : Int):=of_decide_eq_true (by first|(with_reducible assumption)|assumption); omega)
           have hx48 : ∀ h : 0 < a0.size,((a0[0]'h).toNat : Int) = bt a0 0:=xG a0 0
           clear p48
           have qi48 : (0 < (a0.size : Int)) = True:=eq_true (of_decide_eq_true (by first|(with_reducible assumption)|assumption))
           replace q48:=eq_true q48
           have p50 : 0 ≤ (0 : Int):=(by omega)
           have q50 : 0 < a0.size:=(by have : (0 : Int) < (a0.size : Int):=of_decide_eq_true (by first|(with_reducible assumption)|assumption); omega)
           have hx50 : ∀ h : 0 < a0.size,((a0[0]'h).toNat : Int) = bt a0 0:=xG a0 0
           clear p50
           have qi50 : (0 < (a0.size : Int)) = True:=eq_true (of_decide_eq_true (by first|(with_reducible assumption)|assumption))
           replace q50:=eq_true q50
           go_wp2_with (first|(go_at_call 109; (with_reducible refine (nB.calls (bt a0 0) t231 _ A51.out).mono ?_); rintro e w' ⟨rfl,⟨nd,rfl⟩⟩))
           go_meet
           case rel => exact ⟨_,(t231),(by first|rfl|(simp;done)|(simp [*];done)),H',⟨by have:=HJ36.out; have:=HJ39.out; first|omega|exact Nat.le_refl _⟩,⟨by (with_reducible repeat (first|apply zN|apply zM|apply zR)); exact xZ.out⟩,⟨by repeat (first|(with_reducible first|exact HB.out|apply zY|apply zV|apply zU|refine zQ ?_ vH.out)|exact HB.out)⟩⟩
         ·
          rw [if_neg c47] at H
          exact absurd H (by simp)
        case rest =>
         clear HC46
         try clear c1
         try clear p1 p1
         try clear q1 q1
         try clear hx1
         try clear qi1
         try clear c2
         try clear c2b0
         try clear c2b1
         try clear p2 p2
         try clear c3
         try clear p3 p3
         try clear q3 q3
         try clear hx3
         try clear qi3
         try clear c4
         try clear p4 p4
         try clear q4 q4
         try clear hx4
         try clear qi4
         try clear c5
         try clear p5
         try clear q5
         try clear hx5
         try clear qi5
         try clear c6
         try clear c6b0
         try clear c6b1
         try clear p6 p6
         try clear c7
         try clear c7b0
         try clear c7b1
         try clear c9
         try clear c10
         try clear p10 p10
         try clear q10 q10
         try clear hx10
         try clear qi10
         try clear c11
         try clear c11b0
         try clear c11b1
         try clear c13
         try clear c13b0
         try clear c14
         try clear c14b0
         try clear p15 p15
         try clear q15 q15
         try clear hx15
         try clear c17
         try clear p18 p18
         try clear q18 q18
         try clear hx18
         try clear c19
         try clear c19b0
         try clear c19b1
         try clear c20
         try clear c20b0
         try clear c20b1
         try clear c21
         try clear c21b0
         try clear c21b1
         try clear c23
         try clear c23b0
         try clear c23b1
         try clear c28
         try clear c28b0
         try clear c28b1
         try clear c29
         try clear c29b0
         try clear c29b1
         try clear c31
         try clear c31b0
         try clear c31b1
         try clear p36 p36
         try clear q36 q36
         try clear hx36
         try clear qi36
         try clear c39
         try clear c39b0
         try clear c39b1
         try clear c41
         try clear c41b0
         try clear c42
         try clear c42b0
         try clear p43 p43
         try clear q43 q43
         try clear hx43
         try clear c45
         try clear c47
         try clear c47b0
         try clear c47b1
         try clear p48 p48
         try clear q48 q48
         try clear hx48
         try clear qi48
         try clear c49
         try clear c49b0
         try clear c49b1
         try clear p50 p50
         try clear q50 q50
         try clear hx50
         try clear qi50
         try clear nY nX nW
         try clear mU mT mS
         try clear pG pF pE
         try clear kF kE kD
         try clear pM pL pK
         try clear dH dG dF
         try clear kM kL kK
         try clear kJ kH kG
         try clear kC kB kA
         try clear gI gH gG
         obtain ⟨kq,dD,rfl,HA,HJ45,xZ,HB⟩:=hcut
         cases kq with
         | zero => exact absurd HA.out (by simp [wQ.j4])
         | succ kj45 =>
          have H:=HA.out
          clear HA
          simp only [wQ.j4] at H
          by_cases c52 : dD = true
          ·
           subst c52
           have H1 : (if 0 ≤ vX then (if vX ≤ (a0.size : Int) then ((vV.f kj45 (a0.extract 0 (vX : Int).toNat)).bind fun bt232 => (if bt232.2 = true then (some (2,(⟨#[]⟩ : ByteArray),bt232.1,vX)) else (some (0,(⟨#[]⟩ : ByteArray),0,0)))) else (none)) else (none)) = some (r1,r2,r3,r4):=by rw [if_pos rfl] at H; exact H
           clear H
           have H:=H1
           clear H1
           by_cases c53 : 0 ≤ vX
           ·
            rw [if_pos c53] at H
            have c53b0:=eq_true c53
            have c53b1 : decide (0 ≤ vX) = true:=decide_eq_true c53
            clear c53
            by_cases c54 : vX ≤ (a0.size : Int)
            ·
             rw [if_pos c54] at H
             have c54b0:=eq_true c54
             have c54b1 : decide (vX ≤ (a0.size : Int)) = true:=decide_eq_true c54
             clear c54
             replace H:=Option.bind_eq_some_iff.mp H
             obtain ⟨⟨t232,t233⟩,A550,H⟩:=H
             replace H : (if t233 = true then (some (2,(⟨#[]⟩ : ByteArray),t232,vX)) else (some (0,(⟨#[]⟩ : ByteArray),0,0))) = some (r1,r2,r3,r4):=H
             have A55:=zZ.mk A550
             clear A550
             by_cases c56 : t233 = true
             ·
              subst c56
              have H1 : (some (2,(⟨#[]⟩ : ByteArray),t232,vX)) = some (r1,r2,r3,r4):=by rw [if_pos rfl] at H; exact H
              clear H
              have H:=H1
              clear H1
              simp only [Option.some.injEq,Prod.mk.injEq] at H
              obtain ⟨rfl,rfl,rfl,rfl⟩:=H
              go_wp2_with (first|((with_reducible refine yD (f:=110) rfl ?_); refine yE (some 76) rfl rfl Tryd.func110 (by kernel_rfl) rfl #[.string (a0.extract 0 (vX : Int).toNat)] rfl (by (try simp only [List.map_toArray,List.map_cons,List.map_nil]); first|done|rfl|(simp only [List.length_drop,List.length_take]; rfl)) ?_; (with_reducible refine (vV.calls kj45 (a0.extract 0 (vX : Int).toNat) t232 true _ A55.out).mono ?_); rintro e w' ⟨rfl,⟨nd,rfl⟩⟩; refine ⟨_,rfl,?_⟩; (try (rw [lQ wc]; generalize hq_ : World.drewN wc _ = wc; have zS : zZ (wc.heap[vI]? = some (.cells #[.int .u8 0,.string (⟨#[]⟩ : ByteArray),.int .i64 0] 61 (0,0))):=⟨by rw [← hq_]; exact (by (with_reducible repeat (first|apply zN|apply zM|apply zR)); exact xZ.out)⟩; have zO : zZ (Below w.heap.size w wc):=⟨by rw [← hq_]; exact (by repeat (first|(with_reducible first|exact HB.out|apply zY|apply zV|apply zU|refine zQ ?_ vH.out)|exact HB.out))⟩; clear xZ HB hq_; have xZ:=zS; have HB:=zO; clear zS zO)); obtain ⟨zLB,zLA,zKZ⟩:=kc3 xZ.out; have zKY:=zP xZ.out 0; have zKX:=zP xZ.out 1; have zKW:=zP xZ.out 2))
              refine bodyPost_ret (uT rfl _ _ vI 61 #[.int .u8 2,.string (⟨#[]⟩ : ByteArray),.int .i64 t232] (0,0) _ rfl (by (with_reducible repeat (first|apply zN|apply zM|apply zR)); refine zF (cs:=#[.int .u8 2,.string (⟨#[]⟩ : ByteArray),.int .i64 0]) ?_ 2 _ rfl; (with_reducible repeat (first|apply zN|apply zM|apply zR)); refine zF (cs:=#[.int .u8 2,.string (⟨#[]⟩ : ByteArray),.int .i64 0]) ?_ 1 _ rfl; (with_reducible repeat (first|apply zN|apply zM|apply zR)); refine zF (cs:=#[.int .u8 0,.string (⟨#[]⟩ : ByteArray),.int .i64 0]) ?_ 0 _ rfl; (with_reducible repeat (first|apply zN|apply zM|apply zR)); exact xZ.out) Tryd.underlying61 rfl (by kernel_rfl)) rfl ?_
              exact ⟨by first|rfl|(simp [yG,yF] <;> rfl)|(simp [*,yG,yF] <;> rfl),by repeat (first|(with_reducible first|exact HB.out|apply zY|apply zV|apply zU|refine zQ ?_ vH.out)|exact HB.out)⟩
             ·
              replace c56:=Bool.eq_false_iff.mpr c56
              subst c56
              have H1 : (some (0,(⟨#[]⟩ : ByteArray),0,0)) = some (r1,r2,r3,r4):=by rw [if_neg (show ¬ (false = true) by decide)] at H; exact H
              clear H
              have H:=H1
              clear H1
              simp only [Option.some.injEq,Prod.mk.injEq] at H
              obtain ⟨rfl,rfl,rfl,rfl⟩:=H
              go_wp2_with (first|((with_reducible refine yD (f:=110) rfl ?_); refine yE (some 76) rfl rfl Tryd.func110 (by kernel_rfl) rfl #[.string (a0.extract 0 (vX : Int).toNat)] rfl (by (try simp only [List.map_toArray,List.map_cons,List.map_nil]); first|done|rfl|(simp only [List.length_drop,List.length_take]; rfl)) ?_; (with_reducible refine (vV.calls kj45 (a0.extract 0 (vX : Int).toNat) t232 false _ A55.out).mono ?_); rintro e w' ⟨rfl,⟨nd,rfl⟩⟩; refine ⟨_,rfl,?_⟩; (try (rw [lQ wc]; generalize hq_ : World.drewN wc _ = wc; have zS : zZ (wc.heap[vI]? = some (.cells #[.int .u8 0,.string (⟨#[]⟩ : ByteArray),.int .i64 0] 61 (0,0))):=⟨by rw [← hq_]; exact (by (with_reducible repeat (first|apply zN|apply zM|apply zR)); exact xZ.out)⟩; have zO : zZ (Below w.heap.size w wc):=⟨by rw [← hq_]; exact (by repeat (first|(with_reducible first|exact HB.out|apply zY|apply zV|apply zU|refine zQ ?_ vH.out)|exact HB.out))⟩; clear xZ HB hq_; have xZ:=zS; have HB:=zO; clear zS zO)); obtain ⟨zSX,zSW,zSV⟩:=kc3 xZ.out; have zKV:=zP xZ.out 0; have zKU:=zP xZ.out 1; have zKT:=zP xZ.out 2))
              refine bodyPost_ret (uT rfl _ _ vI 61 #[.int .u8 0,.string (⟨#[]⟩ : ByteArray),.int .i64 0] (0,0) _ rfl (by (with_reducible repeat (first|apply zN|apply zM|apply zR)); refine zF (cs:=#[.int .u8 0,.string (⟨#[]⟩ : ByteArray),.int .i64 0]) ?_ 2 _ rfl; (with_reducible repeat (first|apply zN|apply zM|apply zR)); refine zF (cs:=#[.int .u8 0,.string (⟨#[]⟩ : ByteArray),.int .i64 0]) ?_ 1 _ rfl; (with_reducible repeat (first|apply zN|apply zM|apply zR)); refine zF (cs:=#[.int .u8 0,.string (⟨#[]⟩ : ByteArray),.int .i64 0]) ?_ 0 _ rfl; (with_reducible repeat (first|apply zN|apply zM|apply zR)); exact xZ.out) Tryd.underlying61 rfl (by kernel_rfl)) rfl ?_
              exact ⟨by first|rfl|(simp [yG,yF] <;> rfl)|(simp [*,yG,yF] <;> rfl),by repeat (first|(with_reducible first|exact HB.out|apply zY|apply zV|apply zU|refine zQ ?_ vH.out)|exact HB.out)⟩
            ·
             rw [if_neg c54] at H
             exact absurd H (by simp)
           ·
            rw [if_neg c53] at H
            exact absurd H (by simp)
          ·
           replace c52:=Bool.eq_false_iff.mpr c52
           subst c52
           have H1 : (if 0 ≤ vX then (if vX ≤ (a0.size : Int) then ((wM.f kj45 (a0.extract 0 (vX : Int).toNat)).bind fun t234 => (if t234 = true then (some (1,a0.extract 0 (vX : Int).toNat,0,vX)) else (some (0,(⟨#[]⟩ : ByteArray),0,0)))) else (none)) else (none)) = some (r1,r2,r3,r4):=by rw [if_neg (show ¬ (false = true) by decide)] at H; exact H
           clear H
           have H:=H1
           clear H1
           by_cases c59 : 0 ≤ vX
           ·
            rw [if_pos c59] at H
            have c59b0:=eq_true c59
            have c59b1 : decide (0 ≤ vX) = true:=decide_eq_true c59
            clear c59
            by_cases c60 : vX ≤ (a0.size : Int)
            ·
             rw [if_pos c60] at H
             have c60b0:=eq_true c60
             have c60b1 : decide (vX ≤ (a0.size : Int)) = true:=decide_eq_true c60
             clear c60
             replace H:=Option.bind_eq_some_iff.mp H
             obtain ⟨t234,A610,H⟩:=H
             replace H : (if t234 = true then (some (1,a0.extract 0 (vX : Int).toNat,0,vX)) else (some (0,(⟨#[]⟩ : ByteArray),0,0))) = some (r1,r2,r3,r4):=H
             have A61:=zZ.mk A610
             clear A610
             by_cases c62 : t234 = true
             ·
              subst c62
              have H1 : (some (1,a0.extract 0 (vX : Int).toNat,0,vX)) = some (r1,r2,r3,r4):=by rw [if_pos rfl] at H; exact H
              clear H
              have H:=H1
              clear H1
              have c63b0:=eq_true (of_decide_eq_true (by first|(with_reducible assumption)|assumption) : 0 ≤ vX)
              have c64b0:=eq_true (of_decide_eq_true (by first|(with_reducible assumption)|assumption) : vX ≤ (a0.size : Int))
              simp only [Option.some.injEq,Prod.mk.injEq] at H
              obtain ⟨rfl,rfl,rfl,rfl⟩:=H
              go_wp2_with (first|((with_reducible refine yD (f:=74) rfl ?_); refine yE (some 88) rfl rfl Tryd.func74 (by kernel_rfl) rfl #[.string (a0.extract 0 (vX : Int).toNat)] rfl (by (try simp only [List.map_toArray,List.map_cons,List.map_nil]); first|done|rfl|(simp only [List.length_drop,List.length_take]; rfl)) ?_; (with_reducible refine (wM.calls kj45 (a0.extract 0 (vX : Int).toNat) true _ A61.out).mono ?_); rintro e w' ⟨rfl,⟨nd,rfl⟩⟩; refine ⟨_,rfl,?_⟩; (try (rw [lQ wc]; generalize hq_ : World.drewN wc _ = wc; have zS : zZ (wc.heap[vI]? = some (.cells #[.int .u8 0,.string (⟨#[]⟩ : ByteArray),.int .i64 0] 61 (0,0))):=⟨by rw [← hq_]; exact (by (with_reducible repeat (first|apply zN|apply zM|apply zR)); exact xZ.out)⟩; have zO : zZ (Below w.heap.size w wc):=⟨by rw [← hq_]; exact (by repeat (first|(with_reducible first|exact HB.out|apply zY|apply zV|apply zU|refine zQ ?_ vH.out)|exact HB.out))⟩; clear xZ HB hq_; have xZ:=zS; have HB:=zO; clear zS zO)); obtain ⟨zKS,zKR,zKQ⟩:=kc3 xZ.out; have zKP:=zP xZ.out 0; have zKO:=zP xZ.out 1; have zKN:=zP xZ.out 2))
              refine bodyPost_ret (uT rfl _ _ vI 61 #[.int .u8 1,.string (a0.extract 0 (vX : Int).toNat),.int .i64 0] (0,0) _ rfl (by (with_reducible repeat (first|apply zN|apply zM|apply zR)); refine zF (cs:=#[.int .u8 1,.string (a0.extract 0 (vX : Int).toNat),.int .i64 0]) ?_ 2 _ rfl; (with_reducible repeat (first|apply zN|apply zM|apply zR)); refine zF (cs:=#[.int .u8 1,.string (⟨#[]⟩ : ByteArray),.int .i64 0]) ?_ 1 _ rfl; (with_reducible repeat (first|apply zN|apply zM|apply zR)); refine zF (cs:=#[.int .u8 0,.string (⟨#[]⟩ : ByteArray),.int .i64 0]) ?_ 0 _ rfl; (with_reducible repeat (first|apply zN|apply zM|apply zR)); exact xZ.out) Tryd.underlying61 rfl (by kernel_rfl)) rfl ?_
              exact ⟨by first|rfl|(simp [yG,yF] <;> rfl)|(simp [*,yG,yF] <;> rfl),by repeat (first|(with_reducible first|exact HB.out|apply zY|apply zV|apply zU|refine zQ ?_ vH.out)|exact HB.out)⟩
             ·
              replace c62:=Bool.eq_false_iff.mpr c62
              subst c62
              have H1 : (some (0,(⟨#[]⟩ : ByteArray),0,0)) = some (r1,r2,r3,r4):=by rw [if_neg (show ¬ (false = true) by decide)] at H; exact H
              clear H
              have H:=H1
              clear H1
              simp only [Option.some.injEq,Prod.mk.injEq] at H
              obtain ⟨rfl,rfl,rfl,rfl⟩:=H
              go_wp2_with (first|((with_reducible refine yD (f:=74) rfl ?_); refine yE (some 88) rfl rfl Tryd.func74 (by kernel_rfl) rfl #[.string (a0.extract 0 (vX : Int).toNat)] rfl (by (try simp only [List.map_toArray,List.map_cons,List.map_nil]); first|done|rfl|(simp only [List.length_drop,List.length_take]; rfl)) ?_; (with_reducible refine (wM.calls kj45 (a0.extract 0 (vX : Int).toNat) false _ A61.out).mono ?_); rintro e w' ⟨rfl,⟨nd,rfl⟩⟩; refine ⟨_,rfl,?_⟩; (try (rw [lQ wc]; generalize hq_ : World.drewN wc _ = wc; have zS : zZ (wc.heap[vI]? = some (.cells #[.int .u8 0,.string (⟨#[]⟩ : ByteArray),.int .i64 0] 61 (0,0))):=⟨by rw [← hq_]; exact (by (with_reducible repeat (first|apply zN|apply zM|apply zR)); exact xZ.out)⟩; have zO : zZ (Below w.heap.size w wc):=⟨by rw [← hq_]; exact (by repeat (first|(with_reducible first|exact HB.out|apply zY|apply zV|apply zU|refine zQ ?_ vH.out)|exact HB.out))⟩; clear xZ HB hq_; have xZ:=zS; have HB:=zO; clear zS zO)); obtain ⟨zSU,zST,zSS⟩:=kc3 xZ.out; have zSR:=zP xZ.out 0; have zSQ:=zP xZ.out 1; have zSP:=zP xZ.out 2))
              refine bodyPost_ret (uT rfl _ _ vI 61 #[.int .u8 0,.string (⟨#[]⟩ : ByteArray),.int .i64 0] (0,0) _ rfl (by (with_reducible repeat (first|apply zN|apply zM|apply zR)); refine zF (cs:=#[.int .u8 0,.string (⟨#[]⟩ : ByteArray),.int .i64 0]) ?_ 2 _ rfl; (with_reducible repeat (first|apply zN|apply zM|apply zR)); refine zF (cs:=#[.int .u8 0,.string (⟨#[]⟩ : ByteArray),.int .i64 0]) ?_ 1 _ rfl; (with_reducible repeat (first|apply zN|apply zM|apply zR)); refine zF (cs:=#[.int .u8 0,.string (⟨#[]⟩ : ByteArray),.int .i64 0]) ?_ 0 _ rfl; (with_reducible repeat (first|apply zN|apply zM|apply zR)); exact xZ.out) Tryd.underlying61 rfl (by kernel_rfl)) rfl ?_
              exact ⟨by first|rfl|(simp [yG,yF] <;> rfl)|(simp [*,yG,yF] <;> rfl),by repeat (first|(with_reducible first|exact HB.out|apply zY|apply zV|apply zU|refine zQ ?_ vH.out)|exact HB.out)⟩
            ·
             rw [if_neg c60] at H
             exact absurd H (by simp)
           ·
            rw [if_neg c59] at H
            exact absurd H (by simp)
 ·
  rw [if_neg c2] at H
  exact absurd H (by simp)
end Go.Proofs.YtjeofffddbibeaaDoor.PParseTells
end

section
namespace Go.Proofs.YtjeofffddbibeaaDoor.PParseTells
open Go.RowKit YtjeofffddbibeaaDoorW.PrintWords YtjeofffddbibeaaDoorW.PrintLast YtjeofffddbibeaaDoorW.PrintMore
attribute [local go_sem] tH tM tG tL tK tJ tN tI
mutual
def vT.l0 : Nat → ByteArray → List (S61) → Int → Option ((List (S61)) × Int)
 | 0,_,_,_ => none
 | k + 1,x0,x4,x5 => if x5 < (x0.size : Int) then (if 0 ≤ x5 then (if (bt x0 x5) = 32 then (vT.j1 k x0 x4 x5 true) else (vT.j1 k x0 x4 x5 ((bt x0 x5) == 9))) else (none)) else (some (x4,(-1)))
def vT.j1 : Nat → ByteArray → List (S61) → Int → Bool → Option ((List (S61)) × Int)
 | 0,_,_,_,_ => none
 | k + 1,x0,x4,x5,x21 => if x21 = true then (vT.l0 k x0 x4 (wrap64 (x5 + 1))) else (if 0 ≤ x5 then (if x5 ≤ (x0.size : Int) then ((wQ.f k (x0.extract (x5 : Int).toNat x0.size)).bind fun bt235 => (if bt235.2.2.2 = 0 then (some (([] : List (S61)),x5)) else (if x4.length < 4398046511104 then (vT.l0 k x0 (x4 ++ [(⟨bt235.1,bt235.2.1,bt235.2.2.1⟩ : S61)]) (wrap64 (x5 + bt235.2.2.2))) else (none)))) else (none)) else (none))
end
def vT.f (k : Nat) (a0 : ByteArray) : Option ((List (S61)) × Int):=vT.l0 k a0 ([] : List (S61)) 0
set_option maxHeartbeats 8000000 in
set_option maxRecDepth 100000 in
theorem vT.calls (k : Nat) (a0 : ByteArray) (r1 : List (S61)) (r2 : Int) (w : World) (h : vT.f k a0 = some (r1,r2)) :
  Calls Tryd.prog 78 #[.string a0] w fun e w' => ∃ v0_ : Value,e = .returned (.tuple #[v0_,.int .i64 r2]) ∧ Kd.R k61 61 w' w.heap.size (fun _ => True) v0_ r1 ∧ Below w.heap.size w w':=by
 have hu61:=Tryd.underlying61
 have HB:=zZ.mk (Below.refl w.heap.size w)
 have H : (vT.l0 k a0 ([] : List (S61)) 0) = some (r1,r2):=h
 clear h
 have H':=zZ.mk H
 clear H
 go_enter Tryd.func78,Tryd.ntmps78
 go_wp2
 go_loopg [4,5] k (fun kq v4 v5 w' => ∃ (zD : List (S61)) (yK : Int),v5 = .int .i64 yK ∧ zZ (vT.l0 kq a0 zD yK = some (r1,r2)) ∧ zZ (kq ≤ k) ∧ zZ (Kd.R k61 61 w' w.heap.size (fun _ => True) v4 zD) ∧ zZ (Below w.heap.size w w'))
 case atStart => exact ⟨(([] : List (S61))),(0),(by first|rfl|(simp;done)|(simp [*];done)),H',⟨Nat.le_refl _⟩,⟨by first|exact Kd.R_nil _ _ _ _ _|exact Kd.N_nil _ _ _ _ _|exact Kd.V_nil _ _ _ _ _|exact Kd.Q_nil _ _ _ _ _|exact Kd.S_nil _ _ _ _ _⟩,⟨by repeat (first|(with_reducible first|exact HB.out|apply zY|apply zV|apply zU)|exact HB.out)⟩⟩
 case round =>
  clear H'
  obtain ⟨zD,yK,rfl,HA,HK1,HO_4,HB⟩:=hrel
  cases gk with
  | zero => exact absurd HA.out (by simp [vT.l0])
  | succ k1 =>
   have H:=HA.out
   clear HA
   simp only [vT.l0] at H
   by_cases c2 : yK < (a0.size : Int)
   ·
    rw [if_pos c2] at H
    have c2b0 : decide (yK < (a0.size : Int)) = true:=decide_eq_true c2
    clear c2
    have HC3:=zZ.mk H
    clear H
    go_upto_region 4 with (fail)
    go_cut [21] (fun v21 wc => ∃ (kq : Nat) (dC : Bool),v21 = .bool dC ∧ zZ (vT.j1 kq a0 zD yK dC = some (r1,r2)) ∧ zZ (kq ≤ k1) ∧ zZ (Kd.R k61 61 wc w.heap.size (fun _ => True) u4 zD) ∧ zZ (Below w.heap.size w wc))
    case first =>
     have H:=HC3.out
     clear HC3
     by_cases c4 : 0 ≤ yK
     ·
      rw [if_pos c4] at H
      have c4b0 : decide (0 ≤ yK) = true:=decide_eq_true c4
      clear c4
      (first|rw [c4b0]|(simp only [yV,yU]; rw [c4b0])|skip)
      by_cases c6 : (bt a0 yK) = 32
      ·
       rw [if_pos c6] at H
       have c6b0 : ((bt a0 yK) == 32) = true:=beq_iff_eq.mpr c6
       have c6b1 : ((bt a0 yK) != 32) = false:=bne_eq_false_iff_eq.mpr c6
       clear c6
       have H':=zZ.mk H
       clear H
       have p5 : 0 ≤ (yK : Int):=of_decide_eq_true (by first|(with_reducible assumption)|assumption)
       have q5 : yK < (a0.size : Int):=of_decide_eq_true (by first|(with_reducible assumption)|assumption)
       have hx5:=xG a0 yK
       replace p5:=eq_true p5
       replace q5:=eq_true q5
       go_wp2
       go_meet
       case rel => exact ⟨_,(true),(by first|rfl|(simp;done)|(simp [*];done)),H',⟨by have:=HK1.out; first|omega|exact Nat.le_refl _⟩,⟨by (with_reducible repeat (first|apply Kd.R_alloc|apply Kd.R_drewN|apply Kd.R_drew)); exact HO_4.out⟩,⟨by repeat (first|(with_reducible first|exact HB.out|apply zY|apply zV|apply zU)|exact HB.out)⟩⟩
      ·
       rw [if_neg c6] at H
       have c6b0 : ((bt a0 yK) == 32) = false:=beq_eq_false_iff_ne.mpr c6
       have c6b1 : ((bt a0 yK) != 32) = true:=bne_iff_ne.mpr c6
       have H':=zZ.mk H
       clear H
       have p5 : 0 ≤ (yK : Int):=of_decide_eq_true (by first|(with_reducible assumption)|assumption)
       have q5 : yK < (a0.size : Int):=of_decide_eq_true (by first|(with_reducible assumption)|assumption)
       have hx5:=xG a0 yK
       replace p5:=eq_true p5
       replace q5:=eq_true q5
       have p7 : 0 ≤ (yK : Int):=of_decide_eq_true (by first|(with_reducible assumption)|assumption)
       have q7 : yK < (a0.size : Int):=of_decide_eq_true (by first|(with_reducible assumption)|assumption)
       have hx7:=xG a0 yK
       replace p7:=eq_true p7
       replace q7:=eq_true q7
       go_wp2
       go_meet
       case rel => exact ⟨_,(((bt a0 yK) == 9)),(by first|rfl|(simp;done)|(simp [*];done)),H',⟨by have:=HK1.out; first|omega|exact Nat.le_refl _⟩,⟨by (with_reducible repeat (first|apply Kd.R_alloc|apply Kd.R_drewN|apply Kd.R_drew)); exact HO_4.out⟩,⟨by repeat (first|(with_reducible first|exact HB.out|apply zY|apply zV|apply zU)|exact HB.out)⟩⟩
     ·
      rw [if_neg c4] at H
      exact absurd H (by simp)
    case rest =>
     clear HC3
     try clear c2
     try clear c2b0
     try clear p2
     try clear c4
     try clear c4b0
     try clear p5 p5
     try clear q5 q5
     try clear hx5
     try clear c6
     try clear c6b0
     try clear c6b1
     try clear c7
     try clear p7 p7
     try clear q7 q7
     try clear hx7
     obtain ⟨kq,dC,rfl,HA,HJ2,HO_4,HB⟩:=hcut
     cases kq with
     | zero => exact absurd HA.out (by simp [vT.j1])
     | succ kj2 =>
      have H:=HA.out
      clear HA
      simp only [vT.j1] at H
      by_cases c8 : dC = true
      ·
       subst c8
       have H1 : (vT.l0 kj2 a0 zD (wrap64 (yK + 1))) = some (r1,r2):=by rw [if_pos rfl] at H; exact H
       clear H
       have H:=H1
       clear H1
       have H':=zZ.mk H
       clear H
       go_wp2
       go_roundg kj2
       case measure => have:=HK1.out; have:=HJ2.out; omega
       case rel => exact ⟨(zD),(wrap64 (yK + 1)),(by first|rfl|(simp;done)|(simp [*];done)),H',⟨by have:=HK1.out; have:=HJ2.out; omega⟩,⟨by (with_reducible repeat (first|apply Kd.R_alloc|apply Kd.R_drewN|apply Kd.R_drew)); exact HO_4.out⟩,⟨by repeat (first|(with_reducible first|exact HB.out|apply zY|apply zV|apply zU)|exact HB.out)⟩⟩
      ·
       replace c8:=Bool.eq_false_iff.mpr c8
       subst c8
       have H1 : (if 0 ≤ yK then (if yK ≤ (a0.size : Int) then ((wQ.f kj2 (a0.extract (yK : Int).toNat a0.size)).bind fun bt235 => (if bt235.2.2.2 = 0 then (some (([] : List (S61)),yK)) else (if zD.length < 4398046511104 then (vT.l0 kj2 a0 (zD ++ [(⟨bt235.1,bt235.2.1,bt235.2.2.1⟩ : S61)]) (wrap64 (yK + bt235.2.2.2))) else (none)))) else (none)) else (none)) = some (r1,r2):=by rw [if_neg (show ¬ (false = true) by decide)] at H; exact H
       clear H
       have H:=H1
       clear H1
       by_cases c9 : 0 ≤ yK
       ·
        rw [if_pos c9] at H
        have c9b0:=eq_true c9
        have c9b1 : decide (0 ≤ yK) = true:=decide_eq_true c9
        clear c9
        by_cases c10 : yK ≤ (a0.size : Int)
        ·
         rw [if_pos c10] at H
         have c10b0:=eq_true c10
         have c10b1 : decide (yK ≤ (a0.size : Int)) = true:=decide_eq_true c10
         clear c10
         replace H:=Option.bind_eq_some_iff.mp H
         obtain ⟨⟨t235,t236,t237,t238⟩,A110,H⟩:=H
         replace H : (if t238 = 0 then (some (([] : List (S61)),yK)) else (if zD.length < 4398046511104 then (vT.l0 kj2 a0 (zD ++ [(⟨t235,t236,t237⟩ : S61)]) (wrap64 (yK + t238))) else (none))) = some (r1,r2):=H
         have A11:=zZ.mk A110
         clear A110
         by_cases c12 : t238 = 0
         ·
          rw [if_pos c12] at H
          have c12b0 : (t238 == 0) = true:=beq_iff_eq.mpr c12
          have c12b1 : (t238 != 0) = false:=bne_eq_false_iff_eq.mpr c12
          clear c12
          simp only [Option.some.injEq,Prod.mk.injEq] at H
          obtain ⟨rfl,rfl⟩:=H
          go_wp2_with (first|((with_reducible refine yD (f:=92) rfl ?_); refine yE (some 28) rfl rfl Tryd.func92 (by kernel_rfl) rfl #[.string (a0.extract (yK : Int).toNat a0.size)] rfl (by (try simp only [List.map_toArray,List.map_cons,List.map_nil]); first|done|rfl|(simp only [List.length_drop,List.length_take]; rfl)) ?_; (with_reducible refine (wQ.calls kj2 (a0.extract (yK : Int).toNat a0.size) t235 t236 t237 t238 _ A11.out).mono ?_); rintro e w13 ⟨rfl,hb⟩; refine ⟨_,rfl,?_⟩; have zS:=zZ.mk (Kd.R_below (by (with_reducible repeat (first|apply Kd.R_alloc|apply Kd.R_drewN|apply Kd.R_drew)); exact HO_4.out) hb); have zO:=zZ.mk (xW (by repeat (first|(with_reducible first|exact HB.out|apply zY|apply zV|apply zU)|exact HB.out)) hb); clear HO_4; clear HB; have HO_4:=zS; have HB:=zO; clear zS zO; (try clear hb); (try clear hb2); (try clear hk); (try clear hi))|((with_reducible refine uU (N:=6) rfl ?_); refine tY ?hg (N:=6) ?hd (cs:=#[.int .u8 0,.string (⟨#[]⟩ : ByteArray),.int .i64 0]) (t:=61) ?hr ?_; (case hd => rfl); (case hg => rfl); (case hr => first|(go_simp; done)|(go_simp; rfl)); intro rU hg w14 hbox hb; have zS:=zZ.mk (Kd.R_below (Kd.R_elderB (by (with_reducible repeat (first|apply Kd.R_alloc|apply Kd.R_drewN|apply Kd.R_drew)); exact HO_4.out) rU (Nat.le_of_eq hg.symm)) hb); have zO:=zZ.mk (xW (by repeat (first|(with_reducible first|exact HB.out|apply zY|apply zV|apply zU)|exact HB.out)) hb); have zI:=zZ.mk (hbox); have xV:=zZ.mk ((by rw [hg]; exact (xS (by repeat (first|(with_reducible first|exact HB.out|apply zY|apply zV|apply zU)|exact HB.out))) : w.heap.size ≤ rU)); have sU:=zZ.mk ((by rw [hg]; exact (xS (by repeat (first|(with_reducible first|exact HB.out|apply zY|apply zV|apply zU)|exact HB.out))) : w.heap.size ≤ rU)); clear HO_4; clear HB; have HO_4:=zS; have HB:=zO; have rH:=zI; have zSO:=xV; have gF:=sU; clear zS zO zI xV sU; clear hb hbox hg; obtain ⟨pD,pC,pB⟩:=kc3 rH.out; have zKM:=zP rH.out 0; have zKL:=zP rH.out 1; have zKK:=zP rH.out 2))
          go_ret2
          exact ⟨_,by first|rfl|(simp [yG,yF] <;> rfl)|(simp [*,yG,yF] <;> rfl),by first|exact Kd.R_nil _ _ _ _ _|exact Kd.N_nil _ _ _ _ _|exact Kd.V_nil _ _ _ _ _|exact Kd.Q_nil _ _ _ _ _|exact Kd.S_nil _ _ _ _ _,by repeat (first|(with_reducible first|exact HB.out|apply zY|apply zV|apply zU|refine zQ ?_ gF.out)|exact HB.out)⟩
         ·
          rw [if_neg c12] at H
          have c12b0 : (t238 == 0) = false:=beq_eq_false_iff_ne.mpr c12
          have c12b1 : (t238 != 0) = true:=bne_iff_ne.mpr c12
          by_cases c16 : zD.length < 4398046511104
          ·
           rw [if_pos c16] at H
           have LMc16:=zZ.mk c16
           clear c16
           obtain ⟨y240,hy240⟩ : ∃ y_ : List (S61),y_ = (zD ++ [(⟨t235,t236,t237⟩ : S61)]):=⟨_,rfl⟩
           replace H : (vT.l0 kj2 a0 y240 (wrap64 (yK + t238))) = some (r1,r2):=by first|(rw [hy240]; with_reducible exact H)|(have yA:=(Option.bind_some _ _).symm.trans H; rw [hy240]; with_reducible exact yA)|(have yA:=(Option.bind_some _ _).symm.trans H; with_reducible exact yA)|with_reducible exact H|(rw [hy240]; exact H)|exact H
           have Ny240:=zZ.mk hy240
           clear hy240
           have H':=zZ.mk H
           clear H
           go_wp2_with (first|((with_reducible refine yD (f:=92) rfl ?_); refine yE (some 28) rfl rfl Tryd.func92 (by kernel_rfl) rfl #[.string (a0.extract (yK : Int).toNat a0.size)] rfl (by (try simp only [List.map_toArray,List.map_cons,List.map_nil]); first|done|rfl|(simp only [List.length_drop,List.length_take]; rfl)) ?_; (with_reducible refine (wQ.calls kj2 (a0.extract (yK : Int).toNat a0.size) t235 t236 t237 t238 _ A11.out).mono ?_); rintro e w17 ⟨rfl,hb⟩; refine ⟨_,rfl,?_⟩; have zS:=zZ.mk (Kd.R_below (by (with_reducible repeat (first|apply Kd.R_alloc|apply Kd.R_drewN|apply Kd.R_drew)); exact HO_4.out) hb); have zO:=zZ.mk (xW (by repeat (first|(with_reducible first|exact HB.out|apply zY|apply zV|apply zU)|exact HB.out)) hb); clear HO_4; clear HB; have HO_4:=zS; have HB:=zO; clear zS zO; (try clear hb); (try clear hb2); (try clear hk); (try clear hi))|((with_reducible refine uU (N:=6) rfl ?_); refine tY ?hg (N:=6) ?hd (cs:=#[.int .u8 0,.string (⟨#[]⟩ : ByteArray),.int .i64 0]) (t:=61) ?hr ?_; (case hd => rfl); (case hg => rfl); (case hr => first|(go_simp; done)|(go_simp; rfl)); intro rU hg w18 hbox hb; have zS:=zZ.mk (Kd.R_below (Kd.R_elderB (by (with_reducible repeat (first|apply Kd.R_alloc|apply Kd.R_drewN|apply Kd.R_drew)); exact HO_4.out) rU (Nat.le_of_eq hg.symm)) hb); have zO:=zZ.mk (xW (by repeat (first|(with_reducible first|exact HB.out|apply zY|apply zV|apply zU)|exact HB.out)) hb); have zI:=zZ.mk (hbox); have xV:=zZ.mk ((by rw [hg]; exact (xS (by repeat (first|(with_reducible first|exact HB.out|apply zY|apply zV|apply zU)|exact HB.out))) : w.heap.size ≤ rU)); have sU:=zZ.mk ((by rw [hg]; exact (xS (by repeat (first|(with_reducible first|exact HB.out|apply zY|apply zV|apply zU)|exact HB.out))) : w.heap.size ≤ rU)); clear HO_4; clear HB; have HO_4:=zS; have HB:=zO; have rH:=zI; have zSO:=xV; have gF:=sU; clear zS zO zI xV sU; clear hb hbox hg; obtain ⟨pA,oZ,oY⟩:=kc3 rH.out; have zVR:=zP rH.out 0; have zVQ:=zP rH.out 1; have zVP:=zP rH.out 2)|((with_reducible refine uX (b:=.append) (xs:=#[.tmp 34,.tmp 36]) rfl ?_); at_builtin; refine Kd.R_append k61 (w0:=w) w.heap.size rfl (.tmp 34) (.tmp 36) 43 61 (.agg #[(.int .u8 0),(.string ⟨#[]⟩),(.int .i64 0)]) 32 rfl Tryd.underlying43 info61 rfl (by decide) (by omega) u4 zD (⟨t235,t236,t237⟩ : S61) [.int .u8 t235,.string t236,.int .i64 t237] (fun k_ => k_ ≠ rU) (fun _ => False) rfl (by first|(go_simp; done)|(go_simp; rfl)) ?aP (fun _ hk => hk.elim) ?aF ?aO ?aB ?aS ?aL ?_; (case aP => exact uE _ _ _ (⟨t235,t236,t237⟩ : S61)); (case aB => exact (by repeat (first|(with_reducible first|exact HB.out|apply zY|apply zV|apply zU|refine zQ ?_ gF.out)|exact HB.out))); (case aF => exact (fun k_ hk => Kd.freshB (g:=rU) (o:=.cells #[.int .u8 t235,.string t236,.int .i64 t237] 61 (0,0)) (by (with_reducible repeat (first|apply zN|apply zM|apply zR)); refine zF (cs:=#[.int .u8 t235,.string t236,.int .i64 0]) ?_ 2 _ rfl; (with_reducible repeat (first|apply zN|apply zM|apply zR)); refine zF (cs:=#[.int .u8 t235,.string (⟨#[]⟩ : ByteArray),.int .i64 0]) ?_ 1 _ rfl; (with_reducible repeat (first|apply zN|apply zM|apply zR)); refine zF (cs:=#[.int .u8 0,.string (⟨#[]⟩ : ByteArray),.int .i64 0]) ?_ 0 _ rfl; (with_reducible repeat (first|apply zN|apply zM|apply zR)); exact rH.out) k_ hk)); (case aO => exact (by (with_reducible repeat (first|apply Kd.R_alloc|apply Kd.R_drewN|apply Kd.R_drew)); exact Kd.R_mono (Kd.R_far (p:=⟨rU,2,none⟩) (Kd.R_far (p:=⟨rU,1,none⟩) (Kd.R_far (p:=⟨rU,0,none⟩) (Kd.R_mono HO_4.out (fun k_ hk => (⟨hk,hk.2⟩ : _ ∧ k_ ≠ rU))) (fun _ hk => hk.2) (.int .u8 t235)) (fun _ hk => hk.2) (.string t236)) (fun _ hk => hk.2) (.int .i64 t237)) (fun _ hk => hk.1.2))); (case aS => exact (xS (by repeat (first|(with_reducible first|exact HB.out|apply zY|apply zV|apply zU|refine zQ ?_ gF.out)|exact HB.out)))); (case aL => have:=LMc16.out; omega); intro v241 w20 ho hb hg hat; rw [← Ny240.out] at ho; have zS:=zZ.mk (tC (g:=rU) (o:=.cells #[.int .u8 t235,.string t236,.int .i64 t237] 61 (0,0)) (by (with_reducible repeat (first|apply zN|apply zM|apply zR)); refine zF (cs:=#[.int .u8 t235,.string t236,.int .i64 0]) ?_ 2 _ rfl; (with_reducible repeat (first|apply zN|apply zM|apply zR)); refine zF (cs:=#[.int .u8 t235,.string (⟨#[]⟩ : ByteArray),.int .i64 0]) ?_ 1 _ rfl; (with_reducible repeat (first|apply zN|apply zM|apply zR)); refine zF (cs:=#[.int .u8 0,.string (⟨#[]⟩ : ByteArray),.int .i64 0]) ?_ 0 _ rfl; (with_reducible repeat (first|apply zN|apply zM|apply zR)); exact rH.out) hg (Kd.R_away HO_4.out (fun _ hk => hk.2))); have zO:=zZ.mk (hb); have zI:=zZ.mk (ho); clear rH; clear HB; clear HO_4; have rH:=zS; have HB:=zO; have HO242:=zI; clear zS zO zI; clear ho hb hg hat))
           go_roundg kj2
           case measure => have:=HK1.out; have:=HJ2.out; omega
           case rel => exact ⟨(y240),(wrap64 (yK + t238)),(by first|rfl|(simp;done)|(simp [*];done)),H',⟨by have:=HK1.out; have:=HJ2.out; omega⟩,⟨by (with_reducible repeat (first|apply Kd.R_alloc|apply Kd.R_drewN|apply Kd.R_drew)); exact Kd.R_mono HO242.out (fun _ hk => trivial)⟩,⟨by repeat (first|(with_reducible first|exact HB.out|apply zY|apply zV|apply zU|refine zQ ?_ gF.out)|exact HB.out)⟩⟩
          ·
           rw [if_neg c16] at H
           exact absurd H (by simp)
        ·
         rw [if_neg c10] at H
         exact absurd H (by simp)
       ·
        rw [if_neg c9] at H
        exact absurd H (by simp)
   ·
    rw [if_neg c2] at H
    have c2b0 : decide (yK < (a0.size : Int)) = false:=decide_eq_false c2
    clear c2
    simp only [Option.some.injEq,Prod.mk.injEq] at H
    obtain ⟨rfl,rfl⟩:=H
    go_wp2
    go_ret2
    exact ⟨_,by first|rfl|(simp [yG,yF] <;> rfl)|(simp [*,yG,yF] <;> rfl),by (with_reducible repeat (first|apply Kd.R_alloc|apply Kd.R_drewN|apply Kd.R_drew)); exact HO_4.out,by repeat (first|(with_reducible first|exact HB.out|apply zY|apply zV|apply zU)|exact HB.out)⟩
def oN.f  : Option (List ByteArray):=some (([(⟨#[]⟩ : ByteArray),(⟨#[103,114,111,117,112]⟩ : ByteArray),(⟨#[115,104,105,102,116]⟩ : ByteArray),(⟨#[115,117,98,115,101,116]⟩ : ByteArray),(⟨#[97,108,116,101,114]⟩ : ByteArray),(⟨#[99,111,109,98,105,110,101]⟩ : ByteArray),(⟨#[97,110,99,104,111,114]⟩ : ByteArray),(⟨#[100,111,119,110]⟩ : ByteArray),(⟨#[117,112]⟩ : ByteArray),(⟨#[109,101,101,116]⟩ : ByteArray),(⟨#[117,110,105,111,110]⟩ : ByteArray),(⟨#[99,117,116]⟩ : ByteArray),(⟨#[108,101,115,115]⟩ : ByteArray)] : List ByteArray))
set_option maxHeartbeats 8000000 in
set_option maxRecDepth 100000 in
theorem oN.calls  (r : List ByteArray) (w : World) (h : oN.f  = some r) :
  Calls Tryd.prog 62 #[] w fun e w' => ∃ v0_ : Value,e = .returned (v0_) ∧ Kd.R Kd.string 9 w' w.heap.size (fun _ => True) v0_ r ∧ Below w.heap.size w w':=by
 have HB:=zZ.mk (Below.refl w.heap.size w)
 have H : (some (([(⟨#[]⟩ : ByteArray),(⟨#[103,114,111,117,112]⟩ : ByteArray),(⟨#[115,104,105,102,116]⟩ : ByteArray),(⟨#[115,117,98,115,101,116]⟩ : ByteArray),(⟨#[97,108,116,101,114]⟩ : ByteArray),(⟨#[99,111,109,98,105,110,101]⟩ : ByteArray),(⟨#[97,110,99,104,111,114]⟩ : ByteArray),(⟨#[100,111,119,110]⟩ : ByteArray),(⟨#[117,112]⟩ : ByteArray),(⟨#[109,101,101,116]⟩ : ByteArray),(⟨#[117,110,105,111,110]⟩ : ByteArray),(⟨#[99,117,116]⟩ : ByteArray),(⟨#[108,101,115,115]⟩ : ByteArray)] : List ByteArray))) = some r:=h
 clear h
 obtain ⟨y272,hy272⟩ : ∃ y_ : List ByteArray,y_ = (([(⟨#[]⟩ : ByteArray),(⟨#[103,114,111,117,112]⟩ : ByteArray),(⟨#[115,104,105,102,116]⟩ : ByteArray),(⟨#[115,117,98,115,101,116]⟩ : ByteArray),(⟨#[97,108,116,101,114]⟩ : ByteArray),(⟨#[99,111,109,98,105,110,101]⟩ : ByteArray),(⟨#[97,110,99,104,111,114]⟩ : ByteArray),(⟨#[100,111,119,110]⟩ : ByteArray),(⟨#[117,112]⟩ : ByteArray),(⟨#[109,101,101,116]⟩ : ByteArray),(⟨#[117,110,105,111,110]⟩ : ByteArray),(⟨#[99,117,116]⟩ : ByteArray),(⟨#[108,101,115,115]⟩ : ByteArray)] : List ByteArray)):=⟨_,rfl⟩
 replace H : (some y272) = some r:=by first|(rw [hy272]; with_reducible exact H)|(have yA:=(Option.bind_some _ _).symm.trans H; rw [hy272]; with_reducible exact yA)|(have yA:=(Option.bind_some _ _).symm.trans H; with_reducible exact yA)|with_reducible exact H|(rw [hy272]; exact H)|exact H
 have Ny272:=zZ.mk hy272
 clear hy272
 obtain rfl:=Option.some.inj H
 go_enter Tryd.func62,Tryd.ntmps62
 go_wp2_with (first|((with_reducible refine uU (N:=1) rfl ?_); refine Kd.R_lit Kd.string _ 9 ?hg (N:=1) ?hd (xs:=([(⟨#[]⟩ : ByteArray),(⟨#[103,114,111,117,112]⟩ : ByteArray),(⟨#[115,104,105,102,116]⟩ : ByteArray),(⟨#[115,117,98,115,101,116]⟩ : ByteArray),(⟨#[97,108,116,101,114]⟩ : ByteArray),(⟨#[99,111,109,98,105,110,101]⟩ : ByteArray),(⟨#[97,110,99,104,111,114]⟩ : ByteArray),(⟨#[100,111,119,110]⟩ : ByteArray),(⟨#[117,112]⟩ : ByteArray),(⟨#[109,101,101,116]⟩ : ByteArray),(⟨#[117,110,105,111,110]⟩ : ByteArray),(⟨#[99,117,116]⟩ : ByteArray),(⟨#[108,101,115,115]⟩ : ByteArray)] : List ByteArray)) (inner:=[.string (⟨#[]⟩ : ByteArray),.string (⟨#[103,114,111,117,112]⟩ : ByteArray),.string (⟨#[115,104,105,102,116]⟩ : ByteArray),.string (⟨#[115,117,98,115,101,116]⟩ : ByteArray),.string (⟨#[97,108,116,101,114]⟩ : ByteArray),.string (⟨#[99,111,109,98,105,110,101]⟩ : ByteArray),.string (⟨#[97,110,99,104,111,114]⟩ : ByteArray),.string (⟨#[100,111,119,110]⟩ : ByteArray),.string (⟨#[117,112]⟩ : ByteArray),.string (⟨#[109,101,101,116]⟩ : ByteArray),.string (⟨#[117,110,105,111,110]⟩ : ByteArray),.string (⟨#[99,117,116]⟩ : ByteArray),.string (⟨#[108,101,115,115]⟩ : ByteArray)]) (ok:=fun _ => True) (okp:=fun _ => True) ?hr ?hp (fun _ hk => hk) trivial (Below.refl _ _) (Nat.le_refl _) (by simp) ?_; (case hd => rfl); (case hg => rfl); (case hr => first|(go_simp; done)|(go_simp; rfl)); (case hp => exact (Reps.one (show Kd.M Kd.string _ _ _ (⟨#[]⟩ : ByteArray) [.string (⟨#[]⟩ : ByteArray)] from rfl) (Reps.one (show Kd.M Kd.string _ _ _ (⟨#[103,114,111,117,112]⟩ : ByteArray) [.string (⟨#[103,114,111,117,112]⟩ : ByteArray)] from rfl) (Reps.one (show Kd.M Kd.string _ _ _ (⟨#[115,104,105,102,116]⟩ : ByteArray) [.string (⟨#[115,104,105,102,116]⟩ : ByteArray)] from rfl) (Reps.one (show Kd.M Kd.string _ _ _ (⟨#[115,117,98,115,101,116]⟩ : ByteArray) [.string (⟨#[115,117,98,115,101,116]⟩ : ByteArray)] from rfl) (Reps.one (show Kd.M Kd.string _ _ _ (⟨#[97,108,116,101,114]⟩ : ByteArray) [.string (⟨#[97,108,116,101,114]⟩ : ByteArray)] from rfl) (Reps.one (show Kd.M Kd.string _ _ _ (⟨#[99,111,109,98,105,110,101]⟩ : ByteArray) [.string (⟨#[99,111,109,98,105,110,101]⟩ : ByteArray)] from rfl) (Reps.one (show Kd.M Kd.string _ _ _ (⟨#[97,110,99,104,111,114]⟩ : ByteArray) [.string (⟨#[97,110,99,104,111,114]⟩ : ByteArray)] from rfl) (Reps.one (show Kd.M Kd.string _ _ _ (⟨#[100,111,119,110]⟩ : ByteArray) [.string (⟨#[100,111,119,110]⟩ : ByteArray)] from rfl) (Reps.one (show Kd.M Kd.string _ _ _ (⟨#[117,112]⟩ : ByteArray) [.string (⟨#[117,112]⟩ : ByteArray)] from rfl) (Reps.one (show Kd.M Kd.string _ _ _ (⟨#[109,101,101,116]⟩ : ByteArray) [.string (⟨#[109,101,101,116]⟩ : ByteArray)] from rfl) (Reps.one (show Kd.M Kd.string _ _ _ (⟨#[117,110,105,111,110]⟩ : ByteArray) [.string (⟨#[117,110,105,111,110]⟩ : ByteArray)] from rfl) (Reps.one (show Kd.M Kd.string _ _ _ (⟨#[99,117,116]⟩ : ByteArray) [.string (⟨#[99,117,116]⟩ : ByteArray)] from rfl) (Reps.one (show Kd.M Kd.string _ _ _ (⟨#[108,101,115,115]⟩ : ByteArray) [.string (⟨#[108,101,115,115]⟩ : ByteArray)] from rfl) (Reps.none _ _))))))))))))))); intro v273 w1 ho2 hb hg_ hnew_; clear hg_ hnew_; (first|rw [← Ny272.out] at ho2|(simp only [Int.reduceToNat] at ho2; rw [← Ny272.out] at ho2)); have zS:=zZ.mk (Kd.R_lower ho2 (xS (by repeat (first|(with_reducible first|exact HB.out|apply zY|apply zV|apply zU)|exact HB.out)))); have zO:=zZ.mk (xW (by repeat (first|(with_reducible first|exact HB.out|apply zY|apply zV|apply zU)|exact HB.out)) hb); clear HB; have HO274:=zS; have HB:=zO; clear zS zO; clear hb ho2))
 go_ret
 exact ⟨_,by first|rfl|(simp [yG,yF] <;> rfl)|(simp [*,yG,yF] <;> rfl),by (with_reducible repeat (first|apply Kd.R_alloc|apply Kd.R_drewN|apply Kd.R_drew)); exact HO274.out,by repeat (first|(with_reducible first|exact HB.out|apply zY|apply zV|apply zU)|exact HB.out)⟩
end Go.Proofs.YtjeofffddbibeaaDoor.PParseTells
end
