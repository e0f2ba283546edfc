/-
 Part 5 of what the row stands on,put together by a program: PPar11,ExprT,PQr,PdQ,Bkp,PdA,ParL,PPar12,PPar13,RdP,PParseTellsx1.
-/
import Derived.Laws.RangeAny
import Derived.Test.YtjeofffddbibeaaDoorPmD
set_option linter.unusedVariables false
set_option linter.unusedSimpArgs false
section
namespace Go.Proofs.YtjeofffddbibeaaDoor.PParseTells
open Go.RowKit YtjeofffddbibeaaDoorW.PrintWords YtjeofffddbibeaaDoorW.PrintLast YtjeofffddbibeaaDoorW.PrintMore
attribute [local go_sem] tH tM tG tL tK tJ tN tI
mutual
def wS.j0 : Nat → ByteArray → Bool → Option (ByteArray × Bool)
 | 0,_,_ => none
 | k + 1,x4,x7 => if x7 = true then (some ((⟨#[110]⟩ : ByteArray),true)) else (if x4.toList = ([101,120,116,101,110,116] : List UInt8) then (wS.j1 k x4 (x4.toList == ([101,120,116,101,110,116] : List UInt8))) else (if x4.toList = ([103,114,97,110,117,108,101] : List UInt8) then (wS.j1 k x4 (x4.toList == ([103,114,97,110,117,108,101] : List UInt8))) else (if x4.toList = ([110,101,120,116] : List UInt8) then (wS.j1 k x4 (x4.toList == ([110,101,120,116] : List UInt8))) else (if x4.toList = ([112,114,101,118] : List UInt8) then (wS.j1 k x4 (x4.toList == ([112,114,101,118] : List UInt8))) else (wS.j1 k x4 (x4.toList == ([115,112,97,110] : List UInt8)))))))
def wS.j1 : Nat → ByteArray → Bool → Option (ByteArray × Bool)
 | 0,_,_ => none
 | k + 1,x4,x12 => if x12 = true then (some ((⟨#[110,105]⟩ : ByteArray),true)) else (if x4.toList = ([114,101,108] : List UInt8) then (some ((⟨#[110,110]⟩ : ByteArray),true)) else (if x4.toList = ([99,111,118,101,114] : List UInt8) then (some ((⟨#[110,110,105]⟩ : ByteArray),true)) else (if x4.toList = ([98,111,117,110,100] : List UInt8) then (some ((⟨#[110,110,110,114]⟩ : ByteArray),true)) else (if x4.toList = ([100,97,116,101] : List UInt8) then (some ((⟨#[105]⟩ : ByteArray),true)) else (if x4.toList = ([115,111,108,118,101] : List UInt8) then (some ((⟨#[105,105,105]⟩ : ByteArray),true)) else (if x4.toList = ([110,101,116] : List UInt8) then (some ((⟨#[]⟩ : ByteArray),true)) else (if x4.toList = ([105,110,102,101,114] : List UInt8) then (some ((⟨#[]⟩ : ByteArray),true)) else (if x4.toList = ([114,101,115,101,116] : List UInt8) then (some ((⟨#[]⟩ : ByteArray),true)) else (some ((⟨#[]⟩ : ByteArray),false))))))))))
end
def wS.f (k : Nat) (a0 : ByteArray) : Option (ByteArray × Bool):=if a0.toList = ([100,101,102,105,110,101] : List UInt8) then (some ((⟨#[110,61,101]⟩ : ByteArray),true)) else (if a0.toList = ([100,114,111,112] : List UInt8) then (wS.j0 k a0 (a0.toList == ([100,114,111,112] : List UInt8))) else (if a0.toList = ([115,104,111,119] : List UInt8) then (wS.j0 k a0 (a0.toList == ([115,104,111,119] : List UInt8))) else (if a0.toList = ([102,111,114,109] : List UInt8) then (wS.j0 k a0 (a0.toList == ([102,111,114,109] : List UInt8))) else (wS.j0 k a0 (a0.toList == ([118,97,114] : List UInt8))))))
theorem wS.mono_l : ∀ k,(∀ y0 y1,LeO (wS.j0 k y0 y1) (wS.j0 (k + 1) y0 y1)) ∧ (∀ y0 y1,LeO (wS.j1 k y0 y1) (wS.j1 (k + 1) y0 y1))
 | 0 => ⟨fun _ _ r h => by simp [wS.j0] at h,fun _ _ r h => by simp [wS.j1] at h⟩
 | k + 1 => by
  obtain ⟨ih0,ih1⟩:=wS.mono_l k
  refine ⟨?_,?_⟩
  ·
   intro y0 y1
   unfold wS.j0
   repeat' first
   | (with_reducible exact ih0 _ _)
   | (with_reducible exact ih1 _ _)
   | (with_reducible exact LeO.refl _)
   | (with_reducible exact LeO.none _)
   | (with_reducible refine LeO.ite ?_ ?_)
   | (with_reducible refine LeO.bind ?_ (fun _ => ?_))
   | exact ih0 _ _
   | exact ih1 _ _
   | exact LeO.none _
   | refine LeO.ite ?_ ?_
   | refine LeO.bind ?_ (fun _ => ?_)
  ·
   intro y0 y1
   unfold wS.j1
   repeat' first
   | (with_reducible exact ih0 _ _)
   | (with_reducible exact ih1 _ _)
   | (with_reducible exact LeO.refl _)
   | (with_reducible exact LeO.none _)
   | (with_reducible refine LeO.ite ?_ ?_)
   | (with_reducible refine LeO.bind ?_ (fun _ => ?_))
   | exact ih0 _ _
   | exact ih1 _ _
   | exact LeO.none _
   | refine LeO.ite ?_ ?_
   | refine LeO.bind ?_ (fun _ => ?_)
theorem wS.mono : ∀ a0 k,LeO (wS.f k a0) (wS.f (k + 1) a0):=by
 intro a0 k
 obtain ⟨ih0,ih1⟩:=wS.mono_l k
 unfold wS.f
 repeat' first
   | (with_reducible exact ih0 _ _)
   | (with_reducible exact ih1 _ _)
   | (with_reducible exact LeO.refl _)
   | (with_reducible exact LeO.none _)
   | (with_reducible refine LeO.ite ?_ ?_)
   | (with_reducible refine LeO.bind ?_ (fun _ => ?_))
   | exact ih0 _ _
   | exact ih1 _ _
   | exact LeO.none _
   | refine LeO.ite ?_ ?_
   | refine LeO.bind ?_ (fun _ => ?_)
set_option maxHeartbeats 8000000 in
set_option maxRecDepth 100000 in
theorem wS.calls (k : Nat) (a0 : ByteArray) (r1 : ByteArray) (r2 : Bool) (w : World) (h : wS.f k a0 = some (r1,r2)) :
  Calls Tryd.prog 35 #[.string a0] w fun e w' => e = .returned (.tuple #[.string r1,.bool r2]) ∧ Drawn0 w w':=by
 have H : (if a0.toList = ([100,101,102,105,110,101] : List UInt8) then (some ((⟨#[110,61,101]⟩ : ByteArray),true)) else (if a0.toList = ([100,114,111,112] : List UInt8) then (wS.j0 k a0 (a0.toList == ([100,114,111,112] : List UInt8))) else (if a0.toList = ([115,104,111,119] : List UInt8) then (wS.j0 k a0 (a0.toList == ([115,104,111,119] : List UInt8))) else (if a0.toList = ([102,111,114,109] : List UInt8) then (wS.j0 k a0 (a0.toList == ([102,111,114,109] : List UInt8))) else (wS.j0 k a0 (a0.toList == ([118,97,114] : List UInt8))))))) = some (r1,r2):=h
 clear h
 by_cases c2 : a0.toList = ([100,101,102,105,110,101] : List UInt8)
 ·
  rw [if_pos c2] at H
  have c2b0 : (a0.toList == ([100,101,102,105,110,101] : List UInt8)) = true:=beq_iff_eq.mpr c2
  have c2b1 : (a0.toList != ([100,101,102,105,110,101] : List UInt8)) = false:=bne_eq_false_iff_eq.mpr c2
  clear c2
  simp only [Option.some.injEq,Prod.mk.injEq] at H
  obtain ⟨rfl,rfl⟩:=H
  go_enter Tryd.func35,Tryd.ntmps35
  go_wp2
  go_ret2
  exact ⟨by first|rfl|(simp; done)|(simp [*]; done),by repeat (first|exact Drawn0.refl _|apply Drawn0.step)⟩
 ·
  rw [if_neg c2] at H
  have c2b0 : (a0.toList == ([100,101,102,105,110,101] : List UInt8)) = false:=beq_eq_false_iff_ne.mpr c2
  have c2b1 : (a0.toList != ([100,101,102,105,110,101] : List UInt8)) = true:=bne_iff_ne.mpr c2
  have HC3:=zZ.mk H
  clear H
  go_enter Tryd.func35,Tryd.ntmps35
  go_upto_if 7 with (fail)
  go_cut [7] (fun v7 wc => ∃ (kq : Nat) (uH : Bool),v7 = .bool uH ∧ zZ (wS.j0 kq a0 uH = some (r1,r2)) ∧ zZ (kq ≤ k) ∧ Drawn0 w wc)
  case first =>
   have H:=HC3.out
   clear HC3
   by_cases c4 : a0.toList = ([100,114,111,112] : List UInt8)
   ·
    rw [if_pos c4] at H
    have c4b0 : (a0.toList == ([100,114,111,112] : List UInt8)) = true:=beq_iff_eq.mpr c4
    have c4b1 : (a0.toList != ([100,114,111,112] : List UInt8)) = false:=bne_eq_false_iff_eq.mpr c4
    clear c4
    (first|rw [c4b0]|(simp only [yV,yU]; rw [c4b0])|skip)
    have H':=zZ.mk H
    clear H
    go_wp2
    go_meet
    case rel => exact ⟨_,((a0.toList == ([100,114,111,112] : List UInt8))),(by first|rfl|(simp;done)|(simp [*];done)),H',⟨by first|omega|exact Nat.le_refl _⟩,by repeat (first|exact Drawn0.refl _|apply Drawn0.step)⟩
   ·
    rw [if_neg c4] at H
    have c4b0 : (a0.toList == ([100,114,111,112] : List UInt8)) = false:=beq_eq_false_iff_ne.mpr c4
    have c4b1 : (a0.toList != ([100,114,111,112] : List UInt8)) = true:=bne_iff_ne.mpr c4
    (first|rw [c4b0]|(simp only [yV,yU]; rw [c4b0])|skip)
    by_cases c5 : a0.toList = ([115,104,111,119] : List UInt8)
    ·
     rw [if_pos c5] at H
     have c5b0 : (a0.toList == ([115,104,111,119] : List UInt8)) = true:=beq_iff_eq.mpr c5
     have c5b1 : (a0.toList != ([115,104,111,119] : List UInt8)) = false:=bne_eq_false_iff_eq.mpr c5
     clear c5
     have H':=zZ.mk H
     clear H
     go_wp2
     go_meet
     case rel => exact ⟨_,((a0.toList == ([115,104,111,119] : List UInt8))),(by first|rfl|(simp;done)|(simp [*];done)),H',⟨by first|omega|exact Nat.le_refl _⟩,by repeat (first|exact Drawn0.refl _|apply Drawn0.step)⟩
    ·
     rw [if_neg c5] at H
     have c5b0 : (a0.toList == ([115,104,111,119] : List UInt8)) = false:=beq_eq_false_iff_ne.mpr c5
     have c5b1 : (a0.toList != ([115,104,111,119] : List UInt8)) = true:=bne_iff_ne.mpr c5
     by_cases c6 : a0.toList = ([102,111,114,109] : List UInt8)
     ·
      rw [if_pos c6] at H
      have c6b0 : (a0.toList == ([102,111,114,109] : List UInt8)) = true:=beq_iff_eq.mpr c6
      have c6b1 : (a0.toList != ([102,111,114,109] : List UInt8)) = false:=bne_eq_false_iff_eq.mpr c6
      clear c6
      have H':=zZ.mk H
      clear H
      go_wp2
      go_meet
      case rel => exact ⟨_,((a0.toList == ([102,111,114,109] : List UInt8))),(by first|rfl|(simp;done)|(simp [*];done)),H',⟨by first|omega|exact Nat.le_refl _⟩,by repeat (first|exact Drawn0.refl _|apply Drawn0.step)⟩
     ·
      rw [if_neg c6] at H
      have c6b0 : (a0.toList == ([102,111,114,109] : List UInt8)) = false:=beq_eq_false_iff_ne.mpr c6
      have c6b1 : (a0.toList != ([102,111,114,109] : List UInt8)) = true:=bne_iff_ne.mpr c6
      have H':=zZ.mk H
      clear H
      go_wp2
      go_meet
      case rel => exact ⟨_,((a0.toList == ([118,97,114] : List UInt8))),(by first|rfl|(simp;done)|(simp [*];done)),H',⟨by first|omega|exact Nat.le_refl _⟩,by repeat (first|exact Drawn0.refl _|apply Drawn0.step)⟩
  case rest =>
   clear HC3
   try clear c2
   try clear c2b0
   try clear c2b1
   try clear p2
   try clear c3
   try clear c4
   try clear c4b0
   try clear c4b1
   try clear c5
   try clear c5b0
   try clear c5b1
   try clear c6
   try clear c6b0
   try clear c6b1
   obtain ⟨kq,uH,rfl,HA,HJ2,⟨mc2,rfl⟩⟩:=hcut
   cases kq with
   | zero => exact absurd HA.out (by simp [wS.j0])
   | succ kj2 =>
    have H:=HA.out
    clear HA
    simp only [wS.j0] at H
    by_cases c7 : uH = true
    ·
     subst c7
     have H1 : (some ((⟨#[110]⟩ : ByteArray),true)) = some (r1,r2):=by rw [if_pos rfl] at H; exact H
     clear H
     have H:=H1
     clear H1
     simp only [Option.some.injEq,Prod.mk.injEq] at H
     obtain ⟨rfl,rfl⟩:=H
     go_wp2
     go_ret2
     exact ⟨by first|rfl|(simp; done)|(simp [*]; done),by repeat (first|exact Drawn0.refl _|apply Drawn0.step)⟩
    ·
     replace c7:=Bool.eq_false_iff.mpr c7
     subst c7
     have H1 : (if a0.toList = ([101,120,116,101,110,116] : List UInt8) then (wS.j1 kj2 a0 (a0.toList == ([101,120,116,101,110,116] : List UInt8))) else (if a0.toList = ([103,114,97,110,117,108,101] : List UInt8) then (wS.j1 kj2 a0 (a0.toList == ([103,114,97,110,117,108,101] : List UInt8))) else (if a0.toList = ([110,101,120,116] : List UInt8) then (wS.j1 kj2 a0 (a0.toList == ([110,101,120,116] : List UInt8))) else (if a0.toList = ([112,114,101,118] : List UInt8) then (wS.j1 kj2 a0 (a0.toList == ([112,114,101,118] : List UInt8))) else (wS.j1 kj2 a0 (a0.toList == ([115,112,97,110] : List UInt8))))))) = some (r1,r2):=by rw [if_neg (show ¬ (false = true) by decide)] at H; exact H
     clear H
     have H:=H1
     clear H1
     have HC8:=zZ.mk H
     clear H
     go_upto_if 12 with (fail)
     go_cut [12] (fun v12 wc => ∃ (kq : Nat) (dB : Bool),v12 = .bool dB ∧ zZ (wS.j1 kq a0 dB = some (r1,r2)) ∧ zZ (kq ≤ kj2) ∧ Drawn0 w wc)
     case first =>
      have H:=HC8.out
      clear HC8
      by_cases c9 : a0.toList = ([101,120,116,101,110,116] : List UInt8)
      ·
       rw [if_pos c9] at H
       have c9b0 : (a0.toList == ([101,120,116,101,110,116] : List UInt8)) = true:=beq_iff_eq.mpr c9
       have c9b1 : (a0.toList != ([101,120,116,101,110,116] : List UInt8)) = false:=bne_eq_false_iff_eq.mpr c9
       clear c9
       (first|rw [c9b0]|(simp only [yV,yU]; rw [c9b0])|skip)
       have H':=zZ.mk H
       clear H
       go_wp2
       go_meet
       case rel => exact ⟨_,((a0.toList == ([101,120,116,101,110,116] : List UInt8))),(by first|rfl|(simp;done)|(simp [*];done)),H',⟨by have:=HJ2.out; first|omega|exact Nat.le_refl _⟩,by repeat (first|exact Drawn0.refl _|apply Drawn0.step)⟩
      ·
       rw [if_neg c9] at H
       have c9b0 : (a0.toList == ([101,120,116,101,110,116] : List UInt8)) = false:=beq_eq_false_iff_ne.mpr c9
       have c9b1 : (a0.toList != ([101,120,116,101,110,116] : List UInt8)) = true:=bne_iff_ne.mpr c9
       (first|rw [c9b0]|(simp only [yV,yU]; rw [c9b0])|skip)
       by_cases c10 : a0.toList = ([103,114,97,110,117,108,101] : List UInt8)
       ·
        rw [if_pos c10] at H
        have c10b0 : (a0.toList == ([103,114,97,110,117,108,101] : List UInt8)) = true:=beq_iff_eq.mpr c10
        have c10b1 : (a0.toList != ([103,114,97,110,117,108,101] : List UInt8)) = false:=bne_eq_false_iff_eq.mpr c10
        clear c10
        have H':=zZ.mk H
        clear H
        go_wp2
        go_meet
        case rel => exact ⟨_,((a0.toList == ([103,114,97,110,117,108,101] : List UInt8))),(by first|rfl|(simp;done)|(simp [*];done)),H',⟨by have:=HJ2.out; first|omega|exact Nat.le_refl _⟩,by repeat (first|exact Drawn0.refl _|apply Drawn0.step)⟩
       ·
        rw [if_neg c10] at H
        have c10b0 : (a0.toList == ([103,114,97,110,117,108,101] : List UInt8)) = false:=beq_eq_false_iff_ne.mpr c10
        have c10b1 : (a0.toList != ([103,114,97,110,117,108,101] : List UInt8)) = true:=bne_iff_ne.mpr c10
        by_cases c11 : a0.toList = ([110,101,120,116] : List UInt8)
        ·
         rw [if_pos c11] at H
         have c11b0 : (a0.toList == ([110,101,120,116] : List UInt8)) = true:=beq_iff_eq.mpr c11
         have c11b1 : (a0.toList != ([110,101,120,116] : List UInt8)) = false:=bne_eq_false_iff_eq.mpr c11
         clear c11
         have H':=zZ.mk H
         clear H
         go_wp2
         go_meet
         case rel => exact ⟨_,((a0.toList == ([110,101,120,116] : List UInt8))),(by first|rfl|(simp;done)|(simp [*];done)),H',⟨by have:=HJ2.out; first|omega|exact Nat.le_refl _⟩,by repeat (first|exact Drawn0.refl _|apply Drawn0.step)⟩
        ·
         rw [if_neg c11] at H
         have c11b0 : (a0.toList == ([110,101,120,116] : List UInt8)) = false:=beq_eq_false_iff_ne.mpr c11
         have c11b1 : (a0.toList != ([110,101,120,116] : List UInt8)) = true:=bne_iff_ne.mpr c11
         by_cases c12 : a0.toList = ([112,114,101,118] : List UInt8)
         ·
          rw [if_pos c12] at H
          have c12b0 : (a0.toList == ([112,114,101,118] : List UInt8)) = true:=beq_iff_eq.mpr c12
          have c12b1 : (a0.toList != ([112,114,101,118] : List UInt8)) = false:=bne_eq_false_iff_eq.mpr c12
          clear c12
          have H':=zZ.mk H
          clear H
          go_wp2
          go_meet
          case rel => exact ⟨_,((a0.toList == ([112,114,101,118] : List UInt8))),(by first|rfl|(simp;done)|(simp [*];done)),H',⟨by have:=HJ2.out; first|omega|exact Nat.le_refl _⟩,by repeat (first|exact Drawn0.refl _|apply Drawn0.step)⟩
         ·
          rw [if_neg c12] at H
          have c12b0 : (a0.toList == ([112,114,101,118] : List UInt8)) = false:=beq_eq_false_iff_ne.mpr c12
          have c12b1 : (a0.toList != ([112,114,101,118] : List UInt8)) = true:=bne_iff_ne.mpr c12
          have H':=zZ.mk H
          clear H
          go_wp2
          go_meet
          case rel => exact ⟨_,((a0.toList == ([115,112,97,110] : List UInt8))),(by first|rfl|(simp;done)|(simp [*];done)),H',⟨by have:=HJ2.out; first|omega|exact Nat.le_refl _⟩,by repeat (first|exact Drawn0.refl _|apply Drawn0.step)⟩
     case rest =>
      clear HC8
      try clear c1
      try clear c2
      try clear c2b0
      try clear c2b1
      try clear p2 p2
      try clear c3
      try clear c4
      try clear c4b0
      try clear c4b1
      try clear c5
      try clear c5b0
      try clear c5b1
      try clear c6
      try clear c6b0
      try clear c6b1
      try clear c7
      try clear c9
      try clear c9b0
      try clear c9b1
      try clear c10
      try clear c10b0
      try clear c10b1
      try clear c11
      try clear c11b0
      try clear c11b1
      try clear c12
      try clear c12b0
      try clear c12b1
      obtain ⟨kq,dB,rfl,HA,HJ7,⟨mc7,rfl⟩⟩:=hcut
      cases kq with
      | zero => exact absurd HA.out (by simp [wS.j1])
      | succ kj7 =>
       have H:=HA.out
       clear HA
       simp only [wS.j1] at H
       by_cases c13 : dB = true
       ·
        subst c13
        have H1 : (some ((⟨#[110,105]⟩ : ByteArray),true)) = some (r1,r2):=by rw [if_pos rfl] at H; exact H
        clear H
        have H:=H1
        clear H1
        simp only [Option.some.injEq,Prod.mk.injEq] at H
        obtain ⟨rfl,rfl⟩:=H
        go_wp2
        go_ret2
        exact ⟨by first|rfl|(simp; done)|(simp [*]; done),by repeat (first|exact Drawn0.refl _|apply Drawn0.step)⟩
       ·
        replace c13:=Bool.eq_false_iff.mpr c13
        subst c13
        have H1 : (if a0.toList = ([114,101,108] : List UInt8) then (some ((⟨#[110,110]⟩ : ByteArray),true)) else (if a0.toList = ([99,111,118,101,114] : List UInt8) then (some ((⟨#[110,110,105]⟩ : ByteArray),true)) else (if a0.toList = ([98,111,117,110,100] : List UInt8) then (some ((⟨#[110,110,110,114]⟩ : ByteArray),true)) else (if a0.toList = ([100,97,116,101] : List UInt8) then (some ((⟨#[105]⟩ : ByteArray),true)) else (if a0.toList = ([115,111,108,118,101] : List UInt8) then (some ((⟨#[105,105,105]⟩ : ByteArray),true)) else (if a0.toList = ([110,101,116] : List UInt8) then (some ((⟨#[]⟩ : ByteArray),true)) else (if a0.toList = ([105,110,102,101,114] : List UInt8) then (some ((⟨#[]⟩ : ByteArray),true)) else (if a0.toList = ([114,101,115,101,116] : List UInt8) then (some ((⟨#[]⟩ : ByteArray),true)) else (some ((⟨#[]⟩ : ByteArray),false)))))))))) = some (r1,r2):=by rw [if_neg (show ¬ (false = true) by decide)] at H; exact H
        clear H
        have H:=H1
        clear H1
        by_cases c14 : a0.toList = ([114,101,108] : List UInt8)
        ·
         rw [if_pos c14] at H
         have c14b0 : (a0.toList == ([114,101,108] : List UInt8)) = true:=beq_iff_eq.mpr c14
         have c14b1 : (a0.toList != ([114,101,108] : List UInt8)) = false:=bne_eq_false_iff_eq.mpr c14
         clear c14
         simp only [Option.some.injEq,Prod.mk.injEq] at H
         obtain ⟨rfl,rfl⟩:=H
         go_wp2
         go_ret2
         exact ⟨by first|rfl|(simp; done)|(simp [*]; done),by repeat (first|exact Drawn0.refl _|apply Drawn0.step)⟩
        ·
         rw [if_neg c14] at H
         have c14b0 : (a0.toList == ([114,101,108] : List UInt8)) = false:=beq_eq_false_iff_ne.mpr c14
         have c14b1 : (a0.toList != ([114,101,108] : List UInt8)) = true:=bne_iff_ne.mpr c14
         by_cases c15 : a0.toList = ([99,111,118,101,114] : List UInt8)
         ·
          rw [if_pos c15] at H
          have c15b0 : (a0.toList == ([99,111,118,101,114] : List UInt8)) = true:=beq_iff_eq.mpr c15
          have c15b1 : (a0.toList != ([99,111,118,101,114] : List UInt8)) = false:=bne_eq_false_iff_eq.mpr c15
          clear c15
          simp only [Option.some.injEq,Prod.mk.injEq] at H
          obtain ⟨rfl,rfl⟩:=H
          go_wp2
          go_ret2
          exact ⟨by first|rfl|(simp; done)|(simp [*]; done),by repeat (first|exact Drawn0.refl _|apply Drawn0.step)⟩
         ·
          rw [if_neg c15] at H
          have c15b0 : (a0.toList == ([99,111,118,101,114] : List UInt8)) = false:=beq_eq_false_iff_ne.mpr c15
          have c15b1 : (a0.toList != ([99,111,118,101,114] : List UInt8)) = true:=bne_iff_ne.mpr c15
          by_cases c16 : a0.toList = ([98,111,117,110,100] : List UInt8)
          ·
           rw [if_pos c16] at H
           have c16b0 : (a0.toList == ([98,111,117,110,100] : List UInt8)) = true:=beq_iff_eq.mpr c16
           have c16b1 : (a0.toList != ([98,111,117,110,100] : List UInt8)) = false:=bne_eq_false_iff_eq.mpr c16
           clear c16
           simp only [Option.some.injEq,Prod.mk.injEq] at H
           obtain ⟨rfl,rfl⟩:=H
           go_wp2
           go_ret2
           exact ⟨by first|rfl|(simp; done)|(simp [*]; done),by repeat (first|exact Drawn0.refl _|apply Drawn0.step)⟩
          ·
           rw [if_neg c16] at H
           have c16b0 : (a0.toList == ([98,111,117,110,100] : List UInt8)) = false:=beq_eq_false_iff_ne.mpr c16
           have c16b1 : (a0.toList != ([98,111,117,110,100] : List UInt8)) = true:=bne_iff_ne.mpr c16
           by_cases c17 : a0.toList = ([100,97,116,101] : List UInt8)
           ·
            rw [if_pos c17] at H
            have c17b0 : (a0.toList == ([100,97,116,101] : List UInt8)) = true:=beq_iff_eq.mpr c17
            have c17b1 : (a0.toList != ([100,97,116,101] : List UInt8)) = false:=bne_eq_false_iff_eq.mpr c17
            clear c17
            simp only [Option.some.injEq,Prod.mk.injEq] at H
            obtain ⟨rfl,rfl⟩:=H
            go_wp2
            go_ret2
            exact ⟨by first|rfl|(simp; done)|(simp [*]; done),by repeat (first|exact Drawn0.refl _|apply Drawn0.step)⟩
           ·
            rw [if_neg c17] at H
            have c17b0 : (a0.toList == ([100,97,116,101] : List UInt8)) = false:=beq_eq_false_iff_ne.mpr c17
            have c17b1 : (a0.toList != ([100,97,116,101] : List UInt8)) = true:=bne_iff_ne.mpr c17
            by_cases c18 : a0.toList = ([115,111,108,118,101] : List UInt8)
            ·
             rw [if_pos c18] at H
             have c18b0 : (a0.toList == ([115,111,108,118,101] : List UInt8)) = true:=beq_iff_eq.mpr c18
             have c18b1 : (a0.toList != ([115,111,108,118,101] : List UInt8)) = false:=bne_eq_false_iff_eq.mpr c18
             clear c18
             simp only [Option.some.injEq,Prod.mk.injEq] at H
             obtain ⟨rfl,rfl⟩:=H
             go_wp2
             go_ret2
             exact ⟨by first|rfl|(simp; done)|(simp [*]; done),by repeat (first|exact Drawn0.refl _|apply Drawn0.step)⟩
            ·
             rw [if_neg c18] at H
             have c18b0 : (a0.toList == ([115,111,108,118,101] : List UInt8)) = false:=beq_eq_false_iff_ne.mpr c18
             have c18b1 : (a0.toList != ([115,111,108,118,101] : List UInt8)) = true:=bne_iff_ne.mpr c18
             by_cases c19 : a0.toList = ([110,101,116] : List UInt8)
             ·
              rw [if_pos c19] at H
              have c19b0 : (a0.toList == ([110,101,116] : List UInt8)) = true:=beq_iff_eq.mpr c19
              have c19b1 : (a0.toList != ([110,101,116] : List UInt8)) = false:=bne_eq_false_iff_eq.mpr c19
              clear c19
              simp only [Option.some.injEq,Prod.mk.injEq] at H
              obtain ⟨rfl,rfl⟩:=H
              go_wp2
              go_ret2
              exact ⟨by first|rfl|(simp; done)|(simp [*]; done),by repeat (first|exact Drawn0.refl _|apply Drawn0.step)⟩
             ·
              rw [if_neg c19] at H
              have c19b0 : (a0.toList == ([110,101,116] : List UInt8)) = false:=beq_eq_false_iff_ne.mpr c19
              have c19b1 : (a0.toList != ([110,101,116] : List UInt8)) = true:=bne_iff_ne.mpr c19
              by_cases c20 : a0.toList = ([105,110,102,101,114] : List UInt8)
              ·
               rw [if_pos c20] at H
               have c20b0 : (a0.toList == ([105,110,102,101,114] : List UInt8)) = true:=beq_iff_eq.mpr c20
               have c20b1 : (a0.toList != ([105,110,102,101,114] : List UInt8)) = false:=bne_eq_false_iff_eq.mpr c20
               clear c20
               simp only [Option.some.injEq,Prod.mk.injEq] at H
               obtain ⟨rfl,rfl⟩:=H
               go_wp2
               go_ret2
               exact ⟨by first|rfl|(simp; done)|(simp [*]; done),by repeat (first|exact Drawn0.refl _|apply Drawn0.step)⟩
              ·
               rw [if_neg c20] at H
               have c20b0 : (a0.toList == ([105,110,102,101,114] : List UInt8)) = false:=beq_eq_false_iff_ne.mpr c20
               have c20b1 : (a0.toList != ([105,110,102,101,114] : List UInt8)) = true:=bne_iff_ne.mpr c20
               by_cases c21 : a0.toList = ([114,101,115,101,116] : List UInt8)
               ·
                rw [if_pos c21] at H
                have c21b0 : (a0.toList == ([114,101,115,101,116] : List UInt8)) = true:=beq_iff_eq.mpr c21
                have c21b1 : (a0.toList != ([114,101,115,101,116] : List UInt8)) = false:=bne_eq_false_iff_eq.mpr c21
                clear c21
                simp only [Option.some.injEq,Prod.mk.injEq] at H
                obtain ⟨rfl,rfl⟩:=H
                go_wp2
                go_ret2
                exact ⟨by first|rfl|(simp; done)|(simp [*]; done),by repeat (first|exact Drawn0.refl _|apply Drawn0.step)⟩
               ·
                rw [if_neg c21] at H
                have c21b0 : (a0.toList == ([114,101,115,101,116] : List UInt8)) = false:=beq_eq_false_iff_ne.mpr c21
                have c21b1 : (a0.toList != ([114,101,115,101,116] : List UInt8)) = true:=bne_iff_ne.mpr c21
                simp only [Option.some.injEq,Prod.mk.injEq] at H
                obtain ⟨rfl,rfl⟩:=H
                go_wp2
                go_ret2
                exact ⟨by first|rfl|(simp; done)|(simp [*]; done),by repeat (first|exact Drawn0.refl _|apply Drawn0.step)⟩
mutual
def wG.j0 : Nat → Int → Bool → Option (Int × Int)
 | 0,_,_ => none
 | k + 1,x4,x7 => if x7 = true then (some (1,1)) else (if x4 = 3 then (some (2,1)) else (if x4 = 4 then (some (3,2)) else (if x4 = 7 then (wG.j1 k x4 (x4 == 7)) else (wG.j1 k x4 (x4 == 9)))))
def wG.j1 : Nat → Int → Bool → Option (Int × Int)
 | 0,_,_ => none
 | k + 1,x4,x14 => if x14 = true then (some (2,2)) else (if x4 = 5 then (some (0,2)) else (if x4 = 6 then (some (0,2)) else (if x4 = 8 then (some (0,2)) else (if x4 = 10 then (some (0,2)) else (if x4 = 11 then (some (0,2)) else (if x4 = 12 then (some (0,2)) else (some ((-1),0))))))))
end
def wG.f (k : Nat) (a0 : Int) : Option (Int × Int):=if a0 = 0 then (some (0,0)) else (if a0 = 1 then (wG.j0 k a0 (a0 == 1)) else (wG.j0 k a0 (a0 == 2)))
theorem wG.mono_l : ∀ k,(∀ y0 y1,LeO (wG.j0 k y0 y1) (wG.j0 (k + 1) y0 y1)) ∧ (∀ y0 y1,LeO (wG.j1 k y0 y1) (wG.j1 (k + 1) y0 y1))
 | 0 => ⟨fun _ _ r h => by simp [wG.j0] at h,fun _ _ r h => by simp [wG.j1] at h⟩
 | k + 1 => by
  obtain ⟨ih0,ih1⟩:=wG.mono_l k
  refine ⟨?_,?_⟩
  ·
   intro y0 y1
   unfold wG.j0
   repeat' first
   | (with_reducible exact ih0 _ _)
   | (with_reducible exact ih1 _ _)
   | (with_reducible exact LeO.refl _)
   | (with_reducible exact LeO.none _)
   | (with_reducible refine LeO.ite ?_ ?_)
   | (with_reducible refine LeO.bind ?_ (fun _ => ?_))
   | exact ih0 _ _
   | exact ih1 _ _
   | exact LeO.none _
   | refine LeO.ite ?_ ?_
   | refine LeO.bind ?_ (fun _ => ?_)
  ·
   intro y0 y1
   unfold wG.j1
   repeat' first
   | (with_reducible exact ih0 _ _)
   | (with_reducible exact ih1 _ _)
   | (with_reducible exact LeO.refl _)
   | (with_reducible exact LeO.none _)
   | (with_reducible refine LeO.ite ?_ ?_)
   | (with_reducible refine LeO.bind ?_ (fun _ => ?_))
   | exact ih0 _ _
   | exact ih1 _ _
   | exact LeO.none _
   | refine LeO.ite ?_ ?_
   | refine LeO.bind ?_ (fun _ => ?_)
theorem wG.mono : ∀ a0 k,LeO (wG.f k a0) (wG.f (k + 1) a0):=by
 intro a0 k
 obtain ⟨ih0,ih1⟩:=wG.mono_l k
 unfold wG.f
 repeat' first
   | (with_reducible exact ih0 _ _)
   | (with_reducible exact ih1 _ _)
   | (with_reducible exact LeO.refl _)
   | (with_reducible exact LeO.none _)
   | (with_reducible refine LeO.ite ?_ ?_)
   | (with_reducible refine LeO.bind ?_ (fun _ => ?_))
   | exact ih0 _ _
   | exact ih1 _ _
   | exact LeO.none _
   | refine LeO.ite ?_ ?_
   | refine LeO.bind ?_ (fun _ => ?_)
set_option maxHeartbeats 8000000 in
set_option maxRecDepth 100000 in
theorem wG.calls (k : Nat) (a0 : Int) (r1 : Int) (r2 : Int) (w : World) (h : wG.f k a0 = some (r1,r2)) :
  Calls Tryd.prog 50 #[.int .u8 a0] w fun e w' => e = .returned (.tuple #[.int .i64 r1,.int .i64 r2]) ∧ Drawn0 w w':=by
 have H : (if a0 = 0 then (some (0,0)) else (if a0 = 1 then (wG.j0 k a0 (a0 == 1)) else (wG.j0 k a0 (a0 == 2)))) = some (r1,r2):=h
 clear h
 by_cases c2 : a0 = 0
 ·
  rw [if_pos c2] at H
  have c2b0 : (a0 == 0) = true:=beq_iff_eq.mpr c2
  have c2b1 : (a0 != 0) = false:=bne_eq_false_iff_eq.mpr c2
  clear c2
  simp only [Option.some.injEq,Prod.mk.injEq] at H
  obtain ⟨rfl,rfl⟩:=H
  go_enter Tryd.func50,Tryd.ntmps50
  go_wp2
  go_ret2
  exact ⟨by first|rfl|(simp; done)|(simp [*]; done),by repeat (first|exact Drawn0.refl _|apply Drawn0.step)⟩
 ·
  rw [if_neg c2] at H
  have c2b0 : (a0 == 0) = false:=beq_eq_false_iff_ne.mpr c2
  have c2b1 : (a0 != 0) = true:=bne_iff_ne.mpr c2
  have HC3:=zZ.mk H
  clear H
  go_enter Tryd.func50,Tryd.ntmps50
  go_upto_if 7 with (fail)
  go_cut [7] (fun v7 wc => ∃ (kq : Nat) (uH : Bool),v7 = .bool uH ∧ zZ (wG.j0 kq a0 uH = some (r1,r2)) ∧ zZ (kq ≤ k) ∧ Drawn0 w wc)
  case first =>
   have H:=HC3.out
   clear HC3
   by_cases c4 : a0 = 1
   ·
    rw [if_pos c4] at H
    have c4b0 : (a0 == 1) = true:=beq_iff_eq.mpr c4
    have c4b1 : (a0 != 1) = false:=bne_eq_false_iff_eq.mpr c4
    clear c4
    (first|rw [c4b0]|(simp only [yV,yU]; rw [c4b0])|skip)
    have H':=zZ.mk H
    clear H
    go_wp2
    go_meet
    case rel => exact ⟨_,((a0 == 1)),(by first|rfl|(simp;done)|(simp [*];done)),H',⟨by first|omega|exact Nat.le_refl _⟩,by repeat (first|exact Drawn0.refl _|apply Drawn0.step)⟩
   ·
    rw [if_neg c4] at H
    have c4b0 : (a0 == 1) = false:=beq_eq_false_iff_ne.mpr c4
    have c4b1 : (a0 != 1) = true:=bne_iff_ne.mpr c4
    (first|rw [c4b0]|(simp only [yV,yU]; rw [c4b0])|skip)
    have H':=zZ.mk H
    clear H
    go_wp2
    go_meet
    case rel => exact ⟨_,((a0 == 2)),(by first|rfl|(simp;done)|(simp [*];done)),H',⟨by first|omega|exact Nat.le_refl _⟩,by repeat (first|exact Drawn0.refl _|apply Drawn0.step)⟩
  case rest =>
   clear HC3
   try clear c2
   try clear c2b0
   try clear c2b1
   try clear p2
   try clear c4
   try clear c4b0
   try clear c4b1
   obtain ⟨kq,uH,rfl,HA,HJ2,⟨mc2,rfl⟩⟩:=hcut
   cases kq with
   | zero => exact absurd HA.out (by simp [wG.j0])
   | succ kj2 =>
    have H:=HA.out
    clear HA
    simp only [wG.j0] at H
    by_cases c5 : uH = true
    ·
     subst c5
     have H1 : (some (1,1)) = some (r1,r2):=by rw [if_pos rfl] at H; exact H
     clear H
     have H:=H1
     clear H1
     simp only [Option.some.injEq,Prod.mk.injEq] at H
     obtain ⟨rfl,rfl⟩:=H
     go_wp2
     go_ret2
     exact ⟨by first|rfl|(simp; done)|(simp [*]; done),by repeat (first|exact Drawn0.refl _|apply Drawn0.step)⟩
    ·
     replace c5:=Bool.eq_false_iff.mpr c5
     subst c5
     have H1 : (if a0 = 3 then (some (2,1)) else (if a0 = 4 then (some (3,2)) else (if a0 = 7 then (wG.j1 kj2 a0 (a0 == 7)) else (wG.j1 kj2 a0 (a0 == 9))))) = some (r1,r2):=by rw [if_neg (show ¬ (false = true) by decide)] at H; exact H
     clear H
     have H:=H1
     clear H1
     by_cases c6 : a0 = 3
     ·
      rw [if_pos c6] at H
      have c6b0 : (a0 == 3) = true:=beq_iff_eq.mpr c6
      have c6b1 : (a0 != 3) = false:=bne_eq_false_iff_eq.mpr c6
      clear c6
      simp only [Option.some.injEq,Prod.mk.injEq] at H
      obtain ⟨rfl,rfl⟩:=H
      go_wp2
      go_ret2
      exact ⟨by first|rfl|(simp; done)|(simp [*]; done),by repeat (first|exact Drawn0.refl _|apply Drawn0.step)⟩
     ·
      rw [if_neg c6] at H
      have c6b0 : (a0 == 3) = false:=beq_eq_false_iff_ne.mpr c6
      have c6b1 : (a0 != 3) = true:=bne_iff_ne.mpr c6
      by_cases c7 : a0 = 4
      ·
       rw [if_pos c7] at H
       have c7b0 : (a0 == 4) = true:=beq_iff_eq.mpr c7
       have c7b1 : (a0 != 4) = false:=bne_eq_false_iff_eq.mpr c7
       clear c7
       simp only [Option.some.injEq,Prod.mk.injEq] at H
       obtain ⟨rfl,rfl⟩:=H
       go_wp2
       go_ret2
       exact ⟨by first|rfl|(simp; done)|(simp [*]; done),by repeat (first|exact Drawn0.refl _|apply Drawn0.step)⟩
      ·
       rw [if_neg c7] at H
       have c7b0 : (a0 == 4) = false:=beq_eq_false_iff_ne.mpr c7
       have c7b1 : (a0 != 4) = true:=bne_iff_ne.mpr c7
       have HC8:=zZ.mk H
       clear H
       go_upto_if 14 with (fail)
       go_cut [14] (fun v14 wc => ∃ (kq : Nat) (dA : Bool),v14 = .bool dA ∧ zZ (wG.j1 kq a0 dA = some (r1,r2)) ∧ zZ (kq ≤ kj2) ∧ Drawn0 w wc)
       case first =>
        have H:=HC8.out
        clear HC8
        by_cases c9 : a0 = 7
        ·
         rw [if_pos c9] at H
         have c9b0 : (a0 == 7) = true:=beq_iff_eq.mpr c9
         have c9b1 : (a0 != 7) = false:=bne_eq_false_iff_eq.mpr c9
         clear c9
         (first|rw [c9b0]|(simp only [yV,yU]; rw [c9b0])|skip)
         have H':=zZ.mk H
         clear H
         go_wp2
         go_meet
         case rel => exact ⟨_,((a0 == 7)),(by first|rfl|(simp;done)|(simp [*];done)),H',⟨by have:=HJ2.out; first|omega|exact Nat.le_refl _⟩,by repeat (first|exact Drawn0.refl _|apply Drawn0.step)⟩
        ·
         rw [if_neg c9] at H
         have c9b0 : (a0 == 7) = false:=beq_eq_false_iff_ne.mpr c9
         have c9b1 : (a0 != 7) = true:=bne_iff_ne.mpr c9
         (first|rw [c9b0]|(simp only [yV,yU]; rw [c9b0])|skip)
         have H':=zZ.mk H
         clear H
         go_wp2
         go_meet
         case rel => exact ⟨_,((a0 == 9)),(by first|rfl|(simp;done)|(simp [*];done)),H',⟨by have:=HJ2.out; first|omega|exact Nat.le_refl _⟩,by repeat (first|exact Drawn0.refl _|apply Drawn0.step)⟩
       case rest =>
        clear HC8
        try clear c2
        try clear c2b0
        try clear c2b1
        try clear p2 p2
        try clear c4
        try clear c4b0
        try clear c4b1
        try clear c5
        try clear c6
        try clear c6b0
        try clear c6b1
        try clear c7
        try clear c7b0
        try clear c7b1
        try clear c9
        try clear c9b0
        try clear c9b1
        obtain ⟨kq,dA,rfl,HA,HJ7,⟨mc7,rfl⟩⟩:=hcut
        cases kq with
        | zero => exact absurd HA.out (by simp [wG.j1])
        | succ kj7 =>
         have H:=HA.out
         clear HA
         simp only [wG.j1] at H
         by_cases c10 : dA = true
         ·
          subst c10
          have H1 : (some (2,2)) = some (r1,r2):=by rw [if_pos rfl] at H; exact H
          clear H
          have H:=H1
          clear H1
          simp only [Option.some.injEq,Prod.mk.injEq] at H
          obtain ⟨rfl,rfl⟩:=H
          go_wp2
          go_ret2
          exact ⟨by first|rfl|(simp; done)|(simp [*]; done),by repeat (first|exact Drawn0.refl _|apply Drawn0.step)⟩
         ·
          replace c10:=Bool.eq_false_iff.mpr c10
          subst c10
          have H1 : (if a0 = 5 then (some (0,2)) else (if a0 = 6 then (some (0,2)) else (if a0 = 8 then (some (0,2)) else (if a0 = 10 then (some (0,2)) else (if a0 = 11 then (some (0,2)) else (if a0 = 12 then (some (0,2)) else (some ((-1),0)))))))) = some (r1,r2):=by rw [if_neg (show ¬ (false = true) by decide)] at H; exact H
          clear H
          have H:=H1
          clear H1
          by_cases c11 : a0 = 5
          ·
           rw [if_pos c11] at H
           have c11b0 : (a0 == 5) = true:=beq_iff_eq.mpr c11
           have c11b1 : (a0 != 5) = false:=bne_eq_false_iff_eq.mpr c11
           clear c11
           simp only [Option.some.injEq,Prod.mk.injEq] at H
           obtain ⟨rfl,rfl⟩:=H
           go_wp2
           go_ret2
           exact ⟨by first|rfl|(simp; done)|(simp [*]; done),by repeat (first|exact Drawn0.refl _|apply Drawn0.step)⟩
          ·
           rw [if_neg c11] at H
           have c11b0 : (a0 == 5) = false:=beq_eq_false_iff_ne.mpr c11
           have c11b1 : (a0 != 5) = true:=bne_iff_ne.mpr c11
           by_cases c12 : a0 = 6
           ·
            rw [if_pos c12] at H
            have c12b0 : (a0 == 6) = true:=beq_iff_eq.mpr c12
            have c12b1 : (a0 != 6) = false:=bne_eq_false_iff_eq.mpr c12
            clear c12
            simp only [Option.some.injEq,Prod.mk.injEq] at H
            obtain ⟨rfl,rfl⟩:=H
            go_wp2
            go_ret2
            exact ⟨by first|rfl|(simp; done)|(simp [*]; done),by repeat (first|exact Drawn0.refl _|apply Drawn0.step)⟩
           ·
            rw [if_neg c12] at H
            have c12b0 : (a0 == 6) = false:=beq_eq_false_iff_ne.mpr c12
            have c12b1 : (a0 != 6) = true:=bne_iff_ne.mpr c12
            by_cases c13 : a0 = 8
            ·
             rw [if_pos c13] at H
             have c13b0 : (a0 == 8) = true:=beq_iff_eq.mpr c13
             have c13b1 : (a0 != 8) = false:=bne_eq_false_iff_eq.mpr c13
             clear c13
             simp only [Option.some.injEq,Prod.mk.injEq] at H
             obtain ⟨rfl,rfl⟩:=H
             go_wp2
             go_ret2
             exact ⟨by first|rfl|(simp; done)|(simp [*]; done),by repeat (first|exact Drawn0.refl _|apply Drawn0.step)⟩
            ·
             rw [if_neg c13] at H
             have c13b0 : (a0 == 8) = false:=beq_eq_false_iff_ne.mpr c13
             have c13b1 : (a0 != 8) = true:=bne_iff_ne.mpr c13
             by_cases c14 : a0 = 10
             ·
              rw [if_pos c14] at H
              have c14b0 : (a0 == 10) = true:=beq_iff_eq.mpr c14
              have c14b1 : (a0 != 10) = false:=bne_eq_false_iff_eq.mpr c14
              clear c14
              simp only [Option.some.injEq,Prod.mk.injEq] at H
              obtain ⟨rfl,rfl⟩:=H
              go_wp2
              go_ret2
              exact ⟨by first|rfl|(simp; done)|(simp [*]; done),by repeat (first|exact Drawn0.refl _|apply Drawn0.step)⟩
             ·
              rw [if_neg c14] at H
              have c14b0 : (a0 == 10) = false:=beq_eq_false_iff_ne.mpr c14
              have c14b1 : (a0 != 10) = true:=bne_iff_ne.mpr c14
              by_cases c15 : a0 = 11
              ·
               rw [if_pos c15] at H
               have c15b0 : (a0 == 11) = true:=beq_iff_eq.mpr c15
               have c15b1 : (a0 != 11) = false:=bne_eq_false_iff_eq.mpr c15
               clear c15
               simp only [Option.some.injEq,Prod.mk.injEq] at H
               obtain ⟨rfl,rfl⟩:=H
               go_wp2
               go_ret2
               exact ⟨by first|rfl|(simp; done)|(simp [*]; done),by repeat (first|exact Drawn0.refl _|apply Drawn0.step)⟩
              ·
               rw [if_neg c15] at H
               have c15b0 : (a0 == 11) = false:=beq_eq_false_iff_ne.mpr c15
               have c15b1 : (a0 != 11) = true:=bne_iff_ne.mpr c15
               by_cases c16 : a0 = 12
               ·
                rw [if_pos c16] at H
                have c16b0 : (a0 == 12) = true:=beq_iff_eq.mpr c16
                have c16b1 : (a0 != 12) = false:=bne_eq_false_iff_eq.mpr c16
                clear c16
                simp only [Option.some.injEq,Prod.mk.injEq] at H
                obtain ⟨rfl,rfl⟩:=H
                go_wp2
                go_ret2
                exact ⟨by first|rfl|(simp; done)|(simp [*]; done),by repeat (first|exact Drawn0.refl _|apply Drawn0.step)⟩
               ·
                rw [if_neg c16] at H
                have c16b0 : (a0 == 12) = false:=beq_eq_false_iff_ne.mpr c16
                have c16b1 : (a0 != 12) = true:=bne_iff_ne.mpr c16
                simp only [Option.some.injEq,Prod.mk.injEq] at H
                obtain ⟨rfl,rfl⟩:=H
                go_wp2
                go_ret2
                exact ⟨by first|rfl|(simp; done)|(simp [*]; done),by repeat (first|exact Drawn0.refl _|apply Drawn0.step)⟩
end Go.Proofs.YtjeofffddbibeaaDoor.PParseTells
end

section
namespace Go.Proofs.YtjeofffddbibeaaDoor.Ex
open Go Go.RowKit PParseTells YtjeofffddbibeaaDoorW.PrintWords YtjeofffddbibeaaDoorW.PrintLast YtjeofffddbibeaaDoorW.PrintMore
theorem rd_at (ys : List X) (i : Nat) (hi : i < ys.length) : yY ys (i : Int) = ys[i]:=by
 unfold yY
 rw [Int.toNat_natCast,List.getD_eq_getElem?_getD,List.getElem?_eq_getElem hi]
 rfl
theorem cC (ys : List X) (i : Nat) (hi : i < ys.length) : cntL (ys.drop i) = cnt ys[i] + cntL (ys.drop (i + 1)):=by
 rw [List.drop_eq_getElem_cons hi,rL]
theorem depL_drop (ys : List X) (i : Nat) (hi : i < ys.length) : depL (ys.drop i) = max (dep ys[i]) (depL (ys.drop (i + 1))):=by
 rw [List.drop_eq_getElem_cons hi,dM]
theorem refCount_l0 (o : Int) (s : ByteArray) (ns : List Int) (ys : List X) (hl : cntL ys ≤ 1099511627776)
  (hf : ∀ (i : Nat) (hi : i < ys.length) (k : Nat),2 * cnt ys[i] ≤ k → uL.f k ys[i].f0 ys[i].f1 ys[i].f2 ys[i].f3 = some (cnt ys[i] : Int)) :
  ∀ (n i : Nat),i + n = ys.length → ∀ (k : Nat) (acc : Int),2 * cntL (ys.drop i) + 1 ≤ k → 0 ≤ acc → acc + cntL (ys.drop i) ≤ 4398046511104 →
   uL.l0 k acc i o s ns ys = some (acc + cntL (ys.drop i)):=by
 intro n
 induction n with
 | zero =>
  intro i hi k acc hk h0 h1
  obtain ⟨k,rfl⟩ : ∃ m,k = m + 1:=⟨k - 1,by omega⟩
  simp only [uL.l0]
  rw [if_neg (by omega),List.drop_eq_nil_of_le (by omega),rY]
  simp
 | succ n ih =>
  intro i hi k acc hk h0 h1
  obtain ⟨k,rfl⟩ : ∃ m,k = m + 1:=⟨k - 1,by omega⟩
  have hil : i < ys.length:=by omega
  have hd:=cC ys i hil
  have hp:=sQ ys[i]
  have hlen:=len_cntL ys
  simp only [uL.l0]
  rw [if_pos (by omega),if_pos (by omega),rd_at ys i hil,hf i hil k (by omega)]
  show uL.l0 k (wrap64 (acc + (cnt ys[i] : Int))) (wrap64 ((i : Int) + 1)) o s ns ys = _
  rw [w64 (by omega) (by omega),w64 (by omega) (by omega)]
  have:=ih (i + 1) (by omega) k (acc + (cnt ys[i] : Int)) (by omega) (by omega) (by omega)
  rw [show ((i + 1 : Nat) : Int) = (i : Int) + 1 by omega] at this
  rw [this,hd]
  congr 1
  omega
theorem zWT (N : Nat) : ∀ x : X,cnt x ≤ N → cnt x ≤ 1099511627776 → ∀ k : Nat,2 * cnt x ≤ k → uL.f k x.f0 x.f1 x.f2 x.f3 = some (cnt x : Int):=by
 induction N with
 | zero => intro x hx; have:=sQ x; omega
 | succ N ih =>
  intro x hx hb k hk
  have hc:=sW x
  have hp:=sQ x
  obtain ⟨k,rfl⟩ : ∃ m,k = m + 1:=⟨k - 1,by omega⟩
  simp only [uL.f]
  have h:=refCount_l0 x.f0 x.f1 x.f2 x.f3 (by omega) (fun i hi m hm => ih x.f3[i] (by have:=lS (List.getElem_mem hi); omega) (by have:=lS (List.getElem_mem hi); omega) m hm) x.f3.length 0 (by omega) k 1 (by rw [List.drop_zero]; omega) (by omega) (by rw [List.drop_zero]; omega)
  rw [List.drop_zero] at h
  rw [show ((0 : Nat) : Int) = 0 from rfl] at h
  rw [h,hc]
  congr 1
theorem refDepth_l0 (o : Int) (s : ByteArray) (ns : List Int) (ys : List X) (hl : cntL ys ≤ 1099511627776)
  (hf : ∀ (i : Nat) (hi : i < ys.length) (k : Nat),2 * cnt ys[i] ≤ k → uQ.f k ys[i].f0 ys[i].f1 ys[i].f2 ys[i].f3 = some (dep ys[i] : Int)) :
  ∀ (n i : Nat),i + n = ys.length → ∀ (k acc : Nat),2 * cntL (ys.drop i) + 1 ≤ k → acc ≤ 1099511627776 →
   uQ.l0 k acc i o s ns ys = some (((max acc (depL (ys.drop i)) : Nat) : Int) + 1):=by
 intro n
 induction n with
 | zero =>
  intro i hi k acc hk h1
  obtain ⟨k,rfl⟩ : ∃ m,k = m + 1:=⟨k - 1,by omega⟩
  simp only [uQ.l0]
  rw [if_neg (by omega),List.drop_eq_nil_of_le (by omega),eC,w64 (by omega) (by omega),Nat.max_eq_left (Nat.zero_le _)]
 | succ n ih =>
  intro i hi k acc hk h1
  obtain ⟨k,rfl⟩ : ∃ m,k = m + 1:=⟨k - 1,by omega⟩
  have hil : i < ys.length:=by omega
  have hd:=cC ys i hil
  have he:=depL_drop ys i hil
  have hp:=sQ ys[i]
  have hlen:=len_cntL ys
  have hde:=lA (ys.drop i)
  have hcd : cntL (ys.drop i) ≤ cntL ys:=by
   have h:=zWD (ys.take i) (ys.drop i)
   rw [List.take_append_drop] at h
   omega
  simp only [uQ.l0]
  rw [if_pos (by omega),if_pos (by omega),rd_at ys i hil,hf i hil k (by omega)]
  show (if (dep ys[i] : Int) > (acc : Int) then uQ.l0 k (dep ys[i] : Int) (wrap64 ((i : Int) + 1)) o s ns ys else uQ.l0 k (acc : Int) (wrap64 ((i : Int) + 1)) o s ns ys) = _
  rw [w64 (by omega) (by omega),show (i : Int) + 1 = ((i + 1 : Nat) : Int) by omega]
  have hdi : dep ys[i] ≤ depL (ys.drop i):=by rw [he]; exact Nat.le_max_left _ _
  by_cases hg : (dep ys[i] : Int) > (acc : Int)
  ·
   rw [if_pos hg,ih (i + 1) (by omega) k (dep ys[i]) (by omega) (by omega),he]
   congr 3
   omega
  ·
   rw [if_neg hg,ih (i + 1) (by omega) k acc (by omega) (by omega),he]
   congr 3
   omega
theorem refDepth_f (N : Nat) : ∀ x : X,cnt x ≤ N → cnt x ≤ 1099511627776 → ∀ k : Nat,2 * cnt x ≤ k → uQ.f k x.f0 x.f1 x.f2 x.f3 = some (dep x : Int):=by
 induction N with
 | zero => intro x hx; have:=sQ x; omega
 | succ N ih =>
  intro x hx hb k hk
  have hc:=sW x
  have hp:=sQ x
  have hde:=lA x.f3
  obtain ⟨k,rfl⟩ : ∃ m,k = m + 1:=⟨k - 1,by omega⟩
  simp only [uQ.f]
  have h:=refDepth_l0 x.f0 x.f1 x.f2 x.f3 (by omega) (fun i hi m hm => ih x.f3[i] (by have:=lS (List.getElem_mem hi); omega) (by have:=lS (List.getElem_mem hi); omega) m hm) x.f3.length 0 (by omega) k 0 (by rw [List.drop_zero]; omega) (by omega)
  rw [List.drop_zero] at h
  rw [show ((0 : Nat) : Int) = 0 from rfl] at h
  rw [h,kR x]
  congr 1
  rw [Nat.max_eq_right (Nat.zero_le _)]
  omega
theorem refKind_f (o : Int) (h0 : 0 ≤ o) : wG.f 3 o = some (if o ≤ 12 then numsOf o else -1,argsOf o):=by
 by_cases h : o ≤ 12
 · rcases (show o = 0 ∨ o = 1 ∨ o = 2 ∨ o = 3 ∨ o = 4 ∨ o = 5 ∨ o = 6 ∨ o = 7 ∨ o = 8 ∨ o = 9 ∨ o = 10 ∨ o = 11 ∨ o = 12 by omega) with rfl|rfl|rfl|rfl|rfl|rfl|rfl|rfl|rfl|rfl|rfl|rfl|rfl <;> decide
 ·
  have e2 : argsOf o = 0:=by unfold argsOf; rw [if_pos (by omega)]
  rw [if_neg h,e2]
  have hb : ∀ n : Int,n ≤ 12 → (o == n) = false:=fun n hn => beq_eq_false_iff_ne.2 (by omega)
  simp only [wG.f,wG.j0,wG.j1]
  rw [if_neg (by omega),if_neg (by omega),hb 2 (by omega),if_neg (by simp),if_neg (by omega),if_neg (by omega),if_neg (by omega),hb 9 (by omega),if_neg (by simp),if_neg (by omega),if_neg (by omega),if_neg (by omega),if_neg (by omega),if_neg (by omega),if_neg (by omega)]
theorem bt_data (s : ByteArray) (i : Nat) (hi : i < s.data.toList.length) : bt s i = (s.data.toList[i].toNat : Int):=by
 have hs : i < s.size:=by simpa using hi
 unfold bt
 rw [Int.toNat_natCast,dif_pos hs]
 rfl
theorem zWX (b : UInt8) : letterB b = true ↔ ((b.toNat : Int) = 95 ∨ (48 ≤ (b.toNat : Int) ∧ (b.toNat : Int) ≤ 57) ∨ (97 ≤ (b.toNat : Int) ∧ (b.toNat : Int) ≤ 122) ∨ (65 ≤ (b.toNat : Int) ∧ (b.toNat : Int) ≤ 90)):=by
 unfold letterB alphaB digitB
 simp only [Bool.or_eq_true,Bool.and_eq_true,decide_eq_true_eq]
 omega
theorem refName_l0 (s : ByteArray) (hs : s.size ≤ 1000) : ∀ (n i : Nat),i + n = s.data.toList.length → ∀ k : Nat,n + 1 ≤ k → wM.l0 k s i = some ((s.data.toList.drop i).all letterB):=by
 have hsz : s.size = s.data.toList.length:=by simp
 intro n
 induction n with
 | zero =>
  intro i hi k hk
  obtain ⟨k,rfl⟩ : ∃ m,k = m + 1:=⟨k - 1,by omega⟩
  simp only [wM.l0]
  rw [if_neg (by omega),List.drop_eq_nil_of_le (by omega)]
  rfl
 | succ n ih =>
  intro i hi k hk
  obtain ⟨k,rfl⟩ : ∃ m,k = m + 1:=⟨k - 1,by omega⟩
  have hil : i < s.data.toList.length:=by omega
  rw [List.drop_eq_getElem_cons hil,List.all_cons]
  have hn:=ih (i + 1) (by omega) k (by omega)
  rw [show ((i + 1 : Nat) : Int) = (i : Int) + 1 by omega] at hn
  have hL:=zWX s.data.toList[i]
  simp only [wM.l0]
  rw [w64 (by omega) (by omega),bt_data s i hil,hn,if_pos (by omega),if_pos (by omega)]
  generalize (s.data.toList[i].toNat : Int) = c at *
  by_cases hl : letterB s.data.toList[i] = true
  ·
   have hc:=hL.1 hl
   rw [hl,Bool.true_and]
   repeat' split
   all_goals first|rfl|(exfalso; omega)
  ·
   have hc : ¬ _:=fun h => hl (hL.2 h)
   rw [Bool.eq_false_iff.2 hl,Bool.false_and]
   repeat' split
   all_goals first|rfl|(exfalso; omega)
theorem refName_f (s : ByteArray) (k : Nat) (hk : 40 ≤ k) : wM.f k s = some (nameB s):=by
 have hsz : s.size = s.data.toList.length:=by simp
 obtain ⟨k,rfl⟩ : ∃ m,k = m + 1:=⟨k - 1,by omega⟩
 unfold wM.f nameB
 cases hd : s.data.toList with
 | nil =>
  rw [hd] at hsz
  rw [if_pos (by rw [hsz]; decide)]
  simp only [wM.j0]
  rfl
 | cons b l =>
  have hl : s.size = l.length + 1:=by rw [hsz,hd]; rfl
  rw [if_neg (by omega)]
  have h0 : bt s 0 = (b.toNat : Int):=by
   have:=bt_data s 0 (by rw [hd]; simp)
   rw [show ((0 : Nat) : Int) = 0 from rfl] at this
   rw [this]
   simp [hd]
  have ha : alphaB b = true ↔ (letterB b = true ∧ ¬ (48 ≤ (b.toNat : Int) ∧ (b.toNat : Int) ≤ 57)):=by
   rw [zWX]
   unfold alphaB
   simp only [Bool.or_eq_true,Bool.and_eq_true,decide_eq_true_eq]
   omega
  rw [show nameL (b :: l) = (decide (l.length < 30) && alphaB b && l.all letterB) from rfl]
  by_cases hg : (s.size : Int) > 30
  ·
   rw [if_pos hg]
   simp only [wM.j0]
   rw [decide_eq_false (by omega)]
   rfl
  ·
   rw [if_neg hg,if_pos (by omega),h0]
   rw [decide_eq_true (show l.length < 30 by omega),Bool.true_and]
   have hrun:=refName_l0 s (by omega) s.data.toList.length 0 (by omega) k (by omega)
   rw [List.drop_zero,hd,List.all_cons,show ((0 : Nat) : Int) = 0 from rfl] at hrun
   by_cases hdg : 48 ≤ (b.toNat : Int) ∧ (b.toNat : Int) ≤ 57
   ·
    rw [if_pos (by omega)]
    simp only [wM.j0]
    rw [if_pos (decide_eq_true hdg.2)]
    have : alphaB b = false:=Bool.eq_false_iff.2 (fun h => (ha.1 h).2 hdg)
    rw [this]
    rfl
   ·
    have hal : alphaB b = letterB b:=by
     by_cases hb : letterB b = true
     · rw [hb,ha]; exact ⟨hb,hdg⟩
     · rw [Bool.eq_false_iff.2 hb,Bool.eq_false_iff]; exact fun h => hb (ha.1 h).1
    rw [hal]
    split
    ·
     simp only [wM.j0]
     rw [if_neg (by rw [decide_eq_true_eq]; omega)]
     exact hrun
    ·
     simp only [wM.j0]
     rw [if_neg (by simp)]
     exact hrun
end Go.Proofs.YtjeofffddbibeaaDoor.Ex
end

section
namespace Go.Proofs.YtjeofffddbibeaaDoor.PParseTells
open Go.RowKit YtjeofffddbibeaaDoorW.PrintWords YtjeofffddbibeaaDoorW.PrintLast YtjeofffddbibeaaDoorW.PrintMore
attribute [local go_sem] tH tM tG tL tK tJ tN tI
mutual
def wO.j0 : Nat → Bool → Int → ByteArray → List Int → List (S25) → Option (Bool)
 | 0,_,_,_,_,_ => none
 | k + 1,x44,bL,bK,bJ,mQ => if x44 = true then (some false) else (wO.l0 k 0 bL bK bJ mQ)
def wO.l0 : Nat → Int → Int → ByteArray → List Int → List (S25) → Option (Bool)
 | 0,_,_,_,_,_ => none
 | k + 1,x5,bL,bK,bJ,mQ => if x5 < (mQ.length : Int) then (if 0 ≤ x5 then ((wO.f k ((yY mQ x5).f0) ((yY mQ x5).f1) ((yY mQ x5).f2) ((yY mQ x5).f3)).bind fun t290 => (if t290 = true then (wO.l0 k (wrap64 (x5 + 1)) bL bK bJ mQ) else (some false))) else (none)) else (some true)
def wO.f : Nat → Int → ByteArray → List Int → List (S25) → Option (Bool)
 | 0,_,_,_,_ => none
 | k + 1,zT,zB,zW,zL => (wG.f k zT).bind fun bt286 => (if bt286.1 = (zW.length : Int) then (if bt286.2 = (zL.length : Int) then (if zT = 0 then ((wM.f k zB).bind fun t288 => (if t288 = true then (wO.j0 k false zT zB zW zL) else (wO.j0 k true zT zB zW zL))) else (wO.j0 k (zB.toList != ([] : List UInt8)) zT zB zW zL)) else (wO.j0 k true zT zB zW zL)) else (wO.j0 k true zT zB zW zL))
end
set_option maxHeartbeats 8000000 in
set_option maxRecDepth 100000 in
theorem wO.calls (k : Nat) : ∀ (zT : Int) (zB : ByteArray) (yR : Option Addr) (yS : Nat) (zW : List Int) (xK : Option Addr) (xR : Nat) (zL : List (S25)) (r : Bool) (w : World) (uW : Kd.C (Kd.int .i64) w yR zW.length zW) (uV : zW.length ≤ yS) (tF : Kd.C k25 w xK zL.length zL) (tE : zL.length ≤ xR) (h : wO.f k zT zB zW zL = some r),
  Calls Tryd.prog 52 #[.agg #[.int .u8 zT,.string zB,.slice yR zW.length yS,.slice xK zL.length xR]] w fun e w' => e = .returned (.bool r) ∧ Below w.heap.size w w':=by
 induction k using Nat.strongRecOn with
 | _ k ih =>
 intro zT zB yR yS zW xK xR zL r w uW uV tF tE h
 cases k with
 | zero => exact absurd h (by simp [wO.f])
 | succ k =>
 simp only [wO.f] at h
 have hu25:=Tryd.underlying25
 have tA:=zZ.mk uW
 have rX:=zZ.mk uV
 clear uW uV
 have sV:=zZ.mk tF
 have qP:=zZ.mk tE
 clear tF tE
 have HB:=zZ.mk (Below.refl w.heap.size w)
 have H : ((wG.f k zT).bind fun bt286 => (if bt286.1 = (zW.length : Int) then (if bt286.2 = (zL.length : Int) then (if zT = 0 then ((wM.f k zB).bind fun t288 => (if t288 = true then (wO.j0 k false zT zB zW zL) else (wO.j0 k true zT zB zW zL))) else (wO.j0 k (zB.toList != ([] : List UInt8)) zT zB zW zL)) else (wO.j0 k true zT zB zW zL)) else (wO.j0 k true zT zB zW zL))) = some r:=h
 clear h
 replace H:=Option.bind_eq_some_iff.mp H
 obtain ⟨⟨t286,t287⟩,A20,H⟩:=H
 replace H : (if t286 = (zW.length : Int) then (if t287 = (zL.length : Int) then (if zT = 0 then ((wM.f k zB).bind fun t288 => (if t288 = true then (wO.j0 k false zT zB zW zL) else (wO.j0 k true zT zB zW zL))) else (wO.j0 k (zB.toList != ([] : List UInt8)) zT zB zW zL)) else (wO.j0 k true zT zB zW zL)) else (wO.j0 k true zT zB zW zL)) = some r:=H
 have A2:=zZ.mk A20
 clear A20
 have HC3:=zZ.mk H
 clear H
 go_enter Tryd.func52,Tryd.ntmps52
 go_upto_region 2 with (first|((with_reducible refine uU (N:=1) rfl ?_); (try (refine sY (by rfl) ?_; dsimp only)); refine tY ?hg (N:=1) ?hd (cs:=#[.int .u8 zT,.string zB,.slice yR zW.length yS,.slice xK zL.length xR]) (t:=25) ?hr ?_; (case hd => rfl); (case hg => rfl); (case hr => first|(go_simp; done)|(go_simp; rfl)); intro jZ hg w4 hbox hb; have zS:=zZ.mk (xW (by repeat (first|(with_reducible first|exact HB.out|apply zY|apply zV|apply zU)|exact HB.out)) hb); have zO:=zZ.mk (hbox); have zI:=zZ.mk ((by rw [hg]; exact (xS (by repeat (first|(with_reducible first|exact HB.out|apply zY|apply zV|apply zU)|exact HB.out))) : w.heap.size ≤ jZ)); have xV:=zZ.mk ((by rw [hg]; exact (xS (by repeat (first|(with_reducible first|exact HB.out|apply zY|apply zV|apply zU)|exact HB.out))) : w.heap.size ≤ jZ)); clear HB; have HB:=zS; have tX:=zO; have GW285:=zI; have qU:=xV; clear zS zO zI xV; clear hb hbox hg; obtain ⟨zVO,zVN,zVM,zVL⟩:=kc4 tX.out)|((with_reducible refine yD (f:=50) rfl ?_); refine yE (some 9) rfl rfl Tryd.func50 (by kernel_rfl) rfl #[.int .u8 zT] rfl (by (try simp only [List.map_toArray,List.map_cons,List.map_nil]); first|done|rfl|(simp only [List.length_drop,List.length_take]; rfl)) ?_; (with_reducible refine (wG.calls k zT t286 t287 _ A2.out).mono ?_); rintro e w' ⟨rfl,⟨nd,rfl⟩⟩; refine ⟨_,rfl,?_⟩))
 (try simp only [Act.put,List.setIfInBounds_toArray,List.set_cons_zero,List.set_cons_succ])
 go_cut [44] (fun v44 wc => ∃ (kq : Nat) (nV : Bool),v44 = .bool nV ∧ zZ (wO.j0 kq nV zT zB zW zL = some r) ∧ zZ (kq ≤ k) ∧ zZ (wc.heap[jZ]? = some (.cells #[.int .u8 zT,.string zB,(.slice yR zW.length yS),(.slice xK zL.length xR)] 25 (0,0))) ∧ zZ (Below w.heap.size w wc))
 case first =>
  have H:=HC3.out
  clear HC3
  by_cases c6 : t286 = (zW.length : Int)
  ·
   rw [if_pos c6] at H
   have c6b0 : (t286 == (zW.length : Int)) = true:=beq_iff_eq.mpr c6
   have c6b1 : (t286 != (zW.length : Int)) = false:=bne_eq_false_iff_eq.mpr c6
   clear c6
   (first|rw [c6b0]|(simp only [yV,yU]; rw [c6b0])|skip)
   by_cases c7 : t287 = (zL.length : Int)
   ·
    rw [if_pos c7] at H
    have c7b0 : (t287 == (zL.length : Int)) = true:=beq_iff_eq.mpr c7
    have c7b1 : (t287 != (zL.length : Int)) = false:=bne_eq_false_iff_eq.mpr c7
    clear c7
    by_cases c8 : zT = 0
    ·
     rw [if_pos c8] at H
     have c8b0 : (zT == 0) = true:=beq_iff_eq.mpr c8
     have c8b1 : (zT != 0) = false:=bne_eq_false_iff_eq.mpr c8
     clear c8
     replace H:=Option.bind_eq_some_iff.mp H
     obtain ⟨t288,A90,H⟩:=H
     replace H : (if t288 = true then (wO.j0 k false zT zB zW zL) else (wO.j0 k true zT zB zW zL)) = some r:=H
     have A9:=zZ.mk A90
     clear A90
     by_cases c10 : t288 = true
     ·
      subst c10
      have H1 : (wO.j0 k false zT zB zW zL) = some r:=by rw [if_pos rfl] at H; exact H
      clear H
      have H:=H1
      clear H1
      have H':=zZ.mk H
      clear H
      obtain ⟨oD,oC,oB,oA⟩:=kc4 tX.out
      go_wp2_with (first|(go_at_call 74; (with_reducible refine (wM.calls k zB true _ A9.out).mono ?_); rintro e w' ⟨rfl,⟨nd,rfl⟩⟩))
      go_meet
      case rel => exact ⟨_,(false),(by first|rfl|(simp;done)|(simp [*];done)),H',⟨by first|omega|exact Nat.le_refl _⟩,⟨by (with_reducible repeat (first|apply zN|apply zM|apply zR)); exact tX.out⟩,⟨by repeat (first|(with_reducible first|exact HB.out|apply zY|apply zV|apply zU|refine zQ ?_ qU.out)|exact HB.out)⟩⟩
     ·
      replace c10:=Bool.eq_false_iff.mpr c10
      subst c10
      have H1 : (wO.j0 k true zT zB zW zL) = some r:=by rw [if_neg (show ¬ (false = true) by decide)] at H; exact H
      clear H
      have H:=H1
      clear H1
      have H':=zZ.mk H
      clear H
      obtain ⟨bI,bH,bG,bF⟩:=kc4 tX.out
      go_wp2_with (first|(go_at_call 74; (with_reducible refine (wM.calls k zB false _ A9.out).mono ?_); rintro e w' ⟨rfl,⟨nd,rfl⟩⟩))
      go_meet
      case rel => exact ⟨_,(true),(by first|rfl|(simp;done)|(simp [*];done)),H',⟨by first|omega|exact Nat.le_refl _⟩,⟨by (with_reducible repeat (first|apply zN|apply zM|apply zR)); exact tX.out⟩,⟨by repeat (first|(with_reducible first|exact HB.out|apply zY|apply zV|apply zU|refine zQ ?_ qU.out)|exact HB.out)⟩⟩
    ·
     rw [if_neg c8] at H
     have c8b0 : (zT == 0) = false:=beq_eq_false_iff_ne.mpr c8
     have c8b1 : (zT != 0) = true:=bne_iff_ne.mpr c8
     have H':=zZ.mk H
     clear H
     obtain ⟨jY,jX,jW,jV⟩:=kc4 tX.out
     go_wp2
     go_meet
     case rel => exact ⟨_,((zB.toList != ([] : List UInt8))),(by first|rfl|(simp; done)|(simp [*]; done)|(generalize ByteArray.toList _ = z; cases z <;> rfl)|(generalize ByteArray.toList _ = z; cases z <;> simp)),H',⟨by first|omega|exact Nat.le_refl _⟩,⟨by (with_reducible repeat (first|apply zN|apply zM|apply zR)); exact tX.out⟩,⟨by repeat (first|(with_reducible first|exact HB.out|apply zY|apply zV|apply zU|refine zQ ?_ qU.out)|exact HB.out)⟩⟩
   ·
    rw [if_neg c7] at H
    have c7b0 : (t287 == (zL.length : Int)) = false:=beq_eq_false_iff_ne.mpr c7
    have c7b1 : (t287 != (zL.length : Int)) = true:=bne_iff_ne.mpr c7
    have H':=zZ.mk H
    clear H
    obtain ⟨jU,jT,jS,jR⟩:=kc4 tX.out
    go_wp2
    go_meet
    case rel => exact ⟨_,(true),(by first|rfl|(simp;done)|(simp [*];done)),H',⟨by first|omega|exact Nat.le_refl _⟩,⟨by (with_reducible repeat (first|apply zN|apply zM|apply zR)); exact tX.out⟩,⟨by repeat (first|(with_reducible first|exact HB.out|apply zY|apply zV|apply zU|refine zQ ?_ qU.out)|exact HB.out)⟩⟩
  ·
   rw [if_neg c6] at H
   have c6b0 : (t286 == (zW.length : Int)) = false:=beq_eq_false_iff_ne.mpr c6
   have c6b1 : (t286 != (zW.length : Int)) = true:=bne_iff_ne.mpr c6
   (first|rw [c6b0]|(simp only [yV,yU]; rw [c6b0])|skip)
   have H':=zZ.mk H
   clear H
   obtain ⟨pD,pC,pB,nU⟩:=kc4 tX.out
   go_wp2
   go_meet
   case rel => exact ⟨_,(true),(by first|rfl|(simp;done)|(simp [*];done)),H',⟨by first|omega|exact Nat.le_refl _⟩,⟨by (with_reducible repeat (first|apply zN|apply zM|apply zR)); exact tX.out⟩,⟨by repeat (first|(with_reducible first|exact HB.out|apply zY|apply zV|apply zU|refine zQ ?_ qU.out)|exact HB.out)⟩⟩
 case rest =>
  clear HC3
  try clear c1
  try clear p2
  try clear c5
  try clear c6
  try clear c6b0
  try clear c6b1
  try clear c7
  try clear c7b0
  try clear c7b1
  try clear c8
  try clear c8b0
  try clear c8b1
  try clear c10
  try clear oD oC oB oA
  try clear bI bH bG bF
  try clear jY jX jW jV
  try clear jU jT jS jR
  try clear pD pC pB nU
  try clear zVO zVN zVM zVL
  obtain ⟨kq,nV,rfl,HA,HJ2,tX,HB⟩:=hcut
  cases kq with
  | zero => exact absurd HA.out (by simp [wO.j0])
  | succ kj2 =>
   have H:=HA.out
   clear HA
   simp only [wO.j0] at H
   by_cases c16 : nV = true
   ·
    subst c16
    have H1 : (some false) = some r:=by rw [if_pos rfl] at H; exact H
    clear H
    have H:=H1
    clear H1
    obtain rfl:=Option.some.inj H
    go_wp2
    go_ret
    exact ⟨by first|rfl|(simp [yG,yF] <;> rfl)|(simp [*,yG,yF] <;> rfl),by repeat (first|(with_reducible first|exact HB.out|apply zY|apply zV|apply zU|refine zQ ?_ qU.out)|exact HB.out)⟩
   ·
    replace c16:=Bool.eq_false_iff.mpr c16
    subst c16
    have H1 : (wO.l0 kj2 0 zT zB zW zL) = some r:=by rw [if_neg (show ¬ (false = true) by decide)] at H; exact H
    clear H
    have H:=H1
    clear H1
    have H':=zZ.mk H
    clear H
    go_wp2
    go_loopg [5] kj2 (fun kq v5 w' => ∃ (yI : Int),v5 = .int .i64 yI ∧ zZ (wO.l0 kq yI zT zB zW zL = some r) ∧ zZ (kq ≤ kj2) ∧ zZ (w'.heap[jZ]? = some (.cells #[.int .u8 zT,.string zB,(.slice yR zW.length yS),(.slice xK zL.length xR)] 25 (0,0))) ∧ zZ (Below w.heap.size w w'))
    case atStart => exact ⟨(0),(by first|rfl|(simp;done)|(simp [*];done)),H',⟨Nat.le_refl _⟩,⟨by (with_reducible repeat (first|apply zN|apply zM|apply zR)); exact tX.out⟩,⟨by repeat (first|(with_reducible first|exact HB.out|apply zY|apply zV|apply zU|refine zQ ?_ qU.out)|exact HB.out)⟩⟩
    case round =>
     clear H'
     try clear c1
     try clear p2 p2
     try clear c5
     try clear c6
     try clear c6b0
     try clear c6b1
     try clear c7
     try clear c7b0
     try clear c7b1
     try clear c8
     try clear c8b0
     try clear c8b1
     try clear c10
     try clear c16
     try clear oD oC oB oA
     try clear bI bH bG bF
     try clear jY jX jW jV
     try clear jU jT jS jR
     try clear pD pC pB nU
     try clear zVO zVN zVM zVL
     obtain ⟨yI,rfl,HA,HK2,tX,HB⟩:=hrel
     cases gk with
     | zero => exact absurd HA.out (by simp [wO.l0])
     | succ k2 =>
      have H:=HA.out
      clear HA
      simp only [wO.l0] at H
      by_cases c17 : yI < (zL.length : Int)
      ·
       rw [if_pos c17] at H
       have c17b0 : decide (yI < (zL.length : Int)) = true:=decide_eq_true c17
       clear c17
       by_cases c18 : 0 ≤ yI
       ·
        rw [if_pos c18] at H
        have c18b0 : decide (0 ≤ yI) = true:=decide_eq_true c18
        clear c18
        replace H:=Option.bind_eq_some_iff.mp H
        obtain ⟨t290,A190,H⟩:=H
        replace H : (if t290 = true then (wO.l0 k2 (wrap64 (yI + 1)) zT zB zW zL) else (some false)) = some r:=H
        have A19:=zZ.mk A190
        clear A190
        by_cases c20 : t290 = true
        ·
         subst c20
         have H1 : (wO.l0 k2 (wrap64 (yI + 1)) zT zB zW zL) = some r:=by rw [if_pos rfl] at H; exact H
         clear H
         have H:=H1
         clear H1
         have H':=zZ.mk H
         clear H
         obtain ⟨zVK,zVJ,zVI,zVH⟩:=kc4 tX.out
         have p289 : 0 ≤ (yI : Int):=of_decide_eq_true (by first|(with_reducible assumption)|assumption)
         have q289 : yI < (zL.length : Int):=of_decide_eq_true (by first|(with_reducible assumption)|assumption)
         obtain ⟨ad289,bE,bD,bC,bA,e289,lH,lG,lF,lE,gE,gD,gC,gB⟩:=rK sV.out yI p289 q289
         cases e289
         replace lH:=(HB.out.cell (World.block_lt_of_cell? w _ lH)).trans lH
         replace lG:=(HB.out.cell (World.block_lt_of_cell? w _ lG)).trans lG
         replace lF:=(HB.out.cell (World.block_lt_of_cell? w _ lF)).trans lF
         replace lE:=(HB.out.cell (World.block_lt_of_cell? w _ lE)).trans lE
         have aZ:=zZ.mk gD
         have aY:=zZ.mk gE
         clear gD gE
         have aX:=zZ.mk gB
         have aW:=zZ.mk gC
         clear gB gC
         replace p289:=eq_true p289
         replace q289:=eq_true q289
         go_wp2_with (first|((with_reducible refine yD (f:=52) rfl ?_); refine yE (some 57) rfl rfl Tryd.func52 (by kernel_rfl) rfl #[.agg #[.int .u8 ((yY zL yI).f0),.string ((yY zL yI).f1),.slice bE ((yY zL yI).f2).length bD,.slice bC ((yY zL yI).f3).length bA]] rfl (by (try simp only [List.map_toArray,List.map_cons,List.map_nil]); first|done|rfl|(simp only [List.length_drop,List.length_take]; rfl)) ?_; (with_reducible refine (ih k2 (by have:=HJ2.out; have:=HK2.out; omega) ((yY zL yI).f0) ((yY zL yI).f1) _ _ ((yY zL yI).f2) _ _ ((yY zL yI).f3) true _ ?side1 ?side2 ?side3 ?side4 A19.out).mono ?_); (case side1 => repeat (first|exact (Kd.C_below aZ.out HB.out)|(with_reducible refine Kd.C_alloc ?_ _)|(with_reducible refine Kd.C_drewN ?_ _)|(with_reducible refine Kd.C_drew ?_))); (case side2 => exact aY.out); (case side3 => repeat (first|exact (Kd.C_below aX.out HB.out)|(with_reducible refine Kd.C_alloc ?_ _)|(with_reducible refine Kd.C_drewN ?_ _)|(with_reducible refine Kd.C_drew ?_))); (case side4 => exact aW.out); rintro e w22 ⟨rfl,hb⟩; refine ⟨_,rfl,?_⟩; have zS:=zZ.mk (xX (g:=jZ) (o:=.cells #[.int .u8 zT,.string zB,.slice yR zW.length yS,.slice (some ad289) zL.length xR] 25 (0,0)) (by (with_reducible repeat (first|apply zN|apply zM|apply zR)); exact tX.out) hb); have zO:=zZ.mk (xW (by repeat (first|(with_reducible first|exact HB.out|apply zY|apply zV|apply zU|refine zQ ?_ qU.out)|exact HB.out)) hb); clear tX; clear HB; have tX:=zS; have HB:=zO; clear zS zO; (try clear hb); (try clear hb2); (try clear hk); (try clear hi)))
         go_roundg k2
         case measure => have:=HJ2.out; have:=HK2.out; omega
         case rel => exact ⟨(wrap64 (yI + 1)),(by first|rfl|(simp;done)|(simp [*];done)),H',⟨by have:=HJ2.out; have:=HK2.out; omega⟩,⟨by (with_reducible repeat (first|apply zN|apply zM|apply zR)); exact tX.out⟩,⟨by repeat (first|(with_reducible first|exact HB.out|apply zY|apply zV|apply zU|refine zQ ?_ qU.out)|exact HB.out)⟩⟩
        ·
         replace c20:=Bool.eq_false_iff.mpr c20
         subst c20
         have H1 : (some false) = some r:=by rw [if_neg (show ¬ (false = true) by decide)] at H; exact H
         clear H
         have H:=H1
         clear H1
         obtain rfl:=Option.some.inj H
         obtain ⟨cZ,cY,cX,cW⟩:=kc4 tX.out
         have p289 : 0 ≤ (yI : Int):=of_decide_eq_true (by first|(with_reducible assumption)|assumption)
         have q289 : yI < (zL.length : Int):=of_decide_eq_true (by first|(with_reducible assumption)|assumption)
         obtain ⟨ad289,bE,bD,bC,bA,e289,lH,lG,lF,lE,gE,gD,gC,gB⟩:=rK sV.out yI p289 q289
         cases e289
         replace lH:=(HB.out.cell (World.block_lt_of_cell? w _ lH)).trans lH
         replace lG:=(HB.out.cell (World.block_lt_of_cell? w _ lG)).trans lG
         replace lF:=(HB.out.cell (World.block_lt_of_cell? w _ lF)).trans lF
         replace lE:=(HB.out.cell (World.block_lt_of_cell? w _ lE)).trans lE
         have aZ:=zZ.mk gD
         have aY:=zZ.mk gE
         clear gD gE
         have aX:=zZ.mk gB
         have aW:=zZ.mk gC
         clear gB gC
         replace p289:=eq_true p289
         replace q289:=eq_true q289
         go_wp2_with (first|((with_reducible refine yD (f:=52) rfl ?_); refine yE (some 57) rfl rfl Tryd.func52 (by kernel_rfl) rfl #[.agg #[.int .u8 ((yY zL yI).f0),.string ((yY zL yI).f1),.slice bE ((yY zL yI).f2).length bD,.slice bC ((yY zL yI).f3).length bA]] rfl (by (try simp only [List.map_toArray,List.map_cons,List.map_nil]); first|done|rfl|(simp only [List.length_drop,List.length_take]; rfl)) ?_; (with_reducible refine (ih k2 (by have:=HJ2.out; have:=HK2.out; omega) ((yY zL yI).f0) ((yY zL yI).f1) _ _ ((yY zL yI).f2) _ _ ((yY zL yI).f3) false _ ?side1 ?side2 ?side3 ?side4 A19.out).mono ?_); (case side1 => repeat (first|exact (Kd.C_below aZ.out HB.out)|(with_reducible refine Kd.C_alloc ?_ _)|(with_reducible refine Kd.C_drewN ?_ _)|(with_reducible refine Kd.C_drew ?_))); (case side2 => exact aY.out); (case side3 => repeat (first|exact (Kd.C_below aX.out HB.out)|(with_reducible refine Kd.C_alloc ?_ _)|(with_reducible refine Kd.C_drewN ?_ _)|(with_reducible refine Kd.C_drew ?_))); (case side4 => exact aW.out); rintro e w24 ⟨rfl,hb⟩; refine ⟨_,rfl,?_⟩; have zS:=zZ.mk (xX (g:=jZ) (o:=.cells #[.int .u8 zT,.string zB,.slice yR zW.length yS,.slice (some ad289) zL.length xR] 25 (0,0)) (by (with_reducible repeat (first|apply zN|apply zM|apply zR)); exact tX.out) hb); have zO:=zZ.mk (xW (by repeat (first|(with_reducible first|exact HB.out|apply zY|apply zV|apply zU|refine zQ ?_ qU.out)|exact HB.out)) hb); clear tX; clear HB; have tX:=zS; have HB:=zO; clear zS zO; (try clear hb); (try clear hb2); (try clear hk); (try clear hi)))
         go_ret
         exact ⟨by first|rfl|(simp [yG,yF] <;> rfl)|(simp [*,yG,yF] <;> rfl),by repeat (first|(with_reducible first|exact HB.out|apply zY|apply zV|apply zU|refine zQ ?_ qU.out)|exact HB.out)⟩
       ·
        rw [if_neg c18] at H
        exact absurd H (by simp)
      ·
       rw [if_neg c17] at H
       have c17b0 : decide (yI < (zL.length : Int)) = false:=decide_eq_false c17
       clear c17
       obtain rfl:=Option.some.inj H
       obtain ⟨nY,nX,nW,cV⟩:=kc4 tX.out
       go_wp2
       go_ret
       exact ⟨by first|rfl|(simp [yG,yF] <;> rfl)|(simp [*,yG,yF] <;> rfl),by repeat (first|(with_reducible first|exact HB.out|apply zY|apply zV|apply zU|refine zQ ?_ qU.out)|exact HB.out)⟩
def qQ.f (k : Nat) (zT : Int) (zB : ByteArray) (zW : List Int) (zL : List (S25)) : Option (Bool):=(wO.f k zT zB zW zL).bind fun t292 => (if t292 = true then ((uQ.f k zT zB zW zL).bind fun t293 => (if t293 ≤ 40 then ((uL.f k zT zB zW zL).bind fun t294 => (some (decide (t294 ≤ 2000)))) else (some false))) else (some false))
set_option maxHeartbeats 8000000 in
set_option maxRecDepth 100000 in
theorem qQ.calls (k : Nat) (zT : Int) (zB : ByteArray) (yR : Option Addr) (yS : Nat) (zW : List Int) (xK : Option Addr) (xR : Nat) (zL : List (S25)) (r : Bool) (w : World) (uW : Kd.C (Kd.int .i64) w yR zW.length zW) (uV : zW.length ≤ yS) (tF : Kd.C k25 w xK zL.length zL) (tE : zL.length ≤ xR) (h : qQ.f k zT zB zW zL = some r) :
  Calls Tryd.prog 26 #[.agg #[.int .u8 zT,.string zB,.slice yR zW.length yS,.slice xK zL.length xR]] w fun e w' => e = .returned (.bool r) ∧ Below w.heap.size w w':=by
 have hu25:=Tryd.underlying25
 have tA:=zZ.mk uW
 have rX:=zZ.mk uV
 clear uW uV
 have sV:=zZ.mk tF
 have qP:=zZ.mk tE
 clear tF tE
 have HB:=zZ.mk (Below.refl w.heap.size w)
 have H : ((wO.f k zT zB zW zL).bind fun t292 => (if t292 = true then ((uQ.f k zT zB zW zL).bind fun t293 => (if t293 ≤ 40 then ((uL.f k zT zB zW zL).bind fun t294 => (some (decide (t294 ≤ 2000)))) else (some false))) else (some false))) = some r:=h
 clear h
 replace H:=Option.bind_eq_some_iff.mp H
 obtain ⟨t292,A20,H⟩:=H
 replace H : (if t292 = true then ((uQ.f k zT zB zW zL).bind fun t293 => (if t293 ≤ 40 then ((uL.f k zT zB zW zL).bind fun t294 => (some (decide (t294 ≤ 2000)))) else (some false))) else (some false)) = some r:=H
 have A2:=zZ.mk A20
 clear A20
 by_cases c3 : t292 = true
 ·
  subst c3
  have H1 : ((uQ.f k zT zB zW zL).bind fun t293 => (if t293 ≤ 40 then ((uL.f k zT zB zW zL).bind fun t294 => (some (decide (t294 ≤ 2000)))) else (some false))) = some r:=by rw [if_pos rfl] at H; exact H
  clear H
  have H:=H1
  clear H1
  replace H:=Option.bind_eq_some_iff.mp H
  obtain ⟨t293,A40,H⟩:=H
  replace H : (if t293 ≤ 40 then ((uL.f k zT zB zW zL).bind fun t294 => (some (decide (t294 ≤ 2000)))) else (some false)) = some r:=H
  have A4:=zZ.mk A40
  clear A40
  by_cases c5 : t293 ≤ 40
  ·
   rw [if_pos c5] at H
   have c5b0 : decide (t293 ≤ 40) = true:=decide_eq_true c5
   clear c5
   replace H:=Option.bind_eq_some_iff.mp H
   obtain ⟨t294,A60,H⟩:=H
   replace H : (some (decide (t294 ≤ 2000))) = some r:=H
   have A6:=zZ.mk A60
   clear A60
   obtain rfl:=Option.some.inj H
   go_enter Tryd.func26,Tryd.ntmps26
   go_wp2_with (first|((with_reducible refine uU (N:=1) rfl ?_); refine tY ?hg (N:=1) ?hd (cs:=#[.int .u8 zT,.string zB,.slice yR zW.length yS,.slice xK zL.length xR]) (t:=25) ?hr ?_; (case hd => rfl); (case hg => rfl); (case hr => first|(go_simp; done)|(go_simp; rfl)); intro sE hg w7 hbox hb; have zS:=zZ.mk (xW (by repeat (first|(with_reducible first|exact HB.out|apply zY|apply zV|apply zU)|exact HB.out)) hb); have zO:=zZ.mk (hbox); have zI:=zZ.mk ((by rw [hg]; exact (xS (by repeat (first|(with_reducible first|exact HB.out|apply zY|apply zV|apply zU)|exact HB.out))) : w.heap.size ≤ sE)); have xV:=zZ.mk ((by rw [hg]; exact (xS (by repeat (first|(with_reducible first|exact HB.out|apply zY|apply zV|apply zU)|exact HB.out))) : w.heap.size ≤ sE)); clear HB; have HB:=zS; have vF:=zO; have aV:=zI; have rG:=xV; clear zS zO zI xV; clear hb hbox hg; obtain ⟨zTC,zTB,zTA,zSZ⟩:=kc4 vF.out)|((with_reducible refine yD (f:=52) rfl ?_); refine yE (some 4) rfl rfl Tryd.func52 (by kernel_rfl) rfl #[.agg #[.int .u8 zT,.string zB,.slice yR zW.length yS,.slice xK zL.length xR]] rfl (by (try simp only [List.map_toArray,List.map_cons,List.map_nil]); first|done|rfl|(simp only [List.length_drop,List.length_take]; rfl)) ?_; (with_reducible refine (wO.calls k zT zB _ _ zW _ _ zL true _ ?side1 ?side2 ?side3 ?side4 A2.out).mono ?_); (case side1 => repeat (first|exact (Kd.C_below tA.out HB.out)|(with_reducible refine Kd.C_alloc ?_ _)|(with_reducible refine Kd.C_drewN ?_ _)|(with_reducible refine Kd.C_drew ?_))); (case side2 => exact rX.out); (case side3 => repeat (first|exact (Kd.C_below sV.out HB.out)|(with_reducible refine Kd.C_alloc ?_ _)|(with_reducible refine Kd.C_drewN ?_ _)|(with_reducible refine Kd.C_drew ?_))); (case side4 => exact qP.out); rintro e w9 ⟨rfl,hb⟩; refine ⟨_,rfl,?_⟩; have zS:=zZ.mk (xX (g:=sE) (o:=.cells #[.int .u8 zT,.string zB,.slice yR zW.length yS,.slice xK zL.length xR] 25 (0,0)) (by (with_reducible repeat (first|apply zN|apply zM|apply zR)); exact vF.out) hb); have zO:=zZ.mk (xW (by repeat (first|(with_reducible first|exact HB.out|apply zY|apply zV|apply zU|refine zQ ?_ rG.out)|exact HB.out)) hb); clear vF; clear HB; have vF:=zS; have HB:=zO; clear zS zO; (try clear hb); (try clear hb2); (try clear hk); (try clear hi); obtain ⟨mP,mO,mN,mM⟩:=kc4 vF.out)|(go_at_call 25; (with_reducible refine (uQ.calls k zT zB _ _ zW _ _ zL t293 _ ?side1 ?side2 ?side3 ?side4 A4.out).mono ?_); (case side1 => repeat (first|exact (Kd.C_below tA.out HB.out)|(with_reducible refine Kd.C_alloc ?_ _)|(with_reducible refine Kd.C_drewN ?_ _)|(with_reducible refine Kd.C_drew ?_))); (case side2 => exact rX.out); (case side3 => repeat (first|exact (Kd.C_below sV.out HB.out)|(with_reducible refine Kd.C_alloc ?_ _)|(with_reducible refine Kd.C_drewN ?_ _)|(with_reducible refine Kd.C_drew ?_))); (case side4 => exact qP.out); rintro e w11 ⟨rfl,hb⟩; have zS:=zZ.mk (xX (g:=sE) (o:=.cells #[.int .u8 zT,.string zB,.slice yR zW.length yS,.slice xK zL.length xR] 25 (0,0)) (by (with_reducible repeat (first|apply zN|apply zM|apply zR)); exact vF.out) hb); have zO:=zZ.mk (xW (by repeat (first|(with_reducible first|exact HB.out|apply zY|apply zV|apply zU|refine zQ ?_ rG.out)|exact HB.out)) hb); clear vF; clear HB; have vF:=zS; have HB:=zO; clear zS zO; (try clear hb); (try clear hb2); (try clear hk); (try clear hi); obtain ⟨bI,bH,bG,bF⟩:=kc4 vF.out)|(go_at_call 23; (with_reducible refine (uL.calls k zT zB _ _ zW _ _ zL t294 _ ?side1 ?side2 ?side3 ?side4 A6.out).mono ?_); (case side1 => repeat (first|exact (Kd.C_below tA.out HB.out)|(with_reducible refine Kd.C_alloc ?_ _)|(with_reducible refine Kd.C_drewN ?_ _)|(with_reducible refine Kd.C_drew ?_))); (case side2 => exact rX.out); (case side3 => repeat (first|exact (Kd.C_below sV.out HB.out)|(with_reducible refine Kd.C_alloc ?_ _)|(with_reducible refine Kd.C_drewN ?_ _)|(with_reducible refine Kd.C_drew ?_))); (case side4 => exact qP.out); rintro e w13 ⟨rfl,hb⟩; have zS:=zZ.mk (xX (g:=sE) (o:=.cells #[.int .u8 zT,.string zB,.slice yR zW.length yS,.slice xK zL.length xR] 25 (0,0)) (by (with_reducible repeat (first|apply zN|apply zM|apply zR)); exact vF.out) hb); have zO:=zZ.mk (xW (by repeat (first|(with_reducible first|exact HB.out|apply zY|apply zV|apply zU|refine zQ ?_ rG.out)|exact HB.out)) hb); clear vF; clear HB; have vF:=zS; have HB:=zO; clear zS zO; (try clear hb); (try clear hb2); (try clear hk); (try clear hi)))
   go_ret
   exact ⟨by first|rfl|(simp [yG,yF] <;> rfl)|(simp [*,yG,yF] <;> rfl),by repeat (first|(with_reducible first|exact HB.out|apply zY|apply zV|apply zU|refine zQ ?_ rG.out)|exact HB.out)⟩
  ·
   rw [if_neg c5] at H
   have c5b0 : decide (t293 ≤ 40) = false:=decide_eq_false c5
   clear c5
   obtain rfl:=Option.some.inj H
   go_enter Tryd.func26,Tryd.ntmps26
   go_wp2_with (first|((with_reducible refine uU (N:=1) rfl ?_); refine tY ?hg (N:=1) ?hd (cs:=#[.int .u8 zT,.string zB,.slice yR zW.length yS,.slice xK zL.length xR]) (t:=25) ?hr ?_; (case hd => rfl); (case hg => rfl); (case hr => first|(go_simp; done)|(go_simp; rfl)); intro sE hg w14 hbox hb; have zS:=zZ.mk (xW (by repeat (first|(with_reducible first|exact HB.out|apply zY|apply zV|apply zU)|exact HB.out)) hb); have zO:=zZ.mk (hbox); have zI:=zZ.mk ((by rw [hg]; exact (xS (by repeat (first|(with_reducible first|exact HB.out|apply zY|apply zV|apply zU)|exact HB.out))) : w.heap.size ≤ sE)); have xV:=zZ.mk ((by rw [hg]; exact (xS (by repeat (first|(with_reducible first|exact HB.out|apply zY|apply zV|apply zU)|exact HB.out))) : w.heap.size ≤ sE)); clear HB; have HB:=zS; have vF:=zO; have aV:=zI; have rG:=xV; clear zS zO zI xV; clear hb hbox hg; obtain ⟨pD,pC,pB,nU⟩:=kc4 vF.out)|((with_reducible refine yD (f:=52) rfl ?_); refine yE (some 4) rfl rfl Tryd.func52 (by kernel_rfl) rfl #[.agg #[.int .u8 zT,.string zB,.slice yR zW.length yS,.slice xK zL.length xR]] rfl (by (try simp only [List.map_toArray,List.map_cons,List.map_nil]); first|done|rfl|(simp only [List.length_drop,List.length_take]; rfl)) ?_; (with_reducible refine (wO.calls k zT zB _ _ zW _ _ zL true _ ?side1 ?side2 ?side3 ?side4 A2.out).mono ?_); (case side1 => repeat (first|exact (Kd.C_below tA.out HB.out)|(with_reducible refine Kd.C_alloc ?_ _)|(with_reducible refine Kd.C_drewN ?_ _)|(with_reducible refine Kd.C_drew ?_))); (case side2 => exact rX.out); (case side3 => repeat (first|exact (Kd.C_below sV.out HB.out)|(with_reducible refine Kd.C_alloc ?_ _)|(with_reducible refine Kd.C_drewN ?_ _)|(with_reducible refine Kd.C_drew ?_))); (case side4 => exact qP.out); rintro e w16 ⟨rfl,hb⟩; refine ⟨_,rfl,?_⟩; have zS:=zZ.mk (xX (g:=sE) (o:=.cells #[.int .u8 zT,.string zB,.slice yR zW.length yS,.slice xK zL.length xR] 25 (0,0)) (by (with_reducible repeat (first|apply zN|apply zM|apply zR)); exact vF.out) hb); have zO:=zZ.mk (xW (by repeat (first|(with_reducible first|exact HB.out|apply zY|apply zV|apply zU|refine zQ ?_ rG.out)|exact HB.out)) hb); clear vF; clear HB; have vF:=zS; have HB:=zO; clear zS zO; (try clear hb); (try clear hb2); (try clear hk); (try clear hi); obtain ⟨jQ,jP,jO,jN⟩:=kc4 vF.out)|(go_at_call 25; (with_reducible refine (uQ.calls k zT zB _ _ zW _ _ zL t293 _ ?side1 ?side2 ?side3 ?side4 A4.out).mono ?_); (case side1 => repeat (first|exact (Kd.C_below tA.out HB.out)|(with_reducible refine Kd.C_alloc ?_ _)|(with_reducible refine Kd.C_drewN ?_ _)|(with_reducible refine Kd.C_drew ?_))); (case side2 => exact rX.out); (case side3 => repeat (first|exact (Kd.C_below sV.out HB.out)|(with_reducible refine Kd.C_alloc ?_ _)|(with_reducible refine Kd.C_drewN ?_ _)|(with_reducible refine Kd.C_drew ?_))); (case side4 => exact qP.out); rintro e w18 ⟨rfl,hb⟩; have zS:=zZ.mk (xX (g:=sE) (o:=.cells #[.int .u8 zT,.string zB,.slice yR zW.length yS,.slice xK zL.length xR] 25 (0,0)) (by (with_reducible repeat (first|apply zN|apply zM|apply zR)); exact vF.out) hb); have zO:=zZ.mk (xW (by repeat (first|(with_reducible first|exact HB.out|apply zY|apply zV|apply zU|refine zQ ?_ rG.out)|exact HB.out)) hb); clear vF; clear HB; have vF:=zS; have HB:=zO; clear zS zO; (try clear hb); (try clear hb2); (try clear hk); (try clear hi)))
   go_ret
   exact ⟨by first|rfl|(simp [yG,yF] <;> rfl)|(simp [*,yG,yF] <;> rfl),by repeat (first|(with_reducible first|exact HB.out|apply zY|apply zV|apply zU|refine zQ ?_ rG.out)|exact HB.out)⟩
 ·
  replace c3:=Bool.eq_false_iff.mpr c3
  subst c3
  have H1 : (some false) = some r:=by rw [if_neg (show ¬ (false = true) by decide)] at H; exact H
  clear H
  have H:=H1
  clear H1
  obtain rfl:=Option.some.inj H
  go_enter Tryd.func26,Tryd.ntmps26
  go_wp2_with (first|((with_reducible refine uU (N:=1) rfl ?_); refine tY ?hg (N:=1) ?hd (cs:=#[.int .u8 zT,.string zB,.slice yR zW.length yS,.slice xK zL.length xR]) (t:=25) ?hr ?_; (case hd => rfl); (case hg => rfl); (case hr => first|(go_simp; done)|(go_simp; rfl)); intro sE hg w19 hbox hb; have zS:=zZ.mk (xW (by repeat (first|(with_reducible first|exact HB.out|apply zY|apply zV|apply zU)|exact HB.out)) hb); have zO:=zZ.mk (hbox); have zI:=zZ.mk ((by rw [hg]; exact (xS (by repeat (first|(with_reducible first|exact HB.out|apply zY|apply zV|apply zU)|exact HB.out))) : w.heap.size ≤ sE)); have xV:=zZ.mk ((by rw [hg]; exact (xS (by repeat (first|(with_reducible first|exact HB.out|apply zY|apply zV|apply zU)|exact HB.out))) : w.heap.size ≤ sE)); clear HB; have HB:=zS; have vF:=zO; have aV:=zI; have rG:=xV; clear zS zO zI xV; clear hb hbox hg; obtain ⟨mK,mJ,mI,mH⟩:=kc4 vF.out)|((with_reducible refine yD (f:=52) rfl ?_); refine yE (some 4) rfl rfl Tryd.func52 (by kernel_rfl) rfl #[.agg #[.int .u8 zT,.string zB,.slice yR zW.length yS,.slice xK zL.length xR]] rfl (by (try simp only [List.map_toArray,List.map_cons,List.map_nil]); first|done|rfl|(simp only [List.length_drop,List.length_take]; rfl)) ?_; (with_reducible refine (wO.calls k zT zB _ _ zW _ _ zL false _ ?side1 ?side2 ?side3 ?side4 A2.out).mono ?_); (case side1 => repeat (first|exact (Kd.C_below tA.out HB.out)|(with_reducible refine Kd.C_alloc ?_ _)|(with_reducible refine Kd.C_drewN ?_ _)|(with_reducible refine Kd.C_drew ?_))); (case side2 => exact rX.out); (case side3 => repeat (first|exact (Kd.C_below sV.out HB.out)|(with_reducible refine Kd.C_alloc ?_ _)|(with_reducible refine Kd.C_drewN ?_ _)|(with_reducible refine Kd.C_drew ?_))); (case side4 => exact qP.out); rintro e w21 ⟨rfl,hb⟩; refine ⟨_,rfl,?_⟩; have zS:=zZ.mk (xX (g:=sE) (o:=.cells #[.int .u8 zT,.string zB,.slice yR zW.length yS,.slice xK zL.length xR] 25 (0,0)) (by (with_reducible repeat (first|apply zN|apply zM|apply zR)); exact vF.out) hb); have zO:=zZ.mk (xW (by repeat (first|(with_reducible first|exact HB.out|apply zY|apply zV|apply zU|refine zQ ?_ rG.out)|exact HB.out)) hb); clear vF; clear HB; have vF:=zS; have HB:=zO; clear zS zO; (try clear hb); (try clear hb2); (try clear hk); (try clear hi)))
  go_ret
  exact ⟨by first|rfl|(simp [yG,yF] <;> rfl)|(simp [*,yG,yF] <;> rfl),by repeat (first|(with_reducible first|exact HB.out|apply zY|apply zV|apply zU|refine zQ ?_ rG.out)|exact HB.out)⟩
end Go.Proofs.YtjeofffddbibeaaDoor.PParseTells
end

section
namespace Go.Proofs.YtjeofffddbibeaaDoor.Pa
open Go Go.RowKit PParseTells Ex YtjeofffddbibeaaDoorW.PrintWords YtjeofffddbibeaaDoorW.PrintLast YtjeofffddbibeaaDoorW.PrintMore
theorem mono_up {α : Type} {f : Nat → Option α} (h : ∀ k,LeO (f k) (f (k + 1))) {k m : Nat} (hk : k ≤ m) {r : α} (hr : f k = some r) : f m = some r:=by
 induction m with
 | zero =>
  obtain rfl : k = 0:=by omega
  exact hr
 | succ m ih =>
  by_cases h1 : k = m + 1
  · subst h1; exact hr
  · exact h m r (ih (by omega))
theorem refKind_k (o : Int) (h0 : 0 ≤ o) (k : Nat) (hk : 3 ≤ k) : wG.f k o = some (if o ≤ 12 then numsOf o else -1,argsOf o) :=
 mono_up (f:=fun k => wG.f k o) (fun k => wG.mono _ k) hk (Ex.refKind_f o h0)
theorem parts_l0 (o : Int) (s : ByteArray) (ns : List Int) (xs : List X) (hl : cntL xs ≤ 1099511627776)
  (ih : ∀ y ∈ xs,∀ k,3 * cnt y + 45 ≤ k → wO.f k y.f0 y.f1 y.f2 y.f3 = some (allR y)) :
  ∀ (d i : Nat),i + d = xs.length → ∀ k,3 * cntL (xs.drop i) + 46 ≤ k → wO.l0 k (i : Nat) o s ns xs = some (allRL (xs.drop i)):=by
 have hlen:=len_cntL xs
 intro d
 induction d with
 | zero =>
  intro i hi k hk
  obtain ⟨k,rfl⟩ : ∃ m,k = m + 1:=⟨k - 1,by omega⟩
  rw [wO.l0,if_neg (by omega),List.drop_eq_nil_of_le (by omega),cB]
 | succ d ihd =>
  intro i hi k hk
  obtain ⟨k,rfl⟩ : ∃ m,k = m + 1:=⟨k - 1,by omega⟩
  have hil : i < xs.length:=by omega
  have hcd:=cC xs i hil
  have hpos:=sQ xs[i]
  have e1 : wrap64 ((i : Int) + 1) = ((i + 1 : Nat) : Int):=by
   rw [Ex.w64 (by omega) (by omega)]
   omega
  rw [wO.l0,if_pos (by omega),if_pos (by omega),rd_at xs i hil,ih xs[i] (List.getElem_mem hil) k (by omega),Option.bind_some,List.drop_eq_getElem_cons hil,bZ]
  by_cases h : allR xs[i] = true
  · rw [if_pos h,e1,ihd (i + 1) (by omega) k (by omega),h,Bool.true_and]
  ·
   have h' : allR xs[i] = false:=by simpa using h
   rw [if_neg h,h',Bool.false_and]
theorem parts_f (N : Nat) : ∀ x : X,cnt x ≤ N → cnt x ≤ 1099511627776 → Wf x → ∀ k,3 * cnt x + 45 ≤ k → wO.f k x.f0 x.f1 x.f2 x.f3 = some (allR x):=by
 induction N with
 | zero => intro x hc; exact absurd (sQ x) (by omega)
 | succ N ih =>
  intro x hc hm hwf k hk
  obtain ⟨o,s,ns,xs⟩:=x
  have hce:=sW ⟨o,s,ns,xs⟩
  dsimp only at hce
  have h0 : 0 ≤ o:=hwf.op.1
  obtain ⟨k,rfl⟩ : ∃ m,k = m + 1:=⟨k - 1,by omega⟩
  obtain ⟨k,rfl⟩ : ∃ m,k = m + 1:=⟨k - 1,by omega⟩
  have hL:=parts_l0 o s ns xs (by omega) (fun y hy k hk => ih y (by have:=nA hy; omega) (by have:=nA hy; omega) (hwf.child hy) k hk) xs.length 0 (by omega) k (by rw [List.drop_zero]; omega)
  rw [List.drop_zero,show ((0 : Nat) : Int) = 0 from rfl] at hL
  have hT : ∀ b,wO.j0 (k + 1) b o s ns xs = some (!b && allRL xs):=fun b => by
   cases b
   · rw [wO.j0,if_neg (by decide),hL]; rfl
   · rw [wO.j0,if_pos rfl]; rfl
  dsimp only
  rw [wO.f,refKind_k o h0 (k + 1) (by omega),Option.bind_some,iD]
  unfold rightB
  dsimp only
  by_cases h12 : o ≤ 12
  ·
   rw [if_pos h12,decide_eq_true h12,Bool.true_and]
   by_cases h1 : numsOf o = (ns.length : Int)
   ·
    rw [if_pos h1,decide_eq_true h1.symm,Bool.true_and]
    by_cases h2 : argsOf o = (xs.length : Int)
    ·
     rw [if_pos h2,decide_eq_true h2.symm,Bool.true_and]
     by_cases h3 : o = 0
     ·
      rw [if_pos h3,if_pos h3,refName_f s (k + 1) (by omega),Option.bind_some]
      by_cases h4 : nameB s = true
      · rw [if_pos h4,hT,h4]; rfl
      ·
       have h4' : nameB s = false:=by simpa using h4
       rw [if_neg h4,hT,h4']; rfl
     ·
      rw [if_neg h3,if_neg h3,hT]
      congr 2
      cases s.toList <;> rfl
    · rw [if_neg h2,hT,decide_eq_false (fun h => h2 h.symm)]; rfl
   · rw [if_neg h1,hT,decide_eq_false (fun h => h1 h.symm)]; rfl
  · rw [if_neg h12,if_neg (by omega),hT,decide_eq_false h12]; rfl
theorem refRight_f (x : X) (hc : cnt x ≤ 1048576) (hwf : Wf x) (k : Nat) (hk : 4000000 ≤ k) : qQ.f k x.f0 x.f1 x.f2 x.f3 = some (RightB x):=by
 unfold qQ.f RightB
 rw [parts_f (cnt x) x (Nat.le_refl _) (by omega) hwf k (by omega),Option.bind_some]
 by_cases h : allR x = true
 ·
  rw [if_pos h,refDepth_f (cnt x) x (Nat.le_refl _) (by omega) k (by omega),Option.bind_some,h,Bool.true_and]
  by_cases h2 : dep x ≤ 40
  ·
   rw [if_pos (by omega),zWT (cnt x) x (Nat.le_refl _) (by omega) k (by omega),Option.bind_some,decide_eq_true h2,Bool.true_and]
   congr 1
   rw [Bool.eq_iff_iff,decide_eq_true_eq,decide_eq_true_eq]
   omega
  · rw [if_neg (by omega),decide_eq_false h2,Bool.false_and]
 ·
  have h' : allR x = false:=by simpa using h
  rw [if_neg h,h',Bool.false_and,Bool.false_and]
open Go Go.RowKit PParseTells Ex
abbrev mC : Tok:=⟨4,COM,0⟩
abbrev mL : Tok:=⟨4,LPA,0⟩
abbrev mR : Tok:=⟨4,RPA,0⟩
abbrev nTok (v : Int) : Tok:=⟨2,nil8,v⟩
abbrev wTok (s : ByteArray) : Tok:=⟨1,s,0⟩
def opW (o : Int) : ByteArray:=opsL.getD (o.toNat - 1) nil8
def seqW : List (List Tok) → List Tok
 | [] => [mR]
 | [a] => a ++ [mR]
 | a :: b :: r => a ++ mC :: seqW (b :: r)
mutual
def wordsX : X → List Tok
 | ⟨o,n,ns,xs⟩ => if o = 0 ∨ 13 ≤ o then [wTok n] else wTok (opW o) :: mL :: seqW (ns.map (fun v => [nTok v]) ++ wordsL xs)
def wordsL : List X → List (List Tok)
 | [] => []
 | y :: ys => wordsX y :: wordsL ys
end
theorem oM (x : X) : wordsX x = if x.f0 = 0 ∨ 13 ≤ x.f0 then [wTok x.f1] else wTok (opW x.f0) :: mL :: seqW (x.f2.map (fun v => [nTok v]) ++ wordsL x.f3):=by cases x; rw [wordsX]
theorem qW : wordsL [] = []:=by rw [wordsL]
theorem rM (y : X) (ys : List X) : wordsL (y :: ys) = wordsX y :: wordsL ys:=by rw [wordsL]
theorem op_word : ∀ o : Int,1 ≤ o → o ≤ 12 → opF (opW o) = (o,true):=by
 intro o h0 h1
 rcases (show o = 1 ∨ o = 2 ∨ o = 3 ∨ o = 4 ∨ o = 5 ∨ o = 6 ∨ o = 7 ∨ o = 8 ∨ o = 9 ∨ o = 10 ∨ o = 11 ∨ o = 12 by omega) with rfl|rfl|rfl|rfl|rfl|rfl|rfl|rfl|rfl|rfl|rfl|rfl <;> decide +kernel
theorem gP : ∀ o : Int,1 ≤ o → o ≤ 12 → 0 < manyOf o ∧ ((manyOf o : Nat) : Int) = numsOf o + argsOf o ∧ 0 ≤ numsOf o ∧ 0 ≤ argsOf o:=by
 intro o h0 h1
 rcases (show o = 1 ∨ o = 2 ∨ o = 3 ∨ o = 4 ∨ o = 5 ∨ o = 6 ∨ o = 7 ∨ o = 8 ∨ o = 9 ∨ o = 10 ∨ o = 11 ∨ o = 12 by omega) with rfl|rfl|rfl|rfl|rfl|rfl|rfl|rfl|rfl|rfl|rfl|rfl <;> decide +kernel
theorem pU (s : ByteArray) (R : List Tok) : markF s (⟨4,s,0⟩ :: R) = (R,0):=if_pos (by show (decide ((4 : Int) = 4) && (s.toList == s.toList)) = true; simp)
theorem is_yes (s : ByteArray) (R : List Tok) : isF s (⟨4,s,0⟩ :: R) = true:=by show (decide ((4 : Int) = 4) && (s.toList == s.toList)) = true; simp
theorem isLPA_C (R : List Tok) : isF LPA (mC :: R) = false:=by show (decide ((4 : Int) = 4) && (COM.toList == LPA.toList)) = false; decide +kernel
theorem isLPA_R (R : List Tok) : isF LPA (mR :: R) = false:=by show (decide ((4 : Int) = 4) && (RPA.toList == LPA.toList)) = false; decide +kernel
theorem name_step (d : Nat) (p : Int) (hp : p < 2000) (s : ByteArray) (R : List Tok) (h : ¬ ((opF s).2 = true ∧ isF LPA R = true)) :
  exprF (d + 1) p (wTok s :: R) = ⟨⟨0,s,[],[]⟩,R,p + 1,0⟩:=by
 show exprG false (exprF d) p _ = _
 unfold exprG
 have ht : takeF [1] (wTok s :: R) = (wTok s,R,0):=by unfold takeF; exact if_pos ⟨by simp,by simp⟩
 rw [if_neg (by intro h9; rcases h9.2 with h8|h8 <;> first|omega|cases h8),ht,if_neg (by simp)]
 dsimp only
 rw [if_neg h]
theorem op_step (d : Nat) (p : Int) (hp : p < 2000) (o : Int) (h0 : 1 ≤ o) (h1 : o ≤ 12) (R : List Tok) :
  exprF (d + 1) p (wTok (opW o) :: mL :: R) = stepsF (exprF d) (numsOf o).toNat (manyOf o) (manyOf o) ⟨o,nil8,[],[]⟩ (p + 1) R:=by
 show exprG false (exprF d) p _ = _
 unfold exprG
 have ht : takeF [1] (wTok (opW o) :: mL :: R) = (wTok (opW o),mL :: R,0):=by unfold takeF; exact if_pos ⟨by simp,by simp⟩
 rw [if_neg (by intro h9; rcases h9.2 with h8|h8 <;> first|omega|cases h8),ht,if_neg (by simp)]
 dsimp only
 rw [op_word o h0 h1,if_pos ⟨rfl,is_yes LPA R⟩]
 rfl
theorem zWR (d : Nat) (p : Int) : exprF d p [] = ⟨zX,[],p + 1,110⟩:=by
 cases d with
 | zero =>
  show exprG true _ p [] = _
  unfold exprG
  rw [if_neg (by intro h; exact absurd h.1 (by decide)),show takeF [1] [] = (z61,[],110) from rfl,if_pos (by simp)]
 | succ d =>
  show exprG false _ p [] = _
  unfold exprG
  rw [if_neg (by intro h; exact absurd h.1 (by decide)),show takeF [1] [] = (z61,[],110) from rfl,if_pos (by simp)]
theorem hZ (a : List Tok) (r : List (List Tok)) : seqW (a :: r) = if r = [] then a ++ [mR] else a ++ mC :: seqW r:=by
 cases r with
 | nil => rfl
 | cons b r => rw [if_neg (by simp)]; rfl
structure Told (d : Nat) (x : X) : Prop where
 all : ∀ (p : Int) (R : List Tok),0 ≤ p → p + cnt x ≤ 2000 → (x.f0 = 0 → isF LPA R = false) → exprF d p (wordsX x ++ R) = ⟨x,R,p + cnt x,0⟩
 cut : ∀ (p : Int) (k : Nat),0 ≤ p → p + cnt x ≤ 2000 → k < (wordsX x).length → (k = 1 → ∃ s,exprF d p ((wordsX x).take k) = ⟨⟨0,s,[],[]⟩,[],p + 1,0⟩ ∧ (wordsX x).head? = some (wTok s)) ∧ (k ≠ 1 → (exprF d p ((wordsX x).take k)).e = 110 ∧ (exprF d p ((wordsX x).take k)).l = [])
theorem steps_words (d : Nat) (o : Int) (nums many : Nat) : ∀ (m : Nat) (ns : List Int) (xs : List X) (f2 : List Int) (f3 : List X) (p : Int) (R : List Tok),
  m = ns.length + xs.length → m ≤ many → 0 < m → (ns ≠ [] → many - m < nums) → (ns = [] → nums ≤ many - m) → (ns ≠ [] → many - m + ns.length = nums) → (∀ y ∈ xs,Told d y) → 0 ≤ p → p + cntL xs ≤ 2000 →
  stepsF (exprF d) nums many m ⟨o,nil8,f2,f3⟩ p (seqW (ns.map (fun v => [nTok v]) ++ wordsL xs) ++ R) = ⟨⟨o,nil8,f2 ++ ns,f3 ++ xs⟩,R,p + cntL xs,0⟩:=by
 intro m
 induction m with
 | zero => intro ns xs f2 f3 p R _ _ h; omega
 | succ m ih =>
  intro ns xs f2 f3 p R hm hle _ h1 h2 h3 hT hp0 hp1
  have hmk : (if m = 0 then RPA else COM) = if m = 0 then RPA else COM:=rfl
  cases ns with
  | cons v ns =>
   have hd : decide (many - (m + 1) < nums) = true:=decide_eq_true (h1 (by simp))
   rw [stepsF,hd]
   rw [List.map_cons,List.cons_append,hZ]
   have hnum : ∀ Q,itemF (exprF d) true ⟨o,nil8,f2,f3⟩ p (nTok v :: Q) = ⟨⟨o,nil8,f2 ++ [v],f3⟩,Q,p,0⟩:=fun Q => by
    unfold itemF
    rw [if_pos rfl,show numF (nTok v :: Q) = (nTok v,Q,0) from by unfold numF takeF; exact if_pos ⟨by simp,by simp⟩]
   rw [List.length_cons] at hm h3
   by_cases hz : m = 0
   ·
    have hns : ns = []:=List.eq_nil_of_length_eq_zero (by omega)
    have hxs : xs = []:=List.eq_nil_of_length_eq_zero (by omega)
    subst hns
    subst hxs
    rw [if_pos (show List.map (fun v => [nTok v]) ([] : List Int) ++ wordsL [] = [] from qW),if_pos hz,hz]
    rw [show [nTok v] ++ [mR] ++ R = nTok v :: mR :: R from rfl,hnum,if_neg (by simp)]
    dsimp only
    rw [pU RPA R,if_neg (by simp),stepsF,rY]
    simp
   ·
    have hne : ¬ (ns.map (fun v => [nTok v]) ++ wordsL xs = []):=by
     intro h
     have h:=congrArg List.length h
     rw [List.length_append,List.length_map] at h
     have hwl : ∀ l : List X,(wordsL l).length = l.length:=fun l => by
      induction l with
      | nil => rw [qW]; rfl
      | cons y l ih => rw [rM,List.length_cons,List.length_cons,ih]
     rw [hwl] at h
     have h9 : ns.length + xs.length = 0:=h
     omega
    rw [if_neg hne,if_neg hz]
    rw [show [nTok v] ++ mC :: seqW (ns.map (fun v => [nTok v]) ++ wordsL xs) ++ R = nTok v :: mC :: (seqW (ns.map (fun v => [nTok v]) ++ wordsL xs) ++ R) from rfl,hnum,if_neg (by simp)]
    dsimp only
    rw [pU COM,if_neg (by simp)]
    dsimp only
    have h3':=h3 (by simp)
    rw [ih ns xs (f2 ++ [v]) f3 p R (by omega) (by omega) (by omega) (fun hn => by have : 0 < ns.length:=List.length_pos_iff.2 hn; omega) (fun hn => by subst hn; rw [List.length_nil] at h3'; omega) (fun hn => by omega) hT hp0 hp1]
    rw [List.append_assoc]
    rfl
  | nil =>
   cases xs with
   | nil => simp at hm
   | cons y xs =>
    have hd : decide (many - (m + 1) < nums) = false:=decide_eq_false (by have:=h2 rfl; omega)
    rw [stepsF,hd]
    rw [List.map_nil,List.nil_append,rM,hZ]
    rw [rL] at hp1 ⊢
    have hcp:=sQ y
    have hitem : ∀ Q,isF LPA Q = false → itemF (exprF d) false ⟨o,nil8,f2,f3⟩ p (wordsX y ++ Q) = ⟨⟨o,nil8,f2,f3 ++ [y]⟩,Q,p + cnt y,0⟩:=fun Q hQ => by
     unfold itemF
     rw [if_neg (by simp),(hT y (by simp)).all p Q hp0 (by omega) (fun _ => hQ)]
    rw [List.length_cons,List.length_nil] at hm
    by_cases hz : m = 0
    ·
     have hxs : xs = []:=List.eq_nil_of_length_eq_zero (by omega)
     subst hxs
     rw [if_pos qW,if_pos hz,hz]
     rw [show wordsX y ++ [mR] ++ R = wordsX y ++ mR :: R by rw [List.append_assoc]; rfl,hitem _ (isLPA_R R),if_neg (by simp)]
     dsimp only
     rw [pU RPA R,if_neg (by simp),stepsF,rY,List.append_nil]
     simp
    ·
     have hne : ¬ (wordsL xs = []):=by
      cases xs with
      | nil => simp at hm; omega
      | cons z xs => rw [rM]; simp
     rw [if_neg hne,if_neg hz]
     rw [show wordsX y ++ mC :: seqW (wordsL xs) ++ R = wordsX y ++ mC :: (seqW (wordsL xs) ++ R) by rw [List.append_assoc]; rfl,hitem _ (isLPA_C _),if_neg (by simp)]
     dsimp only
     rw [pU COM,if_neg (by simp)]
     dsimp only
     have ih9:=ih [] xs f2 (f3 ++ [y]) (p + cnt y) R (by simp; omega) (by omega) (by omega) (fun hn => absurd rfl hn) (fun _ => by have:=h2 rfl; omega) (fun hn => absurd rfl hn) (fun z hz => hT z (by simp [hz])) (by omega) (by omega)
     rw [List.map_nil,List.nil_append] at ih9
     rw [ih9]
     rw [List.append_assoc]
     simp only [List.append_nil,List.cons_append,List.nil_append,Res.mk.injEq,true_and,and_true]
     omega
theorem steps_cut (d : Nat) (o : Int) (nums many : Nat) : ∀ (m : Nat) (ns : List Int) (xs : List X) (f2 : List Int) (f3 : List X) (p : Int) (k : Nat),
  m = ns.length + xs.length → m ≤ many → 0 < m → (ns ≠ [] → many - m < nums) → (ns = [] → nums ≤ many - m) → (ns ≠ [] → many - m + ns.length = nums) → (∀ y ∈ xs,Told d y) → 0 ≤ p → p + cntL xs ≤ 2000 → k < (seqW (ns.map (fun v => [nTok v]) ++ wordsL xs)).length →
  (stepsF (exprF d) nums many m ⟨o,nil8,f2,f3⟩ p ((seqW (ns.map (fun v => [nTok v]) ++ wordsL xs)).take k)).e = 110 ∧ (stepsF (exprF d) nums many m ⟨o,nil8,f2,f3⟩ p ((seqW (ns.map (fun v => [nTok v]) ++ wordsL xs)).take k)).l = []:=by
 intro m
 induction m with
 | zero => intro ns xs f2 f3 p k _ _ h; omega
 | succ m ih =>
  intro ns xs f2 f3 p k hm hle _ h1 h2 h3 hT hp0 hp1 hk
  -- an item that is cut,or whole with nothing behind
  have item_err : ∀ num L,(itemF (exprF d) num ⟨o,nil8,f2,f3⟩ p L).e = 110 → (itemF (exprF d) num ⟨o,nil8,f2,f3⟩ p L).l = [] → decide (many - (m + 1) < nums) = num →
    (stepsF (exprF d) nums many (m + 1) ⟨o,nil8,f2,f3⟩ p L).e = 110 ∧ (stepsF (exprF d) nums many (m + 1) ⟨o,nil8,f2,f3⟩ p L).l = []:=fun num L he hl hd => by
   rw [stepsF,hd,if_pos (by rw [he]; decide)]
   exact ⟨he,hl⟩
  have item_end : ∀ num L,(itemF (exprF d) num ⟨o,nil8,f2,f3⟩ p L).e = 0 → (itemF (exprF d) num ⟨o,nil8,f2,f3⟩ p L).l = [] → decide (many - (m + 1) < nums) = num →
    (stepsF (exprF d) nums many (m + 1) ⟨o,nil8,f2,f3⟩ p L).e = 110 ∧ (stepsF (exprF d) nums many (m + 1) ⟨o,nil8,f2,f3⟩ p L).l = []:=fun num L he hl hd => by
   have hmk : ∀ s,markF s [] = ([],110):=fun s => rfl
   rw [stepsF,hd,if_neg (by rw [he]; simp),hl,hmk,if_pos (by simp)]
   exact ⟨rfl,rfl⟩
  cases ns with
  | cons v ns =>
   have hd : decide (many - (m + 1) < nums) = true:=decide_eq_true (h1 (by simp))
   have hnum : ∀ Q,itemF (exprF d) true ⟨o,nil8,f2,f3⟩ p (nTok v :: Q) = ⟨⟨o,nil8,f2 ++ [v],f3⟩,Q,p,0⟩:=fun Q => by
    unfold itemF
    rw [if_pos rfl,show numF (nTok v :: Q) = (nTok v,Q,0) from by unfold numF takeF; exact if_pos ⟨by simp,by simp⟩]
   have hnil : itemF (exprF d) true ⟨o,nil8,f2,f3⟩ p [] = ⟨⟨o,nil8,f2 ++ [0],f3⟩,[],p,110⟩:=by
    unfold itemF
    rw [if_pos rfl]
    rfl
   rw [List.map_cons,List.cons_append,hZ] at hk ⊢
   rw [List.length_cons] at hm h3
   cases k with
   | zero =>
    rw [List.take_zero]
    exact item_err true [] (by rw [hnil]) (by rw [hnil]) hd
   | succ k =>
    cases k with
    | zero =>
     have ht : (if ns.map (fun v => [nTok v]) ++ wordsL xs = [] then [nTok v] ++ [mR] else [nTok v] ++ mC :: seqW (ns.map (fun v => [nTok v]) ++ wordsL xs)).take 1 = [nTok v]:=by split <;> rfl
     rw [ht]
     exact item_end true _ (by rw [hnum]) (by rw [hnum]) hd
    | succ k =>
     by_cases hz : ns.map (fun v => [nTok v]) ++ wordsL xs = []
     ·
      rw [if_pos hz] at hk
      simp at hk
      omega
     ·
      rw [if_neg hz] at hk ⊢
      have hm0 : ¬ (m = 0):=by
       intro h0
       apply hz
       have a1 : ns = []:=List.eq_nil_of_length_eq_zero (by omega)
       have a2 : xs = []:=List.eq_nil_of_length_eq_zero (by omega)
       subst a1; subst a2
       rw [qW]; rfl
      rw [show ([nTok v] ++ mC :: seqW (ns.map (fun v => [nTok v]) ++ wordsL xs)).take (k + 1 + 1) = nTok v :: mC :: (seqW (ns.map (fun v => [nTok v]) ++ wordsL xs)).take k from rfl]
      rw [stepsF,hd,hnum,if_neg (by simp),if_neg hm0]
      dsimp only
      rw [pU COM,if_neg (by simp)]
      dsimp only
      have h3':=h3 (by simp)
      exact ih ns xs (f2 ++ [v]) f3 p k (by omega) (by omega) (by omega) (fun hn => by have : 0 < ns.length:=List.length_pos_iff.2 hn; omega) (fun hn => by subst hn; rw [List.length_nil] at h3'; omega) (fun hn => by omega) hT hp0 hp1 (by simp at hk ⊢; omega)
  | nil =>
   cases xs with
   | nil => simp at hm
   | cons y xs =>
    have hd : decide (many - (m + 1) < nums) = false:=decide_eq_false (by have:=h2 rfl; omega)
    rw [List.map_nil,List.nil_append,rM,hZ] at hk ⊢
    rw [rL] at hp1
    have hcp:=sQ y
    have hT1:=hT y (by simp)
    have hitem : ∀ Q,isF LPA Q = false → itemF (exprF d) false ⟨o,nil8,f2,f3⟩ p (wordsX y ++ Q) = ⟨⟨o,nil8,f2,f3 ++ [y]⟩,Q,p + cnt y,0⟩:=fun Q hQ => by
     unfold itemF
     rw [if_neg (by simp),hT1.all p Q hp0 (by omega) (fun _ => hQ)]
    have hpart : ∀ L,itemF (exprF d) false ⟨o,nil8,f2,f3⟩ p L = ⟨⟨o,nil8,f2,f3 ++ [(exprF d p L).x]⟩,(exprF d p L).l,(exprF d p L).p,(exprF d p L).e⟩:=fun L => by
     unfold itemF
     rw [if_neg (by simp)]
    rw [List.length_cons,List.length_nil] at hm
    by_cases hky : k < (wordsX y).length
    ·
     have ht : (if wordsL xs = [] then wordsX y ++ [mR] else wordsX y ++ mC :: seqW (wordsL xs)).take k = (wordsX y).take k:=by
      split <;> rw [List.take_append_of_le_length (by omega)]
     rw [ht]
     obtain ⟨c1,c2⟩:=hT1.cut p k hp0 (by omega) hky
     by_cases hk1 : k = 1
     ·
      obtain ⟨s,hs,_⟩:=c1 hk1
      exact item_end false _ (by rw [hpart,hs]) (by rw [hpart,hs]) hd
     ·
      obtain ⟨he,hl⟩:=c2 hk1
      exact item_err false _ (by rw [hpart]; exact he) (by rw [hpart]; exact hl) hd
    ·
     obtain ⟨j,rfl⟩ : ∃ j,k = (wordsX y).length + j:=⟨k - (wordsX y).length,by omega⟩
     cases j with
     | zero =>
      have ht : (if wordsL xs = [] then wordsX y ++ [mR] else wordsX y ++ mC :: seqW (wordsL xs)).take ((wordsX y).length + 0) = wordsX y ++ []:=by
       split <;> (rw [List.take_append_of_le_length (by omega)]; simp)
      rw [ht]
      exact item_end false _ (by rw [hitem [] rfl]) (by rw [hitem [] rfl]) hd
     | succ j =>
      by_cases hz : wordsL xs = []
      ·
       rw [if_pos hz] at hk
       simp at hk
      ·
       rw [if_neg hz] at hk ⊢
       have hm0 : ¬ (m = 0):=by
        intro h0
        apply hz
        have a2 : xs = []:=List.eq_nil_of_length_eq_zero (by omega)
        subst a2
        exact qW
       have ht : (wordsX y ++ mC :: seqW (wordsL xs)).take ((wordsX y).length + (j + 1)) = wordsX y ++ mC :: (seqW (wordsL xs)).take j:=by
        rw [List.take_length_add_append]
        rfl
       rw [ht,stepsF,hd,hitem _ (isLPA_C _),if_neg (by simp),if_neg hm0]
       dsimp only
       rw [pU COM,if_neg (by simp)]
       dsimp only
       have ih9:=ih [] xs f2 (f3 ++ [y]) (p + cnt y) j (by simp; omega) (by omega) (by omega) (fun hn => absurd rfl hn) (fun _ => by have:=h2 rfl; omega) (fun hn => absurd rfl hn) (fun z hz => hT z (by simp [hz])) (by omega) (by omega)
       rw [List.map_nil,List.nil_append] at ih9
       exact ih9 (by simp at hk; omega)
theorem dep_child {xs : List X} {y : X} (h : y ∈ xs) : dep y ≤ depL xs:=by
 induction xs with
 | nil => cases h
 | cons z xs ih =>
  rw [dM]
  rcases List.mem_cons.1 h with rfl|h
  · omega
  · have:=ih h; omega
theorem gM {xs : List X} (h : allRL xs = true) {y : X} (hy : y ∈ xs) : allR y = true:=by
 induction xs with
 | nil => cases hy
 | cons z xs ih =>
  rw [bZ,Bool.and_eq_true] at h
  rcases List.mem_cons.1 hy with rfl|hy
  · exact h.1
  · exact ih h.2 hy
theorem nil8_of {s : ByteArray} (h : s.toList.isEmpty = true) : s = nil8:=by
 have h1:=(empty_iff s).1 h
 cases s with
 | mk a =>
  have : a = #[]:=Array.toList_eq_nil_iff.1 h1
  rw [this]
theorem cD {x : X} (hwf : Wf x) (hR : allR x = true) : (∃ n,x = ⟨0,n,[],[]⟩) ∨ (∃ o ns xs,x = ⟨o,nil8,ns,xs⟩ ∧ 1 ≤ o ∧ o ≤ 12 ∧ (ns.length : Int) = numsOf o ∧ (xs.length : Int) = argsOf o ∧ allRL xs = true):=by
 rw [iD,Bool.and_eq_true] at hR
 obtain ⟨h1,h2⟩:=hR
 have h0:=hwf.op.1
 obtain ⟨o,n,ns,xs⟩:=x
 unfold rightB at h1
 simp only [Bool.and_eq_true,decide_eq_true_eq] at h1
 obtain ⟨⟨⟨h3,h4⟩,h5⟩,h6⟩:=h1
 have h0 : 0 ≤ o:=h0
 by_cases ho : o = 0
 ·
  subst ho
  have n0 : numsOf 0 = 0:=by decide
  have a0 : argsOf 0 = 0:=by decide
  rw [n0] at h4
  rw [a0] at h5
  have hn : ns = []:=List.eq_nil_of_length_eq_zero (by omega)
  have hx : xs = []:=List.eq_nil_of_length_eq_zero (by omega)
  subst hn; subst hx
  exact .inl ⟨n,rfl⟩
 ·
  rw [if_neg ho] at h6
  exact .inr ⟨o,ns,xs,by rw [nil8_of h6],by omega,h3,h4,h5,h2⟩
theorem told (N : Nat) : ∀ (x : X),cnt x ≤ N → Wf x → allR x = true → ∀ d,dep x ≤ d → Told d x:=by
 induction N with
 | zero => intro x hx; have:=sQ x; omega
 | succ N ih =>
  intro x hN hwf hR d hd
  have hdx:=kR x
  obtain ⟨d,rfl⟩ : ∃ d',d = d' + 1:=⟨d - 1,by omega⟩
  have hcx:=sW x
  rcases cD hwf hR with ⟨n,rfl⟩|⟨o,ns,xs,rfl,h1,h2,h4,h5,hRL⟩
  ·
   have hw : wordsX ⟨0,n,[],[]⟩ = [wTok n]:=by rw [oM]; exact if_pos (.inl rfl)
   have hc : cnt ⟨0,n,[],[]⟩ = 1:=by rw [sW,rY]
   refine ⟨fun p R hp0 hp1 hR => ?_,fun p k hp0 hp1 hk => ?_⟩
   ·
    rw [hw,hc]
    rw [hc] at hp1
    exact name_step d p (by omega) n R (fun h => by rw [hR rfl] at h; cases h.2)
   ·
    rw [hw] at hk ⊢
    obtain rfl : k = 0:=by simpa using hk
    rw [List.take_zero,zWR]
    exact ⟨fun h => (by cases h),fun _ => ⟨rfl,rfl⟩⟩
  ·
   have hw : wordsX ⟨o,nil8,ns,xs⟩ = wTok (opW o) :: mL :: seqW (ns.map (fun v => [nTok v]) ++ wordsL xs):=by rw [oM]; exact if_neg (by show ¬ (o = 0 ∨ 13 ≤ o); omega)
   have hc : cnt ⟨o,nil8,ns,xs⟩ = 1 + cntL xs:=sW _
   have hdd : dep ⟨o,nil8,ns,xs⟩ = 1 + depL xs:=kR _
   obtain ⟨m0,m1,m2,m3⟩:=gP o h1 h2
   have hm : manyOf o = ns.length + xs.length:=by omega
   have hT : ∀ y ∈ xs,Told d y:=fun y hy => ih y (by have:=nA hy; omega) (hwf.child (x:=⟨o,nil8,ns,xs⟩) hy) (gM hRL hy) d (by have:=dep_child hy; omega)
   have q1 : ns ≠ [] → manyOf o - manyOf o < (numsOf o).toNat:=fun hn => by have : 0 < ns.length:=List.length_pos_iff.2 hn; omega
   have q2 : ns = [] → (numsOf o).toNat ≤ manyOf o - manyOf o:=fun hn => by subst hn; rw [List.length_nil] at h4; omega
   have q3 : ns ≠ [] → manyOf o - manyOf o + ns.length = (numsOf o).toNat:=fun hn => by omega
   refine ⟨fun p R hp0 hp1 _ => ?_,fun p k hp0 hp1 hk => ?_⟩
   ·
    rw [hw,hc]
    rw [hc] at hp1
    rw [show wTok (opW o) :: mL :: seqW (ns.map (fun v => [nTok v]) ++ wordsL xs) ++ R = wTok (opW o) :: mL :: (seqW (ns.map (fun v => [nTok v]) ++ wordsL xs) ++ R) from rfl]
    rw [op_step d p (by omega) o h1 h2,steps_words d o _ (manyOf o) (manyOf o) ns xs [] [] (p + 1) R hm (Nat.le_refl _) m0 q1 q2 q3 hT (by omega) (by omega)]
    simp only [List.nil_append,Res.mk.injEq,true_and,and_true]
    omega
   ·
    rw [hw] at hk ⊢
    rw [hc] at hp1
    cases k with
    | zero =>
     rw [List.take_zero,zWR]
     exact ⟨fun h => (by cases h),fun _ => ⟨rfl,rfl⟩⟩
    | succ k =>
     cases k with
     | zero =>
      refine ⟨fun _ => ⟨opW o,?_,rfl⟩,fun h => absurd rfl h⟩
      exact name_step d p (by omega) (opW o) [] (fun h => by cases h.2)
     | succ k =>
      refine ⟨fun h => by omega,fun _ => ?_⟩
      rw [show (wTok (opW o) :: mL :: seqW (ns.map (fun v => [nTok v]) ++ wordsL xs)).take (k + 1 + 1) = wTok (opW o) :: mL :: (seqW (ns.map (fun v => [nTok v]) ++ wordsL xs)).take k from rfl]
      rw [op_step d p (by omega) o h1 h2]
      exact steps_cut d o _ (manyOf o) (manyOf o) ns xs [] [] (p + 1) k hm (Nat.le_refl _) m0 q1 q2 q3 hT (by omega) (by omega) (by simp at hk ⊢; omega)
theorem cH {x : X} (h : RightB x = true) : allR x = true ∧ dep x ≤ 40 ∧ cnt x ≤ 2000:=by
 unfold RightB at h
 simpa [and_assoc] using h
abbrev e8 : ByteArray:=⟨#[]⟩
def cntC (s : ByteArray) (b : UInt8) : Int:=Lib.countByte s.data.toList b
def hasC (s : ByteArray) (b : UInt8) : Bool:=decide (0 ≤ Lib.indexByte s.data.toList b)
def scopedB (lo hi : Int) (hl hh r : Bool) : Bool:=if r = true then (hl || lo == 0) && (hh || hi == 0) else lo == 0 && (hi == 0 && (!hl && !hh))
def bareB (x : X) : Bool:=x.f0 == 0 && (x.f1.toList.isEmpty && (x.f2.isEmpty && x.f3.isEmpty))
def rightC (c : Cmd) : Bool :=
 (shapeF c.word).2 && (decide (cntC (shapeF c.word).1 110 = c.names.length) && (decide (cntC (shapeF c.word).1 105 = c.nums.length) && (scopedB c.lo c.hi c.hl c.hh (hasC (shapeF c.word).1 114) &&
  (c.names.all nameB && (if hasC (shapeF c.word).1 101 = true then RightB c.x else bareB c.x)))))
def tailN (b : UInt8) (NS : List ByteArray) : List ByteArray:=if b = 110 then NS.drop 1 else NS
def tailI (b : UInt8) (ns : List Int) : List Int:=if b = 105 then ns.drop 1 else ns
theorem shapes_let : ∀ q ∈ shapeL,q.1.size ≤ 10 ∧ ∀ b ∈ q.1.data.toList,b = 110 ∨ b = 105 ∨ b = 101 ∨ b = 114 ∨ b = 61:=by decide +kernel
theorem gT (s : ByteArray) : ∀ l : List (ByteArray × ByteArray),(shF l s = ((⟨#[]⟩ : ByteArray),false)) ∨ ∃ q ∈ l,shF l s = (q.1,true) ∧ (q.2.toList == s.toList) = true
 | [] => .inl (by rw [shF])
 | q :: r => by
  rw [shF]
  by_cases h : (q.2.toList == s.toList) = true
  ·
   rw [if_pos h]
   exact .inr ⟨q,by simp,rfl,h⟩
  ·
   rw [if_neg h]
   rcases gT s r with h1|⟨q',hq',h1⟩
   · exact .inl h1
   · exact .inr ⟨q',by simp [hq'],h1⟩
theorem cI (s : ByteArray) : (shapeF s).1.size ≤ 10 ∧ ∀ b ∈ (shapeF s).1.data.toList,b = 110 ∨ b = 105 ∨ b = 101 ∨ b = 114 ∨ b = 61:=by
 unfold shapeF
 rcases gT s shapeL with h|⟨q,hq,h,_⟩
 · rw [h]; exact ⟨Nat.zero_le _,fun b hb => by simp at hb⟩
 · rw [h]; exact shapes_let q hq
theorem kW {c : Cmd} (h : rightC c = true) : (shapeF c.word).2 = true ∧ (((shapeF c.word).1.data.toList.count 110 : Nat) : Int) = c.names.length ∧ (((shapeF c.word).1.data.toList.count 105 : Nat) : Int) = c.nums.length ∧ c.names.all nameB = true ∧ (101 ∈ (shapeF c.word).1.data.toList → RightB c.x = true):=by
 unfold rightC cntC hasC Lib.countByte at h
 simp only [Bool.and_eq_true,decide_eq_true_eq] at h
 obtain ⟨h1,h2,h3,h4,h5,h6⟩:=h
 refine ⟨h1,h2,h3,h5,fun hm => ?_⟩
 rw [if_pos ((decide_eq_true_iff).1 (by rw [← Lib.contains_iff_indexByte]; exact List.contains_iff_mem.2 hm))] at h6
 exact h6
abbrev mk (s : ByteArray) : Tok:=⟨4,s,0⟩
def endW (n : Int) (t : Bool) : List Tok:=if t = true then [nTok n] else []
def rngW (c : Cmd) : List Tok:=mk LBR :: (endW c.lo c.hl ++ mk CLN :: (endW c.hi c.hh ++ [mk RBR]))
def partW (c : Cmd) (b : UInt8) (NS : List ByteArray) (ns : List Int) : List Tok :=
 if b = 110 then [wTok (NS.headD e8)] else if b = 105 then [nTok (ns.headD 0)] else if b = 101 then wordsX c.x else if b = 114 then rngW c else [mk (⟨#[b]⟩)]
def cmdW (c : Cmd) : List UInt8 → List ByteArray → List Int → List Tok
 | [],_,_ => []
 | b :: r,NS,ns => partW c b NS ns ++ cmdW c r (tailN b NS) (tailI b ns)
def wordsC (c : Cmd) : List Tok:=wTok c.word :: cmdW c (shapeF c.word).1.data.toList c.names c.nums
theorem zWH {l : List UInt8} {b a : UInt8} {n : Nat} (h : n = (b :: l).count a) : (b = a → n = l.count a + 1) ∧ (b ≠ a → n = l.count a):=by
 rw [List.count_cons] at h
 exact ⟨fun e => by rw [if_pos (by simp [e])] at h; exact h,fun e => by rw [if_neg (by simp [e])] at h; exact h⟩
theorem zXG {b : UInt8} {l : List UInt8} {NS : List ByteArray} {ns : List Int} (h1 : NS.length = (b :: l).count 110) (h2 : ns.length = (b :: l).count 105) :
  (tailN b NS).length = l.count 110 ∧ (tailI b ns).length = l.count 105 ∧ (b = 110 → ∃ s r,NS = s :: r) ∧ (b = 105 → ∃ v r,ns = v :: r):=by
 obtain ⟨a1,a2⟩:=zWH h1
 obtain ⟨b1,b2⟩:=zWH h2
 refine ⟨?_,?_,fun e => ?_,fun e => ?_⟩
 ·
  unfold tailN
  split
  · rename_i h; rw [List.length_drop,a1 h]; omega
  · rename_i h; exact a2 h
 ·
  unfold tailI
  split
  · rename_i h; rw [List.length_drop,b1 h]; omega
  · rename_i h; exact b2 h
 ·
  cases NS with
  | nil => have:=a1 e; rw [List.length_nil] at this; omega
  | cons s r => exact ⟨s,r,rfl⟩
 ·
  cases ns with
  | nil => have:=b1 e; rw [List.length_nil] at this; omega
  | cons s r => exact ⟨s,r,rfl⟩
theorem take_w (s : ByteArray) (R : List Tok) : takeF [1] (wTok s :: R) = (wTok s,R,0):=by unfold takeF; exact if_pos ⟨by simp,by simp⟩
theorem num_n (v : Int) (R : List Tok) : numF (nTok v :: R) = (nTok v,R,0):=by unfold numF takeF; exact if_pos ⟨by simp,by simp⟩
theorem is_num (s : ByteArray) (v : Int) (R : List Tok) : isF s (nTok v :: R) = false:=by show (decide ((2 : Int) = 4) && (nil8.toList == s.toList)) = false; rw [decide_eq_false (by decide : ¬ (2 : Int) = 4),Bool.false_and]
theorem end_words (s : ByteArray) (n : Int) (t : Bool) (h : t = false → n = 0) (R : List Tok) : endF s (endW n t ++ mk s :: R) = (n,t,R,0):=by
 unfold endF
 cases t
 ·
  rw [h rfl]
  show (if isF s (mk s :: R) = true then _ else _) = _
  rw [if_pos (is_yes s R)]
  show ((0 : Int),false,(markF s (mk s :: R)).1,(markF s (mk s :: R)).2) = _
  rw [pU s R]
 ·
  show (if isF s (nTok n :: mk s :: R) = true then _ else _) = _
  rw [if_neg (by rw [is_num]; simp)]
  show (if (numF (nTok n :: mk s :: R)).2.2 = 0 then ((numF (nTok n :: mk s :: R)).1.f2,decide ((markF s (numF (nTok n :: mk s :: R)).2.1).2 = 0),(markF s (numF (nTok n :: mk s :: R)).2.1).1,(markF s (numF (nTok n :: mk s :: R)).2.1).2) else ((numF (nTok n :: mk s :: R)).1.f2,false,(numF (nTok n :: mk s :: R)).2.1,(numF (nTok n :: mk s :: R)).2.2)) = _
  rw [num_n]
  dsimp only
  rw [if_pos rfl,pU s R]
  rfl
theorem scope_words (c : Cmd) (h1 : c.hl = false → c.lo = 0) (h2 : c.hh = false → c.hi = 0) (R : List Tok) : scopeF (rngW c ++ R) = ⟨c.lo,c.hi,c.hl,c.hh,R,0⟩:=by
 have e : rngW c ++ R = mk LBR :: (endW c.lo c.hl ++ mk CLN :: (endW c.hi c.hh ++ mk RBR :: R)):=by
  unfold rngW
  simp
 rw [e]
 unfold scopeF
 rw [pU LBR,if_neg (by simp)]
 dsimp only
 rw [end_words CLN c.lo c.hl h1]
 dsimp only
 rw [if_neg (by simp),end_words RBR c.hi c.hh h2]
theorem gZ {b : UInt8} {n : Nat} (hn : n < 256) (h : (b.toNat : Int) = n) : b = UInt8.ofNat n:=by
 have h1 : b.toNat = n:=by omega
 rw [← h1]
 simp
theorem ok_lets {b : UInt8} {l : List UInt8} (h : okL ((b :: l).map (fun b => (b.toNat : Int))) = true) : (b = 101 ∧ l = []) ∨ ((b = 110 ∨ b = 105 ∨ b = 114 ∨ b = 61) ∧ b ≠ 101 ∧ okL (l.map (fun b => (b.toNat : Int))) = true):=by
 rw [List.map_cons] at h
 rcases okL_cons h with ⟨h1,h2⟩|⟨h1,h2,h3⟩
 · exact .inl ⟨gZ (n:=101) (by decide) h1,List.map_eq_nil_iff.1 h2⟩
 ·
  refine .inr ⟨?_,fun e => h2 (by rw [e]; rfl),h3⟩
  rcases h1 with h1|h1|h1|h1
  · exact .inl (gZ (n:=110) (by decide) h1)
  · exact .inr (.inl (gZ (n:=105) (by decide) h1))
  · exact .inr (.inr (.inl (gZ (n:=114) (by decide) h1)))
  · exact .inr (.inr (.inr (gZ (n:=61) (by decide) h1)))
theorem part_n (k : Cmd) (L : List Tok) (p : Int) : partF ((110 : UInt8).toNat : Int) k L p = ({ k with names:=k.names ++ [(takeF [1] L).1.f1] },(takeF [1] L).2.1,p,(takeF [1] L).2.2):=rfl
theorem part_i (k : Cmd) (L : List Tok) (p : Int) : partF ((105 : UInt8).toNat : Int) k L p = ({ k with nums:=k.nums ++ [(numF L).1.f2] },(numF L).2.1,p,(numF L).2.2):=rfl
theorem part_r (k : Cmd) (L : List Tok) (p : Int) : partF ((114 : UInt8).toNat : Int) k L p = ({ k with lo:=(scopeF L).lo,hi:=(scopeF L).hi,hl:=(scopeF L).hl,hh:=(scopeF L).hh },(scopeF L).l,p,(scopeF L).e):=rfl
theorem part_e (k : Cmd) (L : List Tok) (p : Int) : partF ((101 : UInt8).toNat : Int) k L p = ({ k with x:=(exprF 40 p L).x },(exprF 40 p L).l,(exprF 40 p L).p,(exprF 40 p L).e):=rfl
theorem part_eq (k : Cmd) (L : List Tok) (p : Int) : partF ((61 : UInt8).toNat : Int) k L p = (k,(markF ⟨#[61]⟩ L).1,p,(markF ⟨#[61]⟩ L).2):=rfl
theorem zXA (c : Cmd) (hx : 101 ∈ (shapeF c.word).1.data.toList → Wf c.x ∧ RightB c.x = true) (h1 : c.hl = false → c.lo = 0) (h2 : c.hh = false → c.hi = 0) : ∀ (l : List UInt8) (NS : List ByteArray) (ns : List Int) (k : Cmd),
  okL (l.map (fun b => (b.toNat : Int))) = true → NS.length = l.count 110 → ns.length = l.count 105 → (∀ b ∈ l,b ∈ (shapeF c.word).1.data.toList) →
  foldF (l.map (fun b => (b.toNat : Int))) k (cmdW c l NS ns) 0 = (⟨k.word,k.names ++ NS,k.nums ++ ns,if 114 ∈ l then c.lo else k.lo,if 114 ∈ l then c.hi else k.hi,if 114 ∈ l then c.hl else k.hl,if 114 ∈ l then c.hh else k.hh,if 101 ∈ l then c.x else k.x⟩,[],0)
 | [],NS,ns,k,_,e1,e2,_ => by
  obtain rfl : NS = []:=List.eq_nil_of_length_eq_zero e1
  obtain rfl : ns = []:=List.eq_nil_of_length_eq_zero e2
  rw [List.map_nil,foldF,cmdW]
  simp
 | b :: l,NS,ns,k,hok,e1,e2,hin => by
  obtain ⟨t1,t2,t3,t4⟩:=zXG e1 e2
  have hin2 : ∀ b ∈ l,b ∈ (shapeF c.word).1.data.toList:=fun a ha => hin a (by simp [ha])
  have ih:=fun k h => zXA c hx h1 h2 l (tailN b NS) (tailI b ns) k h t1 t2 hin2
  rcases ok_lets hok with ⟨rfl,rfl⟩|⟨hb,hne,hok2⟩
  ·
   obtain ⟨hwf,hR⟩:=hx (hin 101 (by simp))
   obtain ⟨r1,r2,r3⟩:=cH hR
   have hT:=(told (cnt c.x) c.x (Nat.le_refl _) hwf r1 40 r2).all 0 [] (by omega) (by omega) (fun _ => rfl)
   obtain rfl : NS = []:=List.eq_nil_of_length_eq_zero (by rw [e1]; rfl)
   obtain rfl : ns = []:=List.eq_nil_of_length_eq_zero (by rw [e2]; rfl)
   have hw : cmdW c [101] [] [] = wordsX c.x ++ []:=rfl
   rw [hw,List.map_cons,foldF,part_e,hT,List.map_nil]
   dsimp only
   rw [if_neg (by simp),foldF]
   simp
  ·
   rw [List.map_cons,foldF,cmdW]
   rcases hb with rfl|rfl|rfl|rfl
   ·
    obtain ⟨s,r,rfl⟩:=t3 rfl
    have hw : partW c 110 (s :: r) ns = [wTok s]:=rfl
    rw [hw,part_n,List.singleton_append,take_w]
    dsimp only
    rw [if_neg (by simp),ih _ hok2]
    have ha : tailN 110 (s :: r) = r:=rfl
    have hb : tailI 110 ns = ns:=rfl
    rw [ha,hb]
    simp
   ·
    obtain ⟨s,r,rfl⟩:=t4 rfl
    have hw : partW c 105 NS (s :: r) = [nTok s]:=rfl
    rw [hw,part_i,List.singleton_append,num_n]
    dsimp only
    rw [if_neg (by simp),ih _ hok2]
    have ha : tailN 105 NS = NS:=rfl
    have hb : tailI 105 (s :: r) = r:=rfl
    rw [ha,hb]
    simp
   ·
    have hw : partW c 114 NS ns = rngW c:=rfl
    rw [hw,part_r,scope_words c h1 h2]
    dsimp only
    rw [if_neg (by simp),ih _ hok2]
    have ha : tailN 114 NS = NS:=rfl
    have hb : tailI 114 ns = ns:=rfl
    rw [ha,hb]
    simp
   ·
    have hw : partW c 61 NS ns = [mk ⟨#[61]⟩]:=rfl
    rw [hw,part_eq,List.singleton_append,pU]
    dsimp only
    rw [if_neg (by simp),ih _ hok2]
    have ha : tailN 61 NS = NS:=rfl
    have hb : tailI 61 ns = ns:=rfl
    rw [ha,hb]
    simp
theorem kQ (s : ByteArray) (b : UInt8) : hasC s b = true ↔ b ∈ s.data.toList:=by
 unfold hasC
 rw [← Lib.contains_iff_indexByte]
 exact List.contains_iff_mem
theorem scoped_of {c : Cmd} (h : rightC c = true) : scopedB c.lo c.hi c.hl c.hh (hasC (shapeF c.word).1 114) = true ∧ (hasC (shapeF c.word).1 101 = false → bareB c.x = true):=by
 unfold rightC at h
 simp only [Bool.and_eq_true] at h
 obtain ⟨_,_,_,h4,_,h6⟩:=h
 exact ⟨h4,fun e => by rw [e] at h6; exact h6⟩
theorem bare_zero {x : X} (h : bareB x = true) : x = zX:=by
 unfold bareB at h
 simp only [Bool.and_eq_true,beq_iff_eq] at h
 obtain ⟨a,b,c,d⟩:=h
 obtain ⟨o,n,ns,xs⟩:=x
 have a : o = 0:=a
 have c : ns = []:=List.isEmpty_iff.1 c
 have d : xs = []:=List.isEmpty_iff.1 d
 have b : n.toList.isEmpty = true:=b
 rw [a,c,d,nil8_of b]
theorem parse_words {c : Cmd} (hwf : Wf c.x) (hR : rightC c = true) : parseC (wordsC c) = (c,-1,0):=by
 obtain ⟨h1,h2,h3,h4,h5⟩:=kW hR
 obtain ⟨h6,h7⟩:=scoped_of hR
 have hlo : c.hl = false → c.lo = 0:=fun e => by
  unfold scopedB at h6
  rw [e] at h6
  split at h6
  · simp only [Bool.false_or,Bool.and_eq_true,beq_iff_eq] at h6; exact h6.1
  · simp only [Bool.and_eq_true,beq_iff_eq] at h6; exact h6.1
 have hhi : c.hh = false → c.hi = 0:=fun e => by
  unfold scopedB at h6
  rw [e] at h6
  split at h6
  · simp only [Bool.false_or,Bool.and_eq_true,beq_iff_eq] at h6; exact h6.2
  · simp only [Bool.and_eq_true,beq_iff_eq] at h6; exact h6.2.1
 have hF:=zXA c (fun hm => ⟨hwf,h5 hm⟩) hlo hhi (shapeF c.word).1.data.toList c.names c.nums (wC c.word) (eB c.word).1 (by omega) (by omega) (fun _ h => h)
 have hr : 114 ∉ (shapeF c.word).1.data.toList → c.lo = 0 ∧ c.hi = 0 ∧ c.hl = false ∧ c.hh = false:=fun hm => by
  unfold scopedB at h6
  rw [if_neg (by rw [kQ]; exact hm)] at h6
  simp only [Bool.and_eq_true,beq_iff_eq,Bool.not_eq_true'] at h6
  exact ⟨h6.1,h6.2.1,h6.2.2.1,h6.2.2.2⟩
 have hx : 101 ∉ (shapeF c.word).1.data.toList → c.x = zX:=fun hm => bare_zero (h7 (by
  rw [← Bool.not_eq_true,kQ]; exact hm))
 have hC : (⟨(wC c.word).word,(wC c.word).names ++ c.names,(wC c.word).nums ++ c.nums,if 114 ∈ (shapeF c.word).1.data.toList then c.lo else (wC c.word).lo,if 114 ∈ (shapeF c.word).1.data.toList then c.hi else (wC c.word).hi,if 114 ∈ (shapeF c.word).1.data.toList then c.hl else (wC c.word).hl,if 114 ∈ (shapeF c.word).1.data.toList then c.hh else (wC c.word).hh,if 101 ∈ (shapeF c.word).1.data.toList then c.x else (wC c.word).x⟩ : Cmd) = c:=by
  show _ = (⟨c.word,c.names,c.nums,c.lo,c.hi,c.hl,c.hh,c.x⟩ : Cmd)
  by_cases hm : 114 ∈ (shapeF c.word).1.data.toList
  ·
   by_cases he : 101 ∈ (shapeF c.word).1.data.toList
   · simp only [if_pos hm,if_pos he]; rfl
   · simp only [if_pos hm,if_neg he]; rw [hx he]; rfl
  ·
   obtain ⟨a1,a2,a3,a4⟩:=hr hm
   by_cases he : 101 ∈ (shapeF c.word).1.data.toList
   · simp only [if_neg hm,if_pos he]; rw [a1,a2,a3,a4]; rfl
   · simp only [if_neg hm,if_neg he]; rw [a1,a2,a3,a4,hx he]; rfl
 rw [hC] at hF
 show (if (wTok c.word).f0 ≠ 1 then (zC,(0 : Int),(110 : Int)) else if (shapeF c.word).2 = false then (zC,0,110) else endC (((cmdW c (shapeF c.word).1.data.toList c.names c.nums).length : Int) + 1) (foldF (lets (shapeF c.word).1) (wC c.word) (cmdW c (shapeF c.word).1.data.toList c.names c.nums) 0)) = _
 rw [if_neg (by simp),if_neg (by rw [h1]; simp),show foldF (lets (shapeF c.word).1) (wC c.word) (cmdW c (shapeF c.word).1.data.toList c.names c.nums) 0 = (c,[],0) from hF]
 rfl
theorem rA : (Tryd.prog.info? TC).map (·.size) = some 11:=by kernel_rfl
theorem put11 {W : World} {j : Nat} (h : W.heap[j]? = some (.cells (cCells zC sN sN sN sN) TC (0,0))) (u0 u1 u2 u3 u4 u5 u6 u7 u8 u9 u10 : Value) :
  (((((((((((W.setCell ⟨j,0,none⟩ u0).setCell ⟨j,1,none⟩ u1).setCell ⟨j,2,none⟩ u2).setCell ⟨j,3,none⟩ u3).setCell ⟨j,4,none⟩ u4).setCell ⟨j,5,none⟩ u5).setCell ⟨j,6,none⟩ u6).setCell ⟨j,7,none⟩ u7).setCell ⟨j,8,none⟩ u8).setCell ⟨j,9,none⟩ u9).setCell ⟨j,10,none⟩ u10).heap[j]? = some (.cells #[u0,u1,u2,u3,u4,u5,u6,u7,u8,u9,u10] TC (0,0)):=by
 have h0:=zF h 0 u0 rfl
 have h1:=zF h0 1 u1 rfl
 have h2:=zF h1 2 u2 rfl
 have h3:=zF h2 3 u3 rfl
 have h4:=zF h3 4 u4 rfl
 have h5:=zF h4 5 u5 rfl
 have h6:=zF h5 6 u6 rfl
 have h7:=zF h6 7 u7 rfl
 have h8:=zF h7 8 u8 rfl
 have h9:=zF h8 9 u9 rfl
 have h10:=zF h9 10 u10 rfl
 simp only [List.setIfInBounds_toArray,List.set_cons_zero,List.set_cons_succ] at h10
 exact h10
theorem cells11 {W : World} {j : Nat} {c : Cmd} {vN vM v2 v3 : Value} (h : W.heap[j]? = some (.cells (cCells c vN vM v2 v3) TC (0,0))) :
  W.cell? ⟨j,0,none⟩ = some (.string c.word) ∧ W.cell? ⟨j,1,none⟩ = some vN ∧ W.cell? ⟨j,2,none⟩ = some vM ∧ W.cell? ⟨j,3,none⟩ = some (.int .i64 c.lo) ∧ W.cell? ⟨j,4,none⟩ = some (.int .i64 c.hi) ∧ W.cell? ⟨j,5,none⟩ = some (.bool c.hl) ∧ W.cell? ⟨j,6,none⟩ = some (.bool c.hh) ∧ W.cell? ⟨j,7,none⟩ = some (.int .u8 c.x.f0) ∧ W.cell? ⟨j,8,none⟩ = some (.string c.x.f1) ∧ W.cell? ⟨j,9,none⟩ = some v2 ∧ W.cell? ⟨j,10,none⟩ = some v3 :=
 ⟨(zK h 0).trans rfl,(zK h 1).trans rfl,(zK h 2).trans rfl,(zK h 3).trans rfl,(zK h 4).trans rfl,(zK h 5).trans rfl,(zK h 6).trans rfl,(zK h 7).trans rfl,(zK h 8).trans rfl,(zK h 9).trans rfl,(zK h 10).trans rfl⟩
theorem free11 {W : World} {j : Nat} {cs : Array Value} (h : W.heap[j]? = some (.cells cs TC (0,0))) :
  W.frozen? ⟨j,0,none⟩ = false ∧ W.frozen? ⟨j,1,none⟩ = false ∧ W.frozen? ⟨j,2,none⟩ = false ∧ W.frozen? ⟨j,3,none⟩ = false ∧ W.frozen? ⟨j,4,none⟩ = false ∧ W.frozen? ⟨j,5,none⟩ = false ∧ W.frozen? ⟨j,6,none⟩ = false ∧ W.frozen? ⟨j,7,none⟩ = false ∧ W.frozen? ⟨j,8,none⟩ = false ∧ W.frozen? ⟨j,9,none⟩ = false ∧ W.frozen? ⟨j,10,none⟩ = false :=
 ⟨zP h 0,zP h 1,zP h 2,zP h 3,zP h 4,zP h 5,zP h 6,zP h 7,zP h 8,zP h 9,zP h 10⟩
set_option maxHeartbeats 16000000 in
set_option maxRecDepth 100000 in
theorem zXC (L : List Tok) (A : Option Addr) (n c : Nat) (w : World) (hn : n = L.length) (hC : Kd.C k61 w A L.length L) (hc : L.length ≤ c) (hL : Cal w) :
  Calls Tryd.prog 38 #[.slice A n c] w fun e w' => ∃ vN vM v2 v3,e = .returned (.tuple #[cmdV (parseC L).1 vN vM v2 v3,.int .i64 (parseC L).2.1,.int .i64 (parseC L).2.2]) ∧ GivesC w w' (parseC L).1 vN vM v2 v3 ∧ Below w.heap.size w w':=by
 subst hn
 have bz:=wP w (.cells (cCells zC sN sN sN sN) TC (0,0))
 cases L with
 | nil =>
  have hP : parseC [] = (zC,0,110):=rfl
  rw [hP]
  clear hP hC hL
  go_enter Tryd.func38,Tryd.ntmps38
  go_wp2
  refine bodyPost_ret (rZ rfl _ _ _ TC _ (0,0) _ rfl (bz) Tryd.underlying54 rfl rA) rfl ?_
  exact ⟨_,_,_,_,rfl,lM _ _,by (with_reducible repeat (first|exact (Below.refl w.heap.size w)|apply zY|apply zV|apply zU|refine zQ ?_ (by first|assumption|omega)))⟩
 | cons t r =>
  have hm:=hC.2.1
  rw [List.length_cons] at hm
  obtain ⟨ad,rfl,dd1,dd2,dd3⟩:=at_T61 hC 0 (by omega) (by simp)
  have e : ad.add ((0 : Int).toNat * 3) = ad:=by show ad.add 0 = ad; exact Addr.add_zero' ad
  rw [e] at dd1 dd2 dd3
  have d1 : w.cell? ad = some (.int .u8 t.f0):=dd1
  have d2 : w.cell? ⟨ad.block,ad.off + 1,none⟩ = some (.string t.f1):=dd2
  have had:=World.block_lt_of_cell? _ _ d1
  have hD:=zZ.mk (Kd.C_drop (m:=1) (c:=c) hC (by simp) hc)
  obtain ⟨N,hN⟩ : ∃ N,N = r.length:=⟨_,rfl⟩
  rw [List.length_cons,← hN] at hc ⊢
  rw [← hN] at hm
  have g1 : (0 : Int) < (N : Int) + 1:=by omega
  have g2 : 0 < N + 1:=by omega
  have g3 : ((N : Int) + 1 == 0) = false:=beq_eq_false_iff_ne.2 (by omega)
  have g4 : ¬ (N + 1 = 0):=by omega
  clear hC e dd1 dd2 dd3
  by_cases h1 : t.f0 ≠ 1
  ·
   have hP : parseC (t :: r) = (zC,0,110):=if_pos h1
   rw [hP]
   have f1 : (t.f0 != 1) = true:=bne_iff_ne.2 h1
   have f2 : (t.f0 == 1) = false:=beq_eq_false_iff_ne.2 h1
   clear hP hL hD hN
   go_enter Tryd.func38,Tryd.ntmps38
   go_wp2
   refine bodyPost_ret (rZ rfl _ _ _ TC _ (0,0) _ rfl (bz) Tryd.underlying54 rfl rA) rfl ?_
   exact ⟨_,_,_,_,rfl,lM _ _,by (with_reducible repeat (first|exact (Below.refl w.heap.size w)|apply zY|apply zV|apply zU|refine zQ ?_ (by first|assumption|omega)))⟩
  ·
   have h1' : t.f0 = 1:=by omega
   have f1 : (t.f0 != 1) = false:=bne_eq_false_iff_eq.2 h1'
   have f2 : (t.f0 == 1) = true:=beq_iff_eq.2 h1'
   have CS:=fun W h => zZ.mk (Shape_calls t.f1 W h)
   have hso:=eB t.f1
   have hP : parseC (t :: r) = if (shapeF t.f1).2 = false then (zC,0,110) else endC ((r.length : Int) + 1) (foldF (lets (shapeF t.f1).1) (wC t.f1) r 0):=if_neg h1
   obtain ⟨s,is,hs⟩ : ∃ s is,shapeF t.f1 = (s,is):=⟨_,_,rfl⟩
   rw [hs] at CS hP hso
   rw [hP]
   dsimp only at CS hso ⊢
   have HL:=zZ.mk hL
   clear hP hs h1 h1' hL
   cases is with
   | false =>
    rw [if_pos rfl]
    go_enter Tryd.func38,Tryd.ntmps38
    go_wp2_with fail
    (with_reducible refine (CS _ ?i).out.mono ?_)
    case i => exact HL.out.l (zY (Below.refl _ _) _)
    rintro e w1 ⟨rfl,hb1⟩
    have bz1 : w1.heap[w.heap.size]? = some (.cells (cCells zC sN sN sN sN) TC (0,0)):=(hb1.block _ (wT bz)).trans bz
    have hbw:=xN (zY (Below.refl w.heap.size w) (.cells (cCells zC sN sN sN sN) TC (0,0))) (zY (Below.refl w.heap.size w) (.cells (cCells zC sN sN sN sN) TC (0,0))).size hb1
    obtain ⟨z0,z1,z2,z3,z4,z5,z6,z7,z8,z9,z10⟩:=cells11 bz1
    obtain ⟨y0,y1,y2,y3,y4,y5,y6,y7,y8,y9,y10⟩:=free11 bz1
    clear hb1 CS
    go_wp2
    refine bodyPost_ret (rZ rfl _ _ _ TC _ (0,0) _ rfl (put11 bz1 _ _ _ _ _ _ _ _ _ _ _) Tryd.underlying54 rfl rA) rfl ?_
    exact ⟨_,_,_,_,rfl,lM _ _,by (with_reducible repeat (first|exact hbw|apply zY|apply zV|apply zU|refine zQ ?_ (by first|assumption|omega)))⟩
   | true =>
    rw [if_neg (by simp)]
    obtain ⟨R,hR⟩ : ∃ R,foldF (lets s) (wC t.f1) r 0 = R:=⟨_,rfl⟩
    obtain ⟨a,ha⟩ : ∃ a : Int,a = (N : Int) + 1:=⟨_,rfl⟩
    rw [hR,← hN,← ha]
    obtain ⟨K,hK⟩ : ∃ K,endC a R = K:=⟨_,rfl⟩
    rw [hK]
    have HK:=zZ.mk hK
    have HR:=zZ.mk hR
    have HA:=zZ.mk ha
    have HN:=zZ.mk hN
    have CP:=zZ.mk (fun (g : Nat) (L9 : List Tok) (p e9 : Int) W h => zZ.mk (zWU g L9 a p e9 w W h (by omega) (by omega)))
    have n3 : 1 ≤ N + 1:=by omega
    have n5 : N + 1 - 1 = N:=by omega
    have HS:=zZ.mk hso
    have hs : ∀ (W : World) o,(W.alloc o).heap.size = W.heap.size + 1:=fun W o => Array.size_push ..
    have HZ:=zZ.mk hs
    clear hK hR ha hN hso hs
    by_cases hc1 : c = 1
    ·
     subst hc1
     go_enter Tryd.func38,Tryd.ntmps38
     go_wp2_with fail
     (with_reducible refine (CS _ ?i).out.mono ?_)
     case i => exact HL.out.l (zY (Below.refl _ _) _)
     rintro e w1 ⟨rfl,hb1⟩
     have bz1 : w1.heap[w.heap.size]? = some (.cells (cCells zC sN sN sN sN) TC (0,0)):=(hb1.block _ (wT bz)).trans bz
     have hbw:=xN (zY (Below.refl w.heap.size w) (.cells (cCells zC sN sN sN sN) TC (0,0))) (zY (Below.refl w.heap.size w) (.cells (cCells zC sN sN sN sN) TC (0,0))).size hb1
     have d1' : w1.cell? ad = some (.int .u8 t.f0):=(hbw.cell had).trans d1
     have d2' : w1.cell? ⟨ad.block,ad.off + 1,none⟩ = some (.string t.f1):=(hbw.cell (show (⟨ad.block,ad.off + 1,none⟩ : Addr).block < w.heap.size from had)).trans d2
     have had1:=World.block_lt_of_cell? _ _ d1'
     have hz1:=wT bz1
     clear d1 d2 CS hb1
     have HB:=zZ.mk hbw
     have BZ:=zZ.mk bz1
     clear hbw bz1 bz
     have b94:=zZ.mk (zR (zR (wP w1 (.cells #[.slice (some ad) N (1 - 1),.int .i64 ((N : Int) + 1),.int .i64 0] 94)) (.cells (cCells (wC t.f1) sN sN sN sN) TC)) (.stringIter s 0))
     have b54:=zR (wP (w1.alloc (.cells #[.slice (some ad) N (1 - 1),.int .i64 ((N : Int) + 1),.int .i64 0] 94)) (.cells (cCells (wC t.f1) sN sN sN sN) TC)) (.stringIter s 0)
     rw [HZ.out] at b54
     have bit:=World.iter_heap ((w1.alloc (.cells #[.slice (some ad) N (1 - 1),.int .i64 ((N : Int) + 1),.int .i64 0] 94)).alloc (.cells (cCells (wC t.f1) sN sN sN sN) TC)) s 0
     rw [HZ.out,HZ.out] at bit
     have bzz:=zR (zR (zR BZ.out (.cells #[.slice (some ad) N (1 - 1),.int .i64 ((N : Int) + 1),.int .i64 0] 94)) (.cells (cCells (wC t.f1) sN sN sN sN) TC)) (.stringIter s 0)
     have B54:=zZ.mk b54
     have BIT:=zZ.mk bit
     have BZZ:=zZ.mk bzz
     clear b54 bit bzz
     go_wp2_with fail
     go_loopw [9] (fun j wr => ∃ k c' L1 p1 vN vM v2 v3,j = .int .i64 0 ∧ CmRel w wr w1.heap.size a s R k c' L1 p1 vN vM v2 v3) (fun _ wr => s.size - wr.iterPos (w1.heap.size + 1 + 1))
     case atStart =>
      refine ⟨0,wC t.f1,r,0,sN,sN,sN,sN,rfl,?_⟩
      refine { k1:=Nat.zero_le _,p0:=Int.le_refl 0,p1:=by omega,nn:=Nat.le_refl 0,nm:=Nat.le_refl 0,ok:=HS.out.1,xz:=.inr ⟨rfl,rfl,rfl⟩,fold:=HR.out,st:=?_,it:=BIT.out,zero:=BZZ.out,sz:=?_,lg:=hz1 }
      ·
       refine ⟨⟨(some ad),(1 - 1),?_,by omega,?_,?_,?_⟩,B54.out,Kd.R_nil _ _ _ _ _,Kd.R_nil _ _ _ _ _,rJ _ _ _ zX (Kd.R_nil _ _ _ _ _) (Kd.R_nil _ _ _ _ _),by omega,by omega⟩
       · rw [← HN.out,HA.out]; exact b94.out
       · rw [← HN.out]; omega
       · exact by have h:=hD.out; simp only [if_true] at h; exact h
       · exact zY (zY (zY HB.out _) _) _
      ·
       show _ ≤ (((w1.alloc (.cells #[.slice (some ad) N (1 - 1),.int .i64 ((N : Int) + 1),.int .i64 0] 94)).alloc (.cells (cCells (wC t.f1) sN sN sN sN) TC)).alloc (.stringIter s 0)).heap.size
       rw [HZ.out,HZ.out,HZ.out]
       exact Nat.le_refl _
     case round =>
      obtain ⟨k,c',L1,p1,vN,vM,v2,v3,rfl,H⟩:=hrel
      have H:=zZ.mk H
      have hgz:=H.out.lg
      by_cases hk : k < s.size
      ·
       have hlt : (s[k]'hk).toNat < 128:=HS.out.2.2 _ (Array.getElem_mem_toList (xs:=s.data) hk)
       have hnx:=fun ty => zWC (P:=Tryd.prog) wr (w1.heap.size + 1 + 1) s k ty H.out.it hk hlt
       have hd:=lets_at s k hk
       obtain ⟨l,hl⟩ : ∃ l : Int,l = ((s[k]'hk).toNat : Int):=⟨_,rfl⟩
       rw [← hl] at hnx hd
       have hok:=H.out.ok
       have hxz:=H.out.xz
       have hfo:=H.out.fold
       rw [hd] at hok hxz hfo
       have hxz : c'.x = zX ∧ v2 = sN ∧ v3 = sN:=hxz.resolve_left (by simp)
       have hoc:=okL_cons hok
       have hll : l = 101 ∨ (l = 110 ∨ l = 105 ∨ l = 114 ∨ l = 61) ∧ c'.x = zX ∧ v2 = sN ∧ v3 = sN:=by
        rcases hoc with h|h
        · exact .inl h.1
        · exact .inr ⟨h.1,hxz⟩
       have ST1:=H.out.st.away (j:=w1.heap.size + 1 + 1) (by omega) (by omega) (dN wr _ (.stringIter s (k + 1))) (zWL H.out.st.isp.low (by omega) _)
       have hsz : k + 1 ≤ 10:=by have:=HS.out.2.1; omega
       have CU:=zZ.mk (zWN w _ HL.out w1.heap.size (w1.heap.size + 1) (w1.heap.size + 1 + 1 + 1) a L1 p1 H.out.p0 H.out.p1 c' vN vM v2 v3 ST1 (by rw [kY]; exact H.out.sz) (by have:=H.out.nn; omega) (by have:=H.out.nm; omega) l hll)
       have hpf:=cG l c' L1 p1 H.out.p0 H.out.p1
       have hit1:=turn_new wr (w1.heap.size + 1 + 1) (.stringIter s (k + 1)) _ H.out.it
       have hz1':=uO H.out.zero (dN wr (w1.heap.size + 1 + 1) (.stringIter s (k + 1))) (fun h => by have h1 : w.heap.size = w1.heap.size + 1 + 1:=h; omega)
       rw [foldF] at hfo
       obtain ⟨c9,L9,p9,e9,hp⟩ : ∃ c9 L9 p9 e9,partF l c' L1 p1 = (c9,L9,p9,e9):=⟨_,_,_,_,rfl⟩
       rw [hp] at CU hfo hpf
       dsimp only at CU hfo hpf
       have HIT:=zZ.mk hit1
       have HZ1:=zZ.mk hz1'
       have HPF:=zZ.mk hpf
       have HOC:=zZ.mk hoc
       have hnnk:=H.out.nn
       have hnmk:=H.out.nm
       have HSZ:=zZ.mk (show w1.heap.size + 1 + 1 + 1 ≤ (turn wr (w1.heap.size + 1 + 1) (.stringIter s (k + 1))).heap.size by rw [kY]; exact H.out.sz)
       have hmea : wr.iterPos (w1.heap.size + 1 + 1) = k:=by have h:=H.out.it; simp only [World.iterPos,h]
       clear hp ST1 hd hok hxz hoc hll hit1 hz1' hpf H hl
       by_cases he9 : e9 ≠ 0
       ·
        have f1 : (e9 != 0) = true:=bne_iff_ne.2 he9
        have f2 : (e9 == 0) = false:=beq_eq_false_iff_ne.2 he9
        rw [if_pos he9] at hfo
        have HF:=zZ.mk hfo
        clear hfo hmea
        go_wp2_with fail
        (with_reducible refine CU.out.mono ?_)
        rintro e w5 ⟨u0,u1,u2,u3,rfl,hst,hkp,hx⟩
        have ST:=zZ.mk hst
        have ZZ:=zZ.mk (uO HZ1.out hkp (fun h => by rcases h with h|h|h <;> omega))
        clear hst hkp hx CU hnx
        go_wp2_with fail
        (with_reducible refine (CP.out w1.heap.size L9 p9 e9 _ ST.out.isp).out.mono ?_)
        rintro e w9 ⟨rfl,⟨m9,rfl⟩⟩
        have ST9:=zZ.mk (ST.out.later (zV (Below.refl _ _) m9))
        have ZZ9:=zZ.mk (zN ZZ.out m9)
        obtain ⟨at1,e2,hp⟩ : ∃ at1 e2,placeF a L9 e9 = (at1,e2):=⟨_,_,rfl⟩
        have hK:=HK.out
        rw [← HF.out] at hK
        unfold endC at hK
        dsimp only at hK
        rw [hp] at hK ⊢
        dsimp only at hK ⊢
        clear hp ST ZZ
        by_cases he : e2 ≠ 0
        ·
         have f1 : (e2 != 0) = true:=bne_iff_ne.2 he
         have f2 : (e2 == 0) = false:=beq_eq_false_iff_ne.2 he
         rw [if_pos he] at hK
         subst hK
         obtain ⟨z0,z1,z2,z3,z4,z5,z6,z7,z8,z9,z10⟩:=cells11 ZZ9.out
         obtain ⟨y0,y1,y2,y3,y4,y5,y6,y7,y8,y9,y10⟩:=free11 ZZ9.out
         go_wp2
         refine bodyPost_ret (rZ rfl _ _ _ TC _ (0,0) _ rfl (put11 ZZ9.out _ _ _ _ _ _ _ _ _ _ _) Tryd.underlying54 rfl rA) rfl ?_
         exact ⟨_,_,_,_,rfl,lM _ _,by (with_reducible repeat (first|exact ST9.out.isp.low|apply zY|apply zV|apply zU|refine zQ ?_ (by first|assumption|omega)))⟩
        ·
         have f1 : (e2 != 0) = false:=bne_eq_false_iff_eq.2 (by omega)
         have f2 : (e2 == 0) = true:=beq_iff_eq.2 (by omega)
         rw [if_neg he] at hK
         subst hK
         obtain ⟨A0,n0,c0,A1,n1,c1,A2,n2,c2,A3,n3,c3,rfl,rfl,rfl,rfl⟩:=ST9.out.slices
         obtain ⟨z0,z1,z2,z3,z4,z5,z6,z7,z8,z9,z10⟩:=cells11 ZZ9.out
         obtain ⟨y0,y1,y2,y3,y4,y5,y6,y7,y8,y9,y10⟩:=free11 ZZ9.out
         obtain ⟨x0,x1,x2,x3,x4,x5,x6,x7,x8,x9,x10⟩:=cells11 ST9.out.box
         go_wp2
         refine bodyPost_ret (rZ rfl _ _ _ TC _ (0,0) _ rfl (put11 ZZ9.out _ _ _ _ _ _ _ _ _ _ _) Tryd.underlying54 rfl rA) rfl ?_
         exact ⟨_,_,_,_,rfl,ST9.out.givesC (j:=w.heap.size) (by omega) (by (with_reducible repeat (first|exact Kept.refl _ _|apply Kept.alloc|apply Kept.drewN|apply Kept.drew|refine xL ?_ _ _|refine yL ?_ _ _ (Nat.le_refl _)|refine yL ?_ _ _ (by first|assumption|omega)))) (by omega),by (with_reducible repeat (first|exact ST9.out.isp.low|apply zY|apply zV|apply zU|refine zQ ?_ (by first|assumption|omega)))⟩
       ·
        have he9' : e9 = 0:=by omega
        subst he9'
        rw [if_neg (by simp)] at hfo
        have HF:=zZ.mk hfo
        clear hfo
        go_wp2_with fail
        (with_reducible refine CU.out.mono ?_)
        rintro e w5 ⟨u0,u1,u2,u3,rfl,hst,hkp,hx⟩
        have ST:=zZ.mk hst
        have ZZ:=zZ.mk (uO HZ1.out hkp (fun h => by rcases h with h|h|h <;> omega))
        have IT:=zZ.mk (uO HIT.out hkp (fun h => by rcases h with h|h|h <;> omega))
        have HX:=zZ.mk hx
        have SZ:=zZ.mk (Nat.le_trans HSZ.out hkp.1)
        have hmea2 : w5.iterPos (w1.heap.size + 1 + 1) = k + 1:=by have h:=IT.out; simp only [World.iterPos,h]
        clear hst hkp hx CU hnx
        go_wp2_with fail
        go_roundw
        case rel =>
         refine ⟨k + 1,c9,L9,p9,u0,u1,u2,u3,rfl,?_⟩
         have hq:=HPF.out.2.2 (by trivial)
         refine { k1:=hk,p0:=hq.1,p1:=hq.2,nn:=by have:=HPF.out.1; omega,nm:=by have:=HPF.out.2.1; omega,ok:=?_,xz:=?_,fold:=HF.out,st:=ST.out,it:=IT.out,zero:=ZZ.out,sz:=SZ.out,lg:=hgz }
         ·
          rcases HOC.out with h|h
          · rw [h.2]; rfl
          · exact h.2.2
         ·
          rcases HOC.out with h|h
          · exact .inl h.2
          · exact .inr (HX.out.resolve_left h.2.1)
        case measure => rw [hmea,hmea2]; omega
      ·
       have hks : k = s.size:=by have:=H.out.k1; omega
       have hnx:=fun ty => zWF (P:=Tryd.prog) wr (w1.heap.size + 1 + 1) s k ty H.out.it hk
       have hfo:=H.out.fold
       rw [show (lets s).drop k = [] from List.drop_of_length_le (by unfold lets; rw [List.length_map,Array.length_toList,hks]; exact Nat.le_refl _),foldF] at hfo
       have HF:=zZ.mk hfo
       have ST:=zZ.mk H.out.st
       have ZZ:=zZ.mk H.out.zero
       obtain ⟨L9,hL9⟩ : ∃ L9,L9 = L1:=⟨_,rfl⟩
       obtain ⟨p9,hp9⟩ : ∃ p9,p9 = p1:=⟨_,rfl⟩
       rw [← hL9] at HF ST
       rw [← hp9] at ST
       clear hfo H hL9 hp9
       go_wp2_with fail
       (with_reducible refine (CP.out w1.heap.size L9 p9 0 _ ST.out.isp).out.mono ?_)
       rintro e w9 ⟨rfl,⟨m9,rfl⟩⟩
       have ST9:=zZ.mk (ST.out.later (zV (Below.refl _ _) m9))
       have ZZ9:=zZ.mk (zN ZZ.out m9)
       obtain ⟨at1,e2,hp⟩ : ∃ at1 e2,placeF a L9 0 = (at1,e2):=⟨_,_,rfl⟩
       have hK:=HK.out
       rw [← HF.out] at hK
       unfold endC at hK
       dsimp only at hK
       rw [hp] at hK ⊢
       dsimp only at hK ⊢
       clear hp ST ZZ
       by_cases he : e2 ≠ 0
       ·
        have f1 : (e2 != 0) = true:=bne_iff_ne.2 he
        have f2 : (e2 == 0) = false:=beq_eq_false_iff_ne.2 he
        rw [if_pos he] at hK
        subst hK
        obtain ⟨z0,z1,z2,z3,z4,z5,z6,z7,z8,z9,z10⟩:=cells11 ZZ9.out
        obtain ⟨y0,y1,y2,y3,y4,y5,y6,y7,y8,y9,y10⟩:=free11 ZZ9.out
        go_wp2
        refine bodyPost_ret (rZ rfl _ _ _ TC _ (0,0) _ rfl (put11 ZZ9.out _ _ _ _ _ _ _ _ _ _ _) Tryd.underlying54 rfl rA) rfl ?_
        exact ⟨_,_,_,_,rfl,lM _ _,by (with_reducible repeat (first|exact ST9.out.isp.low|apply zY|apply zV|apply zU|refine zQ ?_ (by first|assumption|omega)))⟩
       ·
        have f1 : (e2 != 0) = false:=bne_eq_false_iff_eq.2 (by omega)
        have f2 : (e2 == 0) = true:=beq_iff_eq.2 (by omega)
        rw [if_neg he] at hK
        subst hK
        obtain ⟨A0,n0,c0,A1,n1,c1,A2,n2,c2,A3,n3,c3,rfl,rfl,rfl,rfl⟩:=ST9.out.slices
        obtain ⟨z0,z1,z2,z3,z4,z5,z6,z7,z8,z9,z10⟩:=cells11 ZZ9.out
        obtain ⟨y0,y1,y2,y3,y4,y5,y6,y7,y8,y9,y10⟩:=free11 ZZ9.out
        obtain ⟨x0,x1,x2,x3,x4,x5,x6,x7,x8,x9,x10⟩:=cells11 ST9.out.box
        go_wp2
        refine bodyPost_ret (rZ rfl _ _ _ TC _ (0,0) _ rfl (put11 ZZ9.out _ _ _ _ _ _ _ _ _ _ _) Tryd.underlying54 rfl rA) rfl ?_
        exact ⟨_,_,_,_,rfl,ST9.out.givesC (j:=w.heap.size) (by omega) (by (with_reducible repeat (first|exact Kept.refl _ _|apply Kept.alloc|apply Kept.drewN|apply Kept.drew|refine xL ?_ _ _|refine yL ?_ _ _ (Nat.le_refl _)|refine yL ?_ _ _ (by first|assumption|omega)))) (by omega),by (with_reducible repeat (first|exact ST9.out.isp.low|apply zY|apply zV|apply zU|refine zQ ?_ (by first|assumption|omega)))⟩
    ·
     go_enter Tryd.func38,Tryd.ntmps38
     go_wp2_with fail
     (with_reducible refine (CS _ ?i).out.mono ?_)
     case i => exact HL.out.l (zY (Below.refl _ _) _)
     rintro e w1 ⟨rfl,hb1⟩
     have bz1 : w1.heap[w.heap.size]? = some (.cells (cCells zC sN sN sN sN) TC (0,0)):=(hb1.block _ (wT bz)).trans bz
     have hbw:=xN (zY (Below.refl w.heap.size w) (.cells (cCells zC sN sN sN sN) TC (0,0))) (zY (Below.refl w.heap.size w) (.cells (cCells zC sN sN sN sN) TC (0,0))).size hb1
     have d1' : w1.cell? ad = some (.int .u8 t.f0):=(hbw.cell had).trans d1
     have d2' : w1.cell? ⟨ad.block,ad.off + 1,none⟩ = some (.string t.f1):=(hbw.cell (show (⟨ad.block,ad.off + 1,none⟩ : Addr).block < w.heap.size from had)).trans d2
     have had1:=World.block_lt_of_cell? _ _ d1'
     have hz1:=wT bz1
     clear d1 d2 CS hb1
     have HB:=zZ.mk hbw
     have BZ:=zZ.mk bz1
     clear hbw bz1 bz
     have b94:=zZ.mk (zR (zR (wP w1 (.cells #[.slice (some (ad.add 3)) N (c - 1),.int .i64 ((N : Int) + 1),.int .i64 0] 94)) (.cells (cCells (wC t.f1) sN sN sN sN) TC)) (.stringIter s 0))
     have b54:=zR (wP (w1.alloc (.cells #[.slice (some (ad.add 3)) N (c - 1),.int .i64 ((N : Int) + 1),.int .i64 0] 94)) (.cells (cCells (wC t.f1) sN sN sN sN) TC)) (.stringIter s 0)
     rw [HZ.out] at b54
     have bit:=World.iter_heap ((w1.alloc (.cells #[.slice (some (ad.add 3)) N (c - 1),.int .i64 ((N : Int) + 1),.int .i64 0] 94)).alloc (.cells (cCells (wC t.f1) sN sN sN sN) TC)) s 0
     rw [HZ.out,HZ.out] at bit
     have bzz:=zR (zR (zR BZ.out (.cells #[.slice (some (ad.add 3)) N (c - 1),.int .i64 ((N : Int) + 1),.int .i64 0] 94)) (.cells (cCells (wC t.f1) sN sN sN sN) TC)) (.stringIter s 0)
     have B54:=zZ.mk b54
     have BIT:=zZ.mk bit
     have BZZ:=zZ.mk bzz
     clear b54 bit bzz
     go_wp2_with fail
     go_loopw [9] (fun j wr => ∃ k c' L1 p1 vN vM v2 v3,j = .int .i64 0 ∧ CmRel w wr w1.heap.size a s R k c' L1 p1 vN vM v2 v3) (fun _ wr => s.size - wr.iterPos (w1.heap.size + 1 + 1))
     case atStart =>
      refine ⟨0,wC t.f1,r,0,sN,sN,sN,sN,rfl,?_⟩
      refine { k1:=Nat.zero_le _,p0:=Int.le_refl 0,p1:=by omega,nn:=Nat.le_refl 0,nm:=Nat.le_refl 0,ok:=HS.out.1,xz:=.inr ⟨rfl,rfl,rfl⟩,fold:=HR.out,st:=?_,it:=BIT.out,zero:=BZZ.out,sz:=?_,lg:=hz1 }
      ·
       refine ⟨⟨(some (ad.add 3)),(c - 1),?_,by omega,?_,?_,?_⟩,B54.out,Kd.R_nil _ _ _ _ _,Kd.R_nil _ _ _ _ _,rJ _ _ _ zX (Kd.R_nil _ _ _ _ _) (Kd.R_nil _ _ _ _ _),by omega,by omega⟩
       · rw [← HN.out,HA.out]; exact b94.out
       · rw [← HN.out]; omega
       · exact by have h:=hD.out; rw [if_neg hc1] at h; exact h
       · exact zY (zY (zY HB.out _) _) _
      ·
       show _ ≤ (((w1.alloc (.cells #[.slice (some (ad.add 3)) N (c - 1),.int .i64 ((N : Int) + 1),.int .i64 0] 94)).alloc (.cells (cCells (wC t.f1) sN sN sN sN) TC)).alloc (.stringIter s 0)).heap.size
       rw [HZ.out,HZ.out,HZ.out]
       exact Nat.le_refl _
     case round =>
      obtain ⟨k,c',L1,p1,vN,vM,v2,v3,rfl,H⟩:=hrel
      have H:=zZ.mk H
      have hgz:=H.out.lg
      by_cases hk : k < s.size
      ·
       have hlt : (s[k]'hk).toNat < 128:=HS.out.2.2 _ (Array.getElem_mem_toList (xs:=s.data) hk)
       have hnx:=fun ty => zWC (P:=Tryd.prog) wr (w1.heap.size + 1 + 1) s k ty H.out.it hk hlt
       have hd:=lets_at s k hk
       obtain ⟨l,hl⟩ : ∃ l : Int,l = ((s[k]'hk).toNat : Int):=⟨_,rfl⟩
       rw [← hl] at hnx hd
       have hok:=H.out.ok
       have hxz:=H.out.xz
       have hfo:=H.out.fold
       rw [hd] at hok hxz hfo
       have hxz : c'.x = zX ∧ v2 = sN ∧ v3 = sN:=hxz.resolve_left (by simp)
       have hoc:=okL_cons hok
       have hll : l = 101 ∨ (l = 110 ∨ l = 105 ∨ l = 114 ∨ l = 61) ∧ c'.x = zX ∧ v2 = sN ∧ v3 = sN:=by
        rcases hoc with h|h
        · exact .inl h.1
        · exact .inr ⟨h.1,hxz⟩
       have ST1:=H.out.st.away (j:=w1.heap.size + 1 + 1) (by omega) (by omega) (dN wr _ (.stringIter s (k + 1))) (zWL H.out.st.isp.low (by omega) _)
       have hsz : k + 1 ≤ 10:=by have:=HS.out.2.1; omega
       have CU:=zZ.mk (zWN w _ HL.out w1.heap.size (w1.heap.size + 1) (w1.heap.size + 1 + 1 + 1) a L1 p1 H.out.p0 H.out.p1 c' vN vM v2 v3 ST1 (by rw [kY]; exact H.out.sz) (by have:=H.out.nn; omega) (by have:=H.out.nm; omega) l hll)
       have hpf:=cG l c' L1 p1 H.out.p0 H.out.p1
       have hit1:=turn_new wr (w1.heap.size + 1 + 1) (.stringIter s (k + 1)) _ H.out.it
       have hz1':=uO H.out.zero (dN wr (w1.heap.size + 1 + 1) (.stringIter s (k + 1))) (fun h => by have h1 : w.heap.size = w1.heap.size + 1 + 1:=h; omega)
       rw [foldF] at hfo
       obtain ⟨c9,L9,p9,e9,hp⟩ : ∃ c9 L9 p9 e9,partF l c' L1 p1 = (c9,L9,p9,e9):=⟨_,_,_,_,rfl⟩
       rw [hp] at CU hfo hpf
       dsimp only at CU hfo hpf
       have HIT:=zZ.mk hit1
       have HZ1:=zZ.mk hz1'
       have HPF:=zZ.mk hpf
       have HOC:=zZ.mk hoc
       have hnnk:=H.out.nn
       have hnmk:=H.out.nm
       have HSZ:=zZ.mk (show w1.heap.size + 1 + 1 + 1 ≤ (turn wr (w1.heap.size + 1 + 1) (.stringIter s (k + 1))).heap.size by rw [kY]; exact H.out.sz)
       have hmea : wr.iterPos (w1.heap.size + 1 + 1) = k:=by have h:=H.out.it; simp only [World.iterPos,h]
       clear hp ST1 hd hok hxz hoc hll hit1 hz1' hpf H hl
       by_cases he9 : e9 ≠ 0
       ·
        have f1 : (e9 != 0) = true:=bne_iff_ne.2 he9
        have f2 : (e9 == 0) = false:=beq_eq_false_iff_ne.2 he9
        rw [if_pos he9] at hfo
        have HF:=zZ.mk hfo
        clear hfo hmea
        go_wp2_with fail
        (with_reducible refine CU.out.mono ?_)
        rintro e w5 ⟨u0,u1,u2,u3,rfl,hst,hkp,hx⟩
        have ST:=zZ.mk hst
        have ZZ:=zZ.mk (uO HZ1.out hkp (fun h => by rcases h with h|h|h <;> omega))
        clear hst hkp hx CU hnx
        go_wp2_with fail
        (with_reducible refine (CP.out w1.heap.size L9 p9 e9 _ ST.out.isp).out.mono ?_)
        rintro e w9 ⟨rfl,⟨m9,rfl⟩⟩
        have ST9:=zZ.mk (ST.out.later (zV (Below.refl _ _) m9))
        have ZZ9:=zZ.mk (zN ZZ.out m9)
        obtain ⟨at1,e2,hp⟩ : ∃ at1 e2,placeF a L9 e9 = (at1,e2):=⟨_,_,rfl⟩
        have hK:=HK.out
        rw [← HF.out] at hK
        unfold endC at hK
        dsimp only at hK
        rw [hp] at hK ⊢
        dsimp only at hK ⊢
        clear hp ST ZZ
        by_cases he : e2 ≠ 0
        ·
         have f1 : (e2 != 0) = true:=bne_iff_ne.2 he
         have f2 : (e2 == 0) = false:=beq_eq_false_iff_ne.2 he
         rw [if_pos he] at hK
         subst hK
         obtain ⟨z0,z1,z2,z3,z4,z5,z6,z7,z8,z9,z10⟩:=cells11 ZZ9.out
         obtain ⟨y0,y1,y2,y3,y4,y5,y6,y7,y8,y9,y10⟩:=free11 ZZ9.out
         go_wp2
         refine bodyPost_ret (rZ rfl _ _ _ TC _ (0,0) _ rfl (put11 ZZ9.out _ _ _ _ _ _ _ _ _ _ _) Tryd.underlying54 rfl rA) rfl ?_
         exact ⟨_,_,_,_,rfl,lM _ _,by (with_reducible repeat (first|exact ST9.out.isp.low|apply zY|apply zV|apply zU|refine zQ ?_ (by first|assumption|omega)))⟩
        ·
         have f1 : (e2 != 0) = false:=bne_eq_false_iff_eq.2 (by omega)
         have f2 : (e2 == 0) = true:=beq_iff_eq.2 (by omega)
         rw [if_neg he] at hK
         subst hK
         obtain ⟨A0,n0,c0,A1,n1,c1,A2,n2,c2,A3,n3,c3,rfl,rfl,rfl,rfl⟩:=ST9.out.slices
         obtain ⟨z0,z1,z2,z3,z4,z5,z6,z7,z8,z9,z10⟩:=cells11 ZZ9.out
         obtain ⟨y0,y1,y2,y3,y4,y5,y6,y7,y8,y9,y10⟩:=free11 ZZ9.out
         obtain ⟨x0,x1,x2,x3,x4,x5,x6,x7,x8,x9,x10⟩:=cells11 ST9.out.box
         go_wp2
         refine bodyPost_ret (rZ rfl _ _ _ TC _ (0,0) _ rfl (put11 ZZ9.out _ _ _ _ _ _ _ _ _ _ _) Tryd.underlying54 rfl rA) rfl ?_
         exact ⟨_,_,_,_,rfl,ST9.out.givesC (j:=w.heap.size) (by omega) (by (with_reducible repeat (first|exact Kept.refl _ _|apply Kept.alloc|apply Kept.drewN|apply Kept.drew|refine xL ?_ _ _|refine yL ?_ _ _ (Nat.le_refl _)|refine yL ?_ _ _ (by first|assumption|omega)))) (by omega),by (with_reducible repeat (first|exact ST9.out.isp.low|apply zY|apply zV|apply zU|refine zQ ?_ (by first|assumption|omega)))⟩
       ·
        have he9' : e9 = 0:=by omega
        subst he9'
        rw [if_neg (by simp)] at hfo
        have HF:=zZ.mk hfo
        clear hfo
        go_wp2_with fail
        (with_reducible refine CU.out.mono ?_)
        rintro e w5 ⟨u0,u1,u2,u3,rfl,hst,hkp,hx⟩
        have ST:=zZ.mk hst
        have ZZ:=zZ.mk (uO HZ1.out hkp (fun h => by rcases h with h|h|h <;> omega))
        have IT:=zZ.mk (uO HIT.out hkp (fun h => by rcases h with h|h|h <;> omega))
        have HX:=zZ.mk hx
        have SZ:=zZ.mk (Nat.le_trans HSZ.out hkp.1)
        have hmea2 : w5.iterPos (w1.heap.size + 1 + 1) = k + 1:=by have h:=IT.out; simp only [World.iterPos,h]
        clear hst hkp hx CU hnx
        go_wp2_with fail
        go_roundw
        case rel =>
         refine ⟨k + 1,c9,L9,p9,u0,u1,u2,u3,rfl,?_⟩
         have hq:=HPF.out.2.2 (by trivial)
         refine { k1:=hk,p0:=hq.1,p1:=hq.2,nn:=by have:=HPF.out.1; omega,nm:=by have:=HPF.out.2.1; omega,ok:=?_,xz:=?_,fold:=HF.out,st:=ST.out,it:=IT.out,zero:=ZZ.out,sz:=SZ.out,lg:=hgz }
         ·
          rcases HOC.out with h|h
          · rw [h.2]; rfl
          · exact h.2.2
         ·
          rcases HOC.out with h|h
          · exact .inl h.2
          · exact .inr (HX.out.resolve_left h.2.1)
        case measure => rw [hmea,hmea2]; omega
      ·
       have hks : k = s.size:=by have:=H.out.k1; omega
       have hnx:=fun ty => zWF (P:=Tryd.prog) wr (w1.heap.size + 1 + 1) s k ty H.out.it hk
       have hfo:=H.out.fold
       rw [show (lets s).drop k = [] from List.drop_of_length_le (by unfold lets; rw [List.length_map,Array.length_toList,hks]; exact Nat.le_refl _),foldF] at hfo
       have HF:=zZ.mk hfo
       have ST:=zZ.mk H.out.st
       have ZZ:=zZ.mk H.out.zero
       obtain ⟨L9,hL9⟩ : ∃ L9,L9 = L1:=⟨_,rfl⟩
       obtain ⟨p9,hp9⟩ : ∃ p9,p9 = p1:=⟨_,rfl⟩
       rw [← hL9] at HF ST
       rw [← hp9] at ST
       clear hfo H hL9 hp9
       go_wp2_with fail
       (with_reducible refine (CP.out w1.heap.size L9 p9 0 _ ST.out.isp).out.mono ?_)
       rintro e w9 ⟨rfl,⟨m9,rfl⟩⟩
       have ST9:=zZ.mk (ST.out.later (zV (Below.refl _ _) m9))
       have ZZ9:=zZ.mk (zN ZZ.out m9)
       obtain ⟨at1,e2,hp⟩ : ∃ at1 e2,placeF a L9 0 = (at1,e2):=⟨_,_,rfl⟩
       have hK:=HK.out
       rw [← HF.out] at hK
       unfold endC at hK
       dsimp only at hK
       rw [hp] at hK ⊢
       dsimp only at hK ⊢
       clear hp ST ZZ
       by_cases he : e2 ≠ 0
       ·
        have f1 : (e2 != 0) = true:=bne_iff_ne.2 he
        have f2 : (e2 == 0) = false:=beq_eq_false_iff_ne.2 he
        rw [if_pos he] at hK
        subst hK
        obtain ⟨z0,z1,z2,z3,z4,z5,z6,z7,z8,z9,z10⟩:=cells11 ZZ9.out
        obtain ⟨y0,y1,y2,y3,y4,y5,y6,y7,y8,y9,y10⟩:=free11 ZZ9.out
        go_wp2
        refine bodyPost_ret (rZ rfl _ _ _ TC _ (0,0) _ rfl (put11 ZZ9.out _ _ _ _ _ _ _ _ _ _ _) Tryd.underlying54 rfl rA) rfl ?_
        exact ⟨_,_,_,_,rfl,lM _ _,by (with_reducible repeat (first|exact ST9.out.isp.low|apply zY|apply zV|apply zU|refine zQ ?_ (by first|assumption|omega)))⟩
       ·
        have f1 : (e2 != 0) = false:=bne_eq_false_iff_eq.2 (by omega)
        have f2 : (e2 == 0) = true:=beq_iff_eq.2 (by omega)
        rw [if_neg he] at hK
        subst hK
        obtain ⟨A0,n0,c0,A1,n1,c1,A2,n2,c2,A3,n3,c3,rfl,rfl,rfl,rfl⟩:=ST9.out.slices
        obtain ⟨z0,z1,z2,z3,z4,z5,z6,z7,z8,z9,z10⟩:=cells11 ZZ9.out
        obtain ⟨y0,y1,y2,y3,y4,y5,y6,y7,y8,y9,y10⟩:=free11 ZZ9.out
        obtain ⟨x0,x1,x2,x3,x4,x5,x6,x7,x8,x9,x10⟩:=cells11 ST9.out.box
        go_wp2
        refine bodyPost_ret (rZ rfl _ _ _ TC _ (0,0) _ rfl (put11 ZZ9.out _ _ _ _ _ _ _ _ _ _ _) Tryd.underlying54 rfl rA) rfl ?_
        exact ⟨_,_,_,_,rfl,ST9.out.givesC (j:=w.heap.size) (by omega) (by (with_reducible repeat (first|exact Kept.refl _ _|apply Kept.alloc|apply Kept.drewN|apply Kept.drew|refine xL ?_ _ _|refine yL ?_ _ _ (Nat.le_refl _)|refine yL ?_ _ _ (by first|assumption|omega)))) (by omega),by (with_reducible repeat (first|exact ST9.out.isp.low|apply zY|apply zV|apply zU|refine zQ ?_ (by first|assumption|omega)))⟩
end Go.Proofs.YtjeofffddbibeaaDoor.Pa
end

section
namespace Go.Proofs.YtjeofffddbibeaaDoor.PParseTells
open Go.RowKit YtjeofffddbibeaaDoorW.PrintWords YtjeofffddbibeaaDoorW.PrintLast YtjeofffddbibeaaDoorW.PrintMore
attribute [local go_sem] tH tM tG tL tK tJ tN tI
def IsS101 (w0 W : World) (g : Nat) (f0 : List (S61)) (f1 : Int) (f2 : Int) (f3 : Int) : Prop:=∃ A0 c0,W.heap[g]? = some (.cells #[.slice A0 f0.length c0,.int .i64 f1,.int .i64 f2,.int .i64 f3] 101 (0,0)) ∧ w0.heap.size ≤ g ∧ Kd.C k61 w0 A0 f0.length f0
theorem IsS101.grown {w0 W : World} {g : Nat} {f0 : List (S61)} {f1 : Int} {f2 : Int} {f3 : Int} {W1 : World} {row : Option Nat} (h : IsS101 w0 W g f0 f1 f2 f3) (hw : W.grownBy W1 row) (hne : some g ≠ row) : IsS101 w0 W1 g f0 f1 f2 f3:=by
 obtain ⟨A0,c0,hb,hg,hr0⟩:=h
 exact ⟨A0,c0,tC hb hw hne,hg,hr0⟩
theorem IsS101.kept {w0 W : World} {g : Nat} {f0 : List (S61)} {f1 : Int} {f2 : Int} {f3 : Int} {W1 : World} {S : Nat → Prop} (h : IsS101 w0 W g f0 f1 f2 f3) (hk : Kept W W1 S) (hne : ¬ S g) : IsS101 w0 W1 g f0 f1 f2 f3:=by
 obtain ⟨A0,c0,hb,hg,hr0⟩:=h
 exact ⟨A0,c0,uO hb hk hne,hg,hr0⟩
theorem IsS101.below {w0 W : World} {g : Nat} {f0 : List (S61)} {f1 : Int} {f2 : Int} {f3 : Int} {W1 : World} (h : IsS101 w0 W g f0 f1 f2 f3) (hw : Below W.heap.size W W1) : IsS101 w0 W1 g f0 f1 f2 f3:=h.grown (cK hw none) (by simp)
theorem IsS101.alloc {w0 W : World} {g : Nat} {f0 : List (S61)} {f1 : Int} {f2 : Int} {f3 : Int} (h : IsS101 w0 W g f0 f1 f2 f3) (o : Obj) : IsS101 w0 (W.alloc o) g f0 f1 f2 f3:=h.below (zY (Below.refl _ _) o)
theorem IsS101.drewN {w0 W : World} {g : Nat} {f0 : List (S61)} {f1 : Int} {f2 : Int} {f3 : Int} (h : IsS101 w0 W g f0 f1 f2 f3) (m : Nat) : IsS101 w0 (W.drewN m) g f0 f1 f2 f3:=h
theorem IsS101.drew {w0 W : World} {g : Nat} {f0 : List (S61)} {f1 : Int} {f2 : Int} {f3 : Int} (h : IsS101 w0 W g f0 f1 f2 f3) : IsS101 w0 W.drew g f0 f1 f2 f3:=h
theorem IsS101.at_ {w0 W : World} {g : Nat} {f0 : List (S61)} {f1 : Int} {f2 : Int} {f3 : Int} {w' : World} {m : Nat} (hq : W.drewN m = w') (h : IsS101 w0 W g f0 f1 f2 f3) : IsS101 w0 w' g f0 f1 f2 f3:=by subst hq; exact IsS101.drewN h m
theorem IsS101.apart {w0 W : World} {g : Nat} {f0 : List (S61)} {f1 : Int} {f2 : Int} {f3 : Int} {α : Type} {d : Kd α} {e : Nat} {base : Nat} {ok : Nat → Prop} {v : Value} {xs : List α} (h : IsS101 w0 W g f0 f1 f2 f3) (ho : d.R e W base ok v xs) (ht : ∀ q,q ∈ e :: d.E → q ≠ 101) : d.R e W base (fun k => ok k ∧ k ≠ g) v xs:=by
 obtain ⟨A0,c0,hb,hg,hr0⟩:=h
 exact Kd.R_types ho hb ht
theorem IsS101.own_ne {w0 W : World} {g : Nat} {f0 : List (S61)} {f1 : Int} {f2 : Int} {f3 : Int} {α : Type} {d : Kd α} {e : Nat} {base : Nat} {ok : Nat → Prop} {v : Value} {xs : List α} (h : IsS101 w0 W g f0 f1 f2 f3) (ho : d.R e W base ok v xs) (ht : e ≠ 101) : some g ≠ v.ownBlock:=by
 obtain ⟨A0,c0,hb,hg,hr0⟩:=h
 exact Kd.R_ne ho hb ht
theorem IsS101.lt {w0 W : World} {g : Nat} {f0 : List (S61)} {f1 : Int} {f2 : Int} {f3 : Int} (h : IsS101 w0 W g f0 f1 f2 f3) : g < W.heap.size:=by
 obtain ⟨A0,c0,hb,hg,hr0⟩:=h
 exact wT hb
theorem IsS101.ge {w0 W : World} {g : Nat} {f0 : List (S61)} {f1 : Int} {f2 : Int} {f3 : Int} (h : IsS101 w0 W g f0 f1 f2 f3) : w0.heap.size ≤ g:=by
 obtain ⟨A0,c0,hb,hg,hr0⟩:=h
 exact hg
theorem IsS101.new (w0 W : World) (A0 : Option Addr) (c0 : Nat) (f0 : List (S61)) (f1 : Int) (f2 : Int) (f3 : Int) (hB : Below w0.heap.size w0 W) (hr0 : Kd.C k61 w0 A0 f0.length f0) : IsS101 w0 (W.alloc (.cells #[.slice A0 f0.length c0,.int .i64 f1,.int .i64 f2,.int .i64 f3] 101)) W.heap.size f0 f1 f2 f3:=⟨A0,c0,by simpa using heap_alloc_new W _,hB.size,hr0⟩
end Go.Proofs.YtjeofffddbibeaaDoor.PParseTells
end

section
namespace Go.Proofs.YtjeofffddbibeaaDoor.PParseTells
open Go.RowKit YtjeofffddbibeaaDoorW.PrintWords YtjeofffddbibeaaDoorW.PrintLast YtjeofffddbibeaaDoorW.PrintMore
attribute [local go_sem] tH tM tG tL tK tJ tN tI
end Go.Proofs.YtjeofffddbibeaaDoor.PParseTells
end

section
namespace Go.Proofs.YtjeofffddbibeaaDoor.Pa
open Go Go.RowKit PParseTells Ex YtjeofffddbibeaaDoorW.PrintWords YtjeofffddbibeaaDoorW.PrintLast YtjeofffddbibeaaDoorW.PrintMore
theorem sH {s t : ByteArray} (h : ¬ s = t) : ¬ s.toList = t.toList:=fun he => h ((Lib.bytes_beq_iff s t).1 (beq_iff_eq.2 he))
set_option maxRecDepth 100000 in
set_option maxHeartbeats 4000000 in
theorem refShape_f (s : ByteArray) : wS.f 3 s = some ((shapeF s).1,(shapeF s).2):=by
 by_cases h0 : s = ⟨#[100,101,102,105,110,101]⟩
 ·
  subst h0
  decide +kernel
 by_cases h1 : s = ⟨#[100,114,111,112]⟩
 ·
  subst h1
  decide +kernel
 by_cases h2 : s = ⟨#[115,104,111,119]⟩
 ·
  subst h2
  decide +kernel
 by_cases h3 : s = ⟨#[102,111,114,109]⟩
 ·
  subst h3
  decide +kernel
 by_cases h4 : s = ⟨#[118,97,114]⟩
 ·
  subst h4
  decide +kernel
 by_cases h5 : s = ⟨#[101,120,116,101,110,116]⟩
 ·
  subst h5
  decide +kernel
 by_cases h6 : s = ⟨#[103,114,97,110,117,108,101]⟩
 ·
  subst h6
  decide +kernel
 by_cases h7 : s = ⟨#[110,101,120,116]⟩
 ·
  subst h7
  decide +kernel
 by_cases h8 : s = ⟨#[112,114,101,118]⟩
 ·
  subst h8
  decide +kernel
 by_cases h9 : s = ⟨#[115,112,97,110]⟩
 ·
  subst h9
  decide +kernel
 by_cases h10 : s = ⟨#[114,101,108]⟩
 ·
  subst h10
  decide +kernel
 by_cases h11 : s = ⟨#[99,111,118,101,114]⟩
 ·
  subst h11
  decide +kernel
 by_cases h12 : s = ⟨#[98,111,117,110,100]⟩
 ·
  subst h12
  decide +kernel
 by_cases h13 : s = ⟨#[100,97,116,101]⟩
 ·
  subst h13
  decide +kernel
 by_cases h14 : s = ⟨#[115,111,108,118,101]⟩
 ·
  subst h14
  decide +kernel
 by_cases h15 : s = ⟨#[110,101,116]⟩
 ·
  subst h15
  decide +kernel
 by_cases h16 : s = ⟨#[105,110,102,101,114]⟩
 ·
  subst h16
  decide +kernel
 by_cases h17 : s = ⟨#[114,101,115,101,116]⟩
 ·
  subst h17
  decide +kernel
 have e0 : ¬ (s.toList = ([100,101,102,105,110,101] : List UInt8)):=fun h => sH h0 (h.trans (show ([100,101,102,105,110,101] : List UInt8) = (⟨#[100,101,102,105,110,101]⟩ : ByteArray).toList from by decide +kernel))
 have e1 : ¬ (s.toList = ([100,114,111,112] : List UInt8)):=fun h => sH h1 (h.trans (show ([100,114,111,112] : List UInt8) = (⟨#[100,114,111,112]⟩ : ByteArray).toList from by decide +kernel))
 have e2 : ¬ (s.toList = ([115,104,111,119] : List UInt8)):=fun h => sH h2 (h.trans (show ([115,104,111,119] : List UInt8) = (⟨#[115,104,111,119]⟩ : ByteArray).toList from by decide +kernel))
 have e3 : ¬ (s.toList = ([102,111,114,109] : List UInt8)):=fun h => sH h3 (h.trans (show ([102,111,114,109] : List UInt8) = (⟨#[102,111,114,109]⟩ : ByteArray).toList from by decide +kernel))
 have e4 : ¬ (s.toList = ([118,97,114] : List UInt8)):=fun h => sH h4 (h.trans (show ([118,97,114] : List UInt8) = (⟨#[118,97,114]⟩ : ByteArray).toList from by decide +kernel))
 have e5 : ¬ (s.toList = ([101,120,116,101,110,116] : List UInt8)):=fun h => sH h5 (h.trans (show ([101,120,116,101,110,116] : List UInt8) = (⟨#[101,120,116,101,110,116]⟩ : ByteArray).toList from by decide +kernel))
 have e6 : ¬ (s.toList = ([103,114,97,110,117,108,101] : List UInt8)):=fun h => sH h6 (h.trans (show ([103,114,97,110,117,108,101] : List UInt8) = (⟨#[103,114,97,110,117,108,101]⟩ : ByteArray).toList from by decide +kernel))
 have e7 : ¬ (s.toList = ([110,101,120,116] : List UInt8)):=fun h => sH h7 (h.trans (show ([110,101,120,116] : List UInt8) = (⟨#[110,101,120,116]⟩ : ByteArray).toList from by decide +kernel))
 have e8 : ¬ (s.toList = ([112,114,101,118] : List UInt8)):=fun h => sH h8 (h.trans (show ([112,114,101,118] : List UInt8) = (⟨#[112,114,101,118]⟩ : ByteArray).toList from by decide +kernel))
 have e9 : ¬ (s.toList = ([115,112,97,110] : List UInt8)):=fun h => sH h9 (h.trans (show ([115,112,97,110] : List UInt8) = (⟨#[115,112,97,110]⟩ : ByteArray).toList from by decide +kernel))
 have e10 : ¬ (s.toList = ([114,101,108] : List UInt8)):=fun h => sH h10 (h.trans (show ([114,101,108] : List UInt8) = (⟨#[114,101,108]⟩ : ByteArray).toList from by decide +kernel))
 have e11 : ¬ (s.toList = ([99,111,118,101,114] : List UInt8)):=fun h => sH h11 (h.trans (show ([99,111,118,101,114] : List UInt8) = (⟨#[99,111,118,101,114]⟩ : ByteArray).toList from by decide +kernel))
 have e12 : ¬ (s.toList = ([98,111,117,110,100] : List UInt8)):=fun h => sH h12 (h.trans (show ([98,111,117,110,100] : List UInt8) = (⟨#[98,111,117,110,100]⟩ : ByteArray).toList from by decide +kernel))
 have e13 : ¬ (s.toList = ([100,97,116,101] : List UInt8)):=fun h => sH h13 (h.trans (show ([100,97,116,101] : List UInt8) = (⟨#[100,97,116,101]⟩ : ByteArray).toList from by decide +kernel))
 have e14 : ¬ (s.toList = ([115,111,108,118,101] : List UInt8)):=fun h => sH h14 (h.trans (show ([115,111,108,118,101] : List UInt8) = (⟨#[115,111,108,118,101]⟩ : ByteArray).toList from by decide +kernel))
 have e15 : ¬ (s.toList = ([110,101,116] : List UInt8)):=fun h => sH h15 (h.trans (show ([110,101,116] : List UInt8) = (⟨#[110,101,116]⟩ : ByteArray).toList from by decide +kernel))
 have e16 : ¬ (s.toList = ([105,110,102,101,114] : List UInt8)):=fun h => sH h16 (h.trans (show ([105,110,102,101,114] : List UInt8) = (⟨#[105,110,102,101,114]⟩ : ByteArray).toList from by decide +kernel))
 have e17 : ¬ (s.toList = ([114,101,115,101,116] : List UInt8)):=fun h => sH h17 (h.trans (show ([114,101,115,101,116] : List UInt8) = (⟨#[114,101,115,101,116]⟩ : ByteArray).toList from by decide +kernel))
 have hA : shapeF s = (nil8,false):=by
  have hk : ∀ l : List (ByteArray × ByteArray),(∀ q ∈ l,¬ (q.2.toList = s.toList)) → shF l s = (nil8,false):=by
   intro l
   induction l with
   | nil => intro _; rw [shF]
   | cons q r ih => intro h; rw [shF,if_neg (by rw [beq_iff_eq]; exact h q (by simp)),ih (fun q' hq' => h q' (by simp [hq']))]
  refine hk shapeL ?_
  intro q hq he
  have hm : q.2.toList ∈ shapeL.map (fun q => q.2.toList):=List.mem_map_of_mem hq
  have hl : shapeL.map (fun q => q.2.toList) = [([100,101,102,105,110,101] : List UInt8),([100,114,111,112] : List UInt8),([115,104,111,119] : List UInt8),([102,111,114,109] : List UInt8),([118,97,114] : List UInt8),([101,120,116,101,110,116] : List UInt8),([103,114,97,110,117,108,101] : List UInt8),([110,101,120,116] : List UInt8),([112,114,101,118] : List UInt8),([115,112,97,110] : List UInt8),([114,101,108] : List UInt8),([99,111,118,101,114] : List UInt8),([98,111,117,110,100] : List UInt8),([100,97,116,101] : List UInt8),([115,111,108,118,101] : List UInt8),([110,101,116] : List UInt8),([105,110,102,101,114] : List UInt8),([114,101,115,101,116] : List UInt8)]:=by decide +kernel
  rw [hl,he] at hm
  simp only [List.mem_cons,List.not_mem_nil,or_false] at hm
  rcases hm with h|h|h|h|h|h|h|h|h|h|h|h|h|h|h|h|h|h
  · exact e0 h
  · exact e1 h
  · exact e2 h
  · exact e3 h
  · exact e4 h
  · exact e5 h
  · exact e6 h
  · exact e7 h
  · exact e8 h
  · exact e9 h
  · exact e10 h
  · exact e11 h
  · exact e12 h
  · exact e13 h
  · exact e14 h
  · exact e15 h
  · exact e16 h
  · exact e17 h
 rw [hA]
 have b0 : ∀ l : List UInt8,¬ (s.toList = l) → (s.toList == l) = false:=fun l h => beq_eq_false_iff_ne.2 h
 simp only [wS.f,wS.j0,wS.j1,e0,b0 _ e0,e1,b0 _ e1,e2,b0 _ e2,e3,b0 _ e3,e4,b0 _ e4,e5,b0 _ e5,e6,b0 _ e6,e7,b0 _ e7,e8,b0 _ e8,e9,b0 _ e9,e10,b0 _ e10,e11,b0 _ e11,e12,b0 _ e12,e13,b0 _ e13,e14,b0 _ e14,e15,b0 _ e15,e16,b0 _ e16,e17,b0 _ e17,if_false]
 simp
theorem refKind_f (o : Int) (h0 : 0 ≤ o) : wG.f 3 o = some (if o ≤ 12 then numsOf o else -1,argsOf o):=by
 by_cases h : o ≤ 12
 · rcases (show o = 0 ∨ o = 1 ∨ o = 2 ∨ o = 3 ∨ o = 4 ∨ o = 5 ∨ o = 6 ∨ o = 7 ∨ o = 8 ∨ o = 9 ∨ o = 10 ∨ o = 11 ∨ o = 12 by omega) with rfl|rfl|rfl|rfl|rfl|rfl|rfl|rfl|rfl|rfl|rfl|rfl|rfl <;> decide
 ·
  have e2 : argsOf o = 0:=by unfold argsOf; rw [if_pos (by omega)]
  rw [if_neg h,e2]
  have hb : ∀ n : Int,n ≤ 12 → (o == n) = false:=fun n hn => beq_eq_false_iff_ne.2 (by omega)
  simp only [wG.f,wG.j0,wG.j1]
  rw [if_neg (by omega),if_neg (by omega),hb 2 (by omega),if_neg (by simp),if_neg (by omega),if_neg (by omega),if_neg (by omega),hb 9 (by omega),if_neg (by simp),if_neg (by omega),if_neg (by omega),if_neg (by omega),if_neg (by omega),if_neg (by omega),if_neg (by omega)]
end Go.Proofs.YtjeofffddbibeaaDoor.Pa
end

section
namespace Go.Proofs.YtjeofffddbibeaaDoor.PParseTells
open Go.RowKit YtjeofffddbibeaaDoorW.PrintWords YtjeofffddbibeaaDoorW.PrintLast YtjeofffddbibeaaDoorW.PrintMore
attribute [local go_sem] tH tM tG tL tK tJ tN tI
theorem eqA52 (d : Nat) (w : World) (x0 y0 : Int) (x1 y1 : Int) (x2 y2 : Bool) (x3 y3 : Bool) :
  (Op.equalIn (d + 2) 52 (.agg #[.int .i64 x0,.int .i64 x1,.bool x2,.bool x3]) (.agg #[.int .i64 y0,.int .i64 y1,.bool y2,.bool y3])).run Tryd.prog w = .ok (x0 == y0 && (x1 == y1 && (x2 == y2 && (x3 == y3)))) w:=by
 refine eqA_of Tryd.underlying52 (by kernel_rfl) ?_
 refine eqf_cons (by rfl) (by go_simp; rfl) (by go_simp; rfl) (by go_simp) ?_
 refine eqf_cons (by rfl) (by go_simp; rfl) (by go_simp; rfl) (by go_simp) ?_
 refine eqf_cons (by rfl) (by go_simp; rfl) (by go_simp; rfl) (by go_simp) ?_
 exact eqf_last (by rfl) (by go_simp; rfl) (by go_simp; rfl) (by go_simp)
end Go.Proofs.YtjeofffddbibeaaDoor.PParseTells
end
