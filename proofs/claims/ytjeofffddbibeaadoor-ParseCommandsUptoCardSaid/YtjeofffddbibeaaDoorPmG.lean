/-
 Part 7 of what the row stands on,put together by a program: PR1,PdR,PdL,Box,ExprP,PdX,PdH.
-/
import Derived.Test.YtjeofffddbibeaaDoorPmF
set_option linter.unusedVariables false
set_option linter.unusedSimpArgs false
section
namespace Go.Proofs.YtjeofffddbibeaaDoor.PParseTells
open Go.RowKit YtjeofffddbibeaaDoorW.PrintWords YtjeofffddbibeaaDoorW.PrintLast YtjeofffddbibeaaDoorW.PrintMore
attribute [local go_sem] tH tM tG tL tK tJ tN tI
attribute [local go_sem high] eqA52
mutual
def xP.l0 : Nat → ByteArray → Bool → Int → Int → Bool → Bool → Int → ByteArray → List ByteArray → List Int → Int → Int → Bool → Bool → Int → ByteArray → List Int → List (S25) → Option (Bool)
 | 0,_,_,_,_,_,_,_,_,_,_,_,_,_,_,_,_,_,_ => none
 | k + 1,x3,x4,x5,x6,x7,x8,x9,sZ,tZ,tU,uG,uK,uF,uJ,tT,tS,tR,tQ => if x9 < (x3.size : Int) then (if 0 ≤ x9 then (if (bt x3 x9) = 110 then (xP.l0 k x3 x4 (wrap64 (x5 + 1)) x6 x7 x8 (wrap64 (x9 + 1)) sZ tZ tU uG uK uF uJ tT tS tR tQ) else (if (bt x3 x9) = 105 then (xP.l0 k x3 x4 x5 (wrap64 (x6 + 1)) x7 x8 (wrap64 (x9 + 1)) sZ tZ tU uG uK uF uJ tT tS tR tQ) else (if (bt x3 x9) = 114 then (xP.l0 k x3 x4 x5 x6 true x8 (wrap64 (x9 + 1)) sZ tZ tU uG uK uF uJ tT tS tR tQ) else (if (bt x3 x9) = 101 then (xP.l0 k x3 x4 x5 x6 x7 true (wrap64 (x9 + 1)) sZ tZ tU uG uK uF uJ tT tS tR tQ) else (xP.l0 k x3 x4 x5 x6 x7 x8 (wrap64 (x9 + 1)) sZ tZ tU uG uK uF uJ tT tS tR tQ))))) else (none)) else (xP.l1 k x4 x5 x6 x7 x8 0 sZ tZ tU uG uK uF uJ tT tS tR tQ)
def xP.l1 : Nat → Bool → Int → Int → Bool → Bool → Int → ByteArray → List ByteArray → List Int → Int → Int → Bool → Bool → Int → ByteArray → List Int → List (S25) → Option (Bool)
 | 0,_,_,_,_,_,_,_,_,_,_,_,_,_,_,_,_,_ => none
 | k + 1,x4,x5,x6,x7,x8,x10,sZ,tZ,tU,uG,uK,uF,uJ,tT,tS,tR,tQ => if x10 < (tZ.length : Int) then (if x4 = true then (if 0 ≤ x10 then ((wM.f k (rdOf ByteArray.empty tZ x10)).bind fun t299 => (xP.l1 k t299 x5 x6 x7 x8 (wrap64 (x10 + 1)) sZ tZ tU uG uK uF uJ tT tS tR tQ)) else (none)) else (xP.l1 k false x5 x6 x7 x8 (wrap64 (x10 + 1)) sZ tZ tU uG uK uF uJ tT tS tR tQ)) else (if uF = true then (if uJ = true then (if x7 = true then (xP.j2 k x4 x5 x6 x8 false sZ tZ tU uG uK uF uJ tT tS tR tQ) else (xP.j2 k x4 x5 x6 x8 (!(uG == 0) || (!(uK == 0) || (uF || (uJ)))) sZ tZ tU uG uK uF uJ tT tS tR tQ)) else (if uK = 0 then (if x7 = true then (xP.j2 k x4 x5 x6 x8 false sZ tZ tU uG uK uF uJ tT tS tR tQ) else (xP.j2 k x4 x5 x6 x8 (!(uG == 0) || (!(uK == 0) || (uF || (uJ)))) sZ tZ tU uG uK uF uJ tT tS tR tQ)) else (xP.j2 k x4 x5 x6 x8 true sZ tZ tU uG uK uF uJ tT tS tR tQ))) else (if uG = 0 then (if uJ = true then (if x7 = true then (xP.j2 k x4 x5 x6 x8 false sZ tZ tU uG uK uF uJ tT tS tR tQ) else (xP.j2 k x4 x5 x6 x8 (!(uG == 0) || (!(uK == 0) || (uF || (uJ)))) sZ tZ tU uG uK uF uJ tT tS tR tQ)) else (if uK = 0 then (if x7 = true then (xP.j2 k x4 x5 x6 x8 false sZ tZ tU uG uK uF uJ tT tS tR tQ) else (xP.j2 k x4 x5 x6 x8 (!(uG == 0) || (!(uK == 0) || (uF || (uJ)))) sZ tZ tU uG uK uF uJ tT tS tR tQ)) else (xP.j2 k x4 x5 x6 x8 true sZ tZ tU uG uK uF uJ tT tS tR tQ))) else (xP.j2 k x4 x5 x6 x8 true sZ tZ tU uG uK uF uJ tT tS tR tQ)))
def xP.j2 : Nat → Bool → Int → Int → Bool → Bool → ByteArray → List ByteArray → List Int → Int → Int → Bool → Bool → Int → ByteArray → List Int → List (S25) → Option (Bool)
 | 0,_,_,_,_,_,_,_,_,_,_,_,_,_,_,_,_ => none
 | k + 1,x4,x5,x6,x8,x83,sZ,tZ,tU,uG,uK,uF,uJ,tT,tS,tR,tQ => if x83 = true then (some false) else (if x8 = true then ((qQ.f k tT tS tR tQ).bind fun t301 => (if t301 = true then (if x4 = true then (if (tZ.length : Int) = x5 then (some ((tU.length : Int) == x6)) else (some false)) else (some false)) else (some false))) else ((yC.f k tT tS tR tQ 0 (⟨#[]⟩ : ByteArray) ([] : List Int) ([] : List (S25))).bind fun t302 => (if t302 = true then (if x4 = true then (if (tZ.length : Int) = x5 then (some ((tU.length : Int) == x6)) else (some false)) else (some false)) else (some false))))
end
def xP.f (k : Nat) (zT : ByteArray) (zE : List ByteArray) (zW : List Int) (zH : Int) (zG : Int) (yM : Bool) (yO : Bool) (yX : Int) (yW : ByteArray) (zA : List Int) (yZ : List (S25)) : Option (Bool):=(wS.f k zT).bind fun bt296 => (xP.l0 k bt296.1 bt296.2 0 0 false false 0 zT zE zW zH zG yM yO yX yW zA yZ)
set_option maxHeartbeats 8000000 in
set_option maxRecDepth 100000 in
theorem xP.calls (k : Nat) (zT : ByteArray) (wW : Option Addr) (wY : Nat) (zE : List ByteArray) (yR : Option Addr) (yS : Nat) (zW : List Int) (zH : Int) (zG : Int) (yM : Bool) (yO : Bool) (yX : Int) (yW : ByteArray) (xF : Option Addr) (xE : Nat) (zA : List Int) (xD : Option Addr) (xC : Nat) (yZ : List (S25)) (r : Bool) (w : World) (mF : Kd.C Kd.string w wW zE.length zE) (mE : zE.length ≤ wY) (uW : Kd.C (Kd.int .i64) w yR zW.length zW) (uV : zW.length ≤ yS) (mD : Kd.C (Kd.int .i64) w xF zA.length zA) (mB : zA.length ≤ xE) (mA : Kd.C k25 w xD yZ.length yZ) (lZ : yZ.length ≤ xC) (h : xP.f k zT zE zW zH zG yM yO yX yW zA yZ = some r) :
  Calls Tryd.prog 42 #[.agg #[.string zT,.slice wW zE.length wY,.slice yR zW.length yS,.int .i64 zH,.int .i64 zG,.bool yM,.bool yO,.int .u8 yX,.string yW,.slice xF zA.length xE,.slice xD yZ.length xC]] w fun e w' => e = .returned (.bool r) ∧ Below w.heap.size w w':=by
 have hu54:=Tryd.underlying54
 have hu52:=Tryd.underlying52
 have hu25:=Tryd.underlying25
 have jI:=zZ.mk mF
 have zVB:=zZ.mk mE
 clear mF mE
 have tA:=zZ.mk uW
 have rX:=zZ.mk uV
 clear uW uV
 have rQ:=zZ.mk mD
 have rP:=zZ.mk mB
 clear mD mB
 have rO:=zZ.mk mA
 have rN:=zZ.mk lZ
 clear mA lZ
 have HB:=zZ.mk (Below.refl w.heap.size w)
 have H : ((wS.f k zT).bind fun bt296 => (xP.l0 k bt296.1 bt296.2 0 0 false false 0 zT zE zW zH zG yM yO yX yW zA yZ)) = some r:=h
 clear h
 replace H:=Option.bind_eq_some_iff.mp H
 obtain ⟨⟨t296,t297⟩,A20,H⟩:=H
 replace H : (xP.l0 k t296 t297 0 0 false false 0 zT zE zW zH zG yM yO yX yW zA yZ) = some r:=H
 have A2:=zZ.mk A20
 clear A20
 have H':=zZ.mk H
 clear H
 go_enter Tryd.func42,Tryd.ntmps42
 go_wp2_with (first|((with_reducible refine uU (N:=1) rfl ?_); (try (refine sY (by rfl) ?_; dsimp only)); refine tY ?hg (N:=1) ?hd (cs:=#[.string zT,.slice wW zE.length wY,.slice yR zW.length yS,.int .i64 zH,.int .i64 zG,.bool yM,.bool yO,.int .u8 yX,.string yW,.slice xF zA.length xE,.slice xD yZ.length xC]) (t:=54) ?hr ?_; (case hd => rfl); (case hg => rfl); (case hr => first|(go_simp; done)|(go_simp; rfl)); intro sD hg w3 hbox hb; have zS:=zZ.mk (xW (by repeat (first|(with_reducible first|exact HB.out|apply zY|apply zV|apply zU)|exact HB.out)) hb); have zO:=zZ.mk (hbox); have zI:=zZ.mk ((by rw [hg]; exact (xS (by repeat (first|(with_reducible first|exact HB.out|apply zY|apply zV|apply zU)|exact HB.out))) : w.heap.size ≤ sD)); have xV:=zZ.mk ((by rw [hg]; exact (xS (by repeat (first|(with_reducible first|exact HB.out|apply zY|apply zV|apply zU)|exact HB.out))) : w.heap.size ≤ sD)); clear HB; have HB:=zS; have zJ:=zO; have GW295:=zI; have vW:=xV; clear zS zO zI xV; clear hb hbox hg; obtain ⟨jH,jG,jF,jE,jD,jC,jB,jA,iZ,iY,iX⟩:=kc11 zJ.out; have aA:=zP zJ.out 0; have zZZ:=zP zJ.out 1; have zZY:=zP zJ.out 2; have zZX:=zP zJ.out 3; have zZW:=zP zJ.out 4; have zZV:=zP zJ.out 5; have zZU:=zP zJ.out 6; have zZT:=zP zJ.out 7; have zZS:=zP zJ.out 8; have zZR:=zP zJ.out 9; have zZQ:=zP zJ.out 10)|((with_reducible refine yD (f:=35) rfl ?_); refine yE (some 15) rfl rfl Tryd.func35 (by kernel_rfl) rfl #[.string zT] rfl (by (try simp only [List.map_toArray,List.map_cons,List.map_nil]); first|done|rfl|(simp only [List.length_drop,List.length_take]; rfl)) ?_; (with_reducible refine (wS.calls k zT t296 t297 _ A2.out).mono ?_); rintro e w' ⟨rfl,⟨nd,rfl⟩⟩; refine ⟨_,rfl,?_⟩))
 go_loopg [5,6,7,8,9] k (fun kq v5 v6 v7 v8 v9 w' => ∃ (yK : Int) (yH : Int) (xH : Bool) (yP : Bool) (wI : Int),v5 = .int .i64 yK ∧ v6 = .int .i64 yH ∧ v7 = .bool xH ∧ v8 = .bool yP ∧ v9 = .int .i64 wI ∧ zZ (xP.l0 kq t296 t297 yK yH xH yP wI zT zE zW zH zG yM yO yX yW zA yZ = some r) ∧ zZ (kq ≤ k) ∧ zZ (w'.heap[sD]? = some (.cells #[.string zT,(.slice wW zE.length wY),(.slice yR zW.length yS),.int .i64 zH,.int .i64 zG,.bool yM,.bool yO,.int .u8 yX,.string yW,(.slice xF zA.length xE),(.slice xD yZ.length xC)] 54 (0,0))) ∧ zZ (Below w.heap.size w w'))
 case atStart => exact ⟨(0),(0),(false),(false),(0),(by first|rfl|(simp;done)|(simp [*];done)),(by first|rfl|(simp;done)|(simp [*];done)),(by first|rfl|(simp;done)|(simp [*];done)),(by first|rfl|(simp;done)|(simp [*];done)),(by first|rfl|(simp;done)|(simp [*];done)),H',⟨Nat.le_refl _⟩,⟨by (with_reducible repeat (first|apply zN|apply zM|apply zR)); exact zJ.out⟩,⟨by repeat (first|(with_reducible first|exact HB.out|apply zY|apply zV|apply zU|refine zQ ?_ vW.out)|exact HB.out)⟩⟩
 case round =>
  clear H'
  try clear p2
  try clear c3
  try clear c4
  try clear jH jG iX jF jE jD jC jB jA iZ iY
  try clear aA zZZ zZQ zZY zZX zZW zZV zZU zZT zZS zZR
  obtain ⟨yK,yH,xH,yP,wI,rfl,rfl,rfl,rfl,rfl,HA,HK1,zJ,HB⟩:=hrel
  cases gk with
  | zero => exact absurd HA.out (by simp [xP.l0])
  | succ k1 =>
   have H:=HA.out
   clear HA
   simp only [xP.l0] at H
   by_cases c5 : wI < (t296.size : Int)
   ·
    rw [if_pos c5] at H
    have c5b0 : decide (wI < (t296.size : Int)) = true:=decide_eq_true c5
    clear c5
    by_cases c6 : 0 ≤ wI
    ·
     rw [if_pos c6] at H
     have c6b0 : decide (0 ≤ wI) = true:=decide_eq_true c6
     clear c6
     by_cases c8 : (bt t296 wI) = 110
     ·
      rw [if_pos c8] at H
      have c8b0 : ((bt t296 wI) == 110) = true:=beq_iff_eq.mpr c8
      have c8b1 : ((bt t296 wI) != 110) = false:=bne_eq_false_iff_eq.mpr c8
      clear c8
      have H':=zZ.mk H
      clear H
      have p7 : 0 ≤ (wI : Int):=of_decide_eq_true (by first|(with_reducible assumption)|assumption)
      have q7 : wI < (t296.size : Int):=of_decide_eq_true (by first|(with_reducible assumption)|assumption)
      have hx7:=xG t296 wI
      replace p7:=eq_true p7
      replace q7:=eq_true q7
      go_wp2
      go_roundg k1
      case measure => have:=HK1.out; omega
      case rel => exact ⟨(wrap64 (yK + 1)),(yH),(xH),(yP),(wrap64 (wI + 1)),(by first|rfl|(simp;done)|(simp [*];done)),(by first|rfl|(simp;done)|(simp [*];done)),(by first|rfl|(simp;done)|(simp [*];done)),(by first|rfl|(simp;done)|(simp [*];done)),(by first|rfl|(simp;done)|(simp [*];done)),H',⟨by have:=HK1.out; omega⟩,⟨by (with_reducible repeat (first|apply zN|apply zM|apply zR)); exact zJ.out⟩,⟨by repeat (first|(with_reducible first|exact HB.out|apply zY|apply zV|apply zU|refine zQ ?_ vW.out)|exact HB.out)⟩⟩
     ·
      rw [if_neg c8] at H
      have c8b0 : ((bt t296 wI) == 110) = false:=beq_eq_false_iff_ne.mpr c8
      have c8b1 : ((bt t296 wI) != 110) = true:=bne_iff_ne.mpr c8
      by_cases c9 : (bt t296 wI) = 105
      ·
       rw [if_pos c9] at H
       have c9b0 : ((bt t296 wI) == 105) = true:=beq_iff_eq.mpr c9
       have c9b1 : ((bt t296 wI) != 105) = false:=bne_eq_false_iff_eq.mpr c9
       clear c9
       have H':=zZ.mk H
       clear H
       have p7 : 0 ≤ (wI : Int):=of_decide_eq_true (by first|(with_reducible assumption)|assumption)
       have q7 : wI < (t296.size : Int):=of_decide_eq_true (by first|(with_reducible assumption)|assumption)
       have hx7:=xG t296 wI
       replace p7:=eq_true p7
       replace q7:=eq_true q7
       go_wp2
       go_roundg k1
       case measure => have:=HK1.out; omega
       case rel => exact ⟨(yK),(wrap64 (yH + 1)),(xH),(yP),(wrap64 (wI + 1)),(by first|rfl|(simp;done)|(simp [*];done)),(by first|rfl|(simp;done)|(simp [*];done)),(by first|rfl|(simp;done)|(simp [*];done)),(by first|rfl|(simp;done)|(simp [*];done)),(by first|rfl|(simp;done)|(simp [*];done)),H',⟨by have:=HK1.out; omega⟩,⟨by (with_reducible repeat (first|apply zN|apply zM|apply zR)); exact zJ.out⟩,⟨by repeat (first|(with_reducible first|exact HB.out|apply zY|apply zV|apply zU|refine zQ ?_ vW.out)|exact HB.out)⟩⟩
      ·
       rw [if_neg c9] at H
       have c9b0 : ((bt t296 wI) == 105) = false:=beq_eq_false_iff_ne.mpr c9
       have c9b1 : ((bt t296 wI) != 105) = true:=bne_iff_ne.mpr c9
       by_cases c10 : (bt t296 wI) = 114
       ·
        rw [if_pos c10] at H
        have c10b0 : ((bt t296 wI) == 114) = true:=beq_iff_eq.mpr c10
        have c10b1 : ((bt t296 wI) != 114) = false:=bne_eq_false_iff_eq.mpr c10
        clear c10
        have H':=zZ.mk H
        clear H
        have p7 : 0 ≤ (wI : Int):=of_decide_eq_true (by first|(with_reducible assumption)|assumption)
        have q7 : wI < (t296.size : Int):=of_decide_eq_true (by first|(with_reducible assumption)|assumption)
        have hx7:=xG t296 wI
        replace p7:=eq_true p7
        replace q7:=eq_true q7
        go_wp2
        go_roundg k1
        case measure => have:=HK1.out; omega
        case rel => exact ⟨(yK),(yH),(true),(yP),(wrap64 (wI + 1)),(by first|rfl|(simp;done)|(simp [*];done)),(by first|rfl|(simp;done)|(simp [*];done)),(by first|rfl|(simp;done)|(simp [*];done)),(by first|rfl|(simp;done)|(simp [*];done)),(by first|rfl|(simp;done)|(simp [*];done)),H',⟨by have:=HK1.out; omega⟩,⟨by (with_reducible repeat (first|apply zN|apply zM|apply zR)); exact zJ.out⟩,⟨by repeat (first|(with_reducible first|exact HB.out|apply zY|apply zV|apply zU|refine zQ ?_ vW.out)|exact HB.out)⟩⟩
       ·
        rw [if_neg c10] at H
        have c10b0 : ((bt t296 wI) == 114) = false:=beq_eq_false_iff_ne.mpr c10
        have c10b1 : ((bt t296 wI) != 114) = true:=bne_iff_ne.mpr c10
        by_cases c11 : (bt t296 wI) = 101
        ·
         rw [if_pos c11] at H
         have c11b0 : ((bt t296 wI) == 101) = true:=beq_iff_eq.mpr c11
         have c11b1 : ((bt t296 wI) != 101) = false:=bne_eq_false_iff_eq.mpr c11
         clear c11
         have H':=zZ.mk H
         clear H
         have p7 : 0 ≤ (wI : Int):=of_decide_eq_true (by first|(with_reducible assumption)|assumption)
         have q7 : wI < (t296.size : Int):=of_decide_eq_true (by first|(with_reducible assumption)|assumption)
         have hx7:=xG t296 wI
         replace p7:=eq_true p7
         replace q7:=eq_true q7
         go_wp2
         go_roundg k1
         case measure => have:=HK1.out; omega
         case rel => exact ⟨(yK),(yH),(xH),(true),(wrap64 (wI + 1)),(by first|rfl|(simp;done)|(simp [*];done)),(by first|rfl|(simp;done)|(simp [*];done)),(by first|rfl|(simp;done)|(simp [*];done)),(by first|rfl|(simp;done)|(simp [*];done)),(by first|rfl|(simp;done)|(simp [*];done)),H',⟨by have:=HK1.out; omega⟩,⟨by (with_reducible repeat (first|apply zN|apply zM|apply zR)); exact zJ.out⟩,⟨by repeat (first|(with_reducible first|exact HB.out|apply zY|apply zV|apply zU|refine zQ ?_ vW.out)|exact HB.out)⟩⟩
        ·
         rw [if_neg c11] at H
         have c11b0 : ((bt t296 wI) == 101) = false:=beq_eq_false_iff_ne.mpr c11
         have c11b1 : ((bt t296 wI) != 101) = true:=bne_iff_ne.mpr c11
         have H':=zZ.mk H
         clear H
         have p7 : 0 ≤ (wI : Int):=of_decide_eq_true (by first|(with_reducible assumption)|assumption)
         have q7 : wI < (t296.size : Int):=of_decide_eq_true (by first|(with_reducible assumption)|assumption)
         have hx7:=xG t296 wI
         replace p7:=eq_true p7
         replace q7:=eq_true q7
         go_wp2
         go_roundg k1
         case measure => have:=HK1.out; omega
         case rel => exact ⟨(yK),(yH),(xH),(yP),(wrap64 (wI + 1)),(by first|rfl|(simp;done)|(simp [*];done)),(by first|rfl|(simp;done)|(simp [*];done)),(by first|rfl|(simp;done)|(simp [*];done)),(by first|rfl|(simp;done)|(simp [*];done)),(by first|rfl|(simp;done)|(simp [*];done)),H',⟨by have:=HK1.out; omega⟩,⟨by (with_reducible repeat (first|apply zN|apply zM|apply zR)); exact zJ.out⟩,⟨by repeat (first|(with_reducible first|exact HB.out|apply zY|apply zV|apply zU|refine zQ ?_ vW.out)|exact HB.out)⟩⟩
    ·
     rw [if_neg c6] at H
     exact absurd H (by simp)
   ·
    rw [if_neg c5] at H
    have c5b0 : decide (wI < (t296.size : Int)) = false:=decide_eq_false c5
    clear c5
    have H':=zZ.mk H
    clear H
    go_wp2
    go_loopg [4,10] k1 (fun kq v4 v10 w' => ∃ (yT : Bool) (sJ : Int),v4 = .bool yT ∧ v10 = .int .i64 sJ ∧ zZ (xP.l1 kq yT yK yH xH yP sJ zT zE zW zH zG yM yO yX yW zA yZ = some r) ∧ zZ (kq ≤ k1) ∧ zZ (w'.heap[sD]? = some (.cells #[.string zT,(.slice wW zE.length wY),(.slice yR zW.length yS),.int .i64 zH,.int .i64 zG,.bool yM,.bool yO,.int .u8 yX,.string yW,(.slice xF zA.length xE),(.slice xD yZ.length xC)] 54 (0,0))) ∧ zZ (Below w.heap.size w w'))
    case atStart => exact ⟨(t297),(0),(by first|rfl|(simp;done)|(simp [*];done)),(by first|rfl|(simp;done)|(simp [*];done)),H',⟨Nat.le_refl _⟩,⟨by (with_reducible repeat (first|apply zN|apply zM|apply zR)); exact zJ.out⟩,⟨by repeat (first|(with_reducible first|exact HB.out|apply zY|apply zV|apply zU|refine zQ ?_ vW.out)|exact HB.out)⟩⟩
    case round =>
     clear H'
     try clear c1
     try clear p2 p2
     try clear c3
     try clear c4
     try clear c5
     try clear c5b0
     try clear c6
     try clear c6b0
     try clear p6
     try clear p7 p7
     try clear q7 q7
     try clear hx7
     try clear c8
     try clear c8b0
     try clear c8b1
     try clear c9
     try clear c9b0
     try clear c9b1
     try clear c10
     try clear c10b0
     try clear c10b1
     try clear c11
     try clear c11b0
     try clear c11b1
     try clear jH jG iX jF jE jD jC jB jA iZ iY
     try clear aA zZZ zZQ zZY zZX zZW zZV zZU zZT zZS zZR
     obtain ⟨yT,sJ,rfl,rfl,HA,HK2,zJ,HB⟩:=hrel
     cases gk with
     | zero => exact absurd HA.out (by simp [xP.l1])
     | succ k2 =>
      have H:=HA.out
      clear HA
      simp only [xP.l1] at H
      by_cases c12 : sJ < (zE.length : Int)
      ·
       rw [if_pos c12] at H
       have c12b0 : decide (sJ < (zE.length : Int)) = true:=decide_eq_true c12
       clear c12
       by_cases c13 : yT = true
       ·
        subst c13
        have H1 : (if 0 ≤ sJ then ((wM.f k2 (rdOf ByteArray.empty zE sJ)).bind fun t299 => (xP.l1 k2 t299 yK yH xH yP (wrap64 (sJ + 1)) zT zE zW zH zG yM yO yX yW zA yZ)) else (none)) = some r:=by rw [if_pos rfl] at H; exact H
        clear H
        have H:=H1
        clear H1
        by_cases c14 : 0 ≤ sJ
        ·
         rw [if_pos c14] at H
         have c14b0 : decide (0 ≤ sJ) = true:=decide_eq_true c14
         clear c14
         replace H:=Option.bind_eq_some_iff.mp H
         obtain ⟨t299,A150,H⟩:=H
         replace H : (xP.l1 k2 t299 yK yH xH yP (wrap64 (sJ + 1)) zT zE zW zH zG yM yO yX yW zA yZ) = some r:=H
         have A15:=zZ.mk A150
         clear A150
         have H':=zZ.mk H
         clear H
         obtain ⟨nS,nR,nQ,nP,fM,fL,fK,fJ,fI,fH,fG⟩:=kc11 zJ.out
         have zSI:=zP zJ.out 0
         have zSH:=zP zJ.out 1
         have zSG:=zP zJ.out 2
         have zSF:=zP zJ.out 3
         have zSE:=zP zJ.out 4
         have zSD:=zP zJ.out 5
         have zSC:=zP zJ.out 6
         have zSB:=zP zJ.out 7
         have zSA:=zP zJ.out 8
         have zRZ:=zP zJ.out 9
         have zRY:=zP zJ.out 10
         have p298 : 0 ≤ (sJ : Int):=of_decide_eq_true (by first|(with_reducible assumption)|assumption)
         have q298 : sJ < (zE.length : Int):=of_decide_eq_true (by first|(with_reducible assumption)|assumption)
         obtain ⟨ad298,e298,cT⟩:=Kd.at_string jI.out sJ p298 q298
         cases e298
         replace cT:=(HB.out.cell (World.block_lt_of_cell? w _ cT)).trans cT
         replace p298:=eq_true p298
         replace q298:=eq_true q298
         go_wp2_with (first|(go_at_call 74; (with_reducible refine (wM.calls k2 (rdOf ByteArray.empty zE sJ) t299 _ A15.out).mono ?_); rintro e w' ⟨rfl,⟨nd,rfl⟩⟩))
         go_roundg k2
         case measure => have:=HK1.out; have:=HK2.out; omega
         case rel => exact ⟨(t299),(wrap64 (sJ + 1)),(by first|rfl|(simp;done)|(simp [*];done)),(by first|rfl|(simp;done)|(simp [*];done)),H',⟨by have:=HK1.out; have:=HK2.out; omega⟩,⟨by (with_reducible repeat (first|apply zN|apply zM|apply zR)); exact zJ.out⟩,⟨by repeat (first|(with_reducible first|exact HB.out|apply zY|apply zV|apply zU|refine zQ ?_ vW.out)|exact HB.out)⟩⟩
        ·
         rw [if_neg c14] at H
         exact absurd H (by simp)
       ·
        replace c13:=Bool.eq_false_iff.mpr c13
        subst c13
        have H1 : (xP.l1 k2 false yK yH xH yP (wrap64 (sJ + 1)) zT zE zW zH zG yM yO yX yW zA yZ) = some r:=by rw [if_neg (show ¬ (false = true) by decide)] at H; exact H
        clear H
        have H:=H1
        clear H1
        have H':=zZ.mk H
        clear H
        obtain ⟨jQ,jP,jO,jN,zRX,zRW,zRV,zRU,zRT,zRS,zRR⟩:=kc11 zJ.out
        have zRQ:=zP zJ.out 0
        have zRP:=zP zJ.out 1
        have zRO:=zP zJ.out 2
        have zRN:=zP zJ.out 3
        have zRM:=zP zJ.out 4
        have zRL:=zP zJ.out 5
        have zRK:=zP zJ.out 6
        have zRJ:=zP zJ.out 7
        have zRI:=zP zJ.out 8
        have zRH:=zP zJ.out 9
        have zRG:=zP zJ.out 10
        go_wp2
        go_roundg k2
        case measure => have:=HK1.out; have:=HK2.out; omega
        case rel => exact ⟨(false),(wrap64 (sJ + 1)),(by first|rfl|(simp;done)|(simp [*];done)),(by first|rfl|(simp;done)|(simp [*];done)),H',⟨by have:=HK1.out; have:=HK2.out; omega⟩,⟨by (with_reducible repeat (first|apply zN|apply zM|apply zR)); exact zJ.out⟩,⟨by repeat (first|(with_reducible first|exact HB.out|apply zY|apply zV|apply zU|refine zQ ?_ vW.out)|exact HB.out)⟩⟩
      ·
       rw [if_neg c12] at H
       have c12b0 : decide (sJ < (zE.length : Int)) = false:=decide_eq_false c12
       clear c12
       have HC18:=zZ.mk H
       clear H
       obtain ⟨pA,oZ,oY,nO,fF,fE,fD,fC,fB,fA,eZ⟩:=kc11 zJ.out
       have zVR:=zP zJ.out 0
       have zVQ:=zP zJ.out 1
       have zVP:=zP zJ.out 2
       have zRF:=zP zJ.out 3
       have zRE:=zP zJ.out 4
       have zRD:=zP zJ.out 5
       have zRC:=zP zJ.out 6
       have zRB:=zP zJ.out 7
       have zRA:=zP zJ.out 8
       have zQZ:=zP zJ.out 9
       have zQY:=zP zJ.out 10
       go_upto_region 20 with (first|((with_reducible refine uU (N:=11) rfl ?_); (try (refine sY (by rfl) ?_; dsimp only)); refine tY ?hg (N:=11) ?hd (cs:=#[.int .i64 0,.int .i64 0,.bool false,.bool false]) (t:=52) ?hr ?_; (case hd => rfl); (case hg => rfl); (case hr => first|(go_simp; done)|(go_simp; rfl)); intro rE hg w20 hbox hb; have zS:=zZ.mk (xX (g:=sD) (o:=.cells #[.string zT,.slice wW zE.length wY,.slice yR zW.length yS,.int .i64 zH,.int .i64 zG,.bool yM,.bool yO,.int .u8 yX,.string yW,.slice xF zA.length xE,.slice xD yZ.length xC] 54 (0,0)) (by (with_reducible repeat (first|apply zN|apply zM|apply zR)); exact zJ.out) hb); have zO:=zZ.mk (xW (by repeat (first|(with_reducible first|exact HB.out|apply zY|apply zV|apply zU|refine zQ ?_ vW.out)|exact HB.out)) hb); have zI:=zZ.mk (hbox); have xV:=zZ.mk ((by rw [hg]; exact (xS (by repeat (first|(with_reducible first|exact HB.out|apply zY|apply zV|apply zU|refine zQ ?_ vW.out)|exact HB.out))) : w.heap.size ≤ rE)); have sU:=zZ.mk ((by rw [hg]; exact (xS (by repeat (first|(with_reducible first|exact HB.out|apply zY|apply zV|apply zU|refine zQ ?_ vW.out)|exact HB.out))) : w.heap.size ≤ rE)); have rT:=zZ.mk ((by rw [hg]; exact Nat.ne_of_lt (wT (g:=sD) (o:=.cells #[.string zT,.slice wW zE.length wY,.slice yR zW.length yS,.int .i64 zH,.int .i64 zG,.bool yM,.bool yO,.int .u8 yX,.string yW,.slice xF zA.length xE,.slice xD yZ.length xC] 54 (0,0)) (by (with_reducible repeat (first|apply zN|apply zM|apply zR)); exact zJ.out)) : sD ≠ rE)); have rS:=zZ.mk ((by rw [hg]; exact Nat.ne_of_gt (wT (g:=sD) (o:=.cells #[.string zT,.slice wW zE.length wY,.slice yR zW.length yS,.int .i64 zH,.int .i64 zG,.bool yM,.bool yO,.int .u8 yX,.string yW,.slice xF zA.length xE,.slice xD yZ.length xC] 54 (0,0)) (by (with_reducible repeat (first|apply zN|apply zM|apply zR)); exact zJ.out)) : rE ≠ sD)); clear zJ; clear HB; have zJ:=zS; have HB:=zO; have xY:=zI; have GW300:=xV; have uM:=sU; have wZ:=rT; have sT:=rS; clear zS zO zI xV sU rT rS; clear hb hbox hg; have hnb21:=sT.out; have hnc21:=wZ.out; obtain ⟨eY,eX,eW,eV⟩:=kc4 xY.out; have zQX:=zP xY.out 0; have zQW:=zP xY.out 1; have zQV:=zP xY.out 2; have zQU:=zP xY.out 3))
       (try simp only [Act.put,List.setIfInBounds_toArray,List.set_cons_zero,List.set_cons_succ])
       go_cut [83] (fun v83 wc => ∃ (kq : Nat) (cS : Bool),v83 = .bool cS ∧ zZ (xP.j2 kq yT yK yH yP cS zT zE zW zH zG yM yO yX yW zA yZ = some r) ∧ zZ (kq ≤ k2) ∧ zZ (wc.heap[sD]? = some (.cells #[.string zT,(.slice wW zE.length wY),(.slice yR zW.length yS),.int .i64 zH,.int .i64 zG,.bool yM,.bool yO,.int .u8 yX,.string yW,(.slice xF zA.length xE),(.slice xD yZ.length xC)] 54 (0,0))) ∧ zZ (wc.heap[rE]? = some (.cells #[.int .i64 zH,.int .i64 zG,.bool yM,.bool yO] 52 (0,0))) ∧ zZ (Below w.heap.size w wc))
       case first =>
        have H:=HC18.out
        clear HC18
        by_cases c23 : yM = true
        ·
         subst c23
         have H1 : (if yO = true then (if xH = true then (xP.j2 k2 yT yK yH yP false zT zE zW zH zG true yO yX yW zA yZ) else (xP.j2 k2 yT yK yH yP (!(zH == 0) || (!(zG == 0) || (true || (yO)))) zT zE zW zH zG true yO yX yW zA yZ)) else (if zG = 0 then (if xH = true then (xP.j2 k2 yT yK yH yP false zT zE zW zH zG true yO yX yW zA yZ) else (xP.j2 k2 yT yK yH yP (!(zH == 0) || (!(zG == 0) || (true || (yO)))) zT zE zW zH zG true yO yX yW zA yZ)) else (xP.j2 k2 yT yK yH yP true zT zE zW zH zG true yO yX yW zA yZ))) = some r:=by rw [if_pos rfl] at H; exact H
         clear H
         have H:=H1
         clear H1
         by_cases c24 : yO = true
         ·
          subst c24
          have H1 : (if xH = true then (xP.j2 k2 yT yK yH yP false zT zE zW zH zG true true yX yW zA yZ) else (xP.j2 k2 yT yK yH yP (!(zH == 0) || (!(zG == 0) || (true || (true)))) zT zE zW zH zG true true yX yW zA yZ)) = some r:=by rw [if_pos rfl] at H; exact H
          clear H
          have H:=H1
          clear H1
          by_cases c25 : xH = true
          ·
           subst c25
           have H1 : (xP.j2 k2 yT yK yH yP false zT zE zW zH zG true true yX yW zA yZ) = some r:=by rw [if_pos rfl] at H; exact H
           clear H
           have H:=H1
           clear H1
           have H':=zZ.mk H
           clear H
           have hnb26:=sT.out
           have hnc26:=wZ.out
           obtain ⟨mU,mT,mS,aQ⟩:=kc4 xY.out
           have kM:=zP xY.out 0
           have kL:=zP xY.out 1
           have kK:=zP xY.out 2
           have zQT:=zP xY.out 3
           go_wp2
           go_meet
           case rel => exact ⟨_,(false),(by first|rfl|(simp;done)|(simp [*];done)),H',⟨by have:=HK1.out; have:=HK2.out; first|omega|exact Nat.le_refl _⟩,⟨by (with_reducible repeat (first|apply zN|apply zM|apply zR)); refine wV ?_ wZ.out _; (with_reducible repeat (first|apply zN|apply zM|apply zR)); refine wV ?_ wZ.out _; (with_reducible repeat (first|apply zN|apply zM|apply zR)); refine wV ?_ wZ.out _; (with_reducible repeat (first|apply zN|apply zM|apply zR)); refine wV ?_ wZ.out _; (with_reducible repeat (first|apply zN|apply zM|apply zR)); exact zJ.out⟩,⟨by (with_reducible repeat (first|apply zN|apply zM|apply zR)); refine zF (cs:=#[.int .i64 zH,.int .i64 zG,.bool true,.bool false]) ?_ 3 _ rfl; (with_reducible repeat (first|apply zN|apply zM|apply zR)); refine zF (cs:=#[.int .i64 zH,.int .i64 zG,.bool false,.bool false]) ?_ 2 _ rfl; (with_reducible repeat (first|apply zN|apply zM|apply zR)); refine zF (cs:=#[.int .i64 zH,.int .i64 0,.bool false,.bool false]) ?_ 1 _ rfl; (with_reducible repeat (first|apply zN|apply zM|apply zR)); refine zF (cs:=#[.int .i64 0,.int .i64 0,.bool false,.bool false]) ?_ 0 _ rfl; (with_reducible repeat (first|apply zN|apply zM|apply zR)); exact xY.out⟩,⟨by repeat (first|(with_reducible first|exact HB.out|apply zY|apply zV|apply zU|refine zQ ?_ vW.out|refine zQ ?_ uM.out)|exact HB.out)⟩⟩
          ·
           replace c25:=Bool.eq_false_iff.mpr c25
           subst c25
           have H1 : (xP.j2 k2 yT yK yH yP (!(zH == 0) || (!(zG == 0) || (true || (true)))) zT zE zW zH zG true true yX yW zA yZ) = some r:=by rw [if_neg (show ¬ (false = true) by decide)] at H; exact H
           clear H
           have H:=H1
           clear H1
           have H':=zZ.mk H
           clear H
           have hnb28:=sT.out
           have hnc28:=wZ.out
           obtain ⟨zQS,zQR,zQQ,zQP⟩:=kc4 xY.out
           have zQO:=zP xY.out 0
           have zQN:=zP xY.out 1
           have zQM:=zP xY.out 2
           have zQL:=zP xY.out 3
           go_wp2
           go_meet
           case rel => exact ⟨_,((!(zH == 0) || (!(zG == 0) || (true || (true))))),(by first|rfl|(simp;done)|(simp [*];done)),H',⟨by have:=HK1.out; have:=HK2.out; first|omega|exact Nat.le_refl _⟩,⟨by (with_reducible repeat (first|apply zN|apply zM|apply zR)); refine wV ?_ wZ.out _; (with_reducible repeat (first|apply zN|apply zM|apply zR)); refine wV ?_ wZ.out _; (with_reducible repeat (first|apply zN|apply zM|apply zR)); refine wV ?_ wZ.out _; (with_reducible repeat (first|apply zN|apply zM|apply zR)); refine wV ?_ wZ.out _; (with_reducible repeat (first|apply zN|apply zM|apply zR)); exact zJ.out⟩,⟨by (with_reducible repeat (first|apply zN|apply zM|apply zR)); refine zF (cs:=#[.int .i64 zH,.int .i64 zG,.bool true,.bool false]) ?_ 3 _ rfl; (with_reducible repeat (first|apply zN|apply zM|apply zR)); refine zF (cs:=#[.int .i64 zH,.int .i64 zG,.bool false,.bool false]) ?_ 2 _ rfl; (with_reducible repeat (first|apply zN|apply zM|apply zR)); refine zF (cs:=#[.int .i64 zH,.int .i64 0,.bool false,.bool false]) ?_ 1 _ rfl; (with_reducible repeat (first|apply zN|apply zM|apply zR)); refine zF (cs:=#[.int .i64 0,.int .i64 0,.bool false,.bool false]) ?_ 0 _ rfl; (with_reducible repeat (first|apply zN|apply zM|apply zR)); exact xY.out⟩,⟨by repeat (first|(with_reducible first|exact HB.out|apply zY|apply zV|apply zU|refine zQ ?_ vW.out|refine zQ ?_ uM.out)|exact HB.out)⟩⟩
         ·
          replace c24:=Bool.eq_false_iff.mpr c24
          subst c24
          have H1 : (if zG = 0 then (if xH = true then (xP.j2 k2 yT yK yH yP false zT zE zW zH zG true false yX yW zA yZ) else (xP.j2 k2 yT yK yH yP (!(zH == 0) || (!(zG == 0) || (true || (false)))) zT zE zW zH zG true false yX yW zA yZ)) else (xP.j2 k2 yT yK yH yP true zT zE zW zH zG true false yX yW zA yZ)) = some r:=by rw [if_neg (show ¬ (false = true) by decide)] at H; exact H
          clear H
          have H:=H1
          clear H1
          by_cases c30 : zG = 0
          ·
           rw [if_pos c30] at H
           have c30b0 : (zG == 0) = true:=beq_iff_eq.mpr c30
           have c30b1 : (zG != 0) = false:=bne_eq_false_iff_eq.mpr c30
           clear c30
           (first|rw [c30b0]|(simp only [yV,yU]; rw [c30b0])|skip)
           by_cases c31 : xH = true
           ·
            subst c31
            have H1 : (xP.j2 k2 yT yK yH yP false zT zE zW zH zG true false yX yW zA yZ) = some r:=by rw [if_pos rfl] at H; exact H
            clear H
            have H:=H1
            clear H1
            have H':=zZ.mk H
            clear H
            have hnb32:=sT.out
            have hnc32:=wZ.out
            obtain ⟨pG,pF,pE,fX⟩:=kc4 xY.out
            have kJ:=zP xY.out 0
            have kH:=zP xY.out 1
            have kG:=zP xY.out 2
            have zQK:=zP xY.out 3
            go_wp2
            go_meet
            case rel => exact ⟨_,(false),(by first|rfl|(simp;done)|(simp [*];done)),H',⟨by have:=HK1.out; have:=HK2.out; first|omega|exact Nat.le_refl _⟩,⟨by (with_reducible repeat (first|apply zN|apply zM|apply zR)); refine wV ?_ wZ.out _; (with_reducible repeat (first|apply zN|apply zM|apply zR)); refine wV ?_ wZ.out _; (with_reducible repeat (first|apply zN|apply zM|apply zR)); refine wV ?_ wZ.out _; (with_reducible repeat (first|apply zN|apply zM|apply zR)); refine wV ?_ wZ.out _; (with_reducible repeat (first|apply zN|apply zM|apply zR)); exact zJ.out⟩,⟨by (with_reducible repeat (first|apply zN|apply zM|apply zR)); refine zF (cs:=#[.int .i64 zH,.int .i64 zG,.bool true,.bool false]) ?_ 3 _ rfl; (with_reducible repeat (first|apply zN|apply zM|apply zR)); refine zF (cs:=#[.int .i64 zH,.int .i64 zG,.bool false,.bool false]) ?_ 2 _ rfl; (with_reducible repeat (first|apply zN|apply zM|apply zR)); refine zF (cs:=#[.int .i64 zH,.int .i64 0,.bool false,.bool false]) ?_ 1 _ rfl; (with_reducible repeat (first|apply zN|apply zM|apply zR)); refine zF (cs:=#[.int .i64 0,.int .i64 0,.bool false,.bool false]) ?_ 0 _ rfl; (with_reducible repeat (first|apply zN|apply zM|apply zR)); exact xY.out⟩,⟨by repeat (first|(with_reducible first|exact HB.out|apply zY|apply zV|apply zU|refine zQ ?_ vW.out|refine zQ ?_ uM.out)|exact HB.out)⟩⟩
           ·
            replace c31:=Bool.eq_false_iff.mpr c31
            subst c31
            have H1 : (xP.j2 k2 yT yK yH yP (!(zH == 0) || (!(zG == 0) || (true || (false)))) zT zE zW zH zG true false yX yW zA yZ) = some r:=by rw [if_neg (show ¬ (false = true) by decide)] at H; exact H
            clear H
            have H:=H1
            clear H1
            have H':=zZ.mk H
            clear H
            have hnb34:=sT.out
            have hnc34:=wZ.out
            obtain ⟨kF,kE,kD,zQJ⟩:=kc4 xY.out
            have kC:=zP xY.out 0
            have kB:=zP xY.out 1
            have kA:=zP xY.out 2
            have zQI:=zP xY.out 3
            go_wp2
            go_meet
            case rel => exact ⟨_,((!(zH == 0) || (!(zG == 0) || (true || (false))))),(by first|rfl|(simp;done)|(simp [*];done)),H',⟨by have:=HK1.out; have:=HK2.out; first|omega|exact Nat.le_refl _⟩,⟨by (with_reducible repeat (first|apply zN|apply zM|apply zR)); refine wV ?_ wZ.out _; (with_reducible repeat (first|apply zN|apply zM|apply zR)); refine wV ?_ wZ.out _; (with_reducible repeat (first|apply zN|apply zM|apply zR)); refine wV ?_ wZ.out _; (with_reducible repeat (first|apply zN|apply zM|apply zR)); refine wV ?_ wZ.out _; (with_reducible repeat (first|apply zN|apply zM|apply zR)); exact zJ.out⟩,⟨by (with_reducible repeat (first|apply zN|apply zM|apply zR)); refine zF (cs:=#[.int .i64 zH,.int .i64 zG,.bool true,.bool false]) ?_ 3 _ rfl; (with_reducible repeat (first|apply zN|apply zM|apply zR)); refine zF (cs:=#[.int .i64 zH,.int .i64 zG,.bool false,.bool false]) ?_ 2 _ rfl; (with_reducible repeat (first|apply zN|apply zM|apply zR)); refine zF (cs:=#[.int .i64 zH,.int .i64 0,.bool false,.bool false]) ?_ 1 _ rfl; (with_reducible repeat (first|apply zN|apply zM|apply zR)); refine zF (cs:=#[.int .i64 0,.int .i64 0,.bool false,.bool false]) ?_ 0 _ rfl; (with_reducible repeat (first|apply zN|apply zM|apply zR)); exact xY.out⟩,⟨by repeat (first|(with_reducible first|exact HB.out|apply zY|apply zV|apply zU|refine zQ ?_ vW.out|refine zQ ?_ uM.out)|exact HB.out)⟩⟩
          ·
           rw [if_neg c30] at H
           have c30b0 : (zG == 0) = false:=beq_eq_false_iff_ne.mpr c30
           have c30b1 : (zG != 0) = true:=bne_iff_ne.mpr c30
           (first|rw [c30b0]|(simp only [yV,yU]; rw [c30b0])|skip)
           have H':=zZ.mk H
           clear H
           have hnb36:=sT.out
           have hnc36:=wZ.out
           obtain ⟨zZP,zZO,zZN,zZM⟩:=kc4 xY.out
           have zQH:=zP xY.out 0
           have zQG:=zP xY.out 1
           have zQF:=zP xY.out 2
           have zQE:=zP xY.out 3
           go_wp2
           go_meet
           case rel => exact ⟨_,(true),(by first|rfl|(simp;done)|(simp [*];done)),H',⟨by have:=HK1.out; have:=HK2.out; first|omega|exact Nat.le_refl _⟩,⟨by (with_reducible repeat (first|apply zN|apply zM|apply zR)); refine wV ?_ wZ.out _; (with_reducible repeat (first|apply zN|apply zM|apply zR)); refine wV ?_ wZ.out _; (with_reducible repeat (first|apply zN|apply zM|apply zR)); refine wV ?_ wZ.out _; (with_reducible repeat (first|apply zN|apply zM|apply zR)); refine wV ?_ wZ.out _; (with_reducible repeat (first|apply zN|apply zM|apply zR)); exact zJ.out⟩,⟨by (with_reducible repeat (first|apply zN|apply zM|apply zR)); refine zF (cs:=#[.int .i64 zH,.int .i64 zG,.bool true,.bool false]) ?_ 3 _ rfl; (with_reducible repeat (first|apply zN|apply zM|apply zR)); refine zF (cs:=#[.int .i64 zH,.int .i64 zG,.bool false,.bool false]) ?_ 2 _ rfl; (with_reducible repeat (first|apply zN|apply zM|apply zR)); refine zF (cs:=#[.int .i64 zH,.int .i64 0,.bool false,.bool false]) ?_ 1 _ rfl; (with_reducible repeat (first|apply zN|apply zM|apply zR)); refine zF (cs:=#[.int .i64 0,.int .i64 0,.bool false,.bool false]) ?_ 0 _ rfl; (with_reducible repeat (first|apply zN|apply zM|apply zR)); exact xY.out⟩,⟨by repeat (first|(with_reducible first|exact HB.out|apply zY|apply zV|apply zU|refine zQ ?_ vW.out|refine zQ ?_ uM.out)|exact HB.out)⟩⟩
        ·
         replace c23:=Bool.eq_false_iff.mpr c23
         subst c23
         have H1 : (if zH = 0 then (if yO = true then (if xH = true then (xP.j2 k2 yT yK yH yP false zT zE zW zH zG false yO yX yW zA yZ) else (xP.j2 k2 yT yK yH yP (!(zH == 0) || (!(zG == 0) || (false || (yO)))) zT zE zW zH zG false yO yX yW zA yZ)) else (if zG = 0 then (if xH = true then (xP.j2 k2 yT yK yH yP false zT zE zW zH zG false yO yX yW zA yZ) else (xP.j2 k2 yT yK yH yP (!(zH == 0) || (!(zG == 0) || (false || (yO)))) zT zE zW zH zG false yO yX yW zA yZ)) else (xP.j2 k2 yT yK yH yP true zT zE zW zH zG false yO yX yW zA yZ))) else (xP.j2 k2 yT yK yH yP true zT zE zW zH zG false yO yX yW zA yZ)) = some r:=by rw [if_neg (show ¬ (false = true) by decide)] at H; exact H
         clear H
         have H:=H1
         clear H1
         by_cases c38 : zH = 0
         ·
          rw [if_pos c38] at H
          have c38b0 : (zH == 0) = true:=beq_iff_eq.mpr c38
          have c38b1 : (zH != 0) = false:=bne_eq_false_iff_eq.mpr c38
          clear c38
          by_cases c39 : yO = true
          ·
           subst c39
           have H1 : (if xH = true then (xP.j2 k2 yT yK yH yP false zT zE zW zH zG false true yX yW zA yZ) else (xP.j2 k2 yT yK yH yP (!(zH == 0) || (!(zG == 0) || (false || (true)))) zT zE zW zH zG false true yX yW zA yZ)) = some r:=by rw [if_pos rfl] at H; exact H
           clear H
           have H:=H1
           clear H1
           by_cases c40 : xH = true
           ·
            subst c40
            have H1 : (xP.j2 k2 yT yK yH yP false zT zE zW zH zG false true yX yW zA yZ) = some r:=by rw [if_pos rfl] at H; exact H
            clear H
            have H:=H1
            clear H1
            have H':=zZ.mk H
            clear H
            have hnb41:=sT.out
            have hnc41:=wZ.out
            obtain ⟨zQD,zQC,zQB,zQA⟩:=kc4 xY.out
            have zPZ:=zP xY.out 0
            have zPY:=zP xY.out 1
            have zPX:=zP xY.out 2
            have zPW:=zP xY.out 3
            go_wp2
            go_meet
            case rel => exact ⟨_,(false),(by first|rfl|(simp;done)|(simp [*];done)),H',⟨by have:=HK1.out; have:=HK2.out; first|omega|exact Nat.le_refl _⟩,⟨by (with_reducible repeat (first|apply zN|apply zM|apply zR)); refine wV ?_ wZ.out _; (with_reducible repeat (first|apply zN|apply zM|apply zR)); refine wV ?_ wZ.out _; (with_reducible repeat (first|apply zN|apply zM|apply zR)); refine wV ?_ wZ.out _; (with_reducible repeat (first|apply zN|apply zM|apply zR)); refine wV ?_ wZ.out _; (with_reducible repeat (first|apply zN|apply zM|apply zR)); exact zJ.out⟩,⟨by (with_reducible repeat (first|apply zN|apply zM|apply zR)); refine zF (cs:=#[.int .i64 zH,.int .i64 zG,.bool false,.bool false]) ?_ 3 _ rfl; (with_reducible repeat (first|apply zN|apply zM|apply zR)); refine zF (cs:=#[.int .i64 zH,.int .i64 zG,.bool false,.bool false]) ?_ 2 _ rfl; (with_reducible repeat (first|apply zN|apply zM|apply zR)); refine zF (cs:=#[.int .i64 zH,.int .i64 0,.bool false,.bool false]) ?_ 1 _ rfl; (with_reducible repeat (first|apply zN|apply zM|apply zR)); refine zF (cs:=#[.int .i64 0,.int .i64 0,.bool false,.bool false]) ?_ 0 _ rfl; (with_reducible repeat (first|apply zN|apply zM|apply zR)); exact xY.out⟩,⟨by repeat (first|(with_reducible first|exact HB.out|apply zY|apply zV|apply zU|refine zQ ?_ vW.out|refine zQ ?_ uM.out)|exact HB.out)⟩⟩
           ·
            replace c40:=Bool.eq_false_iff.mpr c40
            subst c40
            have H1 : (xP.j2 k2 yT yK yH yP (!(zH == 0) || (!(zG == 0) || (false || (true)))) zT zE zW zH zG false true yX yW zA yZ) = some r:=by rw [if_neg (show ¬ (false = true) by decide)] at H; exact H
            clear H
            have H:=H1
            clear H1
            have H':=zZ.mk H
            clear H
            have hnb43:=sT.out
            have hnc43:=wZ.out
            obtain ⟨aK,aJ,aI,aH⟩:=kc4 xY.out
            have zPV:=zP xY.out 0
            have zPU:=zP xY.out 1
            have zPT:=zP xY.out 2
            have zPS:=zP xY.out 3
            go_wp2
            go_meet
            case rel => exact ⟨_,((!(zH == 0) || (!(zG == 0) || (false || (true))))),(by first|rfl|(simp;done)|(simp [*];done)),H',⟨by have:=HK1.out; have:=HK2.out; first|omega|exact Nat.le_refl _⟩,⟨by (with_reducible repeat (first|apply zN|apply zM|apply zR)); refine wV ?_ wZ.out _; (with_reducible repeat (first|apply zN|apply zM|apply zR)); refine wV ?_ wZ.out _; (with_reducible repeat (first|apply zN|apply zM|apply zR)); refine wV ?_ wZ.out _; (with_reducible repeat (first|apply zN|apply zM|apply zR)); refine wV ?_ wZ.out _; (with_reducible repeat (first|apply zN|apply zM|apply zR)); exact zJ.out⟩,⟨by (with_reducible repeat (first|apply zN|apply zM|apply zR)); refine zF (cs:=#[.int .i64 zH,.int .i64 zG,.bool false,.bool false]) ?_ 3 _ rfl; (with_reducible repeat (first|apply zN|apply zM|apply zR)); refine zF (cs:=#[.int .i64 zH,.int .i64 zG,.bool false,.bool false]) ?_ 2 _ rfl; (with_reducible repeat (first|apply zN|apply zM|apply zR)); refine zF (cs:=#[.int .i64 zH,.int .i64 0,.bool false,.bool false]) ?_ 1 _ rfl; (with_reducible repeat (first|apply zN|apply zM|apply zR)); refine zF (cs:=#[.int .i64 0,.int .i64 0,.bool false,.bool false]) ?_ 0 _ rfl; (with_reducible repeat (first|apply zN|apply zM|apply zR)); exact xY.out⟩,⟨by repeat (first|(with_reducible first|exact HB.out|apply zY|apply zV|apply zU|refine zQ ?_ vW.out|refine zQ ?_ uM.out)|exact HB.out)⟩⟩
          ·
           replace c39:=Bool.eq_false_iff.mpr c39
           subst c39
           have H1 : (if zG = 0 then (if xH = true then (xP.j2 k2 yT yK yH yP false zT zE zW zH zG false false yX yW zA yZ) else (xP.j2 k2 yT yK yH yP (!(zH == 0) || (!(zG == 0) || (false || (false)))) zT zE zW zH zG false false yX yW zA yZ)) else (xP.j2 k2 yT yK yH yP true zT zE zW zH zG false false yX yW zA yZ)) = some r:=by rw [if_neg (show ¬ (false = true) by decide)] at H; exact H
           clear H
           have H:=H1
           clear H1
           by_cases c45 : zG = 0
           ·
            rw [if_pos c45] at H
            have c45b0 : (zG == 0) = true:=beq_iff_eq.mpr c45
            have c45b1 : (zG != 0) = false:=bne_eq_false_iff_eq.mpr c45
            clear c45
            by_cases c46 : xH = true
            ·
             subst c46
             have H1 : (xP.j2 k2 yT yK yH yP false zT zE zW zH zG false false yX yW zA yZ) = some r:=by rw [if_pos rfl] at H; exact H
             clear H
             have H:=H1
             clear H1
             have H':=zZ.mk H
             clear H
             have hnb47:=sT.out
             have hnc47:=wZ.out
             obtain ⟨aG,aE,aD,aC⟩:=kc4 xY.out
             have zPR:=zP xY.out 0
             have zPQ:=zP xY.out 1
             have zPP:=zP xY.out 2
             have zPO:=zP xY.out 3
             go_wp2
             go_meet
             case rel => exact ⟨_,(false),(by first|rfl|(simp;done)|(simp [*];done)),H',⟨by have:=HK1.out; have:=HK2.out; first|omega|exact Nat.le_refl _⟩,⟨by (with_reducible repeat (first|apply zN|apply zM|apply zR)); refine wV ?_ wZ.out _; (with_reducible repeat (first|apply zN|apply zM|apply zR)); refine wV ?_ wZ.out _; (with_reducible repeat (first|apply zN|apply zM|apply zR)); refine wV ?_ wZ.out _; (with_reducible repeat (first|apply zN|apply zM|apply zR)); refine wV ?_ wZ.out _; (with_reducible repeat (first|apply zN|apply zM|apply zR)); exact zJ.out⟩,⟨by (with_reducible repeat (first|apply zN|apply zM|apply zR)); refine zF (cs:=#[.int .i64 zH,.int .i64 zG,.bool false,.bool false]) ?_ 3 _ rfl; (with_reducible repeat (first|apply zN|apply zM|apply zR)); refine zF (cs:=#[.int .i64 zH,.int .i64 zG,.bool false,.bool false]) ?_ 2 _ rfl; (with_reducible repeat (first|apply zN|apply zM|apply zR)); refine zF (cs:=#[.int .i64 zH,.int .i64 0,.bool false,.bool false]) ?_ 1 _ rfl; (with_reducible repeat (first|apply zN|apply zM|apply zR)); refine zF (cs:=#[.int .i64 0,.int .i64 0,.bool false,.bool false]) ?_ 0 _ rfl; (with_reducible repeat (first|apply zN|apply zM|apply zR)); exact xY.out⟩,⟨by repeat (first|(with_reducible first|exact HB.out|apply zY|apply zV|apply zU|refine zQ ?_ vW.out|refine zQ ?_ uM.out)|exact HB.out)⟩⟩
            ·
             replace c46:=Bool.eq_false_iff.mpr c46
             subst c46
             have H1 : (xP.j2 k2 yT yK yH yP (!(zH == 0) || (!(zG == 0) || (false || (false)))) zT zE zW zH zG false false yX yW zA yZ) = some r:=by rw [if_neg (show ¬ (false = true) by decide)] at H; exact H
             clear H
             have H:=H1
             clear H1
             have H':=zZ.mk H
             clear H
             have hnb49:=sT.out
             have hnc49:=wZ.out
             obtain ⟨zPN,zPM,zPL,zPK⟩:=kc4 xY.out
             have zPJ:=zP xY.out 0
             have zPI:=zP xY.out 1
             have zPH:=zP xY.out 2
             have zPG:=zP xY.out 3
             go_wp2
             go_meet
             case rel => exact ⟨_,((!(zH == 0) || (!(zG == 0) || (false || (false))))),(by first|rfl|(simp;done)|(simp [*];done)),H',⟨by have:=HK1.out; have:=HK2.out; first|omega|exact Nat.le_refl _⟩,⟨by (with_reducible repeat (first|apply zN|apply zM|apply zR)); refine wV ?_ wZ.out _; (with_reducible repeat (first|apply zN|apply zM|apply zR)); refine wV ?_ wZ.out _; (with_reducible repeat (first|apply zN|apply zM|apply zR)); refine wV ?_ wZ.out _; (with_reducible repeat (first|apply zN|apply zM|apply zR)); refine wV ?_ wZ.out _; (with_reducible repeat (first|apply zN|apply zM|apply zR)); exact zJ.out⟩,⟨by (with_reducible repeat (first|apply zN|apply zM|apply zR)); refine zF (cs:=#[.int .i64 zH,.int .i64 zG,.bool false,.bool false]) ?_ 3 _ rfl; (with_reducible repeat (first|apply zN|apply zM|apply zR)); refine zF (cs:=#[.int .i64 zH,.int .i64 zG,.bool false,.bool false]) ?_ 2 _ rfl; (with_reducible repeat (first|apply zN|apply zM|apply zR)); refine zF (cs:=#[.int .i64 zH,.int .i64 0,.bool false,.bool false]) ?_ 1 _ rfl; (with_reducible repeat (first|apply zN|apply zM|apply zR)); refine zF (cs:=#[.int .i64 0,.int .i64 0,.bool false,.bool false]) ?_ 0 _ rfl; (with_reducible repeat (first|apply zN|apply zM|apply zR)); exact xY.out⟩,⟨by repeat (first|(with_reducible first|exact HB.out|apply zY|apply zV|apply zU|refine zQ ?_ vW.out|refine zQ ?_ uM.out)|exact HB.out)⟩⟩
           ·
            rw [if_neg c45] at H
            have c45b0 : (zG == 0) = false:=beq_eq_false_iff_ne.mpr c45
            have c45b1 : (zG != 0) = true:=bne_iff_ne.mpr c45
            have H':=zZ.mk H
            clear H
            have hnb51:=sT.out
            have hnc51:=wZ.out
            obtain ⟨zPF,zPE,zPD,zPC⟩:=kc4 xY.out
            have zPB:=zP xY.out 0
            have zPA:=zP xY.out 1
            have zOZ:=zP xY.out 2
            have zOY:=zP xY.out 3
            go_wp2
            go_meet
            case rel => exact ⟨_,(true),(by first|rfl|(simp;done)|(simp [*];done)),H',⟨by have:=HK1.out; have:=HK2.out; first|omega|exact Nat.le_refl _⟩,⟨by (with_reducible repeat (first|apply zN|apply zM|apply zR)); refine wV ?_ wZ.out _; (with_reducible repeat (first|apply zN|apply zM|apply zR)); refine wV ?_ wZ.out _; (with_reducible repeat (first|apply zN|apply zM|apply zR)); refine wV ?_ wZ.out _; (with_reducible repeat (first|apply zN|apply zM|apply zR)); refine wV ?_ wZ.out _; (with_reducible repeat (first|apply zN|apply zM|apply zR)); exact zJ.out⟩,⟨by (with_reducible repeat (first|apply zN|apply zM|apply zR)); refine zF (cs:=#[.int .i64 zH,.int .i64 zG,.bool false,.bool false]) ?_ 3 _ rfl; (with_reducible repeat (first|apply zN|apply zM|apply zR)); refine zF (cs:=#[.int .i64 zH,.int .i64 zG,.bool false,.bool false]) ?_ 2 _ rfl; (with_reducible repeat (first|apply zN|apply zM|apply zR)); refine zF (cs:=#[.int .i64 zH,.int .i64 0,.bool false,.bool false]) ?_ 1 _ rfl; (with_reducible repeat (first|apply zN|apply zM|apply zR)); refine zF (cs:=#[.int .i64 0,.int .i64 0,.bool false,.bool false]) ?_ 0 _ rfl; (with_reducible repeat (first|apply zN|apply zM|apply zR)); exact xY.out⟩,⟨by repeat (first|(with_reducible first|exact HB.out|apply zY|apply zV|apply zU|refine zQ ?_ vW.out|refine zQ ?_ uM.out)|exact HB.out)⟩⟩
         ·
          rw [if_neg c38] at H
          have c38b0 : (zH == 0) = false:=beq_eq_false_iff_ne.mpr c38
          have c38b1 : (zH != 0) = true:=bne_iff_ne.mpr c38
          have H':=zZ.mk H
          clear H
          have hnb53:=sT.out
          have hnc53:=wZ.out
          obtain ⟨zOX,zOW,zOV,zOU⟩:=kc4 xY.out
          have zOT:=zP xY.out 0
          have zOS:=zP xY.out 1
          have zOR:=zP xY.out 2
          have zOQ:=zP xY.out 3
          go_wp2
          go_meet
          case rel => exact ⟨_,(true),(by first|rfl|(simp;done)|(simp [*];done)),H',⟨by have:=HK1.out; have:=HK2.out; first|omega|exact Nat.le_refl _⟩,⟨by (with_reducible repeat (first|apply zN|apply zM|apply zR)); refine wV ?_ wZ.out _; (with_reducible repeat (first|apply zN|apply zM|apply zR)); refine wV ?_ wZ.out _; (with_reducible repeat (first|apply zN|apply zM|apply zR)); refine wV ?_ wZ.out _; (with_reducible repeat (first|apply zN|apply zM|apply zR)); refine wV ?_ wZ.out _; (with_reducible repeat (first|apply zN|apply zM|apply zR)); exact zJ.out⟩,⟨by (with_reducible repeat (first|apply zN|apply zM|apply zR)); refine zF (cs:=#[.int .i64 zH,.int .i64 zG,.bool false,.bool false]) ?_ 3 _ rfl; (with_reducible repeat (first|apply zN|apply zM|apply zR)); refine zF (cs:=#[.int .i64 zH,.int .i64 zG,.bool false,.bool false]) ?_ 2 _ rfl; (with_reducible repeat (first|apply zN|apply zM|apply zR)); refine zF (cs:=#[.int .i64 zH,.int .i64 0,.bool false,.bool false]) ?_ 1 _ rfl; (with_reducible repeat (first|apply zN|apply zM|apply zR)); refine zF (cs:=#[.int .i64 0,.int .i64 0,.bool false,.bool false]) ?_ 0 _ rfl; (with_reducible repeat (first|apply zN|apply zM|apply zR)); exact xY.out⟩,⟨by repeat (first|(with_reducible first|exact HB.out|apply zY|apply zV|apply zU|refine zQ ?_ vW.out|refine zQ ?_ uM.out)|exact HB.out)⟩⟩
       case rest =>
        clear HC18
        try clear c1
        try clear c2
        try clear p2 p2
        try clear q2
        try clear hx2
        try clear c3
        try clear c4
        try clear c5
        try clear c5b0
        try clear c6
        try clear c6b0
        try clear p6 p6
        try clear p7 p7
        try clear q7 q7
        try clear hx7
        try clear c8
        try clear c8b0
        try clear c8b1
        try clear c9
        try clear c9b0
        try clear c9b1
        try clear c10
        try clear c10b0
        try clear c10b1
        try clear c11
        try clear c11b0
        try clear c11b1
        try clear c12
        try clear c12b0
        try clear c13
        try clear c14
        try clear c14b0
        try clear c21
        try clear c23
        try clear c24
        try clear c25
        try clear c26
        try clear c28
        try clear p29
        try clear q29
        try clear hx29
        try clear c30
        try clear c30b0
        try clear c30b1
        try clear c31
        try clear c32
        try clear c34
        try clear c35
        try clear c36
        try clear c38
        try clear c38b0
        try clear c38b1
        try clear c39
        try clear c40
        try clear c41
        try clear c43
        try clear c45
        try clear c45b0
        try clear c45b1
        try clear c46
        try clear c47
        try clear c49
        try clear c51
        try clear c53
        try clear nS nR fG nQ nP fM fL fK fJ fI fH
        try clear jQ jP zRR jO jN zRX zRW zRV zRU zRT zRS
        try clear pA oZ eZ oY nO fF fE fD fC fB fA
        try clear eY eX eW eV
        try clear mU mT mS aQ
        try clear zQS zQR zQQ zQP
        try clear pG pF pE fX
        try clear kF kE kD zQJ
        try clear zZP zZO zZN zZM
        try clear zQD zQC zQB zQA
        try clear aK aJ aI aH
        try clear aG aE aD aC
        try clear jH jG iX jF jE jD jC jB jA iZ iY
        try clear zPN zPM zPL zPK
        try clear zPF zPE zPD zPC
        try clear zOX zOW zOV zOU
        try clear zSI zSH zRY zSG zSF zSE zSD zSC zSB zSA zRZ
        try clear zRQ zRP zRG zRO zRN zRM zRL zRK zRJ zRI zRH
        try clear zVR zVQ zQY zVP zRF zRE zRD zRC zRB zRA zQZ
        try clear zQX zQW zQV zQU
        try clear kM kL kK zQT
        try clear zQO zQN zQM zQL
        try clear kJ kH kG zQK
        try clear kC kB kA zQI
        try clear zQH zQG zQF zQE
        try clear zPZ zPY zPX zPW
        try clear zPV zPU zPT zPS
        try clear zPR zPQ zPP zPO
        try clear aA zZZ zZQ zZY zZX zZW zZV zZU zZT zZS zZR
        try clear zPJ zPI zPH zPG
        try clear zPB zPA zOZ zOY
        try clear zOT zOS zOR zOQ
        try clear cT
        try clear p298
        try clear q298
        obtain ⟨kq,cS,rfl,HA,HJ17,zJ,xY,HB⟩:=hcut
        cases kq with
        | zero => exact absurd HA.out (by simp [xP.j2])
        | succ kj17 =>
         have H:=HA.out
         clear HA
         simp only [xP.j2] at H
         by_cases c55 : cS = true
         ·
          subst c55
          have H1 : (some false) = some r:=by rw [if_pos rfl] at H; exact H
          clear H
          have H:=H1
          clear H1
          obtain rfl:=Option.some.inj H
          go_wp2
          go_ret
          exact ⟨by first|rfl|(simp [yG,yF] <;> rfl)|(simp [*,yG,yF] <;> rfl),by repeat (first|(with_reducible first|exact HB.out|apply zY|apply zV|apply zU|refine zQ ?_ vW.out|refine zQ ?_ uM.out)|exact HB.out)⟩
         ·
          replace c55:=Bool.eq_false_iff.mpr c55
          subst c55
          have H1 : (if yP = true then ((qQ.f kj17 yX yW zA yZ).bind fun t301 => (if t301 = true then (if yT = true then (if (zE.length : Int) = yK then (some ((zW.length : Int) == yH)) else (some false)) else (some false)) else (some false))) else ((yC.f kj17 yX yW zA yZ 0 (⟨#[]⟩ : ByteArray) ([] : List Int) ([] : List (S25))).bind fun t302 => (if t302 = true then (if yT = true then (if (zE.length : Int) = yK then (some ((zW.length : Int) == yH)) else (some false)) else (some false)) else (some false)))) = some r:=by rw [if_neg (show ¬ (false = true) by decide)] at H; exact H
          clear H
          have H:=H1
          clear H1
          by_cases c56 : yP = true
          ·
           subst c56
           have H1 : ((qQ.f kj17 yX yW zA yZ).bind fun t301 => (if t301 = true then (if yT = true then (if (zE.length : Int) = yK then (some ((zW.length : Int) == yH)) else (some false)) else (some false)) else (some false))) = some r:=by rw [if_pos rfl] at H; exact H
           clear H
           have H:=H1
           clear H1
           replace H:=Option.bind_eq_some_iff.mp H
           obtain ⟨t301,A570,H⟩:=H
           replace H : (if t301 = true then (if yT = true then (if (zE.length : Int) = yK then (some ((zW.length : Int) == yH)) else (some false)) else (some false)) else (some false)) = some r:=H
           have A57:=zZ.mk A570
           clear A570
           by_cases c58 : t301 = true
           ·
            subst c58
            have H1 : (if yT = true then (if (zE.length : Int) = yK then (some ((zW.length : Int) == yH)) else (some false)) else (some false)) = some r:=by rw [if_pos rfl] at H; exact H
            clear H
            have H:=H1
            clear H1
            by_cases c59 : yT = true
            ·
             subst c59
             have H1 : (if (zE.length : Int) = yK then (some ((zW.length : Int) == yH)) else (some false)) = some r:=by rw [if_pos rfl] at H; exact H
             clear H
             have H:=H1
             clear H1
             by_cases c60 : (zE.length : Int) = yK
             ·
              rw [if_pos c60] at H
              have c60b0 : ((zE.length : Int) == yK) = true:=beq_iff_eq.mpr c60
              have c60b1 : ((zE.length : Int) != yK) = false:=bne_eq_false_iff_eq.mpr c60
              clear c60
              obtain rfl:=Option.some.inj H
              have hnb61:=wZ.out
              have hnc61:=sT.out
              obtain ⟨zKJ,zKI,zKH,zKG,zKF,zKE,zKD,zKC,zKB,zKA,zJZ⟩:=kc11 zJ.out
              have zJY:=zP zJ.out 0
              have zJX:=zP zJ.out 1
              have zJW:=zP zJ.out 2
              have zJV:=zP zJ.out 3
              have zJU:=zP zJ.out 4
              have zJT:=zP zJ.out 5
              have zJS:=zP zJ.out 6
              have zJR:=zP zJ.out 7
              have zJQ:=zP zJ.out 8
              have zJP:=zP zJ.out 9
              have zJO:=zP zJ.out 10
              go_wp2_with (first|(go_at_call 26; (with_reducible refine (qQ.calls kj17 yX yW _ _ zA _ _ yZ true _ ?side1 ?side2 ?side3 ?side4 A57.out).mono ?_); (case side1 => repeat (first|exact (Kd.C_below rQ.out HB.out)|(with_reducible refine Kd.C_alloc ?_ _)|(with_reducible refine Kd.C_drewN ?_ _)|(with_reducible refine Kd.C_drew ?_))); (case side2 => exact rP.out); (case side3 => repeat (first|exact (Kd.C_below rO.out HB.out)|(with_reducible refine Kd.C_alloc ?_ _)|(with_reducible refine Kd.C_drewN ?_ _)|(with_reducible refine Kd.C_drew ?_))); (case side4 => exact rN.out); rintro e w63 ⟨rfl,hb⟩; have zS:=zZ.mk (xX (g:=sD) (o:=.cells #[.string zT,.slice wW zE.length wY,.slice yR zW.length yS,.int .i64 zH,.int .i64 zG,.bool yM,.bool yO,.int .u8 yX,.string yW,.slice xF zA.length xE,.slice xD yZ.length xC] 54 (0,0)) (by (with_reducible repeat (first|apply zN|apply zM|apply zR)); exact zJ.out) hb); have zO:=zZ.mk (xX (g:=rE) (o:=.cells #[.int .i64 zH,.int .i64 zG,.bool yM,.bool yO] 52 (0,0)) (by (with_reducible repeat (first|apply zN|apply zM|apply zR)); exact xY.out) hb); have zI:=zZ.mk (xW (by repeat (first|(with_reducible first|exact HB.out|apply zY|apply zV|apply zU|refine zQ ?_ vW.out|refine zQ ?_ uM.out)|exact HB.out)) hb); clear zJ; clear xY; clear HB; have zJ:=zS; have xY:=zO; have HB:=zI; clear zS zO zI; (try clear hb); (try clear hb2); (try clear hk); (try clear hi); obtain ⟨zOP,zOO,zON,zOM,zJN,zJM,zJL,zJK,zJJ,zJI,zJH⟩:=kc11 zJ.out; have zJG:=zP zJ.out 0; have zJF:=zP zJ.out 1; have zJE:=zP zJ.out 2; have zJD:=zP zJ.out 3; have zJC:=zP zJ.out 4; have zJB:=zP zJ.out 5; have zJA:=zP zJ.out 6; have zIZ:=zP zJ.out 7; have zIY:=zP zJ.out 8; have zIX:=zP zJ.out 9; have zIW:=zP zJ.out 10))
              go_ret
              exact ⟨by first|rfl|(simp [yG,yF] <;> rfl)|(simp [*,yG,yF] <;> rfl),by repeat (first|(with_reducible first|exact HB.out|apply zY|apply zV|apply zU|refine zQ ?_ vW.out|refine zQ ?_ uM.out)|exact HB.out)⟩
             ·
              rw [if_neg c60] at H
              have c60b0 : ((zE.length : Int) == yK) = false:=beq_eq_false_iff_ne.mpr c60
              have c60b1 : ((zE.length : Int) != yK) = true:=bne_iff_ne.mpr c60
              obtain rfl:=Option.some.inj H
              have hnb65:=wZ.out
              have hnc65:=sT.out
              obtain ⟨zSU,zST,zSS,zIV,zIU,zIT,zIS,zIR,zIQ,zIP,zIO⟩:=kc11 zJ.out
              have zSR:=zP zJ.out 0
              have zSQ:=zP zJ.out 1
              have zSP:=zP zJ.out 2
              have zIN:=zP zJ.out 3
              have zIM:=zP zJ.out 4
              have zIL:=zP zJ.out 5
              have zIK:=zP zJ.out 6
              have zIJ:=zP zJ.out 7
              have zII:=zP zJ.out 8
              have zIH:=zP zJ.out 9
              have zIG:=zP zJ.out 10
              go_wp2_with (first|(go_at_call 26; (with_reducible refine (qQ.calls kj17 yX yW _ _ zA _ _ yZ true _ ?side1 ?side2 ?side3 ?side4 A57.out).mono ?_); (case side1 => repeat (first|exact (Kd.C_below rQ.out HB.out)|(with_reducible refine Kd.C_alloc ?_ _)|(with_reducible refine Kd.C_drewN ?_ _)|(with_reducible refine Kd.C_drew ?_))); (case side2 => exact rP.out); (case side3 => repeat (first|exact (Kd.C_below rO.out HB.out)|(with_reducible refine Kd.C_alloc ?_ _)|(with_reducible refine Kd.C_drewN ?_ _)|(with_reducible refine Kd.C_drew ?_))); (case side4 => exact rN.out); rintro e w67 ⟨rfl,hb⟩; have zS:=zZ.mk (xX (g:=sD) (o:=.cells #[.string zT,.slice wW zE.length wY,.slice yR zW.length yS,.int .i64 zH,.int .i64 zG,.bool yM,.bool yO,.int .u8 yX,.string yW,.slice xF zA.length xE,.slice xD yZ.length xC] 54 (0,0)) (by (with_reducible repeat (first|apply zN|apply zM|apply zR)); exact zJ.out) hb); have zO:=zZ.mk (xX (g:=rE) (o:=.cells #[.int .i64 zH,.int .i64 zG,.bool yM,.bool yO] 52 (0,0)) (by (with_reducible repeat (first|apply zN|apply zM|apply zR)); exact xY.out) hb); have zI:=zZ.mk (xW (by repeat (first|(with_reducible first|exact HB.out|apply zY|apply zV|apply zU|refine zQ ?_ vW.out|refine zQ ?_ uM.out)|exact HB.out)) hb); clear zJ; clear xY; clear HB; have zJ:=zS; have xY:=zO; have HB:=zI; clear zS zO zI; (try clear hb); (try clear hb2); (try clear hk); (try clear hi); obtain ⟨zIF,zIE,zID,zIC,zIB,zIA,zHZ,zHY,zHX,zHW,zHV⟩:=kc11 zJ.out; have zHU:=zP zJ.out 0; have zHT:=zP zJ.out 1; have zHS:=zP zJ.out 2; have zHR:=zP zJ.out 3; have zHQ:=zP zJ.out 4; have zHP:=zP zJ.out 5; have zHO:=zP zJ.out 6; have zHN:=zP zJ.out 7; have zHM:=zP zJ.out 8; have zHL:=zP zJ.out 9; have zHK:=zP zJ.out 10))
              go_ret
              exact ⟨by first|rfl|(simp [yG,yF] <;> rfl)|(simp [*,yG,yF] <;> rfl),by repeat (first|(with_reducible first|exact HB.out|apply zY|apply zV|apply zU|refine zQ ?_ vW.out|refine zQ ?_ uM.out)|exact HB.out)⟩
            ·
             replace c59:=Bool.eq_false_iff.mpr c59
             subst c59
             have H1 : (some false) = some r:=by rw [if_neg (show ¬ (false = true) by decide)] at H; exact H
             clear H
             have H:=H1
             clear H1
             obtain rfl:=Option.some.inj H
             have hnb69:=wZ.out
             have hnc69:=sT.out
             obtain ⟨zHJ,zHI,zHH,zHG,zHF,zHE,zHD,zHC,zHB,zHA,zGZ⟩:=kc11 zJ.out
             have zGY:=zP zJ.out 0
             have zGX:=zP zJ.out 1
             have zGW:=zP zJ.out 2
             have zGV:=zP zJ.out 3
             have zGU:=zP zJ.out 4
             have zGT:=zP zJ.out 5
             have zGS:=zP zJ.out 6
             have zGR:=zP zJ.out 7
             have zGQ:=zP zJ.out 8
             have zGP:=zP zJ.out 9
             have zGO:=zP zJ.out 10
             go_wp2_with (first|(go_at_call 26; (with_reducible refine (qQ.calls kj17 yX yW _ _ zA _ _ yZ true _ ?side1 ?side2 ?side3 ?side4 A57.out).mono ?_); (case side1 => repeat (first|exact (Kd.C_below rQ.out HB.out)|(with_reducible refine Kd.C_alloc ?_ _)|(with_reducible refine Kd.C_drewN ?_ _)|(with_reducible refine Kd.C_drew ?_))); (case side2 => exact rP.out); (case side3 => repeat (first|exact (Kd.C_below rO.out HB.out)|(with_reducible refine Kd.C_alloc ?_ _)|(with_reducible refine Kd.C_drewN ?_ _)|(with_reducible refine Kd.C_drew ?_))); (case side4 => exact rN.out); rintro e w71 ⟨rfl,hb⟩; have zS:=zZ.mk (xX (g:=sD) (o:=.cells #[.string zT,.slice wW zE.length wY,.slice yR zW.length yS,.int .i64 zH,.int .i64 zG,.bool yM,.bool yO,.int .u8 yX,.string yW,.slice xF zA.length xE,.slice xD yZ.length xC] 54 (0,0)) (by (with_reducible repeat (first|apply zN|apply zM|apply zR)); exact zJ.out) hb); have zO:=zZ.mk (xX (g:=rE) (o:=.cells #[.int .i64 zH,.int .i64 zG,.bool yM,.bool yO] 52 (0,0)) (by (with_reducible repeat (first|apply zN|apply zM|apply zR)); exact xY.out) hb); have zI:=zZ.mk (xW (by repeat (first|(with_reducible first|exact HB.out|apply zY|apply zV|apply zU|refine zQ ?_ vW.out|refine zQ ?_ uM.out)|exact HB.out)) hb); clear zJ; clear xY; clear HB; have zJ:=zS; have xY:=zO; have HB:=zI; clear zS zO zI; (try clear hb); (try clear hb2); (try clear hk); (try clear hi)))
             go_ret
             exact ⟨by first|rfl|(simp [yG,yF] <;> rfl)|(simp [*,yG,yF] <;> rfl),by repeat (first|(with_reducible first|exact HB.out|apply zY|apply zV|apply zU|refine zQ ?_ vW.out|refine zQ ?_ uM.out)|exact HB.out)⟩
           ·
            replace c58:=Bool.eq_false_iff.mpr c58
            subst c58
            have H1 : (some false) = some r:=by rw [if_neg (show ¬ (false = true) by decide)] at H; exact H
            clear H
            have H:=H1
            clear H1
            obtain rfl:=Option.some.inj H
            have hnb72:=wZ.out
            have hnc72:=sT.out
            obtain ⟨zGN,zGM,zGL,zGK,zGJ,zGI,zGH,zGG,zGF,zGE,zGD⟩:=kc11 zJ.out
            have zGC:=zP zJ.out 0
            have zGB:=zP zJ.out 1
            have zGA:=zP zJ.out 2
            have zFZ:=zP zJ.out 3
            have zFY:=zP zJ.out 4
            have zFX:=zP zJ.out 5
            have zFW:=zP zJ.out 6
            have zFV:=zP zJ.out 7
            have zFU:=zP zJ.out 8
            have zFT:=zP zJ.out 9
            have zFS:=zP zJ.out 10
            go_wp2_with (first|(go_at_call 26; (with_reducible refine (qQ.calls kj17 yX yW _ _ zA _ _ yZ false _ ?side1 ?side2 ?side3 ?side4 A57.out).mono ?_); (case side1 => repeat (first|exact (Kd.C_below rQ.out HB.out)|(with_reducible refine Kd.C_alloc ?_ _)|(with_reducible refine Kd.C_drewN ?_ _)|(with_reducible refine Kd.C_drew ?_))); (case side2 => exact rP.out); (case side3 => repeat (first|exact (Kd.C_below rO.out HB.out)|(with_reducible refine Kd.C_alloc ?_ _)|(with_reducible refine Kd.C_drewN ?_ _)|(with_reducible refine Kd.C_drew ?_))); (case side4 => exact rN.out); rintro e w74 ⟨rfl,hb⟩; have zS:=zZ.mk (xX (g:=sD) (o:=.cells #[.string zT,.slice wW zE.length wY,.slice yR zW.length yS,.int .i64 zH,.int .i64 zG,.bool yM,.bool yO,.int .u8 yX,.string yW,.slice xF zA.length xE,.slice xD yZ.length xC] 54 (0,0)) (by (with_reducible repeat (first|apply zN|apply zM|apply zR)); exact zJ.out) hb); have zO:=zZ.mk (xX (g:=rE) (o:=.cells #[.int .i64 zH,.int .i64 zG,.bool yM,.bool yO] 52 (0,0)) (by (with_reducible repeat (first|apply zN|apply zM|apply zR)); exact xY.out) hb); have zI:=zZ.mk (xW (by repeat (first|(with_reducible first|exact HB.out|apply zY|apply zV|apply zU|refine zQ ?_ vW.out|refine zQ ?_ uM.out)|exact HB.out)) hb); clear zJ; clear xY; clear HB; have zJ:=zS; have xY:=zO; have HB:=zI; clear zS zO zI; (try clear hb); (try clear hb2); (try clear hk); (try clear hi)))
            go_ret
            exact ⟨by first|rfl|(simp [yG,yF] <;> rfl)|(simp [*,yG,yF] <;> rfl),by repeat (first|(with_reducible first|exact HB.out|apply zY|apply zV|apply zU|refine zQ ?_ vW.out|refine zQ ?_ uM.out)|exact HB.out)⟩
          ·
           replace c56:=Bool.eq_false_iff.mpr c56
           subst c56
           have H1 : ((yC.f kj17 yX yW zA yZ 0 (⟨#[]⟩ : ByteArray) ([] : List Int) ([] : List (S25))).bind fun t302 => (if t302 = true then (if yT = true then (if (zE.length : Int) = yK then (some ((zW.length : Int) == yH)) else (some false)) else (some false)) else (some false))) = some r:=by rw [if_neg (show ¬ (false = true) by decide)] at H; exact H
           clear H
           have H:=H1
           clear H1
           replace H:=Option.bind_eq_some_iff.mp H
           obtain ⟨t302,A750,H⟩:=H
           replace H : (if t302 = true then (if yT = true then (if (zE.length : Int) = yK then (some ((zW.length : Int) == yH)) else (some false)) else (some false)) else (some false)) = some r:=H
           have A75:=zZ.mk A750
           clear A750
           by_cases c76 : t302 = true
           ·
            subst c76
            have H1 : (if yT = true then (if (zE.length : Int) = yK then (some ((zW.length : Int) == yH)) else (some false)) else (some false)) = some r:=by rw [if_pos rfl] at H; exact H
            clear H
            have H:=H1
            clear H1
            by_cases c77 : yT = true
            ·
             subst c77
             have H1 : (if (zE.length : Int) = yK then (some ((zW.length : Int) == yH)) else (some false)) = some r:=by rw [if_pos rfl] at H; exact H
             clear H
             have H:=H1
             clear H1
             by_cases c78 : (zE.length : Int) = yK
             ·
              rw [if_pos c78] at H
              have c78b0 : ((zE.length : Int) == yK) = true:=beq_iff_eq.mpr c78
              have c78b1 : ((zE.length : Int) != yK) = false:=bne_eq_false_iff_eq.mpr c78
              clear c78
              obtain rfl:=Option.some.inj H
              have hnb79:=wZ.out
              have hnc79:=sT.out
              obtain ⟨zFR,zFQ,zFP,zFO,zFN,zFM,zFL,zFK,zFJ,zFI,zFH⟩:=kc11 zJ.out
              have zFG:=zP zJ.out 0
              have zFF:=zP zJ.out 1
              have zFE:=zP zJ.out 2
              have zFD:=zP zJ.out 3
              have zFC:=zP zJ.out 4
              have zFB:=zP zJ.out 5
              have zFA:=zP zJ.out 6
              have zEZ:=zP zJ.out 7
              have zEY:=zP zJ.out 8
              have zEX:=zP zJ.out 9
              have zEW:=zP zJ.out 10
              go_wp2_with (first|(go_at_call 28; (refine (yC.calls kj17 yX yW _ _ zA _ _ yZ 0 (⟨#[]⟩ : ByteArray) _ _ ([] : List Int) _ _ ([] : List (S25)) true _ ?side1 ?side2 ?side3 ?side4 ?side5 ?side6 ?side7 ?side8 A75.out).mono ?_); (case side1 => repeat (first|exact (Kd.C_below rQ.out HB.out)|(with_reducible refine Kd.C_alloc ?_ _)|(with_reducible refine Kd.C_drewN ?_ _)|(with_reducible refine Kd.C_drew ?_))); (case side2 => exact rP.out); (case side3 => repeat (first|exact (Kd.C_below rO.out HB.out)|(with_reducible refine Kd.C_alloc ?_ _)|(with_reducible refine Kd.C_drewN ?_ _)|(with_reducible refine Kd.C_drew ?_))); (case side4 => exact rN.out); (case side5 => exact Kd.C_nil _ _); (case side6 => exact Nat.le_refl _); (case side7 => exact Kd.C_nil _ _); (case side8 => exact Nat.le_refl _); rintro e w81 ⟨rfl,hb⟩; have zS:=zZ.mk (xX (g:=sD) (o:=.cells #[.string zT,.slice wW zE.length wY,.slice yR zW.length yS,.int .i64 zH,.int .i64 zG,.bool yM,.bool yO,.int .u8 yX,.string yW,.slice xF zA.length xE,.slice xD yZ.length xC] 54 (0,0)) (by (with_reducible repeat (first|apply zN|apply zM|apply zR)); exact zJ.out) hb); have zO:=zZ.mk (xX (g:=rE) (o:=.cells #[.int .i64 zH,.int .i64 zG,.bool yM,.bool yO] 52 (0,0)) (by (with_reducible repeat (first|apply zN|apply zM|apply zR)); exact xY.out) hb); have zI:=zZ.mk (xW (by repeat (first|(with_reducible first|exact HB.out|apply zY|apply zV|apply zU|refine zQ ?_ vW.out|refine zQ ?_ uM.out)|exact HB.out)) hb); clear zJ; clear xY; clear HB; have zJ:=zS; have xY:=zO; have HB:=zI; clear zS zO zI; (try clear hb); (try clear hb2); (try clear hk); (try clear hi); obtain ⟨zEV,zEU,zET,zES,zER,zEQ,zEP,zEO,zEN,zEM,zEL⟩:=kc11 zJ.out; have zEK:=zP zJ.out 0; have zEJ:=zP zJ.out 1; have zEI:=zP zJ.out 2; have zEH:=zP zJ.out 3; have zEG:=zP zJ.out 4; have zEF:=zP zJ.out 5; have zEE:=zP zJ.out 6; have zED:=zP zJ.out 7; have zEC:=zP zJ.out 8; have zEB:=zP zJ.out 9; have zEA:=zP zJ.out 10))
              go_ret
              exact ⟨by first|rfl|(simp [yG,yF] <;> rfl)|(simp [*,yG,yF] <;> rfl),by repeat (first|(with_reducible first|exact HB.out|apply zY|apply zV|apply zU|refine zQ ?_ vW.out|refine zQ ?_ uM.out)|exact HB.out)⟩
             ·
              rw [if_neg c78] at H
              have c78b0 : ((zE.length : Int) == yK) = false:=beq_eq_false_iff_ne.mpr c78
              have c78b1 : ((zE.length : Int) != yK) = true:=bne_iff_ne.mpr c78
              obtain rfl:=Option.some.inj H
              have hnb83:=wZ.out
              have hnc83:=sT.out
              obtain ⟨zDZ,zDY,zDX,zDW,zDV,zDU,zDT,zDS,zDR,zDQ,zDP⟩:=kc11 zJ.out
              have zDO:=zP zJ.out 0
              have zDN:=zP zJ.out 1
              have zDM:=zP zJ.out 2
              have zDL:=zP zJ.out 3
              have zDK:=zP zJ.out 4
              have zDJ:=zP zJ.out 5
              have zDI:=zP zJ.out 6
              have zDH:=zP zJ.out 7
              have zDG:=zP zJ.out 8
              have zDF:=zP zJ.out 9
              have zDE:=zP zJ.out 10
              go_wp2_with (first|(go_at_call 28; (refine (yC.calls kj17 yX yW _ _ zA _ _ yZ 0 (⟨#[]⟩ : ByteArray) _ _ ([] : List Int) _ _ ([] : List (S25)) true _ ?side1 ?side2 ?side3 ?side4 ?side5 ?side6 ?side7 ?side8 A75.out).mono ?_); (case side1 => repeat (first|exact (Kd.C_below rQ.out HB.out)|(with_reducible refine Kd.C_alloc ?_ _)|(with_reducible refine Kd.C_drewN ?_ _)|(with_reducible refine Kd.C_drew ?_))); (case side2 => exact rP.out); (case side3 => repeat (first|exact (Kd.C_below rO.out HB.out)|(with_reducible refine Kd.C_alloc ?_ _)|(with_reducible refine Kd.C_drewN ?_ _)|(with_reducible refine Kd.C_drew ?_))); (case side4 => exact rN.out); (case side5 => exact Kd.C_nil _ _); (case side6 => exact Nat.le_refl _); (case side7 => exact Kd.C_nil _ _); (case side8 => exact Nat.le_refl _); rintro e w85 ⟨rfl,hb⟩; have zS:=zZ.mk (xX (g:=sD) (o:=.cells #[.string zT,.slice wW zE.length wY,.slice yR zW.length yS,.int .i64 zH,.int .i64 zG,.bool yM,.bool yO,.int .u8 yX,.string yW,.slice xF zA.length xE,.slice xD yZ.length xC] 54 (0,0)) (by (with_reducible repeat (first|apply zN|apply zM|apply zR)); exact zJ.out) hb); have zO:=zZ.mk (xX (g:=rE) (o:=.cells #[.int .i64 zH,.int .i64 zG,.bool yM,.bool yO] 52 (0,0)) (by (with_reducible repeat (first|apply zN|apply zM|apply zR)); exact xY.out) hb); have zI:=zZ.mk (xW (by repeat (first|(with_reducible first|exact HB.out|apply zY|apply zV|apply zU|refine zQ ?_ vW.out|refine zQ ?_ uM.out)|exact HB.out)) hb); clear zJ; clear xY; clear HB; have zJ:=zS; have xY:=zO; have HB:=zI; clear zS zO zI; (try clear hb); (try clear hb2); (try clear hk); (try clear hi); obtain ⟨zDD,zDC,zDB,zDA,zCZ,zCY,zCX,zCW,zCV,zCU,zCT⟩:=kc11 zJ.out; have zCS:=zP zJ.out 0; have zCR:=zP zJ.out 1; have zCQ:=zP zJ.out 2; have zCP:=zP zJ.out 3; have zCO:=zP zJ.out 4; have zCN:=zP zJ.out 5; have zCM:=zP zJ.out 6; have zCL:=zP zJ.out 7; have zCK:=zP zJ.out 8; have zCJ:=zP zJ.out 9; have zCI:=zP zJ.out 10))
              go_ret
              exact ⟨by first|rfl|(simp [yG,yF] <;> rfl)|(simp [*,yG,yF] <;> rfl),by repeat (first|(with_reducible first|exact HB.out|apply zY|apply zV|apply zU|refine zQ ?_ vW.out|refine zQ ?_ uM.out)|exact HB.out)⟩
            ·
             replace c77:=Bool.eq_false_iff.mpr c77
             subst c77
             have H1 : (some false) = some r:=by rw [if_neg (show ¬ (false = true) by decide)] at H; exact H
             clear H
             have H:=H1
             clear H1
             obtain rfl:=Option.some.inj H
             have hnb87:=wZ.out
             have hnc87:=sT.out
             obtain ⟨zCH,zCG,zCF,zCE,zCD,zCC,zCB,zCA,zBZ,zBY,zBX⟩:=kc11 zJ.out
             have zBW:=zP zJ.out 0
             have zBV:=zP zJ.out 1
             have zBU:=zP zJ.out 2
             have zBT:=zP zJ.out 3
             have zBS:=zP zJ.out 4
             have zBR:=zP zJ.out 5
             have zBQ:=zP zJ.out 6
             have zBP:=zP zJ.out 7
             have zBO:=zP zJ.out 8
             have zBN:=zP zJ.out 9
             have zBM:=zP zJ.out 10
             go_wp2_with (first|(go_at_call 28; (refine (yC.calls kj17 yX yW _ _ zA _ _ yZ 0 (⟨#[]⟩ : ByteArray) _ _ ([] : List Int) _ _ ([] : List (S25)) true _ ?side1 ?side2 ?side3 ?side4 ?side5 ?side6 ?side7 ?side8 A75.out).mono ?_); (case side1 => repeat (first|exact (Kd.C_below rQ.out HB.out)|(with_reducible refine Kd.C_alloc ?_ _)|(with_reducible refine Kd.C_drewN ?_ _)|(with_reducible refine Kd.C_drew ?_))); (case side2 => exact rP.out); (case side3 => repeat (first|exact (Kd.C_below rO.out HB.out)|(with_reducible refine Kd.C_alloc ?_ _)|(with_reducible refine Kd.C_drewN ?_ _)|(with_reducible refine Kd.C_drew ?_))); (case side4 => exact rN.out); (case side5 => exact Kd.C_nil _ _); (case side6 => exact Nat.le_refl _); (case side7 => exact Kd.C_nil _ _); (case side8 => exact Nat.le_refl _); rintro e w89 ⟨rfl,hb⟩; have zS:=zZ.mk (xX (g:=sD) (o:=.cells #[.string zT,.slice wW zE.length wY,.slice yR zW.length yS,.int .i64 zH,.int .i64 zG,.bool yM,.bool yO,.int .u8 yX,.string yW,.slice xF zA.length xE,.slice xD yZ.length xC] 54 (0,0)) (by (with_reducible repeat (first|apply zN|apply zM|apply zR)); exact zJ.out) hb); have zO:=zZ.mk (xX (g:=rE) (o:=.cells #[.int .i64 zH,.int .i64 zG,.bool yM,.bool yO] 52 (0,0)) (by (with_reducible repeat (first|apply zN|apply zM|apply zR)); exact xY.out) hb); have zI:=zZ.mk (xW (by repeat (first|(with_reducible first|exact HB.out|apply zY|apply zV|apply zU|refine zQ ?_ vW.out|refine zQ ?_ uM.out)|exact HB.out)) hb); clear zJ; clear xY; clear HB; have zJ:=zS; have xY:=zO; have HB:=zI; clear zS zO zI; (try clear hb); (try clear hb2); (try clear hk); (try clear hi)))
             go_ret
             exact ⟨by first|rfl|(simp [yG,yF] <;> rfl)|(simp [*,yG,yF] <;> rfl),by repeat (first|(with_reducible first|exact HB.out|apply zY|apply zV|apply zU|refine zQ ?_ vW.out|refine zQ ?_ uM.out)|exact HB.out)⟩
           ·
            replace c76:=Bool.eq_false_iff.mpr c76
            subst c76
            have H1 : (some false) = some r:=by rw [if_neg (show ¬ (false = true) by decide)] at H; exact H
            clear H
            have H:=H1
            clear H1
            obtain rfl:=Option.some.inj H
            have hnb90:=wZ.out
            have hnc90:=sT.out
            obtain ⟨zBL,zBK,zBJ,zBI,zBH,zBG,zBF,zBE,zBD,zBC,zBB⟩:=kc11 zJ.out
            have zBA:=zP zJ.out 0
            have zAZ:=zP zJ.out 1
            have zAY:=zP zJ.out 2
            have zAX:=zP zJ.out 3
            have zAW:=zP zJ.out 4
            have zAV:=zP zJ.out 5
            have zAU:=zP zJ.out 6
            have zAT:=zP zJ.out 7
            have zAS:=zP zJ.out 8
            have zAR:=zP zJ.out 9
            have zAQ:=zP zJ.out 10
            go_wp2_with (first|(go_at_call 28; (refine (yC.calls kj17 yX yW _ _ zA _ _ yZ 0 (⟨#[]⟩ : ByteArray) _ _ ([] : List Int) _ _ ([] : List (S25)) false _ ?side1 ?side2 ?side3 ?side4 ?side5 ?side6 ?side7 ?side8 A75.out).mono ?_); (case side1 => repeat (first|exact (Kd.C_below rQ.out HB.out)|(with_reducible refine Kd.C_alloc ?_ _)|(with_reducible refine Kd.C_drewN ?_ _)|(with_reducible refine Kd.C_drew ?_))); (case side2 => exact rP.out); (case side3 => repeat (first|exact (Kd.C_below rO.out HB.out)|(with_reducible refine Kd.C_alloc ?_ _)|(with_reducible refine Kd.C_drewN ?_ _)|(with_reducible refine Kd.C_drew ?_))); (case side4 => exact rN.out); (case side5 => exact Kd.C_nil _ _); (case side6 => exact Nat.le_refl _); (case side7 => exact Kd.C_nil _ _); (case side8 => exact Nat.le_refl _); rintro e w92 ⟨rfl,hb⟩; have zS:=zZ.mk (xX (g:=sD) (o:=.cells #[.string zT,.slice wW zE.length wY,.slice yR zW.length yS,.int .i64 zH,.int .i64 zG,.bool yM,.bool yO,.int .u8 yX,.string yW,.slice xF zA.length xE,.slice xD yZ.length xC] 54 (0,0)) (by (with_reducible repeat (first|apply zN|apply zM|apply zR)); exact zJ.out) hb); have zO:=zZ.mk (xX (g:=rE) (o:=.cells #[.int .i64 zH,.int .i64 zG,.bool yM,.bool yO] 52 (0,0)) (by (with_reducible repeat (first|apply zN|apply zM|apply zR)); exact xY.out) hb); have zI:=zZ.mk (xW (by repeat (first|(with_reducible first|exact HB.out|apply zY|apply zV|apply zU|refine zQ ?_ vW.out|refine zQ ?_ uM.out)|exact HB.out)) hb); clear zJ; clear xY; clear HB; have zJ:=zS; have xY:=zO; have HB:=zI; clear zS zO zI; (try clear hb); (try clear hb2); (try clear hk); (try clear hi)))
            go_ret
            exact ⟨by first|rfl|(simp [yG,yF] <;> rfl)|(simp [*,yG,yF] <;> rfl),by repeat (first|(with_reducible first|exact HB.out|apply zY|apply zV|apply zU|refine zQ ?_ vW.out|refine zQ ?_ uM.out)|exact HB.out)⟩
end Go.Proofs.YtjeofffddbibeaaDoor.PParseTells
end

section
namespace Go.Proofs.YtjeofffddbibeaaDoor.Pa
open Go Go.RowKit PParseTells Ex YtjeofffddbibeaaDoorW.PrintWords YtjeofffddbibeaaDoorW.PrintLast YtjeofffddbibeaaDoorW.PrintMore
theorem zWA (s : ByteArray) (k : Nat) (hk : 3 ≤ k) : wS.f k s = some ((shapeF s).1,(shapeF s).2) :=
 mono_up (f:=fun k => wS.f k s) (fun k => wS.mono _ k) hk (refShape_f s)
theorem same_bare (x : X) (k : Nat) (hk : 10 ≤ k) : yC.f k x.f0 x.f1 x.f2 x.f3 0 (⟨#[]⟩ : ByteArray) ([] : List Int) ([] : List X) = some (bareB x):=by
 obtain ⟨k,rfl⟩ : ∃ m,k = m + 4:=⟨k - 4,by omega⟩
 obtain ⟨o,s,ns,xs⟩:=x
 have e : (⟨#[]⟩ : ByteArray).toList = []:=by decide +kernel
 unfold bareB
 dsimp only
 rw [yC.f,e]
 have hj : ∀ (b : Bool),yC.j0 (k + 3) b o s ns xs 0 (⟨#[]⟩ : ByteArray) [] [] = if b = true then some false else yC.l0 (k + 2) 0 o s ns xs 0 (⟨#[]⟩ : ByteArray) [] []:=fun b => by rw [yC.j0]
 by_cases h0 : o = 0
 ·
  rw [if_pos h0,beq_iff_eq.2 h0,Bool.true_and]
  by_cases h1 : s.toList = []
  ·
   rw [if_pos h1,h1]
   cases ns with
   | nil =>
    rw [if_pos rfl,hj]
    cases xs with
    | nil =>
     rw [if_neg (by decide),yC.l0,if_neg (by simp),yC.l1,if_neg (by simp)]
     rfl
    | cons y ys =>
     rw [if_pos (by rw [bne_iff_ne,List.length_cons,List.length_nil]; omega)]
     rfl
   | cons n ns =>
    rw [if_neg (by rw [List.length_cons,List.length_nil]; omega),hj,if_pos rfl]
    rfl
  ·
   rw [if_neg h1,hj,if_pos rfl]
   cases hl : s.toList with
   | nil => exact absurd hl h1
   | cons _ _ => rfl
 · rw [if_neg h0,hj,if_pos rfl,beq_eq_false_iff_ne.2 h0,Bool.false_and]
def tailR (c : Cmd) (b : Bool) (n1 n2 : Int) (r e : Bool) : Bool :=
 scopedB c.lo c.hi c.hl c.hh r && ((if e = true then RightB c.x else bareB c.x) && (b && (decide ((c.names.length : Int) = n1) && ((c.nums.length : Int) == n2))))
theorem right_j2 (c : Cmd) (hc : cnt c.x ≤ 1048576) (hwf : Wf c.x) (k : Nat) (hk : 4000001 ≤ k) (b : Bool) (n1 n2 : Int) (e t : Bool) :
  xP.j2 k b n1 n2 e t c.word c.names c.nums c.lo c.hi c.hl c.hh c.x.f0 c.x.f1 c.x.f2 c.x.f3 = some (!t && ((if e = true then RightB c.x else bareB c.x) && (b && (decide ((c.names.length : Int) = n1) && ((c.nums.length : Int) == n2))))):=by
 obtain ⟨k,rfl⟩ : ∃ m,k = m + 1:=⟨k - 1,by omega⟩
 rw [xP.j2]
 cases t with
 | true => rw [if_pos rfl]; rfl
 | false =>
  rw [if_neg (by decide)]
  have hT : ∀ g : Bool,(if g = true then (if b = true then (if (c.names.length : Int) = n1 then (some ((c.nums.length : Int) == n2)) else (some false)) else (some false)) else (some false)) = some (!false && (g && (b && (decide ((c.names.length : Int) = n1) && ((c.nums.length : Int) == n2))))):=fun g => by
   cases g
   · rfl
   ·
    cases b
    · rfl
    ·
     by_cases h : (c.names.length : Int) = n1
     · rw [if_pos rfl,if_pos rfl,if_pos h,decide_eq_true h]; rfl
     · rw [if_pos rfl,if_pos rfl,if_neg h,decide_eq_false h]; rfl
  cases e with
  | true =>
   rw [if_pos rfl,if_pos rfl,refRight_f c.x hc hwf k (by omega),Option.bind_some]
   exact hT _
  | false =>
   have hE : (if false = true then RightB c.x else bareB c.x) = bareB c.x:=if_neg (by decide)
   rw [if_neg (by decide),hE,same_bare c.x k (by omega),Option.bind_some]
   exact hT _
theorem right_l1 (c : Cmd) (hc : cnt c.x ≤ 1048576) (hwf : Wf c.x) (hm : c.names.length ≤ 9223372036854775807) (n1 n2 : Int) (r e : Bool) :
  ∀ (d i : Nat),i + d = c.names.length → ∀ b,∀ k,4000002 + d ≤ k → xP.l1 k b n1 n2 r e (i : Nat) c.word c.names c.nums c.lo c.hi c.hl c.hh c.x.f0 c.x.f1 c.x.f2 c.x.f3 = some (tailR c (b && (c.names.drop i).all nameB) n1 n2 r e):=by
 intro d
 induction d with
 | zero =>
  intro i hi b k hk
  obtain ⟨k,rfl⟩ : ∃ m,k = m + 1:=⟨k - 1,by omega⟩
  rw [xP.l1,if_neg (by omega),List.drop_eq_nil_of_le (by omega),List.all_nil,Bool.and_true]
  have hJ:=fun t => right_j2 c hc hwf k (by omega) b n1 n2 e t
  simp only [hJ]
  unfold tailR scopedB
  obtain ⟨wd9,NS,ns,lo,hg,hl,hh,x⟩:=c
  dsimp only
  clear hJ hi hk hc hwf hm
  cases hl <;> cases hh <;> cases r <;> by_cases hlo : lo = 0 <;> by_cases hhg : hg = 0 <;> simp [hlo,hhg]
 | succ d ihd =>
  intro i hi b k hk
  obtain ⟨k,rfl⟩ : ∃ m,k = m + 1:=⟨k - 1,by omega⟩
  have hil : i < c.names.length:=by omega
  have e1 : wrap64 ((i : Int) + 1) = ((i + 1 : Nat) : Int):=by
   rw [Ex.w64 (by omega) (by omega)]; omega
  have er : rdOf ByteArray.empty c.names (i : Int) = c.names[i]:=by
   unfold rdOf
   rw [Int.toNat_natCast,List.getD_eq_getElem?_getD,List.getElem?_eq_getElem hil]
   rfl
  rw [xP.l1,if_pos (Int.ofNat_lt.2 hil),List.drop_eq_getElem_cons hil,List.all_cons]
  cases b with
  | true =>
   rw [if_pos rfl,if_pos (Int.natCast_nonneg i),er,refName_f _ k (by omega),Option.bind_some,e1,ihd (i + 1) (by omega) _ k (by omega),Bool.true_and]
  | false =>
   rw [if_neg (by decide),e1,ihd (i + 1) (by omega) _ k (by omega),Bool.false_and,Bool.false_and]
theorem xG (s : ByteArray) (i : Nat) (h : i < s.data.toList.length) : bt s (i : Nat) = (s.data.toList[i].toNat : Int):=bt_data s i h
theorem right_l0 (c : Cmd) (s : ByteArray) (hs : s.size ≤ 10) (hlet : ∀ b ∈ s.data.toList,b = 110 ∨ b = 105 ∨ b = 101 ∨ b = 114 ∨ b = 61) (ok : Bool) (K : Nat) (R : Int → Int → Bool → Bool → Bool)
  (hR : ∀ n1 n2 r e,∀ k,K ≤ k → xP.l1 k ok n1 n2 r e 0 c.word c.names c.nums c.lo c.hi c.hl c.hh c.x.f0 c.x.f1 c.x.f2 c.x.f3 = some (R n1 n2 r e)) :
  ∀ (l : List UInt8) (i n1 n2 : Nat),i + l.length ≤ 10 → s.data.toList.drop i = l → n1 + l.length ≤ 20 → n2 + l.length ≤ 20 → ∀ r e,∀ k,K + l.length + 1 ≤ k →
   xP.l0 k s ok (n1 : Nat) (n2 : Nat) r e (i : Nat) c.word c.names c.nums c.lo c.hi c.hl c.hh c.x.f0 c.x.f1 c.x.f2 c.x.f3 = some (R ((n1 + l.count 110 : Nat) : Int) ((n2 + l.count 105 : Nat) : Int) (r || l.contains 114) (e || l.contains 101)):=by
 have hsz : s.size = s.data.toList.length:=by simp
 intro l
 induction l with
 | nil =>
  intro i n1 n2 hi hd h1 h2 r e k hk
  obtain ⟨k,rfl⟩ : ∃ m,k = m + 1:=⟨k - 1,by omega⟩
  have hle : s.data.toList.length ≤ i:=List.drop_eq_nil_iff.1 hd
  rw [xP.l0,if_neg (by omega),hR _ _ _ _ k (by rw [List.length_nil] at hk; omega)]
  simp
 | cons b l ih =>
  intro i n1 n2 hi hd h1 h2 r e k hk
  obtain ⟨k,rfl⟩ : ∃ m,k = m + 1:=⟨k - 1,by omega⟩
  rw [List.length_cons] at hi h1 h2 hk
  have hil : i < s.data.toList.length:=by
   rcases Nat.lt_or_ge i s.data.toList.length with h|h
   · exact h
   · rw [List.drop_of_length_le h] at hd; cases hd
  rw [List.drop_eq_getElem_cons hil] at hd
  injection hd with hb hd
  have hm:=hlet _ (List.getElem_mem hil)
  rw [hb] at hm
  have e1 : wrap64 ((i : Int) + 1) = ((i + 1 : Nat) : Int):=by
   rw [Ex.w64 (by omega) (by omega)]; omega
  have e2 : wrap64 ((n1 : Int) + 1) = ((n1 + 1 : Nat) : Int):=by
   rw [Ex.w64 (by omega) (by omega)]; omega
  have e3 : wrap64 ((n2 : Int) + 1) = ((n2 + 1 : Nat) : Int):=by
   rw [Ex.w64 (by omega) (by omega)]; omega
  have hbt:=xG s i hil
  rw [hb] at hbt
  rw [xP.l0,if_pos (by omega),if_pos (Int.natCast_nonneg i),hbt,e1,e2,e3]
  clear hbt e1 e2 e3 hb hR hlet hs
  rcases hm with rfl|rfl|rfl|rfl|rfl
  ·
   rw [if_pos (by decide),ih (i + 1) (n1 + 1) n2 (by omega) hd (by omega) (by omega) r e k (by omega)]
   simp
   congr 1
   omega
  ·
   rw [if_neg (by decide),if_pos (by decide),ih (i + 1) n1 (n2 + 1) (by omega) hd (by omega) (by omega) r e k (by omega)]
   simp
   congr 1
   omega
  ·
   rw [if_neg (by decide),if_neg (by decide),if_neg (by decide),if_pos (by decide),ih (i + 1) n1 n2 (by omega) hd (by omega) (by omega) r true k (by omega)]
   simp
  ·
   rw [if_neg (by decide),if_neg (by decide),if_pos (by decide),ih (i + 1) n1 n2 (by omega) hd (by omega) (by omega) true e k (by omega)]
   simp
  ·
   rw [if_neg (by decide),if_neg (by decide),if_neg (by decide),if_neg (by decide),ih (i + 1) n1 n2 (by omega) hd (by omega) (by omega) r e k (by omega)]
   simp
theorem RightC_f (c : Cmd) (hc : cnt c.x ≤ 1048576) (hwf : Wf c.x) (hm : c.names.length ≤ 9223372036854775807) (k : Nat) (hk : 4000100 + c.names.length ≤ k) :
  xP.f k c.word c.names c.nums c.lo c.hi c.hl c.hh c.x.f0 c.x.f1 c.x.f2 c.x.f3 = some (rightC c):=by
 unfold xP.f
 rw [zWA c.word k (by omega),Option.bind_some]
 obtain ⟨hs,hlet⟩:=cI c.word
 have hsz : (shapeF c.word).1.size = (shapeF c.word).1.data.toList.length:=by simp
 have h:=right_l0 c (shapeF c.word).1 hs hlet (shapeF c.word).2 (4000002 + c.names.length) (fun n1 n2 r e => tailR c ((shapeF c.word).2 && (c.names.drop 0).all nameB) n1 n2 r e)
  (fun n1 n2 r e k hk => right_l1 c hc hwf hm n1 n2 r e c.names.length 0 (by omega) _ k (by omega)) (shapeF c.word).1.data.toList 0 0 0 (by omega) rfl (by omega) (by omega) false false k (by omega)
 refine h.trans ?_
 unfold tailR rightC cntC hasC Lib.countByte
 rw [Bool.false_or,Bool.false_or,Nat.zero_add,Nat.zero_add,List.drop_zero,Lib.contains_iff_indexByte,Lib.contains_iff_indexByte]
 generalize (shapeF c.word).2 = a
 generalize c.names.all nameB = b
 generalize (if decide (0 ≤ Lib.indexByte (shapeF c.word).1.data.toList 101) = true then RightB c.x else bareB c.x) = d
 generalize scopedB c.lo c.hi c.hl c.hh (decide (0 ≤ Lib.indexByte (shapeF c.word).1.data.toList 114)) = f
 have ha : decide ((c.names.length : Int) = ((shapeF c.word).1.data.toList.count 110 : Nat)) = decide ((((shapeF c.word).1.data.toList.count 110 : Nat) : Int) = c.names.length):=by
  congr 1
  exact propext eq_comm
 have hb : ((c.nums.length : Int) == ((shapeF c.word).1.data.toList.count 105 : Nat)) = decide ((((shapeF c.word).1.data.toList.count 105 : Nat) : Int) = c.nums.length):=by
  rw [Bool.eq_iff_iff,beq_iff_eq,decide_eq_true_eq]
  exact eq_comm
 rw [ha,hb]
 congr 1
 generalize decide ((((shapeF c.word).1.data.toList.count 110 : Nat) : Int) = c.names.length) = g
 generalize decide ((((shapeF c.word).1.data.toList.count 105 : Nat) : Int) = c.nums.length) = h
 cases a <;> cases b <;> cases d <;> cases f <;> cases g <;> cases h <;> rfl
def lenS : List (List Tok) → Nat
 | [] => 0
 | a :: r => a.length + 1 + lenS r
theorem lenS_app : ∀ a b : List (List Tok),lenS (a ++ b) = lenS a + lenS b
 | [],b => by show lenS b = 0 + lenS b; omega
 | x :: a,b => by
  have h:=lenS_app a b
  show x.length + 1 + lenS (a ++ b) = x.length + 1 + lenS a + lenS b
  omega
theorem lenS_nums : ∀ ns : List Int,lenS (ns.map (fun v => [nTok v])) = 2 * ns.length
 | [] => rfl
 | n :: ns => by
  have h:=lenS_nums ns
  show 1 + 1 + lenS (ns.map (fun v => [nTok v])) = 2 * (ns.length + 1)
  omega
theorem seq_len : ∀ l : List (List Tok),l ≠ [] → (seqW l).length = lenS l
 | [],h => absurd rfl h
 | [a],_ => by show (a ++ [mR]).length = _; rw [List.length_append]; rfl
 | a :: b :: r,_ => by
  have h:=seq_len (b :: r) (by simp)
  show (a ++ mC :: seqW (b :: r)).length = a.length + 1 + lenS (b :: r)
  rw [List.length_append,List.length_cons,h]
  omega
def lenI (x : X) : Nat:=2 * x.f2.length + lenS (wordsL x.f3)
theorem zWK : ∀ a b : List X,wordsL (a ++ b) = wordsL a ++ wordsL b
 | [],b => by rw [qW]; rfl
 | y :: a,b => by rw [List.cons_append,rM,rM,zWK a b]; rfl
theorem gR (s : ByteArray) (L : List Tok) (h : (markF s L).2 = 0) : L.length = (markF s L).1.length + 1:=by
 rcases qY s L with ⟨t,r,rfl,h1,_⟩|⟨h1,_⟩
 · rw [h1]; rfl
 · rw [h1] at h; cases h
theorem hX (ks : List Int) (L : List Tok) (h : (takeF ks L).2.2 = 0) : ∃ t r,L = t :: r ∧ takeF ks L = (t,r,0) ∧ t.f0 ∈ ks:=by
 rcases pS ks L with ⟨t,r,rfl,h1,h2⟩|h1
 · exact ⟨t,r,rfl,h1,h2⟩
 · rw [h1] at h; cases h
structure SLen (m : Nat) (x : X) (L : List Tok) (r : Res) : Prop where
 f0 : r.x.f0 = x.f0
 n : r.x.f2.length + r.x.f3.length = x.f2.length + x.f3.length + m
 len : L.length + lenI x = r.l.length + lenI r.x
theorem steps_len (d nums many : Nat) (hrec : ∀ p L,(exprF d p L).e = 0 → L.length = (wordsX (exprF d p L).x).length + (exprF d p L).l.length) : ∀ (m : Nat) (x : X) (p : Int) (L : List Tok),
  (stepsF (exprF d) nums many m x p L).e = 0 → SLen m x L (stepsF (exprF d) nums many m x p L):=by
 intro m
 induction m with
 | zero =>
  intro x p L he
  rw [stepsF]
  exact ⟨rfl,rfl,rfl⟩
 | succ m ih =>
  intro x p L he
  rw [stepsF] at he ⊢
  obtain ⟨it,hit⟩ : ∃ it,itemF (exprF d) (decide (many - (m + 1) < nums)) x p L = it:=⟨_,rfl⟩
  rw [hit] at he ⊢
  by_cases h2 : it.e ≠ 0
  · rw [if_pos h2] at he; exact absurd he h2
  rw [if_neg h2] at he ⊢
  have hml:=gR (if m = 0 then RPA else COM) it.l
  obtain ⟨mk,hmk⟩ : ∃ mk,markF (if m = 0 then RPA else COM) it.l = mk:=⟨_,rfl⟩
  rw [hmk] at he hml ⊢
  by_cases h3 : mk.2 ≠ 0
  · rw [if_pos h3] at he; exact absurd he h3
  rw [if_neg h3] at he ⊢
  have h2 : it.e = 0:=Decidable.not_not.1 h2
  have hml:=hml (Decidable.not_not.1 h3)
  unfold itemF at hit
  by_cases hn : many - (m + 1) < nums
  ·
   rw [decide_eq_true hn,if_pos rfl] at hit
   rw [← hit] at h2
   obtain ⟨t,r,rfl,ht,_⟩:=hX [2,3] L h2
   have hnf : numF (t :: r) = (t,r,0):=ht
   rw [hnf] at hit
   subst hit
   dsimp only at he hml ⊢
   have ho:=ih ⟨x.f0,x.f1,x.f2 ++ [t.f2],x.f3⟩ p mk.1 he
   have n1:=ho.n
   have n2:=ho.len
   unfold lenI at n2
   dsimp only at n1 n2
   rw [List.length_append,List.length_singleton] at n1 n2
   refine ⟨ho.f0,by omega,?_⟩
   unfold lenI
   rw [List.length_cons]
   omega
  ·
   rw [decide_eq_false hn,if_neg (by simp)] at hit
   rw [← hit] at h2
   have hE:=hrec p L h2
   generalize exprF d p L = r at hit hE
   subst hit
   dsimp only at he hml ⊢
   have ho:=ih ⟨x.f0,x.f1,x.f2,x.f3 ++ [r.x]⟩ r.p mk.1 he
   have n1:=ho.n
   have n2:=ho.len
   unfold lenI at n2
   dsimp only at n1 n2
   rw [List.length_append,List.length_singleton] at n1
   rw [zWK,rM,qW,lenS_app] at n2
   have e1 : lenS [wordsX r.x] = (wordsX r.x).length + 1 + 0:=rfl
   refine ⟨ho.f0,by omega,?_⟩
   unfold lenI
   omega
theorem op_inv {s : ByteArray} (h : (opF s).2 = true) : 1 ≤ (opF s).1 ∧ (opF s).1 ≤ 12:=by
 have h1:=idx_le s
 unfold opF at h ⊢
 split at h
 · cases h
 ·
  rename_i hn
  rw [if_neg hn]
  dsimp only
  omega
theorem isF_tail {s : ByteArray} {L : List Tok} (h : isF s L = true) : L.length = L.tail.length + 1:=by
 cases L with
 | nil => cases h
 | cons t r => rfl
theorem expr_len : ∀ (d : Nat) (p : Int) (L : List Tok),(exprF d p L).e = 0 → L.length = (wordsX (exprF d p L).x).length + (exprF d p L).l.length:=by
 intro d
 induction d with
 | zero =>
  intro p L he
  exfalso
  have e : exprF 0 p L = exprG true (fun p L => ⟨zX,L,p,111⟩) p L:=rfl
  rw [e] at he
  unfold exprG at he
  by_cases hk : kindF L = 1
  · rw [if_pos ⟨hk,.inl rfl⟩] at he; cases he
  ·
   rw [if_neg (fun h => hk h.1)] at he
   rcases pS [1] L with ⟨t,r,rfl,_,h2⟩|h1
   · exact hk (List.mem_singleton.1 h2)
   · rw [h1,if_pos (by simp)] at he; cases he
 | succ d ih =>
  intro p L he
  have e : exprF (d + 1) p L = exprG false (exprF d) p L:=rfl
  rw [e] at he ⊢
  unfold exprG at he ⊢
  by_cases hk : kindF L = 1 ∧ (false = true ∨ 2000 ≤ p)
  · rw [if_pos hk] at he; cases he
  rw [if_neg hk] at he ⊢
  by_cases ht : (takeF [1] L).2.2 ≠ 0
  · rw [if_pos ht] at he; exact absurd he ht
  rw [if_neg ht] at he ⊢
  obtain ⟨t,r,rfl,h1,h2⟩:=hX [1] L (Decidable.not_not.1 ht)
  rw [h1] at he ⊢
  dsimp only at he ⊢
  by_cases ho : (opF t.f1).2 = true ∧ isF LPA r = true
  ·
   rw [if_pos ho] at he ⊢
   obtain ⟨o1,o2⟩:=op_inv ho.1
   generalize (opF t.f1).1 = o at *
   obtain ⟨m1,m2,m3,m4⟩:=gP o o1 o2
   have hs:=steps_len d (numsOf o).toNat (manyOf o) ih (manyOf o) ⟨o,nil8,[],[]⟩ (p + 1) r.tail he
   generalize stepsF (exprF d) (numsOf o).toNat (manyOf o) (manyOf o) ⟨o,nil8,[],[]⟩ (p + 1) r.tail = R at *
   obtain ⟨s0,s1,s2⟩:=hs
   have s0 : R.x.f0 = o:=s0
   have s1 : R.x.f2.length + R.x.f3.length = 0 + 0 + manyOf o:=s1
   have s2 : r.tail.length + (2 * 0 + lenS (wordsL [])) = R.l.length + (2 * R.x.f2.length + lenS (wordsL R.x.f3)):=s2
   rw [qW] at s2
   have s3 : lenS [] = 0:=rfl
   have hr:=isF_tail ho.2
   rw [oM,if_neg (by omega),List.length_cons,List.length_cons,List.length_cons,seq_len,lenS_app,lenS_nums]
   · omega
   ·
    intro h
    have h:=congrArg List.length h
    have hwl : ∀ l : List X,(wordsL l).length = l.length:=fun l => by
     induction l with
     | nil => rw [qW]; rfl
     | cons y l ih => rw [rM,List.length_cons,List.length_cons,ih]
    rw [List.length_append,List.length_map,hwl,List.length_nil] at h
    omega
  ·
   rw [if_neg ho]
   dsimp only
   rw [oM,if_pos (.inl rfl),List.length_cons,List.length_singleton]
   omega
theorem end_len (s : ByteArray) (L : List Tok) (h : (endF s L).2.2.2 = 0) : L.length = (endW (endF s L).1 (endF s L).2.1).length + 1 + (endF s L).2.2.1.length:=by
 unfold endF at h ⊢
 by_cases hi : isF s L = true
 ·
  rw [if_pos hi] at h ⊢
  have:=gR s L h
  show L.length = 0 + 1 + (markF s L).1.length
  omega
 rw [if_neg hi] at h ⊢
 by_cases hn : (numF L).2.2 = 0
 ·
  rw [if_pos hn] at h ⊢
  obtain ⟨t,r,rfl,h1,_⟩:=hX [2,3] L hn
  have hnf : numF (t :: r) = (t,r,0):=h1
  rw [hnf] at h ⊢
  dsimp only at h ⊢
  have:=gR s r h
  rw [decide_eq_true h,List.length_cons]
  show r.length + 1 = 1 + 1 + (markF s r).1.length
  omega
 ·
  rw [if_neg hn] at h
  exact absurd h hn
def lenR (a b : Bool) : Nat:=3 + (if a = true then 1 else 0) + (if b = true then 1 else 0)
theorem endW_len (n : Int) (t : Bool) : (endW n t).length = if t = true then 1 else 0:=by cases t <;> rfl
theorem scope_len (L : List Tok) (h : (scopeF L).e = 0) : L.length = lenR (scopeF L).hl (scopeF L).hh + (scopeF L).l.length:=by
 unfold scopeF at h ⊢
 by_cases h1 : (markF LBR L).2 ≠ 0
 · rw [if_pos h1] at h; exact absurd h h1
 rw [if_neg h1] at h ⊢
 have h1:=gR LBR L (Decidable.not_not.1 h1)
 by_cases h2 : (endF CLN (markF LBR L).1).2.2.2 ≠ 0
 · rw [if_pos h2] at h; exact absurd h h2
 rw [if_neg h2] at h ⊢
 have h2:=end_len CLN _ (Decidable.not_not.1 h2)
 have h3:=end_len RBR _ h
 rw [endW_len] at h2 h3
 unfold lenR
 dsimp only
 omega
def lenL (c : Cmd) : List UInt8 → Nat
 | [] => 0
 | b :: l => (if b = 101 then (wordsX c.x).length else if b = 114 then lenR c.hl c.hh else 1) + lenL c l
theorem cmdW_len (c : Cmd) : ∀ (l : List UInt8) (NS : List ByteArray) (ns : List Int),(cmdW c l NS ns).length = lenL c l
 | [],_,_ => by rw [cmdW]; rfl
 | b :: l,NS,ns => by
  rw [cmdW,lenL,List.length_append,cmdW_len c l]
  congr 1
  unfold partW
  by_cases h1 : b = 110
  · subst h1; rfl
  rw [if_neg h1]
  by_cases h2 : b = 105
  · subst h2; rfl
  rw [if_neg h2]
  by_cases h3 : b = 101
  · rw [if_pos h3,if_pos h3]
  rw [if_neg h3,if_neg h3]
  by_cases h4 : b = 114
  ·
   rw [if_pos h4,if_pos h4]
   unfold rngW lenR
   rw [List.length_cons,List.length_append,List.length_cons,List.length_append,List.length_singleton,endW_len,endW_len]
   omega
  rw [if_neg h4,if_neg h4]
  rfl
structure FLen (k : Cmd) (l : List UInt8) (L : List Tok) (R : Cmd × List Tok × Int) : Prop where
 wd : R.1.word = k.word
 rn : 114 ∉ l → R.1.hl = k.hl ∧ R.1.hh = k.hh
 len : l.count 114 ≤ 1 → L.length = lenL R.1 l + R.2.1.length
theorem gO : ∀ (l : List UInt8) (k : Cmd) (L : List Tok),okL (l.map (fun b => (b.toNat : Int))) = true →
  (foldF (l.map (fun b => (b.toNat : Int))) k L 0).2.2 = 0 → FLen k l L (foldF (l.map (fun b => (b.toNat : Int))) k L 0)
 | [],k,L,_,he => by
  rw [List.map_nil,foldF]
  exact ⟨rfl,fun _ => ⟨rfl,rfl⟩,fun _ => by show L.length = 0 + L.length; omega⟩
 | b :: l,k,L,hok,he => by
  rcases ok_lets hok with ⟨rfl,rfl⟩|⟨hb,hne,hok2⟩
  ·
   rw [List.map_cons,foldF,part_e,List.map_nil] at he ⊢
   dsimp only at he ⊢
   by_cases h1 : (exprF 40 0 L).e ≠ 0
   · rw [if_pos h1] at he; exact absurd he h1
   rw [if_neg h1,foldF] at he ⊢
   have ho:=expr_len 40 0 L (Decidable.not_not.1 h1)
   exact ⟨rfl,fun _ => ⟨rfl,rfl⟩,fun _ => ho⟩
  ·
   rw [List.map_cons,foldF] at he ⊢
   rcases hb with rfl|rfl|rfl|rfl
   ·
    rw [part_n] at he ⊢
    dsimp only at he ⊢
    by_cases h1 : (takeF [1] L).2.2 ≠ 0
    · rw [if_pos h1] at he; exact absurd he h1
    rw [if_neg h1] at he ⊢
    obtain ⟨t,r,rfl,h2,h3⟩:=hX [1] L (Decidable.not_not.1 h1)
    rw [h2] at he ⊢
    dsimp only at he ⊢
    obtain ⟨a1,a2,a3⟩:=gO l _ r hok2 he
    refine ⟨a1,fun h => a2 (fun h' => h (by simp [h'])),fun h => ?_⟩
    rw [List.count_cons_of_ne (by decide)] at h
    have h9:=a3 h
    rw [lenL,if_neg (by decide),if_neg (by decide),List.length_cons]
    omega
   ·
    rw [part_i] at he ⊢
    dsimp only at he ⊢
    by_cases h1 : (numF L).2.2 ≠ 0
    · rw [if_pos h1] at he; exact absurd he h1
    rw [if_neg h1] at he ⊢
    obtain ⟨t,r,rfl,h2,h3⟩:=hX [2,3] L (Decidable.not_not.1 h1)
    have hnf : numF (t :: r) = (t,r,0):=h2
    rw [hnf] at he ⊢
    dsimp only at he ⊢
    obtain ⟨a1,a2,a3⟩:=gO l _ r hok2 he
    refine ⟨a1,fun h => a2 (fun h' => h (by simp [h'])),fun h => ?_⟩
    rw [List.count_cons_of_ne (by decide)] at h
    have h9:=a3 h
    rw [lenL,if_neg (by decide),if_neg (by decide),List.length_cons]
    omega
   ·
    rw [part_r] at he ⊢
    dsimp only at he ⊢
    by_cases h1 : (scopeF L).e ≠ 0
    · rw [if_pos h1] at he; exact absurd he h1
    rw [if_neg h1] at he ⊢
    have h2:=scope_len L (Decidable.not_not.1 h1)
    obtain ⟨a1,a2,a3⟩:=gO l _ (scopeF L).l hok2 he
    refine ⟨a1,fun h => absurd (by simp) h,fun h => ?_⟩
    rw [List.count_cons_self] at h
    have hm : 114 ∉ l:=fun hm => by have:=List.count_pos_iff.2 hm; omega
    obtain ⟨b1,b2⟩:=a2 hm
    dsimp only at b1 b2
    have h9:=a3 (by omega)
    rw [lenL,if_neg (by decide),if_pos rfl,b1,b2]
    omega
   ·
    rw [part_eq] at he ⊢
    dsimp only at he ⊢
    by_cases h1 : (markF ⟨#[61]⟩ L).2 ≠ 0
    · rw [if_pos h1] at he; exact absurd he h1
    rw [if_neg h1] at he ⊢
    have h2:=gR _ L (Decidable.not_not.1 h1)
    obtain ⟨a1,a2,a3⟩:=gO l _ _ hok2 he
    refine ⟨a1,fun h => a2 (fun h' => h (by simp [h'])),fun h => ?_⟩
    rw [List.count_cons_of_ne (by decide)] at h
    have h9:=a3 h
    rw [lenL,if_neg (by decide),if_neg (by decide)]
    omega
theorem shapes_one : ∀ q ∈ shapeL,q.1.data.toList.count 114 ≤ 1:=by decide +kernel
theorem shape_one (s : ByteArray) : (shapeF s).1.data.toList.count 114 ≤ 1:=by
 unfold shapeF
 rcases gT s shapeL with h|⟨q,hq,h,_⟩
 · rw [h]; exact Nat.zero_le _
 · rw [h]; exact shapes_one q hq
theorem parse_len (t : Tok) (r : List Tok) (h : (parseC (t :: r)).2.2 = 0) : (parseC (t :: r)).1.word = t.f1 ∧ (t :: r).length = (wordsC (parseC (t :: r)).1).length:=by
 have e : parseC (t :: r) = if t.f0 ≠ 1 then (zC,0,110) else if (shapeF t.f1).2 = false then (zC,0,110) else endC ((r.length : Int) + 1) (foldF (lets (shapeF t.f1).1) (wC t.f1) r 0):=rfl
 rw [e] at h ⊢
 by_cases h1 : t.f0 ≠ 1
 · rw [if_pos h1] at h; cases h
 rw [if_neg h1] at h ⊢
 by_cases h2 : (shapeF t.f1).2 = false
 · rw [if_pos h2] at h; cases h
 rw [if_neg h2] at h ⊢
 unfold endC at h ⊢
 by_cases h3 : (placeF ((r.length : Int) + 1) (foldF (lets (shapeF t.f1).1) (wC t.f1) r 0).2.1 (foldF (lets (shapeF t.f1).1) (wC t.f1) r 0).2.2).2 ≠ 0
 · rw [if_pos h3] at h; exact absurd h h3
 rw [if_neg h3]
 have h3:=Decidable.not_not.1 h3
 have h4 : (foldF (lets (shapeF t.f1).1) (wC t.f1) r 0).2.2 = 0:=by
  unfold placeF at h3
  by_cases h5 : (foldF (lets (shapeF t.f1).1) (wC t.f1) r 0).2.2 = 0
  · exact h5
  · rw [if_neg h5] at h3; exact absurd h3 h5
 have h6 : (foldF (lets (shapeF t.f1).1) (wC t.f1) r 0).2.1 = []:=by
  unfold placeF at h3
  rw [if_pos h4] at h3
  by_cases h5 : (foldF (lets (shapeF t.f1).1) (wC t.f1) r 0).2.1 = []
  · exact h5
  · rw [if_neg h5] at h3; cases h3
 obtain ⟨a1,_,a3⟩:=gO (shapeF t.f1).1.data.toList (wC t.f1) r (eB t.f1).1 h4
 have a1 : (foldF (lets (shapeF t.f1).1) (wC t.f1) r 0).1.word = t.f1:=a1
 have a3 : r.length = lenL (foldF (lets (shapeF t.f1).1) (wC t.f1) r 0).1 (shapeF t.f1).1.data.toList + (foldF (lets (shapeF t.f1).1) (wC t.f1) r 0).2.1.length:=a3 (shape_one t.f1)
 rw [h6,List.length_nil] at a3
 dsimp only
 refine ⟨a1,?_⟩
 unfold wordsC
 rw [a1,List.length_cons,List.length_cons,cmdW_len]
 omega
theorem zWM {c : Cmd} {L : List Tok} (hl : L.length ≠ (wordsC c).length) (h : (parseC L).2.2 = 0) : (parseC L).1 ≠ c:=by
 cases L with
 | nil => cases h
 | cons t r =>
  intro e
  have:=(parse_len t r h).2
  rw [e] at this
  exact hl this
end Go.Proofs.YtjeofffddbibeaaDoor.Pa
end

section
namespace Go.Proofs.YtjeofffddbibeaaDoor.Ex
open Go Go.RowKit PParseTells YtjeofffddbibeaaDoorW.PrintWords YtjeofffddbibeaaDoorW.PrintLast YtjeofffddbibeaaDoorW.PrintMore
abbrev nil8 : ByteArray:={ data:=#[] }
structure InBox (b : Nat) (x : X) (A2 : Option Addr) (c2 : Nat) (A3 : Option Addr) (c3 : Nat) (w : World) : Prop where
 q0 : w.cell? ⟨b,0,none⟩ = some (.int .u8 x.f0)
 q1 : w.cell? ⟨b,1,none⟩ = some (.string x.f1)
 q2 : w.cell? ⟨b,2,none⟩ = some (.slice A2 x.f2.length c2)
 q3 : w.cell? ⟨b,3,none⟩ = some (.slice A3 x.f3.length c3)
 has : Has w x A2 c2 A3 c3
theorem InBox.later {b : Nat} {x : X} {A2 : Option Addr} {c2 : Nat} {A3 : Option Addr} {c3 : Nat} {w w' : World} (h : InBox b x A2 c2 A3 c3 w) (hb : Below w.heap.size w w') : InBox b x A2 c2 A3 c3 w' :=
 ⟨cell_later hb h.q0,cell_later hb h.q1,cell_later hb h.q2,cell_later hb h.q3,h.has.below hb⟩
theorem InBox.a {b : Nat} {x : X} {A2 : Option Addr} {c2 : Nat} {A3 : Option Addr} {c3 : Nat} {w : World} (h : InBox b x A2 c2 A3 c3 w) (o : Obj) : InBox b x A2 c2 A3 c3 (w.alloc o):=h.later (zY (Below.refl _ _) _)
theorem InBox.lt {b : Nat} {x : X} {A2 : Option Addr} {c2 : Nat} {A3 : Option Addr} {c3 : Nat} {w : World} (h : InBox b x A2 c2 A3 c3 w) : b < w.heap.size:=World.block_lt_of_cell? _ _ h.q0
theorem InBox.new {x : X} {A2 : Option Addr} {c2 : Nat} {A3 : Option Addr} {c3 : Nat} {w : World} (h : Has w x A2 c2 A3 c3) (t : TypeId) (k : Nat) (hk : k = w.heap.size) :
  InBox k x A2 c2 A3 c3 (w.alloc (.cells #[.int .u8 x.f0,.string x.f1,.slice A2 x.f2.length c2,.slice A3 x.f3.length c3] t)):=by
 subst hk
 refine ⟨?_,?_,?_,?_,h.below (zY (Below.refl _ _) _)⟩ <;> (rw [World.cell?_alloc_at _ _ _ _ rfl]; rfl)
theorem Has.a {x : X} {A2 : Option Addr} {c2 : Nat} {A3 : Option Addr} {c3 : Nat} {w : World} (h : Has w x A2 c2 A3 c3) (o : Obj) : Has (w.alloc o) x A2 c2 A3 c3:=h.below (zY (Below.refl _ _) _)
theorem child_at {w : World} {x : X} {A2 : Option Addr} {c2 : Nat} {A3 : Option Addr} {c3 : Nat} (h : Has w x A2 c2 A3 c3) (k : Nat) (hk : k < x.f3.length) :
  ∃ ad B2 d2 B3 d3,A3 = some ad ∧ w.cell? (ad.add (k * 4)) = some (.int .u8 x.f3[k].f0) ∧ w.cell? ⟨(ad.add (k * 4)).block,(ad.add (k * 4)).off + 1,none⟩ = some (.string x.f3[k].f1) ∧
   w.cell? ⟨(ad.add (k * 4)).block,(ad.add (k * 4)).off + 2,none⟩ = some (.slice B2 x.f3[k].f2.length d2) ∧ w.cell? ⟨(ad.add (k * 4)).block,(ad.add (k * 4)).off + 3,none⟩ = some (.slice B3 x.f3[k].f3.length d3) ∧ Has w x.f3[k] B2 d2 B3 d3:=by
 obtain ⟨ad,B2,d2,B3,d3,hA,e0,e1,e2,e3,l2,g2,l3,g3⟩:=rK h.C3 (k : Int) (by omega) (by omega)
 rw [rd_at x.f3 k hk] at e0 e1 e2 e3 l2 g2 l3 g3
 rw [Int.toNat_natCast] at e0 e1 e2 e3
 exact ⟨ad,B2,d2,B3,d3,hA,e0,e1,e2,e3,⟨h.wf.child (List.getElem_mem hk),l2,g2,l3,g3⟩⟩
def eqB (a b : ByteArray) : Bool:=a.data.toList == b.data.toList
theorem eqB_iff (a b : ByteArray) : eqB a b = true ↔ a = b:=by
 unfold eqB
 rw [beq_iff_eq]
 exact ⟨fun h => WideShapes.bytes_inj h,fun h => by rw [h]⟩
mutual
def sameX : X → X → Bool
 | ⟨o,n,ns,xs⟩,⟨o',n',ns',xs'⟩ => decide (o = o') && eqB n n' && decide (ns = ns') && sameL xs xs'
def sameL : List X → List X → Bool
 | [],[] => true
 | y :: ys,z :: zs => sameX y z && sameL ys zs
 | [],_ :: _ => false
 | _ :: _,[] => false
end
theorem sameX_eq (x y : X) : sameX x y = (decide (x.f0 = y.f0) && eqB x.f1 y.f1 && decide (x.f2 = y.f2) && sameL x.f3 y.f3):=by cases x; cases y; rw [sameX]
theorem sameL_nil : sameL [] [] = true:=by rw [sameL]
theorem dU (y z : X) (ys zs : List X) : sameL (y :: ys) (z :: zs) = (sameX y z && sameL ys zs):=by rw [sameL]
theorem sameL_len {xs ys : List X} (h : xs.length ≠ ys.length) : sameL xs ys = false:=by
 induction xs generalizing ys with
 | nil =>
  cases ys with
  | nil => exact absurd rfl h
  | cons z zs => rw [sameL]
 | cons y xs ih =>
  cases ys with
  | nil => rw [sameL]
  | cons z zs => rw [dU,ih (fun he => h (by simp [he])),Bool.and_false]
mutual
def wt : X → Nat
 | ⟨_,_,ns,xs⟩ => 4 + ns.length + wtL xs
def wtL : List X → Nat
 | [] => 0
 | y :: ys => wt y + wtL ys
end
theorem wt_eq (x : X) : wt x = 4 + x.f2.length + wtL x.f3:=by cases x; rw [wt]
theorem wtL_cons (y : X) (ys : List X) : wtL (y :: ys) = wt y + wtL ys:=by rw [wtL]
theorem refSame_l1 (o : Int) (s : ByteArray) (ns : List Int) (xs : List X) (o' : Int) (s' : ByteArray) (ns' : List Int) (ys : List X) (hl : xs.length = ys.length) (hm : xs.length ≤ 9223372036854775807)
  (hf : ∀ (i : Nat) (hi : i < xs.length) (hj : i < ys.length) (k : Nat),wt xs[i] ≤ k → yC.f k xs[i].f0 xs[i].f1 xs[i].f2 xs[i].f3 ys[i].f0 ys[i].f1 ys[i].f2 ys[i].f3 = some (sameX xs[i] ys[i])) :
  ∀ (n i : Nat),i + n = xs.length → ∀ k : Nat,wtL (xs.drop i) + 1 ≤ k → yC.l1 k i o s ns xs o' s' ns' ys = some (sameL (xs.drop i) (ys.drop i)):=by
 intro n
 induction n with
 | zero =>
  intro i hi k hk
  obtain ⟨k,rfl⟩ : ∃ m,k = m + 1:=⟨k - 1,by omega⟩
  simp only [yC.l1]
  rw [if_neg (by omega),List.drop_eq_nil_of_le (by omega),List.drop_eq_nil_of_le (by omega),sameL_nil]
 | succ n ih =>
  intro i hi k hk
  obtain ⟨k,rfl⟩ : ∃ m,k = m + 1:=⟨k - 1,by omega⟩
  have hix : i < xs.length:=by omega
  have hiy : i < ys.length:=by omega
  rw [List.drop_eq_getElem_cons hix,wtL_cons] at hk
  have hw : 4 ≤ wt xs[i]:=by rw [wt_eq]; omega
  have hn:=ih (i + 1) (by omega) k (by omega)
  rw [show ((i + 1 : Nat) : Int) = (i : Int) + 1 by omega] at hn
  simp only [yC.l1]
  rw [if_pos (by omega),if_pos (by omega),if_pos (by omega),rd_at xs i hix,rd_at ys i hiy,hf i hix hiy k (by omega),List.drop_eq_getElem_cons hix,List.drop_eq_getElem_cons hiy,dU]
  show (if sameX xs[i] ys[i] = true then yC.l1 k (wrap64 ((i : Int) + 1)) o s ns xs o' s' ns' ys else some false) = _
  rw [w64 (by omega) (by omega),hn]
  cases sameX xs[i] ys[i] <;> rfl
theorem refSame_l0 (o : Int) (s : ByteArray) (a : List Int) (xs : List X) (o' : Int) (s' : ByteArray) (b : List Int) (ys : List X) (hl : a.length = b.length) (hm : a.length ≤ 9223372036854775807) (K : Nat) (r : Bool)
  (hf : ∀ k : Nat,K ≤ k → yC.l1 k 0 o s a xs o' s' b ys = some r) :
  ∀ (n i : Nat),i + n = a.length → ∀ k : Nat,n + 1 + K ≤ k → yC.l0 k i o s a xs o' s' b ys = some (decide (a.drop i = b.drop i) && r):=by
 intro n
 induction n with
 | zero =>
  intro i hi k hk
  obtain ⟨k,rfl⟩ : ∃ m,k = m + 1:=⟨k - 1,by omega⟩
  simp only [yC.l0]
  rw [if_neg (by omega),List.drop_eq_nil_of_le (by omega),List.drop_eq_nil_of_le (by omega),hf k (by omega)]
  simp
 | succ n ih =>
  intro i hi k hk
  obtain ⟨k,rfl⟩ : ∃ m,k = m + 1:=⟨k - 1,by omega⟩
  have hia : i < a.length:=by omega
  have hib : i < b.length:=by omega
  have ra : rd a (i : Int) = a[i]:=by unfold rd; rw [Int.toNat_natCast,List.getD_eq_getElem?_getD,List.getElem?_eq_getElem hia]; rfl
  have rb : rd b (i : Int) = b[i]:=by unfold rd; rw [Int.toNat_natCast,List.getD_eq_getElem?_getD,List.getElem?_eq_getElem hib]; rfl
  have hn:=ih (i + 1) (by omega) k (by omega)
  rw [show ((i + 1 : Nat) : Int) = (i : Int) + 1 by omega] at hn
  simp only [yC.l0]
  rw [if_pos (by omega),if_pos (by omega),if_pos (by omega),ra,rb,w64 (by omega) (by omega),hn,List.drop_eq_getElem_cons hia,List.drop_eq_getElem_cons hib]
  by_cases he : a[i] = b[i]
  ·
   rw [if_pos he]
   congr 2
   exact decide_eq_decide.2 ⟨fun h => by rw [he,h],fun h => (List.cons.inj h).2⟩
  ·
   rw [if_neg he,decide_eq_false (fun h => he (List.cons.inj h).1)]
   rfl
theorem refSame_f (N : Nat) : ∀ (x y : X),cnt x ≤ N → ∀ (w : World) (A2 : Option Addr) (c2 : Nat) (A3 : Option Addr) (c3 : Nat),Has w x A2 c2 A3 c3 → ∀ k : Nat,wt x ≤ k → yC.f k x.f0 x.f1 x.f2 x.f3 y.f0 y.f1 y.f2 y.f3 = some (sameX x y):=by
 induction N with
 | zero => intro x y hx; have:=sQ x; omega
 | succ N ih =>
  intro x y hN w A2 c2 A3 c3 hx k hk
  rw [wt_eq] at hk
  obtain ⟨k,rfl⟩ : ∃ m,k = m + 2:=⟨k - 2,by omega⟩
  have hT : ∀ r : Bool,(r = true → sameX x y = false) → r = true → yC.j0 (k + 1) r x.f0 x.f1 x.f2 x.f3 y.f0 y.f1 y.f2 y.f3 = some (sameX x y):=by
   intro r h hr
   simp only [yC.j0]
   rw [if_pos hr,h hr]
  simp only [yC.f]
  have hE:=sameX_eq x y
  by_cases h0 : x.f0 = y.f0
  ·
   rw [if_pos h0]
   rw [decide_eq_true h0,Bool.true_and] at hE
   by_cases h1 : x.f1.toList = y.f1.toList
   ·
    rw [if_pos h1]
    have h1' : eqB x.f1 y.f1 = true:=by unfold eqB; rw [← Lib.toList_data,← Lib.toList_data,h1]; exact beq_self_eq_true _
    rw [h1',Bool.true_and] at hE
    by_cases h2 : x.f2.length = y.f2.length
    ·
     rw [if_pos (by omega)]
     by_cases h3 : x.f3.length = y.f3.length
     ·
      rw [show ((x.f3.length : Int) != (y.f3.length : Int)) = false from bne_eq_false_iff_eq.2 (by omega)]
      simp only [yC.j0]
      rw [if_neg (by simp)]
      have hL:=refSame_l1 x.f0 x.f1 x.f2 x.f3 y.f0 y.f1 y.f2 y.f3 h3 hx.C3.2.1 (fun i hi hj m hm => by
       obtain ⟨ad,B2,d2,B3,d3,_,_,_,_,_,hc⟩:=child_at hx i hi
       exact ih x.f3[i] y.f3[i] (by have:=lS (List.getElem_mem hi); omega) w B2 d2 B3 d3 hc m hm) x.f3.length 0 (by omega)
      rw [List.drop_zero,List.drop_zero] at hL
      have h0':=refSame_l0 x.f0 x.f1 x.f2 x.f3 y.f0 y.f1 y.f2 y.f3 h2 hx.C2.2.1 (wtL x.f3 + 1) _ hL x.f2.length 0 (by omega) k (by omega)
      rw [List.drop_zero,List.drop_zero] at h0'
      rw [hE]
      exact h0'
     · exact hT _ (fun _ => by rw [hE,sameL_len h3,Bool.and_false]) (bne_iff_ne.2 (by omega))
    ·
     rw [if_neg (by omega)]
     exact hT true (fun _ => by rw [hE,decide_eq_false (fun h => h2 (by rw [h])),Bool.false_and]) rfl
   ·
    rw [if_neg h1]
    exact hT true (fun _ => by
     have h1' : eqB x.f1 y.f1 = false:=by
      rw [Bool.eq_false_iff]
      intro h
      exact h1 (by rw [(eqB_iff _ _).1 h])
     rw [hE,h1',Bool.false_and,Bool.false_and]) rfl
  ·
   rw [if_neg h0]
   exact hT true (fun _ => by rw [hE,decide_eq_false h0,Bool.false_and,Bool.false_and,Bool.false_and]) rfl
mutual
theorem same_eq : ∀ x y : X,sameX x y = true → x = y
 | ⟨o,n,ns,xs⟩,⟨o',n',ns',xs'⟩,h => by
  rw [sameX] at h
  simp only [Bool.and_eq_true,decide_eq_true_eq] at h
  obtain ⟨⟨⟨h1,h2⟩,h3⟩,h4⟩:=h
  rw [h1,(eqB_iff _ _).1 h2,h3,sameL_eq xs xs' h4]
theorem sameL_eq : ∀ xs ys : List X,sameL xs ys = true → xs = ys
 | [],[],_ => rfl
 | [],_ :: _,h => by rw [sameL] at h; cases h
 | _ :: _,[],h => by rw [sameL] at h; cases h
 | y :: ys,z :: zs,h => by
  rw [dU,Bool.and_eq_true] at h
  rw [same_eq y z h.1,sameL_eq ys zs h.2]
end
mutual
theorem same_self : ∀ x : X,sameX x x = true
 | ⟨o,n,ns,xs⟩ => by
  rw [sameX,decide_eq_true rfl,decide_eq_true rfl,(eqB_iff n n).2 rfl,zXD xs]; rfl
theorem zXD : ∀ xs : List X,sameL xs xs = true
 | [] => by rw [sameL]
 | y :: ys => by rw [dU,same_self y,zXD ys]; rfl
end
theorem same_iff (x y : X) : sameX x y = true ↔ x = y:=⟨same_eq x y,fun h => h ▸ same_self x⟩
end Go.Proofs.YtjeofffddbibeaaDoor.Ex
end

section
namespace Go.Proofs.YtjeofffddbibeaaDoor.Pa
open Go Go.RowKit PParseTells Ex YtjeofffddbibeaaDoorW.PrintWords YtjeofffddbibeaaDoorW.PrintLast YtjeofffddbibeaaDoorW.PrintMore
abbrev kS : Kd ByteArray:=Kd.string
abbrev CT : TypeId:=54
abbrev cmA (c : Cmd) (A1 : Option Addr) (c1 : Nat) (A2 : Option Addr) (c2 : Nat) (A3 : Option Addr) (c3 : Nat) (A4 : Option Addr) (c4 : Nat) : Array Value :=
 #[.string c.word,.slice A1 c.names.length c1,.slice A2 c.nums.length c2,.int .i64 c.lo,.int .i64 c.hi,.bool c.hl,.bool c.hh,.int .u8 c.x.f0,.string c.x.f1,.slice A3 c.x.f2.length c3,.slice A4 c.x.f3.length c4]
structure HasC (w : World) (c : Cmd) (A1 : Option Addr) (c1 : Nat) (A2 : Option Addr) (c2 : Nat) (A3 : Option Addr) (c3 : Nat) (A4 : Option Addr) (c4 : Nat) : Prop where
 n1 : c.names.length ≤ c1
 C1 : kS.C w A1 c.names.length c.names
 n2 : c.nums.length ≤ c2
 C2 : kI.C w A2 c.nums.length c.nums
 has : Has w c.x A3 c3 A4 c4
 szs : ∀ s ∈ c.names,s.size ≤ 140737488351232
 ints : ∀ n ∈ c.nums,-9223372036854775808 ≤ n ∧ n ≤ 9223372036854775807
 lo64 : -9223372036854775808 ≤ c.lo ∧ c.lo ≤ 9223372036854775807
 hi64 : -9223372036854775808 ≤ c.hi ∧ c.hi ≤ 9223372036854775807
theorem HasC.below {w w' : World} {c : Cmd} {A1 : Option Addr} {c1 : Nat} {A2 : Option Addr} {c2 : Nat} {A3 : Option Addr} {c3 : Nat} {A4 : Option Addr} {c4 : Nat} (h : HasC w c A1 c1 A2 c2 A3 c3 A4 c4) (hb : Below w.heap.size w w') : HasC w' c A1 c1 A2 c2 A3 c3 A4 c4 :=
 ⟨h.n1,Kd.C_below h.C1 hb,h.n2,Kd.C_below h.C2 hb,h.has.below hb,h.szs,h.ints,h.lo64,h.hi64⟩
abbrev cmO (wd : ByteArray) (A1 : Option Addr) (N c1 : Nat) (A2 : Option Addr) (M c2 : Nat) (lo hi : Int) (hl hh : Bool) (o : Int) (nm : ByteArray) (A3 : Option Addr) (n3 c3 : Nat) (A4 : Option Addr) (n4 c4 : Nat) : Obj :=
 .cells #[.string wd,.slice A1 N c1,.slice A2 M c2,.int .i64 lo,.int .i64 hi,.bool hl,.bool hh,.int .u8 o,.string nm,.slice A3 n3 c3,.slice A4 n4 c4] CT
theorem cellsC {W : World} {j : Nat} {t : TypeId} {d0 d1 d2 d3 d4 d5 d6 d7 d8 d9 d10 : Value} (h : W.heap[j]? = some (.cells #[d0,d1,d2,d3,d4,d5,d6,d7,d8,d9,d10] t (0,0))) :
  W.cell? ⟨j,0,none⟩ = some d0 ∧ W.cell? ⟨j,1,none⟩ = some d1 ∧ W.cell? ⟨j,2,none⟩ = some d2 ∧ W.cell? ⟨j,3,none⟩ = some d3 ∧ W.cell? ⟨j,4,none⟩ = some d4 ∧ W.cell? ⟨j,5,none⟩ = some d5 ∧ W.cell? ⟨j,6,none⟩ = some d6 ∧ W.cell? ⟨j,7,none⟩ = some d7 ∧ W.cell? ⟨j,8,none⟩ = some d8 ∧ W.cell? ⟨j,9,none⟩ = some d9 ∧ W.cell? ⟨j,10,none⟩ = some d10 :=
 ⟨(zK h 0).trans rfl,(zK h 1).trans rfl,(zK h 2).trans rfl,(zK h 3).trans rfl,(zK h 4).trans rfl,(zK h 5).trans rfl,(zK h 6).trans rfl,(zK h 7).trans rfl,(zK h 8).trans rfl,(zK h 9).trans rfl,(zK h 10).trans rfl⟩
noncomputable def sameC (c d : Cmd) : Bool:=@decide (c = d) (Classical.propDecidable _)
theorem bW (c d : Cmd) : sameC c d = true ↔ c = d:=by unfold sameC; exact @decide_eq_true_iff _ (Classical.propDecidable _)
theorem sameC_no {c d : Cmd} (h : c ≠ d) : sameC c d = false:=by
 rw [← Bool.not_eq_true,bW]; exact h
end Go.Proofs.YtjeofffddbibeaaDoor.Pa
end
