/-
 Part 6 of what the row stands on,put together by a program: PParseTellsx2.
-/
import Derived.Test.YtjeofffddbibeaaDoorPmE
set_option linter.unusedVariables false
set_option linter.unusedSimpArgs false
section
namespace Go.Proofs.YtjeofffddbibeaaDoor.PParseTells
open Go.RowKit YtjeofffddbibeaaDoorW.PrintWords YtjeofffddbibeaaDoorW.PrintLast YtjeofffddbibeaaDoorW.PrintMore
attribute [local go_sem] tH tM tG tL tK tJ tN tI
mutual
def yC.j0 : Nat → Bool → Int → ByteArray → List Int → List (S25) → Int → ByteArray → List Int → List (S25) → Option (Bool)
 | 0,_,_,_,_,_,_,_,_,_ => none
 | k + 1,x36,mW,mV,pN,sF,jM,jL,mG,qH => if x36 = true then (some false) else (yC.l0 k 0 mW mV pN sF jM jL mG qH)
def yC.l0 : Nat → Int → Int → ByteArray → List Int → List (S25) → Int → ByteArray → List Int → List (S25) → Option (Bool)
 | 0,_,_,_,_,_,_,_,_,_ => none
 | k + 1,x5,mW,mV,pN,sF,jM,jL,mG,qH => if x5 < (pN.length : Int) then (if 0 ≤ x5 then (if x5 < (mG.length : Int) then (if (rd pN x5) = (rd mG x5) then (yC.l0 k (wrap64 (x5 + 1)) mW mV pN sF jM jL mG qH) else (some false)) else (none)) else (none)) else (yC.l1 k 0 mW mV pN sF jM jL mG qH)
def yC.l1 : Nat → Int → Int → ByteArray → List Int → List (S25) → Int → ByteArray → List Int → List (S25) → Option (Bool)
 | 0,_,_,_,_,_,_,_,_,_ => none
 | k + 1,x6,mW,mV,pN,sF,jM,jL,mG,qH => if x6 < (sF.length : Int) then (if 0 ≤ x6 then (if x6 < (qH.length : Int) then ((yC.f k ((yY sF x6).f0) ((yY sF x6).f1) ((yY sF x6).f2) ((yY sF x6).f3) ((yY qH x6).f0) ((yY qH x6).f1) ((yY qH x6).f2) ((yY qH x6).f3)).bind fun t107 => (if t107 = true then (yC.l1 k (wrap64 (x6 + 1)) mW mV pN sF jM jL mG qH) else (some false))) else (none)) else (none)) else (some true)
def yC.f : Nat → Int → ByteArray → List Int → List (S25) → Int → ByteArray → List Int → List (S25) → Option (Bool)
 | 0,_,_,_,_,_,_,_,_ => none
 | k + 1,zT,zB,zW,zL,xJ,vP,yB,wX => if zT = xJ then (if zB.toList = vP.toList then (if (zW.length : Int) = (yB.length : Int) then (yC.j0 k ((zL.length : Int) != (wX.length : Int)) zT zB zW zL xJ vP yB wX) else (yC.j0 k true zT zB zW zL xJ vP yB wX)) else (yC.j0 k true zT zB zW zL xJ vP yB wX)) else (yC.j0 k true zT zB zW zL xJ vP yB wX)
end
def yC.T6 : Bool × List (List Nat × List Nat):=(true,[([],[]),([0],[0]),([],[]),([1,2],[1,2]),([3],[3]),([],[]),([5],[5]),([],[]),([6,7],[6,7]),([8],[8]),([4,9],[4,9])])
def yC.B6 : List Nat:=[0,1,0,7,15,0,32,0,224,480,1023]
theorem yC.tab6 : rtab .any (opsOf Tryd.f28 6) = yC.T6:=by kernel_rfl
theorem yC.bits6 : waitsOk yC.T6.2 yC.B6 = true:=by kernel_rfl
def yC.T11 : Bool × List (List Nat × List Nat):=(true,[([],[]),([0],[0]),([],[]),([1,2],[1,2]),([3],[3]),([],[]),([5],[5]),([],[]),([6,7],[6,7]),([8],[8]),([4,9],[4,9]),([10],[10])])
def yC.B11 : List Nat:=[0,1,0,7,15,0,32,0,224,480,1023,2047]
theorem yC.tab11 : rtab .any (opsOf Tryd.f28 11) = yC.T11:=by kernel_rfl
theorem yC.bits11 : waitsOk yC.T11.2 yC.B11 = true:=by kernel_rfl
set_option maxHeartbeats 8000000 in
set_option maxRecDepth 100000 in
theorem yC.calls (k : Nat) : ∀ (zT : Int) (zB : ByteArray) (yR : Option Addr) (yS : Nat) (zW : List Int) (xK : Option Addr) (xR : Nat) (zL : List (S25)) (xJ : Int) (vP : ByteArray) (tV : Option Addr) (uB : Nat) (yB : List Int) (nT : Option Addr) (rF : Nat) (wX : List (S25)) (r : Bool) (w : World) (uW : Kd.C (Kd.int .i64) w yR zW.length zW) (uV : zW.length ≤ yS) (tF : Kd.C k25 w xK zL.length zL) (tE : zL.length ≤ xR) (jK : Kd.C (Kd.int .i64) w tV yB.length yB) (jJ : yB.length ≤ uB) (aU : Kd.C k25 w nT wX.length wX) (aT : wX.length ≤ rF) (h : yC.f k zT zB zW zL xJ vP yB wX = some r),
  Calls Tryd.prog 28 #[.agg #[.int .u8 zT,.string zB,.slice yR zW.length yS,.slice xK zL.length xR],.agg #[.int .u8 xJ,.string vP,.slice tV yB.length uB,.slice nT wX.length rF]] w fun e w' => e = .returned (.bool r) ∧ Below w.heap.size w w':=by
 induction k using Nat.strongRecOn with
 | _ k ih =>
 intro zT zB yR yS zW xK xR zL xJ vP tV uB yB nT rF wX r w uW uV tF tE jK jJ aU aT h
 cases k with
 | zero => exact absurd h (by simp [yC.f])
 | succ k =>
 simp only [yC.f] at h
 have hu25:=Tryd.underlying25
 have tA:=zZ.mk uW
 have rX:=zZ.mk uV
 clear uW uV
 have sV:=zZ.mk tF
 have qP:=zZ.mk tE
 clear tF tE
 have gA:=zZ.mk jK
 have zSN:=zZ.mk jJ
 clear jK jJ
 have zVG:=zZ.mk aU
 have HC1_3:=zZ.mk aT
 clear aU aT
 have HB:=zZ.mk (Below.refl w.heap.size w)
 have H : (if zT = xJ then (if zB.toList = vP.toList then (if (zW.length : Int) = (yB.length : Int) then (yC.j0 k ((zL.length : Int) != (wX.length : Int)) zT zB zW zL xJ vP yB wX) else (yC.j0 k true zT zB zW zL xJ vP yB wX)) else (yC.j0 k true zT zB zW zL xJ vP yB wX)) else (yC.j0 k true zT zB zW zL xJ vP yB wX)) = some r:=h
 clear h
 have HC3:=zZ.mk H
 clear H
 go_enter Tryd.func28,Tryd.ntmps28
 go_upto_region 1 with (first|((with_reducible refine uU (N:=2) rfl ?_); (try (refine sY (by rfl) ?_; dsimp only)); refine tY ?hg (N:=2) ?hd (cs:=#[.int .u8 zT,.string zB,.slice yR zW.length yS,.slice xK zL.length xR]) (t:=25) ?hr ?_; (case hd => rfl); (case hg => rfl); (case hr => first|(go_simp; done)|(go_simp; rfl)); intro vJ hg w4 hbox hb; have zS:=zZ.mk (xW (by repeat (first|(with_reducible first|exact HB.out|apply zY|apply zV|apply zU)|exact HB.out)) hb); have zO:=zZ.mk (hbox); have zI:=zZ.mk ((by rw [hg]; exact (xS (by repeat (first|(with_reducible first|exact HB.out|apply zY|apply zV|apply zU)|exact HB.out))) : w.heap.size ≤ vJ)); have xV:=zZ.mk ((by rw [hg]; exact (xS (by repeat (first|(with_reducible first|exact HB.out|apply zY|apply zV|apply zU)|exact HB.out))) : w.heap.size ≤ vJ)); clear HB; have HB:=zS; have xQ:=zO; have zTL:=zI; have tD:=xV; clear zS zO zI xV; clear hb hbox hg)|((with_reducible refine uU (N:=3) rfl ?_); (try (refine sY (by rfl) ?_; dsimp only)); refine tY ?hg (N:=3) ?hd (cs:=#[.int .u8 xJ,.string vP,.slice tV yB.length uB,.slice nT wX.length rF]) (t:=25) ?hr ?_; (case hd => rfl); (case hg => rfl); (case hr => first|(go_simp; done)|(go_simp; rfl)); intro uA hg w5 hbox hb; have zS:=zZ.mk (xX (g:=vJ) (o:=.cells #[.int .u8 zT,.string zB,.slice yR zW.length yS,.slice xK zL.length xR] 25 (0,0)) (by (with_reducible repeat (first|apply zN|apply zM|apply zR)); exact xQ.out) hb); have zO:=zZ.mk (xW (by repeat (first|(with_reducible first|exact HB.out|apply zY|apply zV|apply zU|refine zQ ?_ tD.out)|exact HB.out)) hb); have zI:=zZ.mk (hbox); have xV:=zZ.mk ((by rw [hg]; exact (xS (by repeat (first|(with_reducible first|exact HB.out|apply zY|apply zV|apply zU|refine zQ ?_ tD.out)|exact HB.out))) : w.heap.size ≤ uA)); have sU:=zZ.mk ((by rw [hg]; exact (xS (by repeat (first|(with_reducible first|exact HB.out|apply zY|apply zV|apply zU|refine zQ ?_ tD.out)|exact HB.out))) : w.heap.size ≤ uA)); have rT:=zZ.mk ((by rw [hg]; exact Nat.ne_of_lt (wT (g:=vJ) (o:=.cells #[.int .u8 zT,.string zB,.slice yR zW.length yS,.slice xK zL.length xR] 25 (0,0)) (by (with_reducible repeat (first|apply zN|apply zM|apply zR)); exact xQ.out)) : vJ ≠ uA)); have rS:=zZ.mk ((by rw [hg]; exact Nat.ne_of_gt (wT (g:=vJ) (o:=.cells #[.int .u8 zT,.string zB,.slice yR zW.length yS,.slice xK zL.length xR] 25 (0,0)) (by (with_reducible repeat (first|apply zN|apply zM|apply zR)); exact xQ.out)) : uA ≠ vJ)); clear xQ; clear HB; have xQ:=zS; have HB:=zO; have wU:=zI; have GW102:=xV; have rR:=sU; have oX:=rT; have oW:=rS; clear zS zO zI xV sU rT rS; clear hb hbox hg))
 (try simp only [Act.put,List.setIfInBounds_toArray,List.set_cons_zero,List.set_cons_succ])
 go_cut [36] (fun v36 wc => ∃ (kq : Nat) (cU : Bool),v36 = .bool cU ∧ zZ (yC.j0 kq cU zT zB zW zL xJ vP yB wX = some r) ∧ zZ (kq ≤ k) ∧ zZ (wc.heap[vJ]? = some (.cells #[.int .u8 zT,.string zB,(.slice yR zW.length yS),(.slice xK zL.length xR)] 25 (0,0))) ∧ zZ (wc.heap[uA]? = some (.cells #[.int .u8 xJ,.string vP,(.slice tV yB.length uB),(.slice nT wX.length rF)] 25 (0,0))) ∧ zZ (Below w.heap.size w wc))
 case first =>
  have H:=HC3.out
  clear HC3
  by_cases c6 : zT = xJ
  ·
   rw [if_pos c6] at H
   have c6b0 : (zT == xJ) = true:=beq_iff_eq.mpr c6
   have c6b1 : (zT != xJ) = false:=bne_eq_false_iff_eq.mpr c6
   clear c6
   (first|rw [c6b0]|(simp only [yV,yU]; rw [c6b0])|skip)
   by_cases c7 : zB.toList = vP.toList
   ·
    rw [if_pos c7] at H
    have c7b0 : (zB.toList == vP.toList) = true:=beq_iff_eq.mpr c7
    have c7b1 : (zB.toList != vP.toList) = false:=bne_eq_false_iff_eq.mpr c7
    clear c7
    by_cases c8 : (zW.length : Int) = (yB.length : Int)
    ·
     rw [if_pos c8] at H
     have c8b0 : ((zW.length : Int) == (yB.length : Int)) = true:=beq_iff_eq.mpr c8
     have c8b1 : ((zW.length : Int) != (yB.length : Int)) = false:=bne_eq_false_iff_eq.mpr c8
     have c8b2 : (zW.length == yB.length) = true:=by first|simpa using c8|(simp at c8 ⊢; omega)
     clear c8
     have H':=zZ.mk H
     clear H
     have hnb9:=oX.out
     have hnc9:=oW.out
     obtain ⟨mP,mO,mN,mM⟩:=kc4 xQ.out
     obtain ⟨oD,oC,oB,oA⟩:=kc4 wU.out
     go_wp2
     go_meet
     case rel => exact ⟨_,(((zL.length : Int) != (wX.length : Int))),(by first|rfl|(simp;done)|(simp [*];done)),H',⟨by first|omega|exact Nat.le_refl _⟩,⟨by (with_reducible repeat (first|apply zN|apply zM|apply zR)); exact xQ.out⟩,⟨by (with_reducible repeat (first|apply zN|apply zM|apply zR)); exact wU.out⟩,⟨by repeat (first|(with_reducible first|exact HB.out|apply zY|apply zV|apply zU|refine zQ ?_ tD.out|refine zQ ?_ rR.out)|exact HB.out)⟩⟩
    ·
     rw [if_neg c8] at H
     have c8b0 : ((zW.length : Int) == (yB.length : Int)) = false:=beq_eq_false_iff_ne.mpr c8
     have c8b1 : ((zW.length : Int) != (yB.length : Int)) = true:=bne_iff_ne.mpr c8
     have c8b2 : (zW.length == yB.length) = false:=by first|simpa using c8|(simp at c8 ⊢; omega)
     have H':=zZ.mk H
     clear H
     have hnb12:=oX.out
     have hnc12:=oW.out
     obtain ⟨jY,jX,jW,jV⟩:=kc4 xQ.out
     obtain ⟨jU,jT,jS,jR⟩:=kc4 wU.out
     go_wp2
     go_meet
     case rel => exact ⟨_,(true),(by first|rfl|(simp;done)|(simp [*];done)),H',⟨by first|omega|exact Nat.le_refl _⟩,⟨by (with_reducible repeat (first|apply zN|apply zM|apply zR)); exact xQ.out⟩,⟨by (with_reducible repeat (first|apply zN|apply zM|apply zR)); exact wU.out⟩,⟨by repeat (first|(with_reducible first|exact HB.out|apply zY|apply zV|apply zU|refine zQ ?_ tD.out|refine zQ ?_ rR.out)|exact HB.out)⟩⟩
   ·
    rw [if_neg c7] at H
    have c7b0 : (zB.toList == vP.toList) = false:=beq_eq_false_iff_ne.mpr c7
    have c7b1 : (zB.toList != vP.toList) = true:=bne_iff_ne.mpr c7
    have H':=zZ.mk H
    clear H
    have hnb15:=oX.out
    have hnc15:=oW.out
    obtain ⟨nS,nR,nQ,nP⟩:=kc4 xQ.out
    obtain ⟨jQ,jP,jO,jN⟩:=kc4 wU.out
    go_wp2
    go_meet
    case rel => exact ⟨_,(true),(by first|rfl|(simp;done)|(simp [*];done)),H',⟨by first|omega|exact Nat.le_refl _⟩,⟨by (with_reducible repeat (first|apply zN|apply zM|apply zR)); exact xQ.out⟩,⟨by (with_reducible repeat (first|apply zN|apply zM|apply zR)); exact wU.out⟩,⟨by repeat (first|(with_reducible first|exact HB.out|apply zY|apply zV|apply zU|refine zQ ?_ tD.out|refine zQ ?_ rR.out)|exact HB.out)⟩⟩
  ·
   rw [if_neg c6] at H
   have c6b0 : (zT == xJ) = false:=beq_eq_false_iff_ne.mpr c6
   have c6b1 : (zT != xJ) = true:=bne_iff_ne.mpr c6
   (first|rw [c6b0]|(simp only [yV,yU]; rw [c6b0])|skip)
   have H':=zZ.mk H
   clear H
   have hnb18:=oX.out
   have hnc18:=oW.out
   obtain ⟨pA,oZ,oY,nO⟩:=kc4 xQ.out
   obtain ⟨mK,mJ,mI,mH⟩:=kc4 wU.out
   go_wp2
   go_meet
   case rel => exact ⟨_,(true),(by first|rfl|(simp;done)|(simp [*];done)),H',⟨by first|omega|exact Nat.le_refl _⟩,⟨by (with_reducible repeat (first|apply zN|apply zM|apply zR)); exact xQ.out⟩,⟨by (with_reducible repeat (first|apply zN|apply zM|apply zR)); exact wU.out⟩,⟨by repeat (first|(with_reducible first|exact HB.out|apply zY|apply zV|apply zU|refine zQ ?_ tD.out|refine zQ ?_ rR.out)|exact HB.out)⟩⟩
 case rest =>
  clear HC3
  try clear c1
  try clear c2
  try clear p2
  try clear c6
  try clear c6b0
  try clear c6b1
  try clear c7
  try clear c7b0
  try clear c7b1
  try clear c8
  try clear c8b0
  try clear c8b1
  try clear c8b2
  try clear c9
  try clear c12
  try clear c15
  try clear c18
  try clear mP mO mN mM
  try clear oD oC oB oA
  try clear jY jX jW jV
  try clear jU jT jS jR
  try clear nS nR nQ nP
  try clear jQ jP jO jN
  try clear pA oZ oY nO
  try clear mK mJ mI mH
  obtain ⟨kq,cU,rfl,HA,HJ2,xQ,wU,HB⟩:=hcut
  cases kq with
  | zero => exact absurd HA.out (by simp [yC.j0])
  | succ kj2 =>
   have H:=HA.out
   clear HA
   simp only [yC.j0] at H
   by_cases c21 : cU = true
   ·
    subst c21
    have H1 : (some false) = some r:=by rw [if_pos rfl] at H; exact H
    clear H
    have H:=H1
    clear H1
    obtain rfl:=Option.some.inj H
    go_wp2
    go_ret
    exact ⟨by first|rfl|(simp [yG,yF] <;> rfl)|(simp [*,yG,yF] <;> rfl),by repeat (first|(with_reducible first|exact HB.out|apply zY|apply zV|apply zU|refine zQ ?_ tD.out|refine zQ ?_ rR.out)|exact HB.out)⟩
   ·
    replace c21:=Bool.eq_false_iff.mpr c21
    subst c21
    have H1 : (yC.l0 kj2 0 zT zB zW zL xJ vP yB wX) = some r:=by rw [if_neg (show ¬ (false = true) by decide)] at H; exact H
    clear H
    have H:=H1
    clear H1
    have H':=zZ.mk H
    clear H
    go_wp2
    go_loopg [5] kj2 (fun kq v5 w' => ∃ (yI : Int),v5 = .int .i64 yI ∧ zZ (yC.l0 kq yI zT zB zW zL xJ vP yB wX = some r) ∧ zZ (kq ≤ kj2) ∧ zZ (w'.heap[vJ]? = some (.cells #[.int .u8 zT,.string zB,(.slice yR zW.length yS),(.slice xK zL.length xR)] 25 (0,0))) ∧ zZ (w'.heap[uA]? = some (.cells #[.int .u8 xJ,.string vP,(.slice tV yB.length uB),(.slice nT wX.length rF)] 25 (0,0))) ∧ zZ (Below w.heap.size w w'))
    case atStart => exact ⟨(0),(by first|rfl|(simp;done)|(simp [*];done)),H',⟨Nat.le_refl _⟩,⟨by (with_reducible repeat (first|apply zN|apply zM|apply zR)); exact xQ.out⟩,⟨by (with_reducible repeat (first|apply zN|apply zM|apply zR)); exact wU.out⟩,⟨by repeat (first|(with_reducible first|exact HB.out|apply zY|apply zV|apply zU|refine zQ ?_ tD.out|refine zQ ?_ rR.out)|exact HB.out)⟩⟩
    case round =>
     clear H'
     try clear c1
     try clear c2
     try clear p2 p2
     try clear c6
     try clear c6b0
     try clear c6b1
     try clear c7
     try clear c7b0
     try clear c7b1
     try clear c8
     try clear c8b0
     try clear c8b1
     try clear c8b2
     try clear c9
     try clear c12
     try clear c15
     try clear c18
     try clear c21
     try clear mP mO mN mM
     try clear oD oC oB oA
     try clear jY jX jW jV
     try clear jU jT jS jR
     try clear nS nR nQ nP
     try clear jQ jP jO jN
     try clear pA oZ oY nO
     try clear mK mJ mI mH
     obtain ⟨yI,rfl,HA,HK2,xQ,wU,HB⟩:=hrel
     cases gk with
     | zero => exact absurd HA.out (by simp [yC.l0])
     | succ k2 =>
      have H:=HA.out
      clear HA
      simp only [yC.l0] at H
      by_cases c22 : yI < (zW.length : Int)
      ·
       rw [if_pos c22] at H
       have c22b0 : decide (yI < (zW.length : Int)) = true:=decide_eq_true c22
       clear c22
       by_cases c23 : 0 ≤ yI
       ·
        rw [if_pos c23] at H
        have c23b0 : decide (0 ≤ yI) = true:=decide_eq_true c23
        clear c23
        by_cases c24 : yI < (yB.length : Int)
        ·
         rw [if_pos c24] at H
         have c24b0 : decide (yI < (yB.length : Int)) = true:=decide_eq_true c24
         clear c24
         by_cases c25 : (rd zW yI) = (rd yB yI)
         ·
          rw [if_pos c25] at H
          have c25b0 : ((rd zW yI) == (rd yB yI)) = true:=beq_iff_eq.mpr c25
          have c25b1 : ((rd zW yI) != (rd yB yI)) = false:=bne_eq_false_iff_eq.mpr c25
          clear c25
          have H':=zZ.mk H
          clear H
          have hnb26:=oX.out
          have hnc26:=oW.out
          obtain ⟨mU,mT,mS,aQ⟩:=kc4 xQ.out
          try go_wp2
          have zS:=zZ.mk (zM xQ.out)
          have zO:=zZ.mk (zM wU.out)
          have zI:=zZ.mk (zU HB.out)
          clear xQ
          clear wU
          clear HB
          have xQ:=zS
          have wU:=zO
          have HB:=zI
          clear zS zO zI
          have p103 : 0 ≤ (yI : Int):=of_decide_eq_true (by first|(with_reducible assumption)|assumption)
          have q103 : yI < (zW.length : Int):=of_decide_eq_true (by first|(with_reducible assumption)|assumption)
          obtain ⟨ad103,e103,qT⟩:=Kd.at_int tA.out yI p103 q103
          have fZ:=qT
          cases e103
          replace qT:=(HB.out.cell (World.block_lt_of_cell? w _ qT)).trans qT
          replace p103:=eq_true p103
          replace q103:=eq_true q103
          have p104 : 0 ≤ (yI : Int):=of_decide_eq_true (by first|(with_reducible assumption)|assumption)
          have q104 : yI < (yB.length : Int):=of_decide_eq_true (by first|(with_reducible assumption)|assumption)
          obtain ⟨ad104,e104,qS⟩:=Kd.at_int gA.out yI p104 q104
          have fY:=qS
          cases e104
          replace qS:=(HB.out.cell (World.block_lt_of_cell? w _ qS)).trans qS
          replace p104:=eq_true p104
          replace q104:=eq_true q104
          refine oK (n:=11) (S:=fun w' => w'.cell? ⟨vJ,0,none⟩ = some (.int .u8 zT) ∧ w'.cell? ⟨vJ,1,none⟩ = some (.string zB) ∧ w'.cell? ⟨vJ,2,none⟩ = some (.slice (some ad103) zW.length yS) ∧ w'.cell? ⟨vJ,3,none⟩ = some (.slice xK zL.length xR) ∧ w'.cell? ⟨uA,0,none⟩ = some (.int .u8 xJ) ∧ w'.cell? ⟨uA,1,none⟩ = some (.string vP) ∧ w'.cell? ⟨uA,2,none⟩ = some (.slice (some ad104) yB.length uB) ∧ w'.cell? ⟨uA,3,none⟩ = some (.slice nT wX.length rF) ∧ w'.cell? (ad103.add (yI).toNat) = some (.int .i64 (rd zW yI)) ∧ w'.cell? (ad104.add (yI).toNat) = some (.int .i64 (rd yB yI))) (ds:=[]) #[false,false,false,false,false,false,false,false,false,false,false] (by kernel_rfl) rfl rfl ⟨(zK xQ.out 0).trans rfl,(zK xQ.out 1).trans rfl,(zK xQ.out 2).trans rfl,(zK xQ.out 3).trans rfl,(zK wU.out 0).trans rfl,(zK wU.out 1).trans rfl,(zK wU.out 2).trans rfl,(zK wU.out 3).trans rfl,((HB.out.cell (World.block_lt_of_cell? w _ fZ)).trans fZ),((HB.out.cell (World.block_lt_of_cell? w _ fY)).trans fY)⟩ (fun hHeld => ?_); refine lR yC.tab6 yC.bits6 (fun HT_ HW_ => ?_)
          generalize wr.drew = w28 at xQ wU HB qT qS hHeld ⊢
          refine xO (i:=0) (N:=some 44) (v:=?_) (a':=?_) #[true,false,false,false,false,false,false,false,false,false,false] rfl rfl (wL HT_.out (by kernel_rfl)) (fun _ _ _ h => h) (Or.inl ⟨by rfl,?_⟩) ?_ ?_
          rotate_left
          ·
           intro w'
           go_simp
           with_reducible rfl
          rotate_left
          ·
           simp only [Act.put,List.setIfInBounds_toArray,List.set_cons_zero,List.set_cons_succ,yV,yU]
           rfl
          refine xO (i:=2) (N:=some 46) (v:=?_) (a':=?_) #[true,false,true,false,false,false,false,false,false,false,false] rfl rfl (wL HT_.out (by kernel_rfl)) (fun _ _ _ h => h) (Or.inl ⟨by rfl,?_⟩) ?_ ?_
          rotate_left
          ·
           intro w'
           go_simp
           with_reducible rfl
          rotate_left
          ·
           simp only [Act.put,List.setIfInBounds_toArray,List.set_cons_zero,List.set_cons_succ,yV,yU]
           rfl
          refine xO (i:=5) (N:=some 49) (v:=?_) (a':=?_) #[true,false,true,false,false,true,false,false,false,false,false] rfl rfl (wL HT_.out (by kernel_rfl)) (fun _ _ _ h => h) (Or.inl ⟨by rfl,?_⟩) ?_ ?_
          rotate_left
          ·
           intro w'
           go_simp
           with_reducible rfl
          rotate_left
          ·
           simp only [Act.put,List.setIfInBounds_toArray,List.set_cons_zero,List.set_cons_succ,yV,yU]
           rfl
          refine xO (i:=7) (N:=some 51) (v:=?_) (a':=?_) #[true,false,true,false,false,true,false,true,false,false,false] rfl rfl (wL HT_.out (by kernel_rfl)) (fun _ _ _ h => h) (Or.inl ⟨by rfl,?_⟩) ?_ ?_
          rotate_left
          ·
           intro w'
           go_simp
           with_reducible rfl
          rotate_left
          ·
           simp only [Act.put,List.setIfInBounds_toArray,List.set_cons_zero,List.set_cons_succ,yV,yU]
           rfl
          refine take_ (i:=1) (N:=some 45) (v:=?_) (a':=?_) #[true,true,true,false,false,true,false,true,false,false,false] rfl rfl (tB HT_.out HW_.out (by kernel_rfl)) (fun _ _ _ h => h) (Or.inl ⟨by rfl,?_⟩) hHeld ?_ ?_
          rotate_left
          ·
           rintro w' ⟨s0,s1,s2,s3,s4,s5,s6,s7,s8,s9⟩
           go_simp
           with_reducible rfl
          rotate_left
          ·
           simp only [Act.put,List.setIfInBounds_toArray,List.set_cons_zero,List.set_cons_succ,yV,yU]
           rfl
          refine xO (i:=3) (N:=some 47) (v:=?_) (a':=?_) #[true,true,true,true,false,true,false,true,false,false,false] rfl rfl (wL HT_.out (by kernel_rfl)) (fun _ _ _ h => h) (Or.inl ⟨by rfl,?_⟩) ?_ ?_
          rotate_left
          ·
           intro w'
           go_simp
           with_reducible rfl
          rotate_left
          ·
           simp only [Act.put,List.setIfInBounds_toArray,List.set_cons_zero,List.set_cons_succ,yV,yU]
           rfl
          refine take_ (i:=4) (N:=some 48) (v:=?_) (a':=?_) #[true,true,true,true,true,true,false,true,false,false,false] rfl rfl (tB HT_.out HW_.out (by kernel_rfl)) (fun _ _ _ h => h) (Or.inl ⟨by rfl,?_⟩) hHeld ?_ ?_
          rotate_left
          ·
           rintro w' ⟨s0,s1,s2,s3,s4,s5,s6,s7,s8,s9⟩
           go_simp
           with_reducible rfl
          rotate_left
          ·
           simp only [Act.put,List.setIfInBounds_toArray,List.set_cons_zero,List.set_cons_succ,yV,yU]
           rfl
          refine take_ (i:=6) (N:=some 50) (v:=?_) (a':=?_) #[true,true,true,true,true,true,true,true,false,false,false] rfl rfl (tB HT_.out HW_.out (by kernel_rfl)) (fun _ _ _ h => h) (Or.inl ⟨by rfl,?_⟩) hHeld ?_ ?_
          rotate_left
          ·
           rintro w' ⟨s0,s1,s2,s3,s4,s5,s6,s7,s8,s9⟩
           go_simp
           with_reducible rfl
          rotate_left
          ·
           simp only [Act.put,List.setIfInBounds_toArray,List.set_cons_zero,List.set_cons_succ,yV,yU]
           rfl
          refine xO (i:=8) (N:=some 52) (v:=?_) (a':=?_) #[true,true,true,true,true,true,true,true,true,false,false] rfl rfl (wL HT_.out (by kernel_rfl)) (fun _ _ _ h => h) (Or.inl ⟨by rfl,?_⟩) ?_ ?_
          rotate_left
          ·
           intro w'
           go_simp
           with_reducible rfl
          rotate_left
          ·
           simp only [Act.put,List.setIfInBounds_toArray,List.set_cons_zero,List.set_cons_succ,yV,yU]
           rfl
          refine take_ (i:=9) (N:=some 53) (v:=?_) (a':=?_) #[true,true,true,true,true,true,true,true,true,true,false] rfl rfl (tB HT_.out HW_.out (by kernel_rfl)) (fun _ _ _ h => h) (Or.inl ⟨by rfl,?_⟩) hHeld ?_ ?_
          rotate_left
          ·
           rintro w' ⟨s0,s1,s2,s3,s4,s5,s6,s7,s8,s9⟩
           go_simp
           with_reducible rfl
          rotate_left
          ·
           simp only [Act.put,List.setIfInBounds_toArray,List.set_cons_zero,List.set_cons_succ,yV,yU]
           rfl
          refine xO (i:=10) (N:=some 54) (v:=?_) (a':=?_) #[true,true,true,true,true,true,true,true,true,true,true] rfl rfl (wL HT_.out (by kernel_rfl)) (fun _ _ _ h => h) (Or.inl ⟨by rfl,?_⟩) ?_ ?_
          rotate_left
          ·
           intro w'
           go_simp
           with_reducible rfl
          rotate_left
          ·
           simp only [Act.put,List.setIfInBounds_toArray,List.set_cons_zero,List.set_cons_succ,yV,yU]
           rfl
          refine done_ (lO HT_.out (by kernel_rfl)) ?_
          try go_wp2
          go_roundg k2
          case measure => have:=HJ2.out; have:=HK2.out; omega
          case rel => exact ⟨(wrap64 (yI + 1)),(by first|rfl|(simp;done)|(simp [*];done)),H',⟨by have:=HJ2.out; have:=HK2.out; omega⟩,⟨by (with_reducible repeat (first|apply zN|apply zM|apply zR)); exact xQ.out⟩,⟨by (with_reducible repeat (first|apply zN|apply zM|apply zR)); exact wU.out⟩,⟨by repeat (first|(with_reducible first|exact HB.out|apply zY|apply zV|apply zU|refine zQ ?_ tD.out|refine zQ ?_ rR.out)|exact HB.out)⟩⟩
         ·
          rw [if_neg c25] at H
          have c25b0 : ((rd zW yI) == (rd yB yI)) = false:=beq_eq_false_iff_ne.mpr c25
          have c25b1 : ((rd zW yI) != (rd yB yI)) = true:=bne_iff_ne.mpr c25
          obtain rfl:=Option.some.inj H
          have hnb29:=oX.out
          have hnc29:=oW.out
          obtain ⟨zSM,zSL,zSK,zSJ⟩:=kc4 xQ.out
          try go_wp2
          have zS:=zZ.mk (zM xQ.out)
          have zO:=zZ.mk (zM wU.out)
          have zI:=zZ.mk (zU HB.out)
          clear xQ
          clear wU
          clear HB
          have xQ:=zS
          have wU:=zO
          have HB:=zI
          clear zS zO zI
          have p103 : 0 ≤ (yI : Int):=of_decide_eq_true (by first|(with_reducible assumption)|assumption)
          have q103 : yI < (zW.length : Int):=of_decide_eq_true (by first|(with_reducible assumption)|assumption)
          obtain ⟨ad103,e103,qT⟩:=Kd.at_int tA.out yI p103 q103
          have fZ:=qT
          cases e103
          replace qT:=(HB.out.cell (World.block_lt_of_cell? w _ qT)).trans qT
          replace p103:=eq_true p103
          replace q103:=eq_true q103
          have p104 : 0 ≤ (yI : Int):=of_decide_eq_true (by first|(with_reducible assumption)|assumption)
          have q104 : yI < (yB.length : Int):=of_decide_eq_true (by first|(with_reducible assumption)|assumption)
          obtain ⟨ad104,e104,qS⟩:=Kd.at_int gA.out yI p104 q104
          have fY:=qS
          cases e104
          replace qS:=(HB.out.cell (World.block_lt_of_cell? w _ qS)).trans qS
          replace p104:=eq_true p104
          replace q104:=eq_true q104
          refine oK (n:=11) (S:=fun w' => w'.cell? ⟨vJ,0,none⟩ = some (.int .u8 zT) ∧ w'.cell? ⟨vJ,1,none⟩ = some (.string zB) ∧ w'.cell? ⟨vJ,2,none⟩ = some (.slice (some ad103) zW.length yS) ∧ w'.cell? ⟨vJ,3,none⟩ = some (.slice xK zL.length xR) ∧ w'.cell? ⟨uA,0,none⟩ = some (.int .u8 xJ) ∧ w'.cell? ⟨uA,1,none⟩ = some (.string vP) ∧ w'.cell? ⟨uA,2,none⟩ = some (.slice (some ad104) yB.length uB) ∧ w'.cell? ⟨uA,3,none⟩ = some (.slice nT wX.length rF) ∧ w'.cell? (ad103.add (yI).toNat) = some (.int .i64 (rd zW yI)) ∧ w'.cell? (ad104.add (yI).toNat) = some (.int .i64 (rd yB yI))) (ds:=[]) #[false,false,false,false,false,false,false,false,false,false,false] (by kernel_rfl) rfl rfl ⟨(zK xQ.out 0).trans rfl,(zK xQ.out 1).trans rfl,(zK xQ.out 2).trans rfl,(zK xQ.out 3).trans rfl,(zK wU.out 0).trans rfl,(zK wU.out 1).trans rfl,(zK wU.out 2).trans rfl,(zK wU.out 3).trans rfl,((HB.out.cell (World.block_lt_of_cell? w _ fZ)).trans fZ),((HB.out.cell (World.block_lt_of_cell? w _ fY)).trans fY)⟩ (fun hHeld => ?_); refine lR yC.tab6 yC.bits6 (fun HT_ HW_ => ?_)
          generalize wr.drew = w31 at xQ wU HB qT qS hHeld ⊢
          refine xO (i:=0) (N:=some 44) (v:=?_) (a':=?_) #[true,false,false,false,false,false,false,false,false,false,false] rfl rfl (wL HT_.out (by kernel_rfl)) (fun _ _ _ h => h) (Or.inl ⟨by rfl,?_⟩) ?_ ?_
          rotate_left
          ·
           intro w'
           go_simp
           with_reducible rfl
          rotate_left
          ·
           simp only [Act.put,List.setIfInBounds_toArray,List.set_cons_zero,List.set_cons_succ,yV,yU]
           rfl
          refine xO (i:=2) (N:=some 46) (v:=?_) (a':=?_) #[true,false,true,false,false,false,false,false,false,false,false] rfl rfl (wL HT_.out (by kernel_rfl)) (fun _ _ _ h => h) (Or.inl ⟨by rfl,?_⟩) ?_ ?_
          rotate_left
          ·
           intro w'
           go_simp
           with_reducible rfl
          rotate_left
          ·
           simp only [Act.put,List.setIfInBounds_toArray,List.set_cons_zero,List.set_cons_succ,yV,yU]
           rfl
          refine xO (i:=5) (N:=some 49) (v:=?_) (a':=?_) #[true,false,true,false,false,true,false,false,false,false,false] rfl rfl (wL HT_.out (by kernel_rfl)) (fun _ _ _ h => h) (Or.inl ⟨by rfl,?_⟩) ?_ ?_
          rotate_left
          ·
           intro w'
           go_simp
           with_reducible rfl
          rotate_left
          ·
           simp only [Act.put,List.setIfInBounds_toArray,List.set_cons_zero,List.set_cons_succ,yV,yU]
           rfl
          refine xO (i:=7) (N:=some 51) (v:=?_) (a':=?_) #[true,false,true,false,false,true,false,true,false,false,false] rfl rfl (wL HT_.out (by kernel_rfl)) (fun _ _ _ h => h) (Or.inl ⟨by rfl,?_⟩) ?_ ?_
          rotate_left
          ·
           intro w'
           go_simp
           with_reducible rfl
          rotate_left
          ·
           simp only [Act.put,List.setIfInBounds_toArray,List.set_cons_zero,List.set_cons_succ,yV,yU]
           rfl
          refine take_ (i:=1) (N:=some 45) (v:=?_) (a':=?_) #[true,true,true,false,false,true,false,true,false,false,false] rfl rfl (tB HT_.out HW_.out (by kernel_rfl)) (fun _ _ _ h => h) (Or.inl ⟨by rfl,?_⟩) hHeld ?_ ?_
          rotate_left
          ·
           rintro w' ⟨s0,s1,s2,s3,s4,s5,s6,s7,s8,s9⟩
           go_simp
           with_reducible rfl
          rotate_left
          ·
           simp only [Act.put,List.setIfInBounds_toArray,List.set_cons_zero,List.set_cons_succ,yV,yU]
           rfl
          refine xO (i:=3) (N:=some 47) (v:=?_) (a':=?_) #[true,true,true,true,false,true,false,true,false,false,false] rfl rfl (wL HT_.out (by kernel_rfl)) (fun _ _ _ h => h) (Or.inl ⟨by rfl,?_⟩) ?_ ?_
          rotate_left
          ·
           intro w'
           go_simp
           with_reducible rfl
          rotate_left
          ·
           simp only [Act.put,List.setIfInBounds_toArray,List.set_cons_zero,List.set_cons_succ,yV,yU]
           rfl
          refine take_ (i:=4) (N:=some 48) (v:=?_) (a':=?_) #[true,true,true,true,true,true,false,true,false,false,false] rfl rfl (tB HT_.out HW_.out (by kernel_rfl)) (fun _ _ _ h => h) (Or.inl ⟨by rfl,?_⟩) hHeld ?_ ?_
          rotate_left
          ·
           rintro w' ⟨s0,s1,s2,s3,s4,s5,s6,s7,s8,s9⟩
           go_simp
           with_reducible rfl
          rotate_left
          ·
           simp only [Act.put,List.setIfInBounds_toArray,List.set_cons_zero,List.set_cons_succ,yV,yU]
           rfl
          refine take_ (i:=6) (N:=some 50) (v:=?_) (a':=?_) #[true,true,true,true,true,true,true,true,false,false,false] rfl rfl (tB HT_.out HW_.out (by kernel_rfl)) (fun _ _ _ h => h) (Or.inl ⟨by rfl,?_⟩) hHeld ?_ ?_
          rotate_left
          ·
           rintro w' ⟨s0,s1,s2,s3,s4,s5,s6,s7,s8,s9⟩
           go_simp
           with_reducible rfl
          rotate_left
          ·
           simp only [Act.put,List.setIfInBounds_toArray,List.set_cons_zero,List.set_cons_succ,yV,yU]
           rfl
          refine xO (i:=8) (N:=some 52) (v:=?_) (a':=?_) #[true,true,true,true,true,true,true,true,true,false,false] rfl rfl (wL HT_.out (by kernel_rfl)) (fun _ _ _ h => h) (Or.inl ⟨by rfl,?_⟩) ?_ ?_
          rotate_left
          ·
           intro w'
           go_simp
           with_reducible rfl
          rotate_left
          ·
           simp only [Act.put,List.setIfInBounds_toArray,List.set_cons_zero,List.set_cons_succ,yV,yU]
           rfl
          refine take_ (i:=9) (N:=some 53) (v:=?_) (a':=?_) #[true,true,true,true,true,true,true,true,true,true,false] rfl rfl (tB HT_.out HW_.out (by kernel_rfl)) (fun _ _ _ h => h) (Or.inl ⟨by rfl,?_⟩) hHeld ?_ ?_
          rotate_left
          ·
           rintro w' ⟨s0,s1,s2,s3,s4,s5,s6,s7,s8,s9⟩
           go_simp
           with_reducible rfl
          rotate_left
          ·
           simp only [Act.put,List.setIfInBounds_toArray,List.set_cons_zero,List.set_cons_succ,yV,yU]
           rfl
          refine xO (i:=10) (N:=some 54) (v:=?_) (a':=?_) #[true,true,true,true,true,true,true,true,true,true,true] rfl rfl (wL HT_.out (by kernel_rfl)) (fun _ _ _ h => h) (Or.inl ⟨by rfl,?_⟩) ?_ ?_
          rotate_left
          ·
           intro w'
           go_simp
           with_reducible rfl
          rotate_left
          ·
           simp only [Act.put,List.setIfInBounds_toArray,List.set_cons_zero,List.set_cons_succ,yV,yU]
           rfl
          refine done_ (lO HT_.out (by kernel_rfl)) ?_
          try go_wp2
          go_ret
          exact ⟨by first|rfl|(simp [yG,yF] <;> rfl)|(simp [*,yG,yF] <;> rfl),by repeat (first|(with_reducible first|exact HB.out|apply zY|apply zV|apply zU|refine zQ ?_ tD.out|refine zQ ?_ rR.out)|exact HB.out)⟩
        ·
         rw [if_neg c24] at H
         exact absurd H (by simp)
       ·
        rw [if_neg c23] at H
        exact absurd H (by simp)
      ·
       rw [if_neg c22] at H
       have c22b0 : decide (yI < (zW.length : Int)) = false:=decide_eq_false c22
       clear c22
       have H':=zZ.mk H
       clear H
       have hnb32:=oX.out
       have hnc32:=oW.out
       obtain ⟨pG,pF,pE,fX⟩:=kc4 xQ.out
       go_wp2
       go_loopg [6] k2 (fun kq v6 w' => ∃ (yN : Int),v6 = .int .i64 yN ∧ zZ (yC.l1 kq yN zT zB zW zL xJ vP yB wX = some r) ∧ zZ (kq ≤ k2) ∧ zZ (w'.heap[vJ]? = some (.cells #[.int .u8 zT,.string zB,(.slice yR zW.length yS),(.slice xK zL.length xR)] 25 (0,0))) ∧ zZ (w'.heap[uA]? = some (.cells #[.int .u8 xJ,.string vP,(.slice tV yB.length uB),(.slice nT wX.length rF)] 25 (0,0))) ∧ zZ (Below w.heap.size w w'))
       case atStart => exact ⟨(0),(by first|rfl|(simp;done)|(simp [*];done)),H',⟨Nat.le_refl _⟩,⟨by (with_reducible repeat (first|apply zN|apply zM|apply zR)); exact xQ.out⟩,⟨by (with_reducible repeat (first|apply zN|apply zM|apply zR)); exact wU.out⟩,⟨by repeat (first|(with_reducible first|exact HB.out|apply zY|apply zV|apply zU|refine zQ ?_ tD.out|refine zQ ?_ rR.out)|exact HB.out)⟩⟩
       case round =>
        clear H'
        try clear c1
        try clear p1
        try clear q1
        try clear hx1
        try clear c2
        try clear p2 p2
        try clear c3
        try clear c6
        try clear c6b0
        try clear c6b1
        try clear p6
        try clear c7
        try clear c7b0
        try clear c7b1
        try clear c8
        try clear c8b0
        try clear c8b1
        try clear c8b2
        try clear c9
        try clear p10
        try clear q10
        try clear hx10
        try clear c12
        try clear c15
        try clear c18
        try clear c21
        try clear c22
        try clear c22b0
        try clear c23
        try clear c23b0
        try clear c24
        try clear c24b0
        try clear c25
        try clear c25b0
        try clear c25b1
        try clear c26
        try clear c29
        try clear c32
        try clear mP mO mN mM
        try clear oD oC oB oA
        try clear jY jX jW jV
        try clear jU jT jS jR
        try clear nS nR nQ nP
        try clear jQ jP jO jN
        try clear pA oZ oY nO
        try clear mK mJ mI mH
        try clear mU mT mS aQ
        try clear zSM zSL zSK zSJ
        try clear pG pF pE fX
        try clear qT
        try clear qS
        try clear p103
        try clear p104
        try clear q103
        try clear q104
        obtain ⟨yN,rfl,HA,HK3,xQ,wU,HB⟩:=hrel
        cases gk with
        | zero => exact absurd HA.out (by simp [yC.l1])
        | succ k3 =>
         have H:=HA.out
         clear HA
         simp only [yC.l1] at H
         by_cases c34 : yN < (zL.length : Int)
         ·
          rw [if_pos c34] at H
          have c34b0 : decide (yN < (zL.length : Int)) = true:=decide_eq_true c34
          clear c34
          by_cases c35 : 0 ≤ yN
          ·
           rw [if_pos c35] at H
           have c35b0 : decide (0 ≤ yN) = true:=decide_eq_true c35
           clear c35
           by_cases c36 : yN < (wX.length : Int)
           ·
            rw [if_pos c36] at H
            have c36b0 : decide (yN < (wX.length : Int)) = true:=decide_eq_true c36
            clear c36
            replace H:=Option.bind_eq_some_iff.mp H
            obtain ⟨t107,A370,H⟩:=H
            replace H : (if t107 = true then (yC.l1 k3 (wrap64 (yN + 1)) zT zB zW zL xJ vP yB wX) else (some false)) = some r:=H
            have A37:=zZ.mk A370
            clear A370
            by_cases c38 : t107 = true
            ·
             subst c38
             have H1 : (yC.l1 k3 (wrap64 (yN + 1)) zT zB zW zL xJ vP yB wX) = some r:=by rw [if_pos rfl] at H; exact H
             clear H
             have H:=H1
             clear H1
             have H':=zZ.mk H
             clear H
             have hnb39:=oX.out
             have hnc39:=oW.out
             obtain ⟨zVF,zVE,zVD,zVC⟩:=kc4 xQ.out
             try go_wp2
             have zS:=zZ.mk (zM xQ.out)
             have zO:=zZ.mk (zM wU.out)
             have zI:=zZ.mk (zU HB.out)
             clear xQ
             clear wU
             clear HB
             have xQ:=zS
             have wU:=zO
             have HB:=zI
             clear zS zO zI
             have p105 : 0 ≤ (yN : Int):=of_decide_eq_true (by first|(with_reducible assumption)|assumption)
             have q105 : yN < (zL.length : Int):=of_decide_eq_true (by first|(with_reducible assumption)|assumption)
             obtain ⟨ad105,oJ,oI,oH,oG,e105,sP,sO,sM,sL,qO,qN,qM,qL⟩:=rK sV.out yN p105 q105
             have nN:=sL
             have nL:=sM
             have nK:=sO
             have nJ:=sP
             cases e105
             replace sP:=(HB.out.cell (World.block_lt_of_cell? w _ sP)).trans sP
             replace sO:=(HB.out.cell (World.block_lt_of_cell? w _ sO)).trans sO
             replace sM:=(HB.out.cell (World.block_lt_of_cell? w _ sM)).trans sM
             replace sL:=(HB.out.cell (World.block_lt_of_cell? w _ sL)).trans sL
             have oF:=zZ.mk qN
             have lK:=zZ.mk qO
             clear qN qO
             have oE:=zZ.mk qL
             have lJ:=zZ.mk qM
             clear qL qM
             replace p105:=eq_true p105
             replace q105:=eq_true q105
             have p106 : 0 ≤ (yN : Int):=of_decide_eq_true (by first|(with_reducible assumption)|assumption)
             have q106 : yN < (wX.length : Int):=of_decide_eq_true (by first|(with_reducible assumption)|assumption)
             obtain ⟨ad106,fW,fV,fU,fT,e106,qG,qF,qE,qD,fS,fR,fQ,fP⟩:=rK zVG.out yN p106 q106
             have nI:=qD
             have nH:=qE
             have nG:=qF
             have nF:=qG
             cases e106
             replace qG:=(HB.out.cell (World.block_lt_of_cell? w _ qG)).trans qG
             replace qF:=(HB.out.cell (World.block_lt_of_cell? w _ qF)).trans qF
             replace qE:=(HB.out.cell (World.block_lt_of_cell? w _ qE)).trans qE
             replace qD:=(HB.out.cell (World.block_lt_of_cell? w _ qD)).trans qD
             have fO:=zZ.mk fR
             have aN:=zZ.mk fS
             clear fR fS
             have fN:=zZ.mk fP
             have aM:=zZ.mk fQ
             clear fP fQ
             replace p106:=eq_true p106
             replace q106:=eq_true q106
             refine oK (n:=12) (S:=fun w' => w'.cell? ⟨vJ,0,none⟩ = some (.int .u8 zT) ∧ w'.cell? ⟨vJ,1,none⟩ = some (.string zB) ∧ w'.cell? ⟨vJ,2,none⟩ = some (.slice yR zW.length yS) ∧ w'.cell? ⟨vJ,3,none⟩ = some (.slice (some ad105) zL.length xR) ∧ w'.cell? ⟨uA,0,none⟩ = some (.int .u8 xJ) ∧ w'.cell? ⟨uA,1,none⟩ = some (.string vP) ∧ w'.cell? ⟨uA,2,none⟩ = some (.slice tV yB.length uB) ∧ w'.cell? ⟨uA,3,none⟩ = some (.slice (some ad106) wX.length rF) ∧ w'.cell? (ad105.add ((yN).toNat * 4)) = some (.int .u8 ((yY zL yN).f0)) ∧ w'.cell? ⟨(ad105.add ((yN).toNat * 4)).block,(ad105.add ((yN).toNat * 4)).off + 1,none⟩ = some (.string ((yY zL yN).f1)) ∧ w'.cell? ⟨(ad105.add ((yN).toNat * 4)).block,(ad105.add ((yN).toNat * 4)).off + 2,none⟩ = some (.slice oJ ((yY zL yN).f2).length oI) ∧ w'.cell? ⟨(ad105.add ((yN).toNat * 4)).block,(ad105.add ((yN).toNat * 4)).off + 3,none⟩ = some (.slice oH ((yY zL yN).f3).length oG) ∧ w'.cell? (ad106.add ((yN).toNat * 4)) = some (.int .u8 ((yY wX yN).f0)) ∧ w'.cell? ⟨(ad106.add ((yN).toNat * 4)).block,(ad106.add ((yN).toNat * 4)).off + 1,none⟩ = some (.string ((yY wX yN).f1)) ∧ w'.cell? ⟨(ad106.add ((yN).toNat * 4)).block,(ad106.add ((yN).toNat * 4)).off + 2,none⟩ = some (.slice fW ((yY wX yN).f2).length fV) ∧ w'.cell? ⟨(ad106.add ((yN).toNat * 4)).block,(ad106.add ((yN).toNat * 4)).off + 3,none⟩ = some (.slice fU ((yY wX yN).f3).length fT)) (ds:=[]) #[false,false,false,false,false,false,false,false,false,false,false,false] (by kernel_rfl) rfl rfl ⟨(zK xQ.out 0).trans rfl,(zK xQ.out 1).trans rfl,(zK xQ.out 2).trans rfl,(zK xQ.out 3).trans rfl,(zK wU.out 0).trans rfl,(zK wU.out 1).trans rfl,(zK wU.out 2).trans rfl,(zK wU.out 3).trans rfl,((HB.out.cell (World.block_lt_of_cell? w _ nJ)).trans nJ),((HB.out.cell (World.block_lt_of_cell? w _ nK)).trans nK),((HB.out.cell (World.block_lt_of_cell? w _ nL)).trans nL),((HB.out.cell (World.block_lt_of_cell? w _ nN)).trans nN),((HB.out.cell (World.block_lt_of_cell? w _ nF)).trans nF),((HB.out.cell (World.block_lt_of_cell? w _ nG)).trans nG),((HB.out.cell (World.block_lt_of_cell? w _ nH)).trans nH),((HB.out.cell (World.block_lt_of_cell? w _ nI)).trans nI)⟩ (fun hHeld => ?_); refine lR yC.tab11 yC.bits11 (fun HT_ HW_ => ?_)
             generalize wr.drew = w41 at xQ wU HB oF oE fO fN sP sO sM sL qG qF qE qD hHeld ⊢
             refine xO (i:=0) (N:=some 62) (v:=?_) (a':=?_) #[true,false,false,false,false,false,false,false,false,false,false,false] rfl rfl (wL HT_.out (by kernel_rfl)) (fun _ _ _ h => h) (Or.inl ⟨by rfl,?_⟩) ?_ ?_
             rotate_left
             ·
              intro w'
              go_simp
              with_reducible rfl
             rotate_left
             ·
              simp only [Act.put,List.setIfInBounds_toArray,List.set_cons_zero,List.set_cons_succ,yV,yU]
              rfl
             refine xO (i:=2) (N:=some 64) (v:=?_) (a':=?_) #[true,false,true,false,false,false,false,false,false,false,false,false] rfl rfl (wL HT_.out (by kernel_rfl)) (fun _ _ _ h => h) (Or.inl ⟨by rfl,?_⟩) ?_ ?_
             rotate_left
             ·
              intro w'
              go_simp
              with_reducible rfl
             rotate_left
             ·
              simp only [Act.put,List.setIfInBounds_toArray,List.set_cons_zero,List.set_cons_succ,yV,yU]
              rfl
             refine xO (i:=5) (N:=some 67) (v:=?_) (a':=?_) #[true,false,true,false,false,true,false,false,false,false,false,false] rfl rfl (wL HT_.out (by kernel_rfl)) (fun _ _ _ h => h) (Or.inl ⟨by rfl,?_⟩) ?_ ?_
             rotate_left
             ·
              intro w'
              go_simp
              with_reducible rfl
             rotate_left
             ·
              simp only [Act.put,List.setIfInBounds_toArray,List.set_cons_zero,List.set_cons_succ,yV,yU]
              rfl
             refine xO (i:=7) (N:=some 69) (v:=?_) (a':=?_) #[true,false,true,false,false,true,false,true,false,false,false,false] rfl rfl (wL HT_.out (by kernel_rfl)) (fun _ _ _ h => h) (Or.inl ⟨by rfl,?_⟩) ?_ ?_
             rotate_left
             ·
              intro w'
              go_simp
              with_reducible rfl
             rotate_left
             ·
              simp only [Act.put,List.setIfInBounds_toArray,List.set_cons_zero,List.set_cons_succ,yV,yU]
              rfl
             refine take_ (i:=1) (N:=some 63) (v:=?_) (a':=?_) #[true,true,true,false,false,true,false,true,false,false,false,false] rfl rfl (tB HT_.out HW_.out (by kernel_rfl)) (fun _ _ _ h => h) (Or.inl ⟨by rfl,?_⟩) hHeld ?_ ?_
             rotate_left
             ·
              rintro w' ⟨s0,s1,s2,s3,s4,s5,s6,s7,s8,s9,s10,s11,s12,s13,s14,s15⟩
              go_simp
              with_reducible rfl
             rotate_left
             ·
              simp only [Act.put,List.setIfInBounds_toArray,List.set_cons_zero,List.set_cons_succ,yV,yU]
              rfl
             refine xO (i:=3) (N:=some 65) (v:=?_) (a':=?_) #[true,true,true,true,false,true,false,true,false,false,false,false] rfl rfl (wL HT_.out (by kernel_rfl)) (fun _ _ _ h => h) (Or.inl ⟨by rfl,?_⟩) ?_ ?_
             rotate_left
             ·
              intro w'
              go_simp
              with_reducible rfl
             rotate_left
             ·
              simp only [Act.put,List.setIfInBounds_toArray,List.set_cons_zero,List.set_cons_succ,yV,yU]
              rfl
             refine take_ (i:=4) (N:=some 66) (v:=?_) (a':=?_) #[true,true,true,true,true,true,false,true,false,false,false,false] rfl rfl (tB HT_.out HW_.out (by kernel_rfl)) (fun _ _ _ h => h) (Or.inl ⟨by rfl,?_⟩) hHeld ?_ ?_
             rotate_left
             ·
              rintro w' ⟨s0,s1,s2,s3,s4,s5,s6,s7,s8,s9,s10,s11,s12,s13,s14,s15⟩
              go_simp
              with_reducible rfl
             rotate_left
             ·
              simp only [Act.put,List.setIfInBounds_toArray,List.set_cons_zero,List.set_cons_succ,yV,yU]
              rfl
             refine take_ (i:=6) (N:=some 68) (v:=?_) (a':=?_) #[true,true,true,true,true,true,true,true,false,false,false,false] rfl rfl (tB HT_.out HW_.out (by kernel_rfl)) (fun _ _ _ h => h) (Or.inl ⟨by rfl,?_⟩) hHeld ?_ ?_
             rotate_left
             ·
              rintro w' ⟨s0,s1,s2,s3,s4,s5,s6,s7,s8,s9,s10,s11,s12,s13,s14,s15⟩
              go_simp
              with_reducible rfl
             rotate_left
             ·
              simp only [Act.put,List.setIfInBounds_toArray,List.set_cons_zero,List.set_cons_succ,yV,yU]
              rfl
             refine xO (i:=8) (N:=some 70) (v:=?_) (a':=?_) #[true,true,true,true,true,true,true,true,true,false,false,false] rfl rfl (wL HT_.out (by kernel_rfl)) (fun _ _ _ h => h) (Or.inl ⟨by rfl,?_⟩) ?_ ?_
             rotate_left
             ·
              intro w'
              go_simp
              with_reducible rfl
             rotate_left
             ·
              simp only [Act.put,List.setIfInBounds_toArray,List.set_cons_zero,List.set_cons_succ,yV,yU]
              rfl
             refine take_ (i:=9) (N:=some 71) (v:=?_) (a':=?_) #[true,true,true,true,true,true,true,true,true,true,false,false] rfl rfl (tB HT_.out HW_.out (by kernel_rfl)) (fun _ _ _ h => h) (Or.inl ⟨by rfl,?_⟩) hHeld ?_ ?_
             rotate_left
             ·
              rintro w' ⟨s0,s1,s2,s3,s4,s5,s6,s7,s8,s9,s10,s11,s12,s13,s14,s15⟩
              go_simp
              with_reducible rfl
             rotate_left
             ·
              simp only [Act.put,List.setIfInBounds_toArray,List.set_cons_zero,List.set_cons_succ,yV,yU]
              rfl
             refine one_ (i:=10) (N:=some 72) #[true,true,true,true,true,true,true,true,true,true,true,false] rfl rfl (kV HT_.out (by kernel_rfl)) (by decide) (fun K hK => ?_)
             refine goes_ Tryd.func28 (by kernel_rfl) rfl #[.agg #[.int .u8 ((yY zL yN).f0),.string ((yY zL yN).f1),.slice oJ ((yY zL yN).f2).length oI,.slice oH ((yY zL yN).f3).length oG],.agg #[.int .u8 ((yY wX yN).f0),.string ((yY wX yN).f1),.slice fW ((yY wX yN).f2).length fV,.slice fU ((yY wX yN).f3).length fT]] (by rfl) rfl rfl (by (try simp only [List.map_toArray,List.map_cons,List.map_nil]); first|done|rfl|(simp only [List.length_drop,List.length_take]; rfl)) ?_
             with_reducible refine (ih k3 (by have:=HJ2.out; have:=HK2.out; have:=HK3.out; omega) ((yY zL yN).f0) ((yY zL yN).f1) _ _ ((yY zL yN).f2) _ _ ((yY zL yN).f3) ((yY wX yN).f0) ((yY wX yN).f1) _ _ ((yY wX yN).f2) _ _ ((yY wX yN).f3) true _ ?side1 ?side2 ?side3 ?side4 ?side5 ?side6 ?side7 ?side8 A37.out).mono ?_
             (case side1 => repeat (first|exact (Kd.C_below oF.out HB.out)|(with_reducible refine Kd.C_alloc ?_ _)|(with_reducible refine Kd.C_drewN ?_ _)|(with_reducible refine Kd.C_drew ?_)))
             (case side2 => exact lK.out)
             (case side3 => repeat (first|exact (Kd.C_below oE.out HB.out)|(with_reducible refine Kd.C_alloc ?_ _)|(with_reducible refine Kd.C_drewN ?_ _)|(with_reducible refine Kd.C_drew ?_)))
             (case side4 => exact lJ.out)
             (case side5 => repeat (first|exact (Kd.C_below fO.out HB.out)|(with_reducible refine Kd.C_alloc ?_ _)|(with_reducible refine Kd.C_drewN ?_ _)|(with_reducible refine Kd.C_drew ?_)))
             (case side6 => exact aN.out)
             (case side7 => repeat (first|exact (Kd.C_below fN.out HB.out)|(with_reducible refine Kd.C_alloc ?_ _)|(with_reducible refine Kd.C_drewN ?_ _)|(with_reducible refine Kd.C_drew ?_)))
             (case side8 => exact aM.out)
             rintro e w42 ⟨rfl,hb⟩
             refine ⟨_,rfl,?_⟩
             have zS:=zZ.mk (xX (g:=vJ) (o:=.cells #[.int .u8 zT,.string zB,.slice yR zW.length yS,.slice (some ad105) zL.length xR] 25 (0,0)) (by (with_reducible repeat (first|apply zN|apply zM|apply zR)); exact xQ.out) hb)
             have zO:=zZ.mk (xX (g:=uA) (o:=.cells #[.int .u8 xJ,.string vP,.slice tV yB.length uB,.slice (some ad106) wX.length rF] 25 (0,0)) (by (with_reducible repeat (first|apply zN|apply zM|apply zR)); exact wU.out) hb)
             have zI:=zZ.mk (xW (by repeat (first|(with_reducible first|exact HB.out|apply zY|apply zV|apply zU|refine zQ ?_ tD.out|refine zQ ?_ rR.out)|exact HB.out)) hb)
             clear xQ
             clear wU
             clear HB
             have xQ:=zS
             have wU:=zO
             have HB:=zI
             clear zS zO zI
             (try clear hb)
             (try clear hb2)
             (try clear hk)
             (try clear hi)
             refine hK.out _ _ ⟨(zK xQ.out 0).trans rfl,(zK xQ.out 1).trans rfl,(zK xQ.out 2).trans rfl,(zK xQ.out 3).trans rfl,(zK wU.out 0).trans rfl,(zK wU.out 1).trans rfl,(zK wU.out 2).trans rfl,(zK wU.out 3).trans rfl,((HB.out.cell (World.block_lt_of_cell? w _ nJ)).trans nJ),((HB.out.cell (World.block_lt_of_cell? w _ nK)).trans nK),((HB.out.cell (World.block_lt_of_cell? w _ nL)).trans nL),((HB.out.cell (World.block_lt_of_cell? w _ nN)).trans nN),((HB.out.cell (World.block_lt_of_cell? w _ nF)).trans nF),((HB.out.cell (World.block_lt_of_cell? w _ nG)).trans nG),((HB.out.cell (World.block_lt_of_cell? w _ nH)).trans nH),((HB.out.cell (World.block_lt_of_cell? w _ nI)).trans nI)⟩ (fun hHeld => ?_)
             clear hK K
             refine sI (a':=?_) ?_ ?_
             rotate_left
             ·
              show Act.put _ (some 72) _ = _
              simp only [Act.put,List.setIfInBounds_toArray,List.set_cons_zero,List.set_cons_succ,yV,yU]
              rfl
             refine xO (i:=11) (N:=some 73) (v:=?_) (a':=?_) #[true,true,true,true,true,true,true,true,true,true,true,true] rfl rfl (wL HT_.out (by kernel_rfl)) (fun _ _ _ h => h) (Or.inl ⟨by rfl,?_⟩) ?_ ?_
             rotate_left
             ·
              intro w'
              go_simp
              with_reducible rfl
             rotate_left
             ·
              simp only [Act.put,List.setIfInBounds_toArray,List.set_cons_zero,List.set_cons_succ,yV,yU]
              rfl
             refine done_ (lO HT_.out (by kernel_rfl)) ?_
             try go_wp2
             go_roundg k3
             case measure => have:=HJ2.out; have:=HK2.out; have:=HK3.out; omega
             case rel => exact ⟨(wrap64 (yN + 1)),(by first|rfl|(simp;done)|(simp [*];done)),H',⟨by have:=HJ2.out; have:=HK2.out; have:=HK3.out; omega⟩,⟨by (with_reducible repeat (first|apply zN|apply zM|apply zR)); exact xQ.out⟩,⟨by (with_reducible repeat (first|apply zN|apply zM|apply zR)); exact wU.out⟩,⟨by repeat (first|(with_reducible first|exact HB.out|apply zY|apply zV|apply zU|refine zQ ?_ tD.out|refine zQ ?_ rR.out)|exact HB.out)⟩⟩
            ·
             replace c38:=Bool.eq_false_iff.mpr c38
             subst c38
             have H1 : (some false) = some r:=by rw [if_neg (show ¬ (false = true) by decide)] at H; exact H
             clear H
             have H:=H1
             clear H1
             obtain rfl:=Option.some.inj H
             have hnb43:=oX.out
             have hnc43:=oW.out
             obtain ⟨aK,aJ,aI,aH⟩:=kc4 xQ.out
             try go_wp2
             have zS:=zZ.mk (zM xQ.out)
             have zO:=zZ.mk (zM wU.out)
             have zI:=zZ.mk (zU HB.out)
             clear xQ
             clear wU
             clear HB
             have xQ:=zS
             have wU:=zO
             have HB:=zI
             clear zS zO zI
             have p105 : 0 ≤ (yN : Int):=of_decide_eq_true (by first|(with_reducible assumption)|assumption)
             have q105 : yN < (zL.length : Int):=of_decide_eq_true (by first|(with_reducible assumption)|assumption)
             obtain ⟨ad105,oJ,oI,oH,oG,e105,sP,sO,sM,sL,qO,qN,qM,qL⟩:=rK sV.out yN p105 q105
             have nN:=sL
             have nL:=sM
             have nK:=sO
             have nJ:=sP
             cases e105
             replace sP:=(HB.out.cell (World.block_lt_of_cell? w _ sP)).trans sP
             replace sO:=(HB.out.cell (World.block_lt_of_cell? w _ sO)).trans sO
             replace sM:=(HB.out.cell (World.block_lt_of_cell? w _ sM)).trans sM
             replace sL:=(HB.out.cell (World.block_lt_of_cell? w _ sL)).trans sL
             have oF:=zZ.mk qN
             have lK:=zZ.mk qO
             clear qN qO
             have oE:=zZ.mk qL
             have lJ:=zZ.mk qM
             clear qL qM
             replace p105:=eq_true p105
             replace q105:=eq_true q105
             have p106 : 0 ≤ (yN : Int):=of_decide_eq_true (by first|(with_reducible assumption)|assumption)
             have q106 : yN < (wX.length : Int):=of_decide_eq_true (by first|(with_reducible assumption)|assumption)
             obtain ⟨ad106,fW,fV,fU,fT,e106,qG,qF,qE,qD,fS,fR,fQ,fP⟩:=rK zVG.out yN p106 q106
             have nI:=qD
             have nH:=qE
             have nG:=qF
             have nF:=qG
             cases e106
             replace qG:=(HB.out.cell (World.block_lt_of_cell? w _ qG)).trans qG
             replace qF:=(HB.out.cell (World.block_lt_of_cell? w _ qF)).trans qF
             replace qE:=(HB.out.cell (World.block_lt_of_cell? w _ qE)).trans qE
             replace qD:=(HB.out.cell (World.block_lt_of_cell? w _ qD)).trans qD
             have fO:=zZ.mk fR
             have aN:=zZ.mk fS
             clear fR fS
             have fN:=zZ.mk fP
             have aM:=zZ.mk fQ
             clear fP fQ
             replace p106:=eq_true p106
             replace q106:=eq_true q106
             refine oK (n:=12) (S:=fun w' => w'.cell? ⟨vJ,0,none⟩ = some (.int .u8 zT) ∧ w'.cell? ⟨vJ,1,none⟩ = some (.string zB) ∧ w'.cell? ⟨vJ,2,none⟩ = some (.slice yR zW.length yS) ∧ w'.cell? ⟨vJ,3,none⟩ = some (.slice (some ad105) zL.length xR) ∧ w'.cell? ⟨uA,0,none⟩ = some (.int .u8 xJ) ∧ w'.cell? ⟨uA,1,none⟩ = some (.string vP) ∧ w'.cell? ⟨uA,2,none⟩ = some (.slice tV yB.length uB) ∧ w'.cell? ⟨uA,3,none⟩ = some (.slice (some ad106) wX.length rF) ∧ w'.cell? (ad105.add ((yN).toNat * 4)) = some (.int .u8 ((yY zL yN).f0)) ∧ w'.cell? ⟨(ad105.add ((yN).toNat * 4)).block,(ad105.add ((yN).toNat * 4)).off + 1,none⟩ = some (.string ((yY zL yN).f1)) ∧ w'.cell? ⟨(ad105.add ((yN).toNat * 4)).block,(ad105.add ((yN).toNat * 4)).off + 2,none⟩ = some (.slice oJ ((yY zL yN).f2).length oI) ∧ w'.cell? ⟨(ad105.add ((yN).toNat * 4)).block,(ad105.add ((yN).toNat * 4)).off + 3,none⟩ = some (.slice oH ((yY zL yN).f3).length oG) ∧ w'.cell? (ad106.add ((yN).toNat * 4)) = some (.int .u8 ((yY wX yN).f0)) ∧ w'.cell? ⟨(ad106.add ((yN).toNat * 4)).block,(ad106.add ((yN).toNat * 4)).off + 1,none⟩ = some (.string ((yY wX yN).f1)) ∧ w'.cell? ⟨(ad106.add ((yN).toNat * 4)).block,(ad106.add ((yN).toNat * 4)).off + 2,none⟩ = some (.slice fW ((yY wX yN).f2).length fV) ∧ w'.cell? ⟨(ad106.add ((yN).toNat * 4)).block,(ad106.add ((yN).toNat * 4)).off + 3,none⟩ = some (.slice fU ((yY wX yN).f3).length fT)) (ds:=[]) #[false,false,false,false,false,false,false,false,false,false,false,false] (by kernel_rfl) rfl rfl ⟨(zK xQ.out 0).trans rfl,(zK xQ.out 1).trans rfl,(zK xQ.out 2).trans rfl,(zK xQ.out 3).trans rfl,(zK wU.out 0).trans rfl,(zK wU.out 1).trans rfl,(zK wU.out 2).trans rfl,(zK wU.out 3).trans rfl,((HB.out.cell (World.block_lt_of_cell? w _ nJ)).trans nJ),((HB.out.cell (World.block_lt_of_cell? w _ nK)).trans nK),((HB.out.cell (World.block_lt_of_cell? w _ nL)).trans nL),((HB.out.cell (World.block_lt_of_cell? w _ nN)).trans nN),((HB.out.cell (World.block_lt_of_cell? w _ nF)).trans nF),((HB.out.cell (World.block_lt_of_cell? w _ nG)).trans nG),((HB.out.cell (World.block_lt_of_cell? w _ nH)).trans nH),((HB.out.cell (World.block_lt_of_cell? w _ nI)).trans nI)⟩ (fun hHeld => ?_); refine lR yC.tab11 yC.bits11 (fun HT_ HW_ => ?_)
             generalize wr.drew = w45 at xQ wU HB oF oE fO fN sP sO sM sL qG qF qE qD hHeld ⊢
             refine xO (i:=0) (N:=some 62) (v:=?_) (a':=?_) #[true,false,false,false,false,false,false,false,false,false,false,false] rfl rfl (wL HT_.out (by kernel_rfl)) (fun _ _ _ h => h) (Or.inl ⟨by rfl,?_⟩) ?_ ?_
             rotate_left
             ·
              intro w'
              go_simp
              with_reducible rfl
             rotate_left
             ·
              simp only [Act.put,List.setIfInBounds_toArray,List.set_cons_zero,List.set_cons_succ,yV,yU]
              rfl
             refine xO (i:=2) (N:=some 64) (v:=?_) (a':=?_) #[true,false,true,false,false,false,false,false,false,false,false,false] rfl rfl (wL HT_.out (by kernel_rfl)) (fun _ _ _ h => h) (Or.inl ⟨by rfl,?_⟩) ?_ ?_
             rotate_left
             ·
              intro w'
              go_simp
              with_reducible rfl
             rotate_left
             ·
              simp only [Act.put,List.setIfInBounds_toArray,List.set_cons_zero,List.set_cons_succ,yV,yU]
              rfl
             refine xO (i:=5) (N:=some 67) (v:=?_) (a':=?_) #[true,false,true,false,false,true,false,false,false,false,false,false] rfl rfl (wL HT_.out (by kernel_rfl)) (fun _ _ _ h => h) (Or.inl ⟨by rfl,?_⟩) ?_ ?_
             rotate_left
             ·
              intro w'
              go_simp
              with_reducible rfl
             rotate_left
             ·
              simp only [Act.put,List.setIfInBounds_toArray,List.set_cons_zero,List.set_cons_succ,yV,yU]
              rfl
             refine xO (i:=7) (N:=some 69) (v:=?_) (a':=?_) #[true,false,true,false,false,true,false,true,false,false,false,false] rfl rfl (wL HT_.out (by kernel_rfl)) (fun _ _ _ h => h) (Or.inl ⟨by rfl,?_⟩) ?_ ?_
             rotate_left
             ·
              intro w'
              go_simp
              with_reducible rfl
             rotate_left
             ·
              simp only [Act.put,List.setIfInBounds_toArray,List.set_cons_zero,List.set_cons_succ,yV,yU]
              rfl
             refine take_ (i:=1) (N:=some 63) (v:=?_) (a':=?_) #[true,true,true,false,false,true,false,true,false,false,false,false] rfl rfl (tB HT_.out HW_.out (by kernel_rfl)) (fun _ _ _ h => h) (Or.inl ⟨by rfl,?_⟩) hHeld ?_ ?_
             rotate_left
             ·
              rintro w' ⟨s0,s1,s2,s3,s4,s5,s6,s7,s8,s9,s10,s11,s12,s13,s14,s15⟩
              go_simp
              with_reducible rfl
             rotate_left
             ·
              simp only [Act.put,List.setIfInBounds_toArray,List.set_cons_zero,List.set_cons_succ,yV,yU]
              rfl
             refine xO (i:=3) (N:=some 65) (v:=?_) (a':=?_) #[true,true,true,true,false,true,false,true,false,false,false,false] rfl rfl (wL HT_.out (by kernel_rfl)) (fun _ _ _ h => h) (Or.inl ⟨by rfl,?_⟩) ?_ ?_
             rotate_left
             ·
              intro w'
              go_simp
              with_reducible rfl
             rotate_left
             ·
              simp only [Act.put,List.setIfInBounds_toArray,List.set_cons_zero,List.set_cons_succ,yV,yU]
              rfl
             refine take_ (i:=4) (N:=some 66) (v:=?_) (a':=?_) #[true,true,true,true,true,true,false,true,false,false,false,false] rfl rfl (tB HT_.out HW_.out (by kernel_rfl)) (fun _ _ _ h => h) (Or.inl ⟨by rfl,?_⟩) hHeld ?_ ?_
             rotate_left
             ·
              rintro w' ⟨s0,s1,s2,s3,s4,s5,s6,s7,s8,s9,s10,s11,s12,s13,s14,s15⟩
              go_simp
              with_reducible rfl
             rotate_left
             ·
              simp only [Act.put,List.setIfInBounds_toArray,List.set_cons_zero,List.set_cons_succ,yV,yU]
              rfl
             refine take_ (i:=6) (N:=some 68) (v:=?_) (a':=?_) #[true,true,true,true,true,true,true,true,false,false,false,false] rfl rfl (tB HT_.out HW_.out (by kernel_rfl)) (fun _ _ _ h => h) (Or.inl ⟨by rfl,?_⟩) hHeld ?_ ?_
             rotate_left
             ·
              rintro w' ⟨s0,s1,s2,s3,s4,s5,s6,s7,s8,s9,s10,s11,s12,s13,s14,s15⟩
              go_simp
              with_reducible rfl
             rotate_left
             ·
              simp only [Act.put,List.setIfInBounds_toArray,List.set_cons_zero,List.set_cons_succ,yV,yU]
              rfl
             refine xO (i:=8) (N:=some 70) (v:=?_) (a':=?_) #[true,true,true,true,true,true,true,true,true,false,false,false] rfl rfl (wL HT_.out (by kernel_rfl)) (fun _ _ _ h => h) (Or.inl ⟨by rfl,?_⟩) ?_ ?_
             rotate_left
             ·
              intro w'
              go_simp
              with_reducible rfl
             rotate_left
             ·
              simp only [Act.put,List.setIfInBounds_toArray,List.set_cons_zero,List.set_cons_succ,yV,yU]
              rfl
             refine take_ (i:=9) (N:=some 71) (v:=?_) (a':=?_) #[true,true,true,true,true,true,true,true,true,true,false,false] rfl rfl (tB HT_.out HW_.out (by kernel_rfl)) (fun _ _ _ h => h) (Or.inl ⟨by rfl,?_⟩) hHeld ?_ ?_
             rotate_left
             ·
              rintro w' ⟨s0,s1,s2,s3,s4,s5,s6,s7,s8,s9,s10,s11,s12,s13,s14,s15⟩
              go_simp
              with_reducible rfl
             rotate_left
             ·
              simp only [Act.put,List.setIfInBounds_toArray,List.set_cons_zero,List.set_cons_succ,yV,yU]
              rfl
             refine one_ (i:=10) (N:=some 72) #[true,true,true,true,true,true,true,true,true,true,true,false] rfl rfl (kV HT_.out (by kernel_rfl)) (by decide) (fun K hK => ?_)
             refine goes_ Tryd.func28 (by kernel_rfl) rfl #[.agg #[.int .u8 ((yY zL yN).f0),.string ((yY zL yN).f1),.slice oJ ((yY zL yN).f2).length oI,.slice oH ((yY zL yN).f3).length oG],.agg #[.int .u8 ((yY wX yN).f0),.string ((yY wX yN).f1),.slice fW ((yY wX yN).f2).length fV,.slice fU ((yY wX yN).f3).length fT]] (by rfl) rfl rfl (by (try simp only [List.map_toArray,List.map_cons,List.map_nil]); first|done|rfl|(simp only [List.length_drop,List.length_take]; rfl)) ?_
             with_reducible refine (ih k3 (by have:=HJ2.out; have:=HK2.out; have:=HK3.out; omega) ((yY zL yN).f0) ((yY zL yN).f1) _ _ ((yY zL yN).f2) _ _ ((yY zL yN).f3) ((yY wX yN).f0) ((yY wX yN).f1) _ _ ((yY wX yN).f2) _ _ ((yY wX yN).f3) false _ ?side1 ?side2 ?side3 ?side4 ?side5 ?side6 ?side7 ?side8 A37.out).mono ?_
             (case side1 => repeat (first|exact (Kd.C_below oF.out HB.out)|(with_reducible refine Kd.C_alloc ?_ _)|(with_reducible refine Kd.C_drewN ?_ _)|(with_reducible refine Kd.C_drew ?_)))
             (case side2 => exact lK.out)
             (case side3 => repeat (first|exact (Kd.C_below oE.out HB.out)|(with_reducible refine Kd.C_alloc ?_ _)|(with_reducible refine Kd.C_drewN ?_ _)|(with_reducible refine Kd.C_drew ?_)))
             (case side4 => exact lJ.out)
             (case side5 => repeat (first|exact (Kd.C_below fO.out HB.out)|(with_reducible refine Kd.C_alloc ?_ _)|(with_reducible refine Kd.C_drewN ?_ _)|(with_reducible refine Kd.C_drew ?_)))
             (case side6 => exact aN.out)
             (case side7 => repeat (first|exact (Kd.C_below fN.out HB.out)|(with_reducible refine Kd.C_alloc ?_ _)|(with_reducible refine Kd.C_drewN ?_ _)|(with_reducible refine Kd.C_drew ?_)))
             (case side8 => exact aM.out)
             rintro e w46 ⟨rfl,hb⟩
             refine ⟨_,rfl,?_⟩
             have zS:=zZ.mk (xX (g:=vJ) (o:=.cells #[.int .u8 zT,.string zB,.slice yR zW.length yS,.slice (some ad105) zL.length xR] 25 (0,0)) (by (with_reducible repeat (first|apply zN|apply zM|apply zR)); exact xQ.out) hb)
             have zO:=zZ.mk (xX (g:=uA) (o:=.cells #[.int .u8 xJ,.string vP,.slice tV yB.length uB,.slice (some ad106) wX.length rF] 25 (0,0)) (by (with_reducible repeat (first|apply zN|apply zM|apply zR)); exact wU.out) hb)
             have zI:=zZ.mk (xW (by repeat (first|(with_reducible first|exact HB.out|apply zY|apply zV|apply zU|refine zQ ?_ tD.out|refine zQ ?_ rR.out)|exact HB.out)) hb)
             clear xQ
             clear wU
             clear HB
             have xQ:=zS
             have wU:=zO
             have HB:=zI
             clear zS zO zI
             (try clear hb)
             (try clear hb2)
             (try clear hk)
             (try clear hi)
             refine hK.out _ _ ⟨(zK xQ.out 0).trans rfl,(zK xQ.out 1).trans rfl,(zK xQ.out 2).trans rfl,(zK xQ.out 3).trans rfl,(zK wU.out 0).trans rfl,(zK wU.out 1).trans rfl,(zK wU.out 2).trans rfl,(zK wU.out 3).trans rfl,((HB.out.cell (World.block_lt_of_cell? w _ nJ)).trans nJ),((HB.out.cell (World.block_lt_of_cell? w _ nK)).trans nK),((HB.out.cell (World.block_lt_of_cell? w _ nL)).trans nL),((HB.out.cell (World.block_lt_of_cell? w _ nN)).trans nN),((HB.out.cell (World.block_lt_of_cell? w _ nF)).trans nF),((HB.out.cell (World.block_lt_of_cell? w _ nG)).trans nG),((HB.out.cell (World.block_lt_of_cell? w _ nH)).trans nH),((HB.out.cell (World.block_lt_of_cell? w _ nI)).trans nI)⟩ (fun hHeld => ?_)
             clear hK K
             refine sI (a':=?_) ?_ ?_
             rotate_left
             ·
              show Act.put _ (some 72) _ = _
              simp only [Act.put,List.setIfInBounds_toArray,List.set_cons_zero,List.set_cons_succ,yV,yU]
              rfl
             refine xO (i:=11) (N:=some 73) (v:=?_) (a':=?_) #[true,true,true,true,true,true,true,true,true,true,true,true] rfl rfl (wL HT_.out (by kernel_rfl)) (fun _ _ _ h => h) (Or.inl ⟨by rfl,?_⟩) ?_ ?_
             rotate_left
             ·
              intro w'
              go_simp
              with_reducible rfl
             rotate_left
             ·
              simp only [Act.put,List.setIfInBounds_toArray,List.set_cons_zero,List.set_cons_succ,yV,yU]
              rfl
             refine done_ (lO HT_.out (by kernel_rfl)) ?_
             try go_wp2
             go_ret
             exact ⟨by first|rfl|(simp [yG,yF] <;> rfl)|(simp [*,yG,yF] <;> rfl),by repeat (first|(with_reducible first|exact HB.out|apply zY|apply zV|apply zU|refine zQ ?_ tD.out|refine zQ ?_ rR.out)|exact HB.out)⟩
           ·
            rw [if_neg c36] at H
            exact absurd H (by simp)
          ·
           rw [if_neg c35] at H
           exact absurd H (by simp)
         ·
          rw [if_neg c34] at H
          have c34b0 : decide (yN < (zL.length : Int)) = false:=decide_eq_false c34
          clear c34
          obtain rfl:=Option.some.inj H
          have hnb47:=oX.out
          have hnc47:=oW.out
          obtain ⟨aG,aE,aD,aC⟩:=kc4 xQ.out
          go_wp2
          go_ret
          exact ⟨by first|rfl|(simp [yG,yF] <;> rfl)|(simp [*,yG,yF] <;> rfl),by repeat (first|(with_reducible first|exact HB.out|apply zY|apply zV|apply zU|refine zQ ?_ tD.out|refine zQ ?_ rR.out)|exact HB.out)⟩
end Go.Proofs.YtjeofffddbibeaaDoor.PParseTells
end
