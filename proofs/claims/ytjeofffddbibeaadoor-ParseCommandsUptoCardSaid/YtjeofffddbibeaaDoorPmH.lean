/-
 Part 8 of what the row stands on,put together by a program: PPar14,PdS,PBkM,PBkX,Bkv.
-/
import Derived.Test.YtjeofffddbibeaaDoorPmG
set_option linter.unusedVariables false
set_option linter.unusedSimpArgs false
section
namespace Go.Proofs.YtjeofffddbibeaaDoor.PParseTells
open Go.RowKit YtjeofffddbibeaaDoorW.PrintWords YtjeofffddbibeaaDoorW.PrintLast YtjeofffddbibeaaDoorW.PrintMore
attribute [local go_sem] tH tM tG tL tK tJ tN tI
attribute [local go_sem high] eqA52
mutual
def wA.j0 : Nat → Bool → ByteArray → List ByteArray → List Int → Int → Int → Bool → Bool → Int → ByteArray → List Int → List (S25) → ByteArray → List ByteArray → List Int → Int → Int → Bool → Bool → Int → ByteArray → List Int → List (S25) → Option (Bool)
 | 0,_,_,_,_,_,_,_,_,_,_,_,_,_,_,_,_,_,_,_,_,_,_,_ => none
 | k + 1,x44,iW,lY,lX,iV,iU,iT,iS,iR,iQ,iP,iO,iN,lW,lV,iM,iL,iK,iJ,iI,iH,iG,iF => if x44 = true then (some false) else (wA.l0 k 0 iW lY lX iV iU iT iS iR iQ iP iO iN lW lV iM iL iK iJ iI iH iG iF)
def wA.l0 : Nat → Int → ByteArray → List ByteArray → List Int → Int → Int → Bool → Bool → Int → ByteArray → List Int → List (S25) → ByteArray → List ByteArray → List Int → Int → Int → Bool → Bool → Int → ByteArray → List Int → List (S25) → Option (Bool)
 | 0,_,_,_,_,_,_,_,_,_,_,_,_,_,_,_,_,_,_,_,_,_,_,_ => none
 | k + 1,x5,iW,lY,lX,iV,iU,iT,iS,iR,iQ,iP,iO,iN,lW,lV,iM,iL,iK,iJ,iI,iH,iG,iF => if x5 < (lY.length : Int) then (if 0 ≤ x5 then (if x5 < (lW.length : Int) then (if (rdOf ByteArray.empty lY x5).toList = (rdOf ByteArray.empty lW x5).toList then (wA.l0 k (wrap64 (x5 + 1)) iW lY lX iV iU iT iS iR iQ iP iO iN lW lV iM iL iK iJ iI iH iG iF) else (some false)) else (none)) else (none)) else (wA.l1 k 0 iW lY lX iV iU iT iS iR iQ iP iO iN lW lV iM iL iK iJ iI iH iG iF)
def wA.l1 : Nat → Int → ByteArray → List ByteArray → List Int → Int → Int → Bool → Bool → Int → ByteArray → List Int → List (S25) → ByteArray → List ByteArray → List Int → Int → Int → Bool → Bool → Int → ByteArray → List Int → List (S25) → Option (Bool)
 | 0,_,_,_,_,_,_,_,_,_,_,_,_,_,_,_,_,_,_,_,_,_,_,_ => none
 | k + 1,x6,iW,lY,lX,iV,iU,iT,iS,iR,iQ,iP,iO,iN,lW,lV,iM,iL,iK,iJ,iI,iH,iG,iF => if x6 < (lX.length : Int) then (if 0 ≤ x6 then (if x6 < (lV.length : Int) then (if (rd lX x6) = (rd lV x6) then (wA.l1 k (wrap64 (x6 + 1)) iW lY lX iV iU iT iS iR iQ iP iO iN lW lV iM iL iK iJ iI iH iG iF) else (some false)) else (none)) else (none)) else (some true)
end
def wA.f (k : Nat) (zT : ByteArray) (zE : List ByteArray) (zW : List Int) (zH : Int) (zG : Int) (yM : Bool) (yO : Bool) (yX : Int) (yW : ByteArray) (zA : List Int) (yZ : List (S25)) (xJ : ByteArray) (wH : List ByteArray) (yB : List Int) (vE : Int) (vD : Int) (vC : Bool) (vB : Bool) (vA : Int) (uZ : ByteArray) (vO : List Int) (vL : List (S25)) : Option (Bool):=if zT.toList = xJ.toList then (if (!(zH == vE) || (!(zG == vD) || (!(yM == vC) || (!(yO == vB))))) = true then (wA.j0 k true zT zE zW zH zG yM yO yX yW zA yZ xJ wH yB vE vD vC vB vA uZ vO vL) else (if (zE.length : Int) = (wH.length : Int) then (if (zW.length : Int) = (yB.length : Int) then ((yC.f k yX yW zA yZ vA uZ vO vL).bind fun t431 => (wA.j0 k (!t431) zT zE zW zH zG yM yO yX yW zA yZ xJ wH yB vE vD vC vB vA uZ vO vL)) else (wA.j0 k true zT zE zW zH zG yM yO yX yW zA yZ xJ wH yB vE vD vC vB vA uZ vO vL)) else (wA.j0 k true zT zE zW zH zG yM yO yX yW zA yZ xJ wH yB vE vD vC vB vA uZ vO vL))) else (wA.j0 k true zT zE zW zH zG yM yO yX yW zA yZ xJ wH yB vE vD vC vB vA uZ vO vL)
set_option maxHeartbeats 8000000 in
set_option maxRecDepth 100000 in
theorem wA.calls (k : Nat) (zT : ByteArray) (wW : Option Addr) (wY : Nat) (zE : List ByteArray) (yR : Option Addr) (yS : Nat) (zW : List Int) (zH : Int) (zG : Int) (yM : Bool) (yO : Bool) (yX : Int) (yW : ByteArray) (xF : Option Addr) (xE : Nat) (zA : List Int) (xD : Option Addr) (xC : Nat) (yZ : List (S25)) (xJ : ByteArray) (qC : Option Addr) (qB : Nat) (wH : List ByteArray) (tV : Option Addr) (uB : Nat) (yB : List Int) (vE : Int) (vD : Int) (vC : Bool) (vB : Bool) (vA : Int) (uZ : ByteArray) (qA : Option Addr) (pZ : Nat) (vO : List Int) (pY : Option Addr) (pX : Nat) (vL : List (S25)) (r : Bool) (w : World) (mF : Kd.C Kd.string w wW zE.length zE) (mE : zE.length ≤ wY) (uW : Kd.C (Kd.int .i64) w yR zW.length zW) (uV : zW.length ≤ yS) (mD : Kd.C (Kd.int .i64) w xF zA.length zA) (mB : zA.length ≤ xE) (mA : Kd.C k25 w xD yZ.length yZ) (lZ : yZ.length ≤ xC) (zVA : Kd.C Kd.string w qC wH.length wH) (zUZ : wH.length ≤ qB) (jK : Kd.C (Kd.int .i64) w tV yB.length yB) (jJ : yB.length ≤ uB) (zUY : Kd.C (Kd.int .i64) w qA vO.length vO) (zUX : vO.length ≤ pZ) (zUW : Kd.C k25 w pY vL.length vL) (zUV : vL.length ≤ pX) (h : wA.f k zT zE zW zH zG yM yO yX yW zA yZ xJ wH yB vE vD vC vB vA uZ vO vL = some r) :
  Calls Tryd.prog 40 #[.agg #[.string zT,.slice wW zE.length wY,.slice yR zW.length yS,.int .i64 zH,.int .i64 zG,.bool yM,.bool yO,.int .u8 yX,.string yW,.slice xF zA.length xE,.slice xD yZ.length xC],.agg #[.string xJ,.slice qC wH.length qB,.slice tV yB.length uB,.int .i64 vE,.int .i64 vD,.bool vC,.bool vB,.int .u8 vA,.string uZ,.slice qA vO.length pZ,.slice pY vL.length pX]] w fun e w' => e = .returned (.bool r) ∧ Below w.heap.size w w':=by
 have hu54:=Tryd.underlying54
 have hu52:=Tryd.underlying52
 have hu25:=Tryd.underlying25
 have jI:=zZ.mk mF
 have zVB:=zZ.mk mE
 clear mF mE
 have tA:=zZ.mk uW
 have rX:=zZ.mk uV
 clear uW uV
 have rQ:=zZ.mk mD
 have rP:=zZ.mk mB
 clear mD mB
 have rO:=zZ.mk mA
 have rN:=zZ.mk lZ
 clear mA lZ
 have zUU:=zZ.mk zVA
 have HC1_1:=zZ.mk zUZ
 clear zVA zUZ
 have gA:=zZ.mk jK
 have zSN:=zZ.mk jJ
 clear jK jJ
 have zZL:=zZ.mk zUY
 have zZK:=zZ.mk zUX
 clear zUY zUX
 have zZJ:=zZ.mk zUW
 have zZI:=zZ.mk zUV
 clear zUW zUV
 have HB:=zZ.mk (Below.refl w.heap.size w)
 have H : (if zT.toList = xJ.toList then (if (!(zH == vE) || (!(zG == vD) || (!(yM == vC) || (!(yO == vB))))) = true then (wA.j0 k true zT zE zW zH zG yM yO yX yW zA yZ xJ wH yB vE vD vC vB vA uZ vO vL) else (if (zE.length : Int) = (wH.length : Int) then (if (zW.length : Int) = (yB.length : Int) then ((yC.f k yX yW zA yZ vA uZ vO vL).bind fun t431 => (wA.j0 k (!t431) zT zE zW zH zG yM yO yX yW zA yZ xJ wH yB vE vD vC vB vA uZ vO vL)) else (wA.j0 k true zT zE zW zH zG yM yO yX yW zA yZ xJ wH yB vE vD vC vB vA uZ vO vL)) else (wA.j0 k true zT zE zW zH zG yM yO yX yW zA yZ xJ wH yB vE vD vC vB vA uZ vO vL))) else (wA.j0 k true zT zE zW zH zG yM yO yX yW zA yZ xJ wH yB vE vD vC vB vA uZ vO vL)) = some r:=h
 clear h
 have HC3:=zZ.mk H
 clear H
 go_enter Tryd.func40,Tryd.ntmps40
 go_upto_region 1 with (first|((with_reducible refine uU (N:=2) rfl ?_); (try (refine sY (by rfl) ?_; dsimp only)); refine tY ?hg (N:=2) ?hd (cs:=#[.string zT,.slice wW zE.length wY,.slice yR zW.length yS,.int .i64 zH,.int .i64 zG,.bool yM,.bool yO,.int .u8 yX,.string yW,.slice xF zA.length xE,.slice xD yZ.length xC]) (t:=54) ?hr ?_; (case hd => rfl); (case hg => rfl); (case hr => first|(go_simp; done)|(go_simp; rfl)); intro uP hg w4 hbox hb; have zS:=zZ.mk (xW (by repeat (first|(with_reducible first|exact HB.out|apply zY|apply zV|apply zU)|exact HB.out)) hb); have zO:=zZ.mk (hbox); have zI:=zZ.mk ((by rw [hg]; exact (xS (by repeat (first|(with_reducible first|exact HB.out|apply zY|apply zV|apply zU)|exact HB.out))) : w.heap.size ≤ uP)); have xV:=zZ.mk ((by rw [hg]; exact (xS (by repeat (first|(with_reducible first|exact HB.out|apply zY|apply zV|apply zU)|exact HB.out))) : w.heap.size ≤ uP)); clear HB; have HB:=zS; have wK:=zO; have zUT:=zI; have uI:=xV; clear zS zO zI xV; clear hb hbox hg)|((with_reducible refine uU (N:=3) rfl ?_); (try (refine sY (by rfl) ?_; dsimp only)); refine tY ?hg (N:=3) ?hd (cs:=#[.string xJ,.slice qC wH.length qB,.slice tV yB.length uB,.int .i64 vE,.int .i64 vD,.bool vC,.bool vB,.int .u8 vA,.string uZ,.slice qA vO.length pZ,.slice pY vL.length pX]) (t:=54) ?hr ?_; (case hd => rfl); (case hg => rfl); (case hr => first|(go_simp; done)|(go_simp; rfl)); intro sS hg w5 hbox hb; have zS:=zZ.mk (xX (g:=uP) (o:=.cells #[.string zT,.slice wW zE.length wY,.slice yR zW.length yS,.int .i64 zH,.int .i64 zG,.bool yM,.bool yO,.int .u8 yX,.string yW,.slice xF zA.length xE,.slice xD yZ.length xC] 54 (0,0)) (by (with_reducible repeat (first|apply zN|apply zM|apply zR)); exact wK.out) hb); have zO:=zZ.mk (xW (by repeat (first|(with_reducible first|exact HB.out|apply zY|apply zV|apply zU|refine zQ ?_ uI.out)|exact HB.out)) hb); have zI:=zZ.mk (hbox); have xV:=zZ.mk ((by rw [hg]; exact (xS (by repeat (first|(with_reducible first|exact HB.out|apply zY|apply zV|apply zU|refine zQ ?_ uI.out)|exact HB.out))) : w.heap.size ≤ sS)); have sU:=zZ.mk ((by rw [hg]; exact (xS (by repeat (first|(with_reducible first|exact HB.out|apply zY|apply zV|apply zU|refine zQ ?_ uI.out)|exact HB.out))) : w.heap.size ≤ sS)); have rT:=zZ.mk ((by rw [hg]; exact Nat.ne_of_lt (wT (g:=uP) (o:=.cells #[.string zT,.slice wW zE.length wY,.slice yR zW.length yS,.int .i64 zH,.int .i64 zG,.bool yM,.bool yO,.int .u8 yX,.string yW,.slice xF zA.length xE,.slice xD yZ.length xC] 54 (0,0)) (by (with_reducible repeat (first|apply zN|apply zM|apply zR)); exact wK.out)) : uP ≠ sS)); have rS:=zZ.mk ((by rw [hg]; exact Nat.ne_of_gt (wT (g:=uP) (o:=.cells #[.string zT,.slice wW zE.length wY,.slice yR zW.length yS,.int .i64 zH,.int .i64 zG,.bool yM,.bool yO,.int .u8 yX,.string yW,.slice xF zA.length xE,.slice xD yZ.length xC] 54 (0,0)) (by (with_reducible repeat (first|apply zN|apply zM|apply zR)); exact wK.out)) : sS ≠ uP)); clear wK; clear HB; have wK:=zS; have HB:=zO; have uY:=zI; have zUS:=xV; have sC:=sU; have rD:=rT; have rC:=rS; clear zS zO zI xV sU rT rS; clear hb hbox hg))
 repeat (go_quiet (first|((with_reducible refine uU (N:=2) rfl ?_); (try (refine sY (by rfl) ?_; dsimp only)); refine tY ?hg (N:=2) ?hd (cs:=#[.string zT,.slice wW zE.length wY,.slice yR zW.length yS,.int .i64 zH,.int .i64 zG,.bool yM,.bool yO,.int .u8 yX,.string yW,.slice xF zA.length xE,.slice xD yZ.length xC]) (t:=54) ?hr ?_; (case hd => rfl); (case hg => rfl); (case hr => first|(go_simp; done)|(go_simp; rfl)); intro uP hg w4 hbox hb; have zS:=zZ.mk (xW (by repeat (first|(with_reducible first|exact HB.out|apply zY|apply zV|apply zU)|exact HB.out)) hb); have zO:=zZ.mk (hbox); have zI:=zZ.mk ((by rw [hg]; exact (xS (by repeat (first|(with_reducible first|exact HB.out|apply zY|apply zV|apply zU)|exact HB.out))) : w.heap.size ≤ uP)); have xV:=zZ.mk ((by rw [hg]; exact (xS (by repeat (first|(with_reducible first|exact HB.out|apply zY|apply zV|apply zU)|exact HB.out))) : w.heap.size ≤ uP)); clear HB; have HB:=zS; have wK:=zO; have zUT:=zI; have uI:=xV; clear zS zO zI xV; clear hb hbox hg)|((with_reducible refine uU (N:=3) rfl ?_); (try (refine sY (by rfl) ?_; dsimp only)); refine tY ?hg (N:=3) ?hd (cs:=#[.string xJ,.slice qC wH.length qB,.slice tV yB.length uB,.int .i64 vE,.int .i64 vD,.bool vC,.bool vB,.int .u8 vA,.string uZ,.slice qA vO.length pZ,.slice pY vL.length pX]) (t:=54) ?hr ?_; (case hd => rfl); (case hg => rfl); (case hr => first|(go_simp; done)|(go_simp; rfl)); intro sS hg w5 hbox hb; have zS:=zZ.mk (xX (g:=uP) (o:=.cells #[.string zT,.slice wW zE.length wY,.slice yR zW.length yS,.int .i64 zH,.int .i64 zG,.bool yM,.bool yO,.int .u8 yX,.string yW,.slice xF zA.length xE,.slice xD yZ.length xC] 54 (0,0)) (by (with_reducible repeat (first|apply zN|apply zM|apply zR)); exact wK.out) hb); have zO:=zZ.mk (xW (by repeat (first|(with_reducible first|exact HB.out|apply zY|apply zV|apply zU|refine zQ ?_ uI.out)|exact HB.out)) hb); have zI:=zZ.mk (hbox); have xV:=zZ.mk ((by rw [hg]; exact (xS (by repeat (first|(with_reducible first|exact HB.out|apply zY|apply zV|apply zU|refine zQ ?_ uI.out)|exact HB.out))) : w.heap.size ≤ sS)); have sU:=zZ.mk ((by rw [hg]; exact (xS (by repeat (first|(with_reducible first|exact HB.out|apply zY|apply zV|apply zU|refine zQ ?_ uI.out)|exact HB.out))) : w.heap.size ≤ sS)); have rT:=zZ.mk ((by rw [hg]; exact Nat.ne_of_lt (wT (g:=uP) (o:=.cells #[.string zT,.slice wW zE.length wY,.slice yR zW.length yS,.int .i64 zH,.int .i64 zG,.bool yM,.bool yO,.int .u8 yX,.string yW,.slice xF zA.length xE,.slice xD yZ.length xC] 54 (0,0)) (by (with_reducible repeat (first|apply zN|apply zM|apply zR)); exact wK.out)) : uP ≠ sS)); have rS:=zZ.mk ((by rw [hg]; exact Nat.ne_of_gt (wT (g:=uP) (o:=.cells #[.string zT,.slice wW zE.length wY,.slice yR zW.length yS,.int .i64 zH,.int .i64 zG,.bool yM,.bool yO,.int .u8 yX,.string yW,.slice xF zA.length xE,.slice xD yZ.length xC] 54 (0,0)) (by (with_reducible repeat (first|apply zN|apply zM|apply zR)); exact wK.out)) : sS ≠ uP)); clear wK; clear HB; have wK:=zS; have HB:=zO; have uY:=zI; have zUS:=xV; have sC:=sU; have rD:=rT; have rC:=rS; clear zS zO zI xV sU rT rS; clear hb hbox hg)); go_upto_region 1 with (first|((with_reducible refine uU (N:=2) rfl ?_); (try (refine sY (by rfl) ?_; dsimp only)); refine tY ?hg (N:=2) ?hd (cs:=#[.string zT,.slice wW zE.length wY,.slice yR zW.length yS,.int .i64 zH,.int .i64 zG,.bool yM,.bool yO,.int .u8 yX,.string yW,.slice xF zA.length xE,.slice xD yZ.length xC]) (t:=54) ?hr ?_; (case hd => rfl); (case hg => rfl); (case hr => first|(go_simp; done)|(go_simp; rfl)); intro uP hg w4 hbox hb; have zS:=zZ.mk (xW (by repeat (first|(with_reducible first|exact HB.out|apply zY|apply zV|apply zU)|exact HB.out)) hb); have zO:=zZ.mk (hbox); have zI:=zZ.mk ((by rw [hg]; exact (xS (by repeat (first|(with_reducible first|exact HB.out|apply zY|apply zV|apply zU)|exact HB.out))) : w.heap.size ≤ uP)); have xV:=zZ.mk ((by rw [hg]; exact (xS (by repeat (first|(with_reducible first|exact HB.out|apply zY|apply zV|apply zU)|exact HB.out))) : w.heap.size ≤ uP)); clear HB; have HB:=zS; have wK:=zO; have zUT:=zI; have uI:=xV; clear zS zO zI xV; clear hb hbox hg)|((with_reducible refine uU (N:=3) rfl ?_); (try (refine sY (by rfl) ?_; dsimp only)); refine tY ?hg (N:=3) ?hd (cs:=#[.string xJ,.slice qC wH.length qB,.slice tV yB.length uB,.int .i64 vE,.int .i64 vD,.bool vC,.bool vB,.int .u8 vA,.string uZ,.slice qA vO.length pZ,.slice pY vL.length pX]) (t:=54) ?hr ?_; (case hd => rfl); (case hg => rfl); (case hr => first|(go_simp; done)|(go_simp; rfl)); intro sS hg w5 hbox hb; have zS:=zZ.mk (xX (g:=uP) (o:=.cells #[.string zT,.slice wW zE.length wY,.slice yR zW.length yS,.int .i64 zH,.int .i64 zG,.bool yM,.bool yO,.int .u8 yX,.string yW,.slice xF zA.length xE,.slice xD yZ.length xC] 54 (0,0)) (by (with_reducible repeat (first|apply zN|apply zM|apply zR)); exact wK.out) hb); have zO:=zZ.mk (xW (by repeat (first|(with_reducible first|exact HB.out|apply zY|apply zV|apply zU|refine zQ ?_ uI.out)|exact HB.out)) hb); have zI:=zZ.mk (hbox); have xV:=zZ.mk ((by rw [hg]; exact (xS (by repeat (first|(with_reducible first|exact HB.out|apply zY|apply zV|apply zU|refine zQ ?_ uI.out)|exact HB.out))) : w.heap.size ≤ sS)); have sU:=zZ.mk ((by rw [hg]; exact (xS (by repeat (first|(with_reducible first|exact HB.out|apply zY|apply zV|apply zU|refine zQ ?_ uI.out)|exact HB.out))) : w.heap.size ≤ sS)); have rT:=zZ.mk ((by rw [hg]; exact Nat.ne_of_lt (wT (g:=uP) (o:=.cells #[.string zT,.slice wW zE.length wY,.slice yR zW.length yS,.int .i64 zH,.int .i64 zG,.bool yM,.bool yO,.int .u8 yX,.string yW,.slice xF zA.length xE,.slice xD yZ.length xC] 54 (0,0)) (by (with_reducible repeat (first|apply zN|apply zM|apply zR)); exact wK.out)) : uP ≠ sS)); have rS:=zZ.mk ((by rw [hg]; exact Nat.ne_of_gt (wT (g:=uP) (o:=.cells #[.string zT,.slice wW zE.length wY,.slice yR zW.length yS,.int .i64 zH,.int .i64 zG,.bool yM,.bool yO,.int .u8 yX,.string yW,.slice xF zA.length xE,.slice xD yZ.length xC] 54 (0,0)) (by (with_reducible repeat (first|apply zN|apply zM|apply zR)); exact wK.out)) : sS ≠ uP)); clear wK; clear HB; have wK:=zS; have HB:=zO; have uY:=zI; have zUS:=xV; have sC:=sU; have rD:=rT; have rC:=rS; clear zS zO zI xV sU rT rS; clear hb hbox hg)))
 (try simp only [Act.put,List.setIfInBounds_toArray,List.set_cons_zero,List.set_cons_succ])
 go_cut [44] (fun v44 wc => ∃ (kq : Nat) (nV : Bool),v44 = .bool nV ∧ zZ (wA.j0 kq nV zT zE zW zH zG yM yO yX yW zA yZ xJ wH yB vE vD vC vB vA uZ vO vL = some r) ∧ zZ (kq ≤ k) ∧ zZ (wc.heap[uP]? = some (.cells #[.string zT,(.slice wW zE.length wY),(.slice yR zW.length yS),.int .i64 zH,.int .i64 zG,.bool yM,.bool yO,.int .u8 yX,.string yW,(.slice xF zA.length xE),(.slice xD yZ.length xC)] 54 (0,0))) ∧ zZ (wc.heap[sS]? = some (.cells #[.string xJ,(.slice qC wH.length qB),(.slice tV yB.length uB),.int .i64 vE,.int .i64 vD,.bool vC,.bool vB,.int .u8 vA,.string uZ,(.slice qA vO.length pZ),(.slice pY vL.length pX)] 54 (0,0))) ∧ zZ (Below w.heap.size w wc))
 case first =>
  have H:=HC3.out
  clear HC3
  by_cases c6 : zT.toList = xJ.toList
  ·
   rw [if_pos c6] at H
   have c6b0 : (zT.toList == xJ.toList) = true:=beq_iff_eq.mpr c6
   have c6b1 : (zT.toList != xJ.toList) = false:=bne_eq_false_iff_eq.mpr c6
   clear c6
   (first|rw [c6b0]|(simp only [yV,yU]; rw [c6b0])|skip)
   by_cases c7 : (!(zH == vE) || (!(zG == vD) || (!(yM == vC) || (!(yO == vB))))) = true
   ·
    rw [if_pos c7] at H
    have c7b0 : (!(zH == vE) || (!(zG == vD) || (!(yM == vC) || (!(yO == vB))))) = true:=c7
    clear c7
    have H':=zZ.mk H
    clear H
    have hnb8:=rD.out
    have hnc8:=rC.out
    obtain ⟨pM,pL,pK,dL,zZH,zZG,zZF,zZE,zZD,zZC,zZB⟩:=kc11 wK.out
    obtain ⟨mP,mO,mN,mM,zZA,zYZ,zYY,zYX,zYW,zYV,zYU⟩:=kc11 uY.out
    go_wp2
    repeat (go_quiet (fail); try go_wp2)
    go_meet
    case rel => exact ⟨_,(true),(by first|rfl|(simp;done)|(simp [*];done)),H',⟨by first|omega|exact Nat.le_refl _⟩,⟨by (with_reducible repeat (first|apply zN|apply zM|apply zR)); exact wK.out⟩,⟨by (with_reducible repeat (first|apply zN|apply zM|apply zR)); exact uY.out⟩,⟨by repeat (first|(with_reducible first|exact HB.out|apply zY|apply zV|apply zU|refine zQ ?_ uI.out|refine zQ ?_ sC.out)|exact HB.out)⟩⟩
   ·
    rw [if_neg c7] at H
    have c7b0 : (!(zH == vE) || (!(zG == vD) || (!(yM == vC) || (!(yO == vB))))) = false:=by simpa using c7
    clear c7
    by_cases c11 : (zE.length : Int) = (wH.length : Int)
    ·
     rw [if_pos c11] at H
     have c11b0 : ((zE.length : Int) == (wH.length : Int)) = true:=beq_iff_eq.mpr c11
     have c11b1 : ((zE.length : Int) != (wH.length : Int)) = false:=bne_eq_false_iff_eq.mpr c11
     have c11b2 : (zE.length == wH.length) = true:=by first|simpa using c11|(simp at c11 ⊢; omega)
     clear c11
     by_cases c12 : (zW.length : Int) = (yB.length : Int)
     ·
      rw [if_pos c12] at H
      have c12b0 : ((zW.length : Int) == (yB.length : Int)) = true:=beq_iff_eq.mpr c12
      have c12b1 : ((zW.length : Int) != (yB.length : Int)) = false:=bne_eq_false_iff_eq.mpr c12
      have c12b2 : (zW.length == yB.length) = true:=by first|simpa using c12|(simp at c12 ⊢; omega)
      clear c12
      replace H:=Option.bind_eq_some_iff.mp H
      obtain ⟨t431,A130,H⟩:=H
      replace H : (wA.j0 k (!t431) zT zE zW zH zG yM yO yX yW zA yZ xJ wH yB vE vD vC vB vA uZ vO vL) = some r:=H
      have A13:=zZ.mk A130
      clear A130
      have H':=zZ.mk H
      clear H
      have hnb14:=rD.out
      have hnc14:=rC.out
      obtain ⟨pD,pC,pB,nU,eU,eT,eS,eR,eQ,eP,eO⟩:=kc11 wK.out
      obtain ⟨nS,nR,nQ,nP,fM,fL,fK,fJ,fI,fH,fG⟩:=kc11 uY.out
      go_wp2_with (first|(go_at_call 28; (with_reducible refine (yC.calls k yX yW _ _ zA _ _ yZ vA uZ _ _ vO _ _ vL t431 _ ?side1 ?side2 ?side3 ?side4 ?side5 ?side6 ?side7 ?side8 A13.out).mono ?_); (case side1 => repeat (first|exact (Kd.C_below rQ.out HB.out)|(with_reducible refine Kd.C_alloc ?_ _)|(with_reducible refine Kd.C_drewN ?_ _)|(with_reducible refine Kd.C_drew ?_))); (case side2 => exact rP.out); (case side3 => repeat (first|exact (Kd.C_below rO.out HB.out)|(with_reducible refine Kd.C_alloc ?_ _)|(with_reducible refine Kd.C_drewN ?_ _)|(with_reducible refine Kd.C_drew ?_))); (case side4 => exact rN.out); (case side5 => repeat (first|exact (Kd.C_below zZL.out HB.out)|(with_reducible refine Kd.C_alloc ?_ _)|(with_reducible refine Kd.C_drewN ?_ _)|(with_reducible refine Kd.C_drew ?_))); (case side6 => exact zZK.out); (case side7 => repeat (first|exact (Kd.C_below zZJ.out HB.out)|(with_reducible refine Kd.C_alloc ?_ _)|(with_reducible refine Kd.C_drewN ?_ _)|(with_reducible refine Kd.C_drew ?_))); (case side8 => exact zZI.out); rintro e w17 ⟨rfl,hb⟩; have zS:=zZ.mk (xX (g:=uP) (o:=.cells #[.string zT,.slice wW zE.length wY,.slice yR zW.length yS,.int .i64 zH,.int .i64 zG,.bool yM,.bool yO,.int .u8 yX,.string yW,.slice xF zA.length xE,.slice xD yZ.length xC] 54 (0,0)) (by (with_reducible repeat (first|apply zN|apply zM|apply zR)); exact wK.out) hb); have zO:=zZ.mk (xX (g:=sS) (o:=.cells #[.string xJ,.slice qC wH.length qB,.slice tV yB.length uB,.int .i64 vE,.int .i64 vD,.bool vC,.bool vB,.int .u8 vA,.string uZ,.slice qA vO.length pZ,.slice pY vL.length pX] 54 (0,0)) (by (with_reducible repeat (first|apply zN|apply zM|apply zR)); exact uY.out) hb); have zI:=zZ.mk (xW (by repeat (first|(with_reducible first|exact HB.out|apply zY|apply zV|apply zU|refine zQ ?_ uI.out|refine zQ ?_ sC.out)|exact HB.out)) hb); clear wK; clear uY; clear HB; have wK:=zS; have uY:=zO; have HB:=zI; clear zS zO zI; (try clear hb); (try clear hb2); (try clear hk); (try clear hi)))
      repeat (go_quiet (first|(go_at_call 28; (with_reducible refine (yC.calls k yX yW _ _ zA _ _ yZ vA uZ _ _ vO _ _ vL t431 _ ?side1 ?side2 ?side3 ?side4 ?side5 ?side6 ?side7 ?side8 A13.out).mono ?_); (case side1 => repeat (first|exact (Kd.C_below rQ.out HB.out)|(with_reducible refine Kd.C_alloc ?_ _)|(with_reducible refine Kd.C_drewN ?_ _)|(with_reducible refine Kd.C_drew ?_))); (case side2 => exact rP.out); (case side3 => repeat (first|exact (Kd.C_below rO.out HB.out)|(with_reducible refine Kd.C_alloc ?_ _)|(with_reducible refine Kd.C_drewN ?_ _)|(with_reducible refine Kd.C_drew ?_))); (case side4 => exact rN.out); (case side5 => repeat (first|exact (Kd.C_below zZL.out HB.out)|(with_reducible refine Kd.C_alloc ?_ _)|(with_reducible refine Kd.C_drewN ?_ _)|(with_reducible refine Kd.C_drew ?_))); (case side6 => exact zZK.out); (case side7 => repeat (first|exact (Kd.C_below zZJ.out HB.out)|(with_reducible refine Kd.C_alloc ?_ _)|(with_reducible refine Kd.C_drewN ?_ _)|(with_reducible refine Kd.C_drew ?_))); (case side8 => exact zZI.out); rintro e w17 ⟨rfl,hb⟩; have zS:=zZ.mk (xX (g:=uP) (o:=.cells #[.string zT,.slice wW zE.length wY,.slice yR zW.length yS,.int .i64 zH,.int .i64 zG,.bool yM,.bool yO,.int .u8 yX,.string yW,.slice xF zA.length xE,.slice xD yZ.length xC] 54 (0,0)) (by (with_reducible repeat (first|apply zN|apply zM|apply zR)); exact wK.out) hb); have zO:=zZ.mk (xX (g:=sS) (o:=.cells #[.string xJ,.slice qC wH.length qB,.slice tV yB.length uB,.int .i64 vE,.int .i64 vD,.bool vC,.bool vB,.int .u8 vA,.string uZ,.slice qA vO.length pZ,.slice pY vL.length pX] 54 (0,0)) (by (with_reducible repeat (first|apply zN|apply zM|apply zR)); exact uY.out) hb); have zI:=zZ.mk (xW (by repeat (first|(with_reducible first|exact HB.out|apply zY|apply zV|apply zU|refine zQ ?_ uI.out|refine zQ ?_ sC.out)|exact HB.out)) hb); clear wK; clear uY; clear HB; have wK:=zS; have uY:=zO; have HB:=zI; clear zS zO zI; (try clear hb); (try clear hb2); (try clear hk); (try clear hi))); try go_wp2_with (first|(go_at_call 28; (with_reducible refine (yC.calls k yX yW _ _ zA _ _ yZ vA uZ _ _ vO _ _ vL t431 _ ?side1 ?side2 ?side3 ?side4 ?side5 ?side6 ?side7 ?side8 A13.out).mono ?_); (case side1 => repeat (first|exact (Kd.C_below rQ.out HB.out)|(with_reducible refine Kd.C_alloc ?_ _)|(with_reducible refine Kd.C_drewN ?_ _)|(with_reducible refine Kd.C_drew ?_))); (case side2 => exact rP.out); (case side3 => repeat (first|exact (Kd.C_below rO.out HB.out)|(with_reducible refine Kd.C_alloc ?_ _)|(with_reducible refine Kd.C_drewN ?_ _)|(with_reducible refine Kd.C_drew ?_))); (case side4 => exact rN.out); (case side5 => repeat (first|exact (Kd.C_below zZL.out HB.out)|(with_reducible refine Kd.C_alloc ?_ _)|(with_reducible refine Kd.C_drewN ?_ _)|(with_reducible refine Kd.C_drew ?_))); (case side6 => exact zZK.out); (case side7 => repeat (first|exact (Kd.C_below zZJ.out HB.out)|(with_reducible refine Kd.C_alloc ?_ _)|(with_reducible refine Kd.C_drewN ?_ _)|(with_reducible refine Kd.C_drew ?_))); (case side8 => exact zZI.out); rintro e w17 ⟨rfl,hb⟩; have zS:=zZ.mk (xX (g:=uP) (o:=.cells #[.string zT,.slice wW zE.length wY,.slice yR zW.length yS,.int .i64 zH,.int .i64 zG,.bool yM,.bool yO,.int .u8 yX,.string yW,.slice xF zA.length xE,.slice xD yZ.length xC] 54 (0,0)) (by (with_reducible repeat (first|apply zN|apply zM|apply zR)); exact wK.out) hb); have zO:=zZ.mk (xX (g:=sS) (o:=.cells #[.string xJ,.slice qC wH.length qB,.slice tV yB.length uB,.int .i64 vE,.int .i64 vD,.bool vC,.bool vB,.int .u8 vA,.string uZ,.slice qA vO.length pZ,.slice pY vL.length pX] 54 (0,0)) (by (with_reducible repeat (first|apply zN|apply zM|apply zR)); exact uY.out) hb); have zI:=zZ.mk (xW (by repeat (first|(with_reducible first|exact HB.out|apply zY|apply zV|apply zU|refine zQ ?_ uI.out|refine zQ ?_ sC.out)|exact HB.out)) hb); clear wK; clear uY; clear HB; have wK:=zS; have uY:=zO; have HB:=zI; clear zS zO zI; (try clear hb); (try clear hb2); (try clear hk); (try clear hi))))
      go_meet
      case rel => exact ⟨_,(!t431),(by first|rfl|(simp;done)|(simp [*];done)),H',⟨by first|omega|exact Nat.le_refl _⟩,⟨by (with_reducible repeat (first|apply zN|apply zM|apply zR)); exact wK.out⟩,⟨by (with_reducible repeat (first|apply zN|apply zM|apply zR)); exact uY.out⟩,⟨by repeat (first|(with_reducible first|exact HB.out|apply zY|apply zV|apply zU|refine zQ ?_ uI.out|refine zQ ?_ sC.out)|exact HB.out)⟩⟩
     ·
      rw [if_neg c12] at H
      have c12b0 : ((zW.length : Int) == (yB.length : Int)) = false:=beq_eq_false_iff_ne.mpr c12
      have c12b1 : ((zW.length : Int) != (yB.length : Int)) = true:=bne_iff_ne.mpr c12
      have c12b2 : (zW.length == yB.length) = false:=by first|simpa using c12|(simp at c12 ⊢; omega)
      have H':=zZ.mk H
      clear H
      have hnb18:=rD.out
      have hnc18:=rC.out
      obtain ⟨pA,oZ,oY,nO,fF,fE,fD,fC,fB,fA,eZ⟩:=kc11 wK.out
      obtain ⟨mK,mJ,mI,mH,zYT,zYS,zYR,zYQ,zYP,zYO,zYN⟩:=kc11 uY.out
      go_wp2
      repeat (go_quiet (fail); try go_wp2)
      go_meet
      case rel => exact ⟨_,(true),(by first|rfl|(simp;done)|(simp [*];done)),H',⟨by first|omega|exact Nat.le_refl _⟩,⟨by (with_reducible repeat (first|apply zN|apply zM|apply zR)); exact wK.out⟩,⟨by (with_reducible repeat (first|apply zN|apply zM|apply zR)); exact uY.out⟩,⟨by repeat (first|(with_reducible first|exact HB.out|apply zY|apply zV|apply zU|refine zQ ?_ uI.out|refine zQ ?_ sC.out)|exact HB.out)⟩⟩
    ·
     rw [if_neg c11] at H
     have c11b0 : ((zE.length : Int) == (wH.length : Int)) = false:=beq_eq_false_iff_ne.mpr c11
     have c11b1 : ((zE.length : Int) != (wH.length : Int)) = true:=bne_iff_ne.mpr c11
     have c11b2 : (zE.length == wH.length) = false:=by first|simpa using c11|(simp at c11 ⊢; omega)
     have H':=zZ.mk H
     clear H
     have hnb21:=rD.out
     have hnc21:=rC.out
     obtain ⟨eY,eX,eW,eV,zYM,zYL,zYK,zYJ,zYI,zYH,zYG⟩:=kc11 wK.out
     obtain ⟨cZ,cY,cX,cW,zYF,zYE,zYD,zYC,zYB,zYA,zXZ⟩:=kc11 uY.out
     go_wp2
     repeat (go_quiet (fail); try go_wp2)
     go_meet
     case rel => exact ⟨_,(true),(by first|rfl|(simp;done)|(simp [*];done)),H',⟨by first|omega|exact Nat.le_refl _⟩,⟨by (with_reducible repeat (first|apply zN|apply zM|apply zR)); exact wK.out⟩,⟨by (with_reducible repeat (first|apply zN|apply zM|apply zR)); exact uY.out⟩,⟨by repeat (first|(with_reducible first|exact HB.out|apply zY|apply zV|apply zU|refine zQ ?_ uI.out|refine zQ ?_ sC.out)|exact HB.out)⟩⟩
  ·
   rw [if_neg c6] at H
   have c6b0 : (zT.toList == xJ.toList) = false:=beq_eq_false_iff_ne.mpr c6
   have c6b1 : (zT.toList != xJ.toList) = true:=bne_iff_ne.mpr c6
   (first|rw [c6b0]|(simp only [yV,yU]; rw [c6b0])|skip)
   have H':=zZ.mk H
   clear H
   have hnb24:=rD.out
   have hnc24:=rC.out
   obtain ⟨nY,nX,nW,cV,zXY,zXX,zXW,zXV,zXU,zXT,zXS⟩:=kc11 wK.out
   obtain ⟨eN,eM,eL,eK,eJ,eI,eH,eG,eF,eE,eD⟩:=kc11 uY.out
   go_wp2
   repeat (go_quiet (fail); try go_wp2)
   go_meet
   case rel => exact ⟨_,(true),(by first|rfl|(simp;done)|(simp [*];done)),H',⟨by first|omega|exact Nat.le_refl _⟩,⟨by (with_reducible repeat (first|apply zN|apply zM|apply zR)); exact wK.out⟩,⟨by (with_reducible repeat (first|apply zN|apply zM|apply zR)); exact uY.out⟩,⟨by repeat (first|(with_reducible first|exact HB.out|apply zY|apply zV|apply zU|refine zQ ?_ uI.out|refine zQ ?_ sC.out)|exact HB.out)⟩⟩
 case rest =>
  clear HC3
  try clear c1
  try clear c2
  try clear p2
  try clear c4
  try clear c6
  try clear c6b0
  try clear c6b1
  try clear c7
  try clear c7b0
  try clear c8
  try clear c11
  try clear c11b0
  try clear c11b1
  try clear c11b2
  try clear c12
  try clear c12b0
  try clear c12b1
  try clear c12b2
  try clear c14
  try clear c18
  try clear c21
  try clear c24
  try clear mP mO zYU mN mM zZA zYZ zYY zYX zYW zYV
  try clear pD pC eO pB nU eU eT eS eR eQ eP
  try clear nS nR fG nQ nP fM fL fK fJ fI fH
  try clear pA oZ eZ oY nO fF fE fD fC fB fA
  try clear mK mJ zYN mI mH zYT zYS zYR zYQ zYP zYO
  try clear eY eX zYG eW eV zYM zYL zYK zYJ zYI zYH
  try clear cZ cY zXZ cX cW zYF zYE zYD zYC zYB zYA
  try clear nY nX zXS nW cV zXY zXX zXW zXV zXU zXT
  try clear eN eM eD eL eK eJ eI eH eG eF eE
  try clear pM pL zZB pK dL zZH zZG zZF zZE zZD zZC
  obtain ⟨kq,nV,rfl,HA,HJ2,wK,uY,HB⟩:=hcut
  cases kq with
  | zero => exact absurd HA.out (by simp [wA.j0])
  | succ kj2 =>
   have H:=HA.out
   clear HA
   simp only [wA.j0] at H
   by_cases c27 : nV = true
   ·
    subst c27
    have H1 : (some false) = some r:=by rw [if_pos rfl] at H; exact H
    clear H
    have H:=H1
    clear H1
    obtain rfl:=Option.some.inj H
    go_wp2
    repeat (go_quiet (fail); try go_wp2)
    go_ret
    exact ⟨by first|rfl|(simp [yG,yF] <;> rfl)|(simp [*,yG,yF] <;> rfl),by repeat (first|(with_reducible first|exact HB.out|apply zY|apply zV|apply zU|refine zQ ?_ uI.out|refine zQ ?_ sC.out)|exact HB.out)⟩
   ·
    replace c27:=Bool.eq_false_iff.mpr c27
    subst c27
    have H1 : (wA.l0 kj2 0 zT zE zW zH zG yM yO yX yW zA yZ xJ wH yB vE vD vC vB vA uZ vO vL) = some r:=by rw [if_neg (show ¬ (false = true) by decide)] at H; exact H
    clear H
    have H:=H1
    clear H1
    have H':=zZ.mk H
    clear H
    go_wp2
    repeat (go_quiet (fail); try go_wp2)
    go_loopg [5] kj2 (fun kq v5 w' => ∃ (yI : Int),v5 = .int .i64 yI ∧ zZ (wA.l0 kq yI zT zE zW zH zG yM yO yX yW zA yZ xJ wH yB vE vD vC vB vA uZ vO vL = some r) ∧ zZ (kq ≤ kj2) ∧ zZ (w'.heap[uP]? = some (.cells #[.string zT,(.slice wW zE.length wY),(.slice yR zW.length yS),.int .i64 zH,.int .i64 zG,.bool yM,.bool yO,.int .u8 yX,.string yW,(.slice xF zA.length xE),(.slice xD yZ.length xC)] 54 (0,0))) ∧ zZ (w'.heap[sS]? = some (.cells #[.string xJ,(.slice qC wH.length qB),(.slice tV yB.length uB),.int .i64 vE,.int .i64 vD,.bool vC,.bool vB,.int .u8 vA,.string uZ,(.slice qA vO.length pZ),(.slice pY vL.length pX)] 54 (0,0))) ∧ zZ (Below w.heap.size w w'))
    case atStart => exact ⟨(0),(by first|rfl|(simp;done)|(simp [*];done)),H',⟨Nat.le_refl _⟩,⟨by (with_reducible repeat (first|apply zN|apply zM|apply zR)); exact wK.out⟩,⟨by (with_reducible repeat (first|apply zN|apply zM|apply zR)); exact uY.out⟩,⟨by repeat (first|(with_reducible first|exact HB.out|apply zY|apply zV|apply zU|refine zQ ?_ uI.out|refine zQ ?_ sC.out)|exact HB.out)⟩⟩
    case round =>
     clear H'
     try clear c1
     try clear c2
     try clear p2 p2
     try clear c4
     try clear c6
     try clear c6b0
     try clear c6b1
     try clear c7
     try clear c7b0
     try clear c8
     try clear c11
     try clear c11b0
     try clear c11b1
     try clear c11b2
     try clear c12
     try clear c12b0
     try clear c12b1
     try clear c12b2
     try clear c14
     try clear c18
     try clear c21
     try clear c24
     try clear c27
     try clear mP mO zYU mN mM zZA zYZ zYY zYX zYW zYV
     try clear pD pC eO pB nU eU eT eS eR eQ eP
     try clear nS nR fG nQ nP fM fL fK fJ fI fH
     try clear pA oZ eZ oY nO fF fE fD fC fB fA
     try clear mK mJ zYN mI mH zYT zYS zYR zYQ zYP zYO
     try clear eY eX zYG eW eV zYM zYL zYK zYJ zYI zYH
     try clear cZ cY zXZ cX cW zYF zYE zYD zYC zYB zYA
     try clear nY nX zXS nW cV zXY zXX zXW zXV zXU zXT
     try clear eN eM eD eL eK eJ eI eH eG eF eE
     try clear pM pL zZB pK dL zZH zZG zZF zZE zZD zZC
     obtain ⟨yI,rfl,HA,HK2,wK,uY,HB⟩:=hrel
     cases gk with
     | zero => exact absurd HA.out (by simp [wA.l0])
     | succ k2 =>
      have H:=HA.out
      clear HA
      simp only [wA.l0] at H
      by_cases c28 : yI < (zE.length : Int)
      ·
       rw [if_pos c28] at H
       have c28b0 : decide (yI < (zE.length : Int)) = true:=decide_eq_true c28
       clear c28
       by_cases c29 : 0 ≤ yI
       ·
        rw [if_pos c29] at H
        have c29b0 : decide (0 ≤ yI) = true:=decide_eq_true c29
        clear c29
        by_cases c30 : yI < (wH.length : Int)
        ·
         rw [if_pos c30] at H
         have c30b0 : decide (yI < (wH.length : Int)) = true:=decide_eq_true c30
         clear c30
         by_cases c31 : (rdOf ByteArray.empty zE yI).toList = (rdOf ByteArray.empty wH yI).toList
         ·
          rw [if_pos c31] at H
          have c31b0 : ((rdOf ByteArray.empty zE yI).toList == (rdOf ByteArray.empty wH yI).toList) = true:=beq_iff_eq.mpr c31
          have c31b1 : ((rdOf ByteArray.empty zE yI).toList != (rdOf ByteArray.empty wH yI).toList) = false:=bne_eq_false_iff_eq.mpr c31
          clear c31
          have H':=zZ.mk H
          clear H
          have hnb32:=rD.out
          have hnc32:=rC.out
          obtain ⟨pG,pF,pE,fX,zOL,zOK,zOJ,zOI,zOH,zOG,zOF⟩:=kc11 wK.out
          have p432 : 0 ≤ (yI : Int):=of_decide_eq_true (by first|(with_reducible assumption)|assumption)
          have q432 : yI < (zE.length : Int):=of_decide_eq_true (by first|(with_reducible assumption)|assumption)
          obtain ⟨ad432,e432,lU⟩:=Kd.at_string jI.out yI p432 q432
          cases e432
          replace lU:=(HB.out.cell (World.block_lt_of_cell? w _ lU)).trans lU
          replace p432:=eq_true p432
          replace q432:=eq_true q432
          obtain ⟨zUR,zUQ,zUP,zUO,zOE,zOD,zOC,zOB,zOA,zNZ,zNY⟩:=kc11 uY.out
          have p433 : 0 ≤ (yI : Int):=of_decide_eq_true (by first|(with_reducible assumption)|assumption)
          have q433 : yI < (wH.length : Int):=of_decide_eq_true (by first|(with_reducible assumption)|assumption)
          obtain ⟨ad433,e433,lT⟩:=Kd.at_string zUU.out yI p433 q433
          cases e433
          replace lT:=(HB.out.cell (World.block_lt_of_cell? w _ lT)).trans lT
          replace p433:=eq_true p433
          replace q433:=eq_true q433
          go_wp2
          repeat (go_quiet (fail); try go_wp2)
          go_roundg k2
          case measure => have:=HJ2.out; have:=HK2.out; omega
          case rel => exact ⟨(wrap64 (yI + 1)),(by first|rfl|(simp;done)|(simp [*];done)),H',⟨by have:=HJ2.out; have:=HK2.out; omega⟩,⟨by (with_reducible repeat (first|apply zN|apply zM|apply zR)); exact wK.out⟩,⟨by (with_reducible repeat (first|apply zN|apply zM|apply zR)); exact uY.out⟩,⟨by repeat (first|(with_reducible first|exact HB.out|apply zY|apply zV|apply zU|refine zQ ?_ uI.out|refine zQ ?_ sC.out)|exact HB.out)⟩⟩
         ·
          rw [if_neg c31] at H
          have c31b0 : ((rdOf ByteArray.empty zE yI).toList == (rdOf ByteArray.empty wH yI).toList) = false:=beq_eq_false_iff_ne.mpr c31
          have c31b1 : ((rdOf ByteArray.empty zE yI).toList != (rdOf ByteArray.empty wH yI).toList) = true:=bne_iff_ne.mpr c31
          obtain rfl:=Option.some.inj H
          have hnb35:=rD.out
          have hnc35:=rC.out
          obtain ⟨zNX,zNW,zNV,zNU,zNT,zNS,zNR,zNQ,zNP,zNO,zNN⟩:=kc11 wK.out
          have p432 : 0 ≤ (yI : Int):=of_decide_eq_true (by first|(with_reducible assumption)|assumption)
          have q432 : yI < (zE.length : Int):=of_decide_eq_true (by first|(with_reducible assumption)|assumption)
          obtain ⟨ad432,e432,lU⟩:=Kd.at_string jI.out yI p432 q432
          cases e432
          replace lU:=(HB.out.cell (World.block_lt_of_cell? w _ lU)).trans lU
          replace p432:=eq_true p432
          replace q432:=eq_true q432
          obtain ⟨zZP,zZO,zZN,zZM,zNM,zNL,zNK,zNJ,zNI,zNH,zNG⟩:=kc11 uY.out
          have p433 : 0 ≤ (yI : Int):=of_decide_eq_true (by first|(with_reducible assumption)|assumption)
          have q433 : yI < (wH.length : Int):=of_decide_eq_true (by first|(with_reducible assumption)|assumption)
          obtain ⟨ad433,e433,lT⟩:=Kd.at_string zUU.out yI p433 q433
          cases e433
          replace lT:=(HB.out.cell (World.block_lt_of_cell? w _ lT)).trans lT
          replace p433:=eq_true p433
          replace q433:=eq_true q433
          go_wp2
          repeat (go_quiet (fail); try go_wp2)
          go_ret
          exact ⟨by first|rfl|(simp [yG,yF] <;> rfl)|(simp [*,yG,yF] <;> rfl),by repeat (first|(with_reducible first|exact HB.out|apply zY|apply zV|apply zU|refine zQ ?_ uI.out|refine zQ ?_ sC.out)|exact HB.out)⟩
        ·
         rw [if_neg c30] at H
         exact absurd H (by simp)
       ·
        rw [if_neg c29] at H
        exact absurd H (by simp)
      ·
       rw [if_neg c28] at H
       have c28b0 : decide (yI < (zE.length : Int)) = false:=decide_eq_false c28
       clear c28
       have H':=zZ.mk H
       clear H
       have hnb38:=rD.out
       have hnc38:=rC.out
       obtain ⟨zNF,zNE,zND,zNC,zNB,zNA,zMZ,zMY,zMX,zMW,zMV⟩:=kc11 wK.out
       go_wp2
       repeat (go_quiet (fail); try go_wp2)
       go_loopg [6] k2 (fun kq v6 w' => ∃ (yN : Int),v6 = .int .i64 yN ∧ zZ (wA.l1 kq yN zT zE zW zH zG yM yO yX yW zA yZ xJ wH yB vE vD vC vB vA uZ vO vL = some r) ∧ zZ (kq ≤ k2) ∧ zZ (w'.heap[uP]? = some (.cells #[.string zT,(.slice wW zE.length wY),(.slice yR zW.length yS),.int .i64 zH,.int .i64 zG,.bool yM,.bool yO,.int .u8 yX,.string yW,(.slice xF zA.length xE),(.slice xD yZ.length xC)] 54 (0,0))) ∧ zZ (w'.heap[sS]? = some (.cells #[.string xJ,(.slice qC wH.length qB),(.slice tV yB.length uB),.int .i64 vE,.int .i64 vD,.bool vC,.bool vB,.int .u8 vA,.string uZ,(.slice qA vO.length pZ),(.slice pY vL.length pX)] 54 (0,0))) ∧ zZ (Below w.heap.size w w'))
       case atStart => exact ⟨(0),(by first|rfl|(simp;done)|(simp [*];done)),H',⟨Nat.le_refl _⟩,⟨by (with_reducible repeat (first|apply zN|apply zM|apply zR)); exact wK.out⟩,⟨by (with_reducible repeat (first|apply zN|apply zM|apply zR)); exact uY.out⟩,⟨by repeat (first|(with_reducible first|exact HB.out|apply zY|apply zV|apply zU|refine zQ ?_ uI.out|refine zQ ?_ sC.out)|exact HB.out)⟩⟩
       case round =>
        clear H'
        try clear c1
        try clear c2
        try clear p2 p2
        try clear c3
        try clear c4
        try clear p4
        try clear q4
        try clear hx4
        try clear c6
        try clear c6b0
        try clear c6b1
        try clear p6
        try clear c7
        try clear c7b0
        try clear c8
        try clear c11
        try clear c11b0
        try clear c11b1
        try clear c11b2
        try clear c12
        try clear c12b0
        try clear c12b1
        try clear c12b2
        try clear c14
        try clear c18
        try clear c21
        try clear c24
        try clear c27
        try clear c28
        try clear c28b0
        try clear c29
        try clear c29b0
        try clear c30
        try clear c30b0
        try clear c31
        try clear c31b0
        try clear c31b1
        try clear c32
        try clear c35
        try clear c38
        try clear mP mO zYU mN mM zZA zYZ zYY zYX zYW zYV
        try clear pD pC eO pB nU eU eT eS eR eQ eP
        try clear nS nR fG nQ nP fM fL fK fJ fI fH
        try clear pA oZ eZ oY nO fF fE fD fC fB fA
        try clear mK mJ zYN mI mH zYT zYS zYR zYQ zYP zYO
        try clear eY eX zYG eW eV zYM zYL zYK zYJ zYI zYH
        try clear cZ cY zXZ cX cW zYF zYE zYD zYC zYB zYA
        try clear nY nX zXS nW cV zXY zXX zXW zXV zXU zXT
        try clear eN eM eD eL eK eJ eI eH eG eF eE
        try clear pG pF zOF pE fX zOL zOK zOJ zOI zOH zOG
        try clear zUR zUQ zNY zUP zUO zOE zOD zOC zOB zOA zNZ
        try clear zNX zNW zNN zNV zNU zNT zNS zNR zNQ zNP zNO
        try clear zZP zZO zNG zZN zZM zNM zNL zNK zNJ zNI zNH
        try clear zNF zNE zMV zND zNC zNB zNA zMZ zMY zMX zMW
        try clear pM pL zZB pK dL zZH zZG zZF zZE zZD zZC
        try clear lU
        try clear lT
        try clear p432
        try clear p433
        try clear q432
        try clear q433
        obtain ⟨yN,rfl,HA,HK3,wK,uY,HB⟩:=hrel
        cases gk with
        | zero => exact absurd HA.out (by simp [wA.l1])
        | succ k3 =>
         have H:=HA.out
         clear HA
         simp only [wA.l1] at H
         by_cases c40 : yN < (zW.length : Int)
         ·
          rw [if_pos c40] at H
          have c40b0 : decide (yN < (zW.length : Int)) = true:=decide_eq_true c40
          clear c40
          by_cases c41 : 0 ≤ yN
          ·
           rw [if_pos c41] at H
           have c41b0 : decide (0 ≤ yN) = true:=decide_eq_true c41
           clear c41
           by_cases c42 : yN < (yB.length : Int)
           ·
            rw [if_pos c42] at H
            have c42b0 : decide (yN < (yB.length : Int)) = true:=decide_eq_true c42
            clear c42
            by_cases c43 : (rd zW yN) = (rd yB yN)
            ·
             rw [if_pos c43] at H
             have c43b0 : ((rd zW yN) == (rd yB yN)) = true:=beq_iff_eq.mpr c43
             have c43b1 : ((rd zW yN) != (rd yB yN)) = false:=bne_eq_false_iff_eq.mpr c43
             clear c43
             have H':=zZ.mk H
             clear H
             have hnb44:=rD.out
             have hnc44:=rC.out
             obtain ⟨zAP,zAO,zAN,zAM,zAL,zAK,zAJ,zAI,zAH,zAG,zAF⟩:=kc11 wK.out
             have p434 : 0 ≤ (yN : Int):=of_decide_eq_true (by first|(with_reducible assumption)|assumption)
             have q434 : yN < (zW.length : Int):=of_decide_eq_true (by first|(with_reducible assumption)|assumption)
             obtain ⟨ad434,e434,lD⟩:=Kd.at_int tA.out yN p434 q434
             cases e434
             replace lD:=(HB.out.cell (World.block_lt_of_cell? w _ lD)).trans lD
             replace p434:=eq_true p434
             replace q434:=eq_true q434
             obtain ⟨zAE,zAD,zAC,zAB,zAA,yZZ,yZY,yZX,yZW,yZV,yZU⟩:=kc11 uY.out
             have p435 : 0 ≤ (yN : Int):=of_decide_eq_true (by first|(with_reducible assumption)|assumption)
             have q435 : yN < (yB.length : Int):=of_decide_eq_true (by first|(with_reducible assumption)|assumption)
             obtain ⟨ad435,e435,lC⟩:=Kd.at_int gA.out yN p435 q435
             cases e435
             replace lC:=(HB.out.cell (World.block_lt_of_cell? w _ lC)).trans lC
             replace p435:=eq_true p435
             replace q435:=eq_true q435
             go_wp2
             repeat (go_quiet (fail); try go_wp2)
             go_roundg k3
             case measure => have:=HJ2.out; have:=HK2.out; have:=HK3.out; omega
             case rel => exact ⟨(wrap64 (yN + 1)),(by first|rfl|(simp;done)|(simp [*];done)),H',⟨by have:=HJ2.out; have:=HK2.out; have:=HK3.out; omega⟩,⟨by (with_reducible repeat (first|apply zN|apply zM|apply zR)); exact wK.out⟩,⟨by (with_reducible repeat (first|apply zN|apply zM|apply zR)); exact uY.out⟩,⟨by repeat (first|(with_reducible first|exact HB.out|apply zY|apply zV|apply zU|refine zQ ?_ uI.out|refine zQ ?_ sC.out)|exact HB.out)⟩⟩
            ·
             rw [if_neg c43] at H
             have c43b0 : ((rd zW yN) == (rd yB yN)) = false:=beq_eq_false_iff_ne.mpr c43
             have c43b1 : ((rd zW yN) != (rd yB yN)) = true:=bne_iff_ne.mpr c43
             obtain rfl:=Option.some.inj H
             have hnb47:=rD.out
             have hnc47:=rC.out
             obtain ⟨aG,aE,aD,aC,yZT,yZS,yZR,yZQ,yZP,yZO,yZN⟩:=kc11 wK.out
             have p434 : 0 ≤ (yN : Int):=of_decide_eq_true (by first|(with_reducible assumption)|assumption)
             have q434 : yN < (zW.length : Int):=of_decide_eq_true (by first|(with_reducible assumption)|assumption)
             obtain ⟨ad434,e434,lD⟩:=Kd.at_int tA.out yN p434 q434
             cases e434
             replace lD:=(HB.out.cell (World.block_lt_of_cell? w _ lD)).trans lD
             replace p434:=eq_true p434
             replace q434:=eq_true q434
             obtain ⟨yZM,yZL,yZK,yZJ,yZI,yZH,yZG,yZF,yZE,yZD,yZC⟩:=kc11 uY.out
             have p435 : 0 ≤ (yN : Int):=of_decide_eq_true (by first|(with_reducible assumption)|assumption)
             have q435 : yN < (yB.length : Int):=of_decide_eq_true (by first|(with_reducible assumption)|assumption)
             obtain ⟨ad435,e435,lC⟩:=Kd.at_int gA.out yN p435 q435
             cases e435
             replace lC:=(HB.out.cell (World.block_lt_of_cell? w _ lC)).trans lC
             replace p435:=eq_true p435
             replace q435:=eq_true q435
             go_wp2
             repeat (go_quiet (fail); try go_wp2)
             go_ret
             exact ⟨by first|rfl|(simp [yG,yF] <;> rfl)|(simp [*,yG,yF] <;> rfl),by repeat (first|(with_reducible first|exact HB.out|apply zY|apply zV|apply zU|refine zQ ?_ uI.out|refine zQ ?_ sC.out)|exact HB.out)⟩
           ·
            rw [if_neg c42] at H
            exact absurd H (by simp)
          ·
           rw [if_neg c41] at H
           exact absurd H (by simp)
         ·
          rw [if_neg c40] at H
          have c40b0 : decide (yN < (zW.length : Int)) = false:=decide_eq_false c40
          clear c40
          obtain rfl:=Option.some.inj H
          have hnb50:=rD.out
          have hnc50:=rC.out
          obtain ⟨zMU,zMT,zMS,zMR,yZB,yZA,yYZ,yYY,yYX,yYW,yYV⟩:=kc11 wK.out
          go_wp2
          repeat (go_quiet (fail); try go_wp2)
          go_ret
          exact ⟨by first|rfl|(simp [yG,yF] <;> rfl)|(simp [*,yG,yF] <;> rfl),by repeat (first|(with_reducible first|exact HB.out|apply zY|apply zV|apply zU|refine zQ ?_ uI.out|refine zQ ?_ sC.out)|exact HB.out)⟩
end Go.Proofs.YtjeofffddbibeaaDoor.PParseTells
end

section
namespace Go.Proofs.YtjeofffddbibeaaDoor.Pa
open Go Go.RowKit PParseTells Ex YtjeofffddbibeaaDoorW.PrintWords YtjeofffddbibeaaDoorW.PrintLast YtjeofffddbibeaaDoorW.PrintMore
theorem rd_num (ns : List Int) (i : Nat) (h : i < ns.length) : rd ns (i : Int) = ns[i]:=by
 unfold rd
 rw [Int.toNat_natCast,List.getD_eq_getElem?_getD,List.getElem?_eq_getElem h]
 rfl
theorem rd_txt (ns : List ByteArray) (i : Nat) (h : i < ns.length) : rdOf ByteArray.empty ns (i : Int) = ns[i]:=by
 unfold rdOf
 rw [Int.toNat_natCast,List.getD_eq_getElem?_getD,List.getElem?_eq_getElem h]
 rfl
theorem oL {s t : ByteArray} : s.toList = t.toList ↔ s = t:=by
 refine ⟨fun h => ?_,fun h => by rw [h]⟩
 rw [Lib.toList_data,Lib.toList_data] at h
 exact WideShapes.bytes_inj h
theorem same11_l1 (c d : Cmd) (hl : c.nums.length = d.nums.length) (hm : c.nums.length ≤ 9223372036854775807) :
  ∀ (n i : Nat),i + n = c.nums.length → ∀ k : Nat,n + 1 ≤ k → wA.l1 k i c.word c.names c.nums c.lo c.hi c.hl c.hh c.x.f0 c.x.f1 c.x.f2 c.x.f3 d.word d.names d.nums d.lo d.hi d.hl d.hh d.x.f0 d.x.f1 d.x.f2 d.x.f3 = some (decide (c.nums.drop i = d.nums.drop i)):=by
 intro n
 induction n with
 | zero =>
  intro i hi k hk
  obtain ⟨k,rfl⟩ : ∃ m,k = m + 1:=⟨k - 1,by omega⟩
  rw [wA.l1,if_neg (by omega),List.drop_eq_nil_of_le (by omega),List.drop_eq_nil_of_le (by omega)]
  simp
 | succ n ih =>
  intro i hi k hk
  obtain ⟨k,rfl⟩ : ∃ m,k = m + 1:=⟨k - 1,by omega⟩
  have h1 : i < c.nums.length:=by omega
  have h2 : i < d.nums.length:=by omega
  have hn:=ih (i + 1) (by omega) k (by omega)
  rw [show ((i + 1 : Nat) : Int) = (i : Int) + 1 by omega] at hn
  rw [wA.l1,if_pos (by omega),if_pos (by omega),if_pos (by omega),rd_num _ i h1,rd_num _ i h2,w64 (by omega) (by omega),hn,List.drop_eq_getElem_cons h1,List.drop_eq_getElem_cons h2]
  by_cases he : c.nums[i] = d.nums[i]
  ·
   rw [if_pos he]
   congr 1
   exact decide_eq_decide.2 ⟨fun h => by rw [he,h],fun h => (List.cons.inj h).2⟩
  · rw [if_neg he,decide_eq_false (fun h => he (List.cons.inj h).1)]
theorem same11_l0 (c d : Cmd) (hl : c.names.length = d.names.length) (hm : c.names.length ≤ 9223372036854775807) (K : Nat) (r : Bool)
  (hf : ∀ k : Nat,K ≤ k → wA.l1 k 0 c.word c.names c.nums c.lo c.hi c.hl c.hh c.x.f0 c.x.f1 c.x.f2 c.x.f3 d.word d.names d.nums d.lo d.hi d.hl d.hh d.x.f0 d.x.f1 d.x.f2 d.x.f3 = some r) :
  ∀ (n i : Nat),i + n = c.names.length → ∀ k : Nat,n + 1 + K ≤ k → wA.l0 k i c.word c.names c.nums c.lo c.hi c.hl c.hh c.x.f0 c.x.f1 c.x.f2 c.x.f3 d.word d.names d.nums d.lo d.hi d.hl d.hh d.x.f0 d.x.f1 d.x.f2 d.x.f3 = some (decide (c.names.drop i = d.names.drop i) && r):=by
 intro n
 induction n with
 | zero =>
  intro i hi k hk
  obtain ⟨k,rfl⟩ : ∃ m,k = m + 1:=⟨k - 1,by omega⟩
  rw [wA.l0,if_neg (by omega),List.drop_eq_nil_of_le (by omega),List.drop_eq_nil_of_le (by omega),hf k (by omega)]
  simp
 | succ n ih =>
  intro i hi k hk
  obtain ⟨k,rfl⟩ : ∃ m,k = m + 1:=⟨k - 1,by omega⟩
  have h1 : i < c.names.length:=by omega
  have h2 : i < d.names.length:=by omega
  have hn:=ih (i + 1) (by omega) k (by omega)
  rw [show ((i + 1 : Nat) : Int) = (i : Int) + 1 by omega] at hn
  rw [wA.l0,if_pos (by omega),if_pos (by omega),if_pos (by omega),rd_txt _ i h1,rd_txt _ i h2,w64 (by omega) (by omega),hn,List.drop_eq_getElem_cons h1,List.drop_eq_getElem_cons h2]
  by_cases he : c.names[i] = d.names[i]
  ·
   rw [if_pos (oL.2 he)]
   congr 2
   exact decide_eq_decide.2 ⟨fun h => by rw [he,h],fun h => (List.cons.inj h).2⟩
  ·
   rw [if_neg (fun h => he (oL.1 h)),decide_eq_false (fun h => he (List.cons.inj h).1)]
   rfl
theorem same11_f (c d : Cmd) (K : Nat) (hm : c.names.length ≤ 9223372036854775807) (hm2 : c.nums.length ≤ 9223372036854775807)
  (hx : ∀ k,K ≤ k → yC.f k c.x.f0 c.x.f1 c.x.f2 c.x.f3 d.x.f0 d.x.f1 d.x.f2 d.x.f3 = some (sameX c.x d.x)) (k : Nat) (hk : K + c.names.length + c.nums.length + 10 ≤ k) :
  wA.f k c.word c.names c.nums c.lo c.hi c.hl c.hh c.x.f0 c.x.f1 c.x.f2 c.x.f3 d.word d.names d.nums d.lo d.hi d.hl d.hh d.x.f0 d.x.f1 d.x.f2 d.x.f3 = some (sameC c d):=by
 obtain ⟨k,rfl⟩ : ∃ m,k = m + 1:=⟨k - 1,by omega⟩
 have hT : (c ≠ d) → wA.j0 (k + 1) true c.word c.names c.nums c.lo c.hi c.hl c.hh c.x.f0 c.x.f1 c.x.f2 c.x.f3 d.word d.names d.nums d.lo d.hi d.hl d.hh d.x.f0 d.x.f1 d.x.f2 d.x.f3 = some (sameC c d):=fun h => by
  rw [wA.j0,if_pos rfl,sameC_no h]
 unfold wA.f
 by_cases h1 : c.word = d.word
 case neg => rw [if_neg (fun h => h1 (oL.1 h))]; exact hT (fun e => h1 (by rw [e]))
 rw [if_pos (oL.2 h1)]
 by_cases h2 : c.lo = d.lo ∧ c.hi = d.hi ∧ c.hl = d.hl ∧ c.hh = d.hh
 case neg =>
  rw [if_pos (by
   rw [← Bool.not_eq_false]
   intro h
   simp only [Bool.or_eq_false_iff,Bool.not_eq_false',beq_iff_eq] at h
   exact h2 h)]
  exact hT (fun e => h2 (by rw [e]; exact ⟨rfl,rfl,rfl,rfl⟩))
 rw [if_neg (by
  obtain ⟨a1,a2,a3,a4⟩:=h2
  rw [a1,a2,a3,a4]
  simp)]
 by_cases h3 : c.names.length = d.names.length
 case neg => rw [if_neg (by omega)]; exact hT (fun e => h3 (by rw [e]))
 rw [if_pos (by omega)]
 by_cases h4 : c.nums.length = d.nums.length
 case neg => rw [if_neg (by omega)]; exact hT (fun e => h4 (by rw [e]))
 rw [if_pos (by omega),hx (k + 1) (by omega),Option.bind_some]
 by_cases h5 : sameX c.x d.x = true
 case neg =>
  have h5' : sameX c.x d.x = false:=by simpa using h5
  rw [h5']
  exact hT (fun e => h5 ((same_iff _ _).2 (by rw [e])))
 rw [h5]
 have hx5:=(same_iff _ _).1 h5
 have hb:=same11_l1 c d h4 hm2 c.nums.length 0 (by omega)
 have ha:=same11_l0 c d h3 hm (c.nums.length + 1) _ hb c.names.length 0 (by omega) k (by omega)
 have ha : wA.l0 k 0 c.word c.names c.nums c.lo c.hi c.hl c.hh c.x.f0 c.x.f1 c.x.f2 c.x.f3 d.word d.names d.nums d.lo d.hi d.hl d.hh d.x.f0 d.x.f1 d.x.f2 d.x.f3 = some (decide (c.names.drop 0 = d.names.drop 0) && decide (c.nums.drop 0 = d.nums.drop 0)):=ha
 rw [wA.j0,if_neg (by simp),ha,List.drop_zero,List.drop_zero,List.drop_zero,List.drop_zero]
 congr 1
 rw [Bool.eq_iff_iff,bW,Bool.and_eq_true,decide_eq_true_eq,decide_eq_true_eq]
 obtain ⟨a1,a2,a3,a4⟩:=h2
 constructor
 ·
  rintro ⟨e1,e2⟩
  obtain ⟨wd,NS,ms,lo,hi,hl,hh,x⟩:=c
  obtain ⟨wd',NS',ms',lo',hi',hl',hh',x'⟩:=d
  dsimp only at h1 a1 a2 a3 a4 e1 e2 hx5
  rw [h1,a1,a2,a3,a4,e1,e2,hx5]
 ·
  intro e
  rw [e]
  exact ⟨rfl,rfl⟩
theorem same_calls (c : Cmd) (A1 : Option Addr) (c1 : Nat) (A2 : Option Addr) (c2 : Nat) (A3 : Option Addr) (c3 : Nat) (A4 : Option Addr) (c4 : Nat) (d : Cmd) (B1 : Option Addr) (d1 : Nat) (B2 : Option Addr) (d2 : Nat) (B3 : Option Addr) (d3 : Nat) (B4 : Option Addr) (d4 : Nat) (w : World)
  (hc : HasC w c A1 c1 A2 c2 A3 c3 A4 c4) (hd : HasC w d B1 d1 B2 d2 B3 d3 B4 d4) :
  Calls Tryd.prog 40 #[.agg (cmA c A1 c1 A2 c2 A3 c3 A4 c4),.agg (cmA d B1 d1 B2 d2 B3 d3 B4 d4)] w fun e w' => e = .returned (.bool (sameC c d)) ∧ Below w.heap.size w w' :=
 wA.calls _ c.word A1 c1 c.names A2 c2 c.nums c.lo c.hi c.hl c.hh c.x.f0 c.x.f1 A3 c3 c.x.f2 A4 c4 c.x.f3 d.word B1 d1 d.names B2 d2 d.nums d.lo d.hi d.hl d.hh d.x.f0 d.x.f1 B3 d3 d.x.f2 B4 d4 d.x.f3 _ w
  hc.C1 hc.n1 hc.C2 hc.n2 hc.has.C2 hc.has.l2 hc.has.C3 hc.has.l3 hd.C1 hd.n1 hd.C2 hd.n2 hd.has.C2 hd.has.l2 hd.has.C3 hd.has.l3
  (same11_f c d (Ex.wt c.x) (Kd.C_max hc.C1) (Kd.C_max hc.C2) (fun k hk => refSame_f (cnt c.x) c.x d.x (Nat.le_refl _) w A3 c3 A4 c4 hc.has k hk) _ (Nat.le_refl _))
theorem gU (c : Cmd) : sameC c c = true:=(bW c c).2 rfl
end Go.Proofs.YtjeofffddbibeaaDoor.Pa
end

section
namespace Go.Proofs.YtjeofffddbibeaaDoor.PParseTells
open Go.RowKit YtjeofffddbibeaaDoorW.PrintWords YtjeofffddbibeaaDoorW.PrintLast YtjeofffddbibeaaDoorW.PrintMore
attribute [local go_sem] tH tM tG tL tK tJ tN tI
def uS.f (a0 : ByteArray) : Option (Int × ByteArray × Int):=some (4,a0,0)
set_option maxHeartbeats 8000000 in
set_option maxRecDepth 100000 in
theorem uS.calls (a0 : ByteArray) (r1 : Int) (r2 : ByteArray) (r3 : Int) (w : World) (h : uS.f a0 = some (r1,r2,r3)) :
  Calls Tryd.prog 73 #[.string a0] w fun e w' => e = .returned (.agg #[.int .u8 r1,.string r2,.int .i64 r3]) ∧ Below w.heap.size w w':=by
 have hu61:=Tryd.underlying61
 have HB:=zZ.mk (Below.refl w.heap.size w)
 have H : (some (4,a0,0)) = some (r1,r2,r3):=h
 clear h
 simp only [Option.some.injEq,Prod.mk.injEq] at H
 obtain ⟨rfl,rfl,rfl⟩:=H
 go_enter Tryd.func73,Tryd.ntmps73
 go_wp2_with (first|((with_reducible refine uU (N:=2) rfl ?_); refine tY ?hg (N:=2) ?hd (cs:=#[.int .u8 0,.string (⟨#[]⟩ : ByteArray),.int .i64 0]) (t:=61) ?hr ?_; (case hd => rfl); (case hg => rfl); (case hr => first|(go_simp; done)|(go_simp; rfl)); intro sE hg w2 hbox hb; have zS:=zZ.mk (xW (by repeat (first|(with_reducible first|exact HB.out|apply zY|apply zV|apply zU)|exact HB.out)) hb); have zO:=zZ.mk (hbox); have zI:=zZ.mk ((by rw [hg]; exact (xS (by repeat (first|(with_reducible first|exact HB.out|apply zY|apply zV|apply zU)|exact HB.out))) : w.heap.size ≤ sE)); have xV:=zZ.mk ((by rw [hg]; exact (xS (by repeat (first|(with_reducible first|exact HB.out|apply zY|apply zV|apply zU)|exact HB.out))) : w.heap.size ≤ sE)); clear HB; have HB:=zS; have vF:=zO; have aV:=zI; have rG:=xV; clear zS zO zI xV; clear hb hbox hg; obtain ⟨hcz3_0,hcz3_1,hcz3_2⟩:=kc3 vF.out; have hfz3_0:=zP vF.out 0; have hfz3_1:=zP vF.out 1; have hfz3_2:=zP vF.out 2))
 refine bodyPost_ret (results_cell_row rfl _ _ sE 61 #[.int .u8 4,.string a0,.int .i64 0] (0,0) _ rfl (by (with_reducible repeat (first|apply zN|apply zM|apply zR)); refine zF (cs:=#[.int .u8 4,.string a0,.int .i64 0]) ?_ 2 _ rfl; (with_reducible repeat (first|apply zN|apply zM|apply zR)); refine zF (cs:=#[.int .u8 4,.string (⟨#[]⟩ : ByteArray),.int .i64 0]) ?_ 1 _ rfl; (with_reducible repeat (first|apply zN|apply zM|apply zR)); refine zF (cs:=#[.int .u8 0,.string (⟨#[]⟩ : ByteArray),.int .i64 0]) ?_ 0 _ rfl; (with_reducible repeat (first|apply zN|apply zM|apply zR)); exact vF.out) Tryd.underlying61 rfl (by kernel_rfl)) rfl ?_
 exact ⟨by first|rfl|(simp [yG,yF] <;> rfl)|(simp [*,yG,yF] <;> rfl),by repeat (first|(with_reducible first|exact HB.out|apply zY|apply zV|apply zU|refine zQ ?_ rG.out)|exact HB.out)⟩
end Go.Proofs.YtjeofffddbibeaaDoor.PParseTells
end

section
namespace Go.Proofs.YtjeofffddbibeaaDoor.PParseTells
open Go.RowKit YtjeofffddbibeaaDoorW.PrintWords YtjeofffddbibeaaDoorW.PrintLast YtjeofffddbibeaaDoorW.PrintMore
attribute [local go_sem] tH tM tG tL tK tJ tN tI
theorem more_ {P : Program} {ops : Array Oper} {Q : Exit → Act → World → Prop} {md : Region.Mode} {S S2 : World → Prop} {ds : List Nat} (hS : ∀ w,S2 w → S w) :
  ∀ (fuel : Nat) (l : Array Bool) (a : Act) (w : World),S2 w → wpAnyLast P md ops Q S2 [] fuel l a w → wpAnyLast P md ops Q S ds fuel l a w
 | 0,_,_,_,_,h => h
 | fuel + 1,_,_,_,h2,h => ⟨h.1,fun i hi => wpOp_mono (fun a' w' h' => ⟨fun _ _ => hS _ (h'.1 (by simp) h2),more_ hS fuel _ a' w' (h'.1 (by simp) h2) h'.2⟩) (h.2 i hi)⟩
mutual
def xT.j0 : Nat → Bool → Int → ByteArray → List Int → List (S25) → Option ((List (S61)))
 | 0,_,_,_,_,_ => none
 | k + 1,x15,nE,lB,tP,sB => if x15 = true then (some (([(⟨1,lB,0⟩ : S61)] : List (S61)))) else ((oN.f).bind fun t299 => (if 0 ≤ nE then (if nE < (t299.length : Int) then ((uS.f (⟨#[40]⟩ : ByteArray)).bind fun bt303 => (xT.l0 k (([(⟨1,rdOf ByteArray.empty t299 nE,0⟩ : S61),(⟨bt303.1,bt303.2.1,bt303.2.2⟩ : S61)] : List (S61))) 0 nE lB tP sB)) else (none)) else (none)))
def xT.l0 : Nat → List (S61) → Int → Int → ByteArray → List Int → List (S25) → Option ((List (S61)))
 | 0,_,_,_,_,_,_ => none
 | k + 1,x3,x4,nE,lB,tP,sB => if x4 < (wrap64 ((tP.length : Int) + (sB.length : Int))) then (if x4 > 0 then ((uS.f (⟨#[44]⟩ : ByteArray)).bind fun bt315 => (if x3.length < 4398046511104 then ((some (x3 ++ [(⟨bt315.1,bt315.2.1,bt315.2.2⟩ : S61)] : List (S61))).bind fun y318 => (if x4 < (tP.length : Int) then (if 0 ≤ x4 then (if y318.length < 4398046511104 then (xT.l0 k (y318 ++ [(⟨2,(⟨#[]⟩ : ByteArray),rd tP x4⟩ : S61)]) (wrap64 (x4 + 1)) nE lB tP sB) else (none)) else (none)) else (if 0 ≤ (wrap64 (x4 - (tP.length : Int))) then (if (wrap64 (x4 - (tP.length : Int))) < (sB.length : Int) then ((xT.f k ((yY sB (wrap64 (x4 - (tP.length : Int)))).f0) ((yY sB (wrap64 (x4 - (tP.length : Int)))).f1) ((yY sB (wrap64 (x4 - (tP.length : Int)))).f2) ((yY sB (wrap64 (x4 - (tP.length : Int)))).f3)).bind fun t326 => (if y318.length + t326.length < 4398046511104 then (xT.l0 k (y318 ++ t326) (wrap64 (x4 + 1)) nE lB tP sB) else (none))) else (none)) else (none)))) else (none))) else (if x4 < (tP.length : Int) then (if 0 ≤ x4 then (if x3.length < 4398046511104 then (xT.l0 k (x3 ++ [(⟨2,(⟨#[]⟩ : ByteArray),rd tP x4⟩ : S61)]) (wrap64 (x4 + 1)) nE lB tP sB) else (none)) else (none)) else (if 0 ≤ (wrap64 (x4 - (tP.length : Int))) then (if (wrap64 (x4 - (tP.length : Int))) < (sB.length : Int) then ((xT.f k ((yY sB (wrap64 (x4 - (tP.length : Int)))).f0) ((yY sB (wrap64 (x4 - (tP.length : Int)))).f1) ((yY sB (wrap64 (x4 - (tP.length : Int)))).f2) ((yY sB (wrap64 (x4 - (tP.length : Int)))).f3)).bind fun t337 => (if x3.length + t337.length < 4398046511104 then (xT.l0 k (x3 ++ t337) (wrap64 (x4 + 1)) nE lB tP sB) else (none))) else (none)) else (none)))) else ((uS.f (⟨#[41]⟩ : ByteArray)).bind fun bt309 => (if x3.length < 4398046511104 then (some (x3 ++ [(⟨bt309.1,bt309.2.1,bt309.2.2⟩ : S61)])) else (none)))
def xT.f : Nat → Int → ByteArray → List Int → List (S25) → Option ((List (S61)))
 | 0,_,_,_,_ => none
 | k + 1,zT,zB,zW,zL => if zT = 0 then (xT.j0 k true zT zB zW zL) else ((oN.f).bind fun t293 => (xT.j0 k (decide ((wrap64 (zT)) ≥ (t293.length : Int))) zT zB zW zL))
end
def xT.T1 : Bool × List (List Nat × List Nat):=(true,[([],[]),([0],[0]),([1],[1]),([2],[2]),([3],[3]),([4,3],[3,4]),([5,3],[3,5]),([3,3],[3]),([7,3],[3,7]),([6,8,3],[3,6,8]),([3,9],[3,9])])
def xT.B1 : List Nat:=[0,1,3,7,15,31,63,15,143,511,1023]
theorem xT.tab1 : rtab .any (opsOf Tryd.f41 1) = xT.T1:=by kernel_rfl
theorem xT.bits1 : waitsOk xT.T1.2 xT.B1 = true:=by kernel_rfl
def xT.T3 : Bool × List (List Nat × List Nat):=(true,[([],[]),([],[]),([1],[1]),([0,2],[0,2]),([3],[3]),([4],[4]),([0],[]),([5,6],[5,6]),([7,6,0,1,2,3,4,5,6,7],[7])])
def xT.B3 : List Nat:=[0,0,2,7,15,31,1,127,255]
theorem xT.tab3 : rtab .any (opsOf Tryd.f41 3) = xT.T3:=by kernel_rfl
theorem xT.bits3 : waitsOk xT.T3.2 xT.B3 = true:=by kernel_rfl
set_option maxHeartbeats 8000000 in
set_option maxRecDepth 100000 in
theorem xT.calls (k : Nat) : ∀ (zT : Int) (zB : ByteArray) (yR : Option Addr) (yS : Nat) (zW : List Int) (xK : Option Addr) (xR : Nat) (zL : List (S25)) (r : List (S61)) (w : World) (uW : Kd.C (Kd.int .i64) w yR zW.length zW) (uV : zW.length ≤ yS) (tF : Kd.C k25 w xK zL.length zL) (tE : zL.length ≤ xR) (h : xT.f k zT zB zW zL = some r),
  Calls Tryd.prog 41 #[.agg #[.int .u8 zT,.string zB,.slice yR zW.length yS,.slice xK zL.length xR]] w fun e w' => ∃ v0_ : Value,e = .returned (v0_) ∧ Kd.R k61 61 w' w.heap.size (fun _ => True) v0_ r ∧ Below w.heap.size w w':=by
 induction k using Nat.strongRecOn with
 | _ k ih =>
 intro zT zB yR yS zW xK xR zL r w uW uV tF tE h
 cases k with
 | zero => exact absurd h (by simp [xT.f])
 | succ k =>
 simp only [xT.f] at h
 have hu25:=Tryd.underlying25
 have hu61:=Tryd.underlying61
 have tA:=zZ.mk uW
 have rX:=zZ.mk uV
 clear uW uV
 have sV:=zZ.mk tF
 have qP:=zZ.mk tE
 clear tF tE
 have HB:=zZ.mk (Below.refl w.heap.size w)
 have H : (if zT = 0 then (xT.j0 k true zT zB zW zL) else ((oN.f).bind fun t293 => (xT.j0 k (decide ((wrap64 (zT)) ≥ (t293.length : Int))) zT zB zW zL))) = some r:=h
 clear h
 have HC2:=zZ.mk H
 clear H
 go_enter Tryd.func41,Tryd.ntmps41
 go_upto_region 1 with (first|((with_reducible refine uU (N:=1) rfl ?_); (try (refine sY (by rfl) ?_; dsimp only)); refine tY ?hg (N:=1) ?hd (cs:=#[.int .u8 zT,.string zB,.slice yR zW.length yS,.slice xK zL.length xR]) (t:=25) ?hr ?_; (case hd => rfl); (case hg => rfl); (case hr => first|(go_simp; done)|(go_simp; rfl)); intro vR hg w3 hbox hb; have zS:=zZ.mk (xW (by repeat (first|(with_reducible first|exact HB.out|apply zY|apply zV|apply zU)|exact HB.out)) hb); have zO:=zZ.mk (hbox); have zI:=zZ.mk ((by rw [hg]; exact (xS (by repeat (first|(with_reducible first|exact HB.out|apply zY|apply zV|apply zU)|exact HB.out))) : w.heap.size ≤ vR)); have xV:=zZ.mk ((by rw [hg]; exact (xS (by repeat (first|(with_reducible first|exact HB.out|apply zY|apply zV|apply zU)|exact HB.out))) : w.heap.size ≤ vR)); clear HB; have HB:=zS; have yJ:=zO; have GW292:=zI; have vU:=xV; clear zS zO zI xV; clear hb hbox hg))
 (try simp only [Act.put,List.setIfInBounds_toArray,List.set_cons_zero,List.set_cons_succ])
 go_cut [15] (fun v15 wc => ∃ (kq : Nat) (cR : Bool),v15 = .bool cR ∧ zZ (xT.j0 kq cR zT zB zW zL = some r) ∧ zZ (kq ≤ k) ∧ zZ (wc.heap[vR]? = some (.cells #[.int .u8 zT,.string zB,(.slice yR zW.length yS),(.slice xK zL.length xR)] 25 (0,0))) ∧ zZ (Below w.heap.size w wc))
 case first =>
  have H:=HC2.out
  clear HC2
  by_cases c4 : zT = 0
  ·
   rw [if_pos c4] at H
   have c4b0 : (zT == 0) = true:=beq_iff_eq.mpr c4
   have c4b1 : (zT != 0) = false:=bne_eq_false_iff_eq.mpr c4
   clear c4
   (first|rw [c4b0]|(simp only [yV,yU]; rw [c4b0])|skip)
   have H':=zZ.mk H
   clear H
   try go_wp2
   have zS:=zZ.mk (zM yJ.out)
   have zO:=zZ.mk (zU HB.out)
   clear yJ
   clear HB
   have yJ:=zS
   have HB:=zO
   clear zS zO
   refine oK (n:=11) (S:=fun w' => w'.cell? ⟨vR,0,none⟩ = some (.int .u8 zT) ∧ w'.cell? ⟨vR,1,none⟩ = some (.string zB) ∧ w'.cell? ⟨vR,2,none⟩ = some (.slice yR zW.length yS) ∧ w'.cell? ⟨vR,3,none⟩ = some (.slice xK zL.length xR)) (ds:=[]) #[false,false,false,false,false,false,false,false,false,false,false] (by kernel_rfl) rfl rfl ⟨(zK yJ.out 0).trans rfl,(zK yJ.out 1).trans rfl,(zK yJ.out 2).trans rfl,(zK yJ.out 3).trans rfl⟩ (fun hHeld => ?_); refine lR xT.tab1 xT.bits1 (fun HT_ HW_ => ?_)
   generalize w3.drew = w5 at yJ HB hHeld ⊢
   refine xO (i:=0) (N:=some 5) (v:=?_) (a':=?_) #[true,false,false,false,false,false,false,false,false,false,false] rfl rfl (wL HT_.out (by kernel_rfl)) (fun _ _ _ h => h) (Or.inl ⟨by rfl,?_⟩) ?_ ?_
   rotate_left
   ·
    intro w'
    go_simp
    with_reducible rfl
   rotate_left
   ·
    simp only [Act.put,List.setIfInBounds_toArray,List.set_cons_zero,List.set_cons_succ,yV,yU]
    rfl
   refine take_ (i:=1) (N:=some 6) (v:=?_) (a':=?_) #[true,true,false,false,false,false,false,false,false,false,false] rfl rfl (tB HT_.out HW_.out (by kernel_rfl)) (fun _ _ _ h => h) (Or.inl ⟨by rfl,?_⟩) hHeld ?_ ?_
   rotate_left
   ·
    rintro w' ⟨s0,s1,s2,s3⟩
    go_simp
    with_reducible rfl
   rotate_left
   ·
    simp only [Act.put,List.setIfInBounds_toArray,List.set_cons_zero,List.set_cons_succ,yV,yU]
    rfl
   refine xO (i:=2) (N:=some 7) (v:=?_) (a':=?_) #[true,true,true,false,false,false,false,false,false,false,false] rfl rfl (wL HT_.out (by kernel_rfl)) (fun _ _ _ h => h) (Or.inl ⟨by rfl,?_⟩) ?_ ?_
   rotate_left
   ·
    intro w'
    go_simp
    with_reducible rfl
   rotate_left
   ·
    simp only [Act.put,List.setIfInBounds_toArray,List.set_cons_zero,List.set_cons_succ,yV,yU]
    rfl
   refine xO (i:=3) (N:=some 8) (v:=?_) (a':=?_) #[true,true,true,true,false,false,false,false,false,false,false] rfl rfl (wL HT_.out (by kernel_rfl)) (fun _ _ _ h => h) (Or.inl ⟨by rfl,?_⟩) ?_ ?_
   rotate_left
   ·
    intro w'
    go_simp
    with_reducible rfl
   rotate_left
   ·
    simp only [Act.put,List.setIfInBounds_toArray,List.set_cons_zero,List.set_cons_succ,yV,yU]
    rfl
   refine xO (i:=4) (N:=some 9) (v:=undef) (a':=?_) #[true,true,true,true,true,false,false,false,false,false,false] rfl rfl (wL HT_.out (by kernel_rfl)) (fun _ _ _ h => h) (Or.inr ⟨by rfl,rfl⟩) ?_ ?_
   rotate_left
   ·
    simp only [Act.put,List.setIfInBounds_toArray,List.set_cons_zero,List.set_cons_succ,yV,yU]
    rfl
   refine xO (i:=5) (N:=some 10) (v:=undef) (a':=?_) #[true,true,true,true,true,true,false,false,false,false,false] rfl rfl (wL HT_.out (by kernel_rfl)) (fun _ _ _ h => h) (Or.inr ⟨by rfl,rfl⟩) ?_ ?_
   rotate_left
   ·
    simp only [Act.put,List.setIfInBounds_toArray,List.set_cons_zero,List.set_cons_succ,yV,yU]
    rfl
   refine xO (i:=6) (N:=some 11) (v:=undef) (a':=?_) #[true,true,true,true,true,true,true,false,false,false,false] rfl rfl (wL HT_.out (by kernel_rfl)) (fun _ _ _ h => h) (Or.inr ⟨by rfl,rfl⟩) ?_ ?_
   rotate_left
   ·
    simp only [Act.put,List.setIfInBounds_toArray,List.set_cons_zero,List.set_cons_succ,yV,yU]
    rfl
   refine xO (i:=7) (N:=some 12) (v:=undef) (a':=?_) #[true,true,true,true,true,true,true,true,false,false,false] rfl rfl (wL HT_.out (by kernel_rfl)) (fun _ _ _ h => h) (Or.inr ⟨by rfl,rfl⟩) ?_ ?_
   rotate_left
   ·
    simp only [Act.put,List.setIfInBounds_toArray,List.set_cons_zero,List.set_cons_succ,yV,yU]
    rfl
   refine xO (i:=8) (N:=some 13) (v:=undef) (a':=?_) #[true,true,true,true,true,true,true,true,true,false,false] rfl rfl (wL HT_.out (by kernel_rfl)) (fun _ _ _ h => h) (Or.inr ⟨by rfl,rfl⟩) ?_ ?_
   rotate_left
   ·
    simp only [Act.put,List.setIfInBounds_toArray,List.set_cons_zero,List.set_cons_succ,yV,yU]
    rfl
   refine xO (i:=9) (N:=some 14) (v:=undef) (a':=?_) #[true,true,true,true,true,true,true,true,true,true,false] rfl rfl (wL HT_.out (by kernel_rfl)) (fun _ _ _ h => h) (Or.inr ⟨by rfl,rfl⟩) ?_ ?_
   rotate_left
   ·
    simp only [Act.put,List.setIfInBounds_toArray,List.set_cons_zero,List.set_cons_succ,yV,yU]
    rfl
   refine xO (i:=10) (N:=some 15) (v:=?_) (a':=?_) #[true,true,true,true,true,true,true,true,true,true,true] rfl rfl (wL HT_.out (by kernel_rfl)) (fun _ _ _ h => h) (Or.inl ⟨by rfl,?_⟩) ?_ ?_
   rotate_left
   ·
    intro w'
    go_simp
    with_reducible rfl
   rotate_left
   ·
    simp only [Act.put,List.setIfInBounds_toArray,List.set_cons_zero,List.set_cons_succ,yV,yU]
    rfl
   refine done_ (lO HT_.out (by kernel_rfl)) ?_
   try go_wp2
   go_meet
   case rel => exact ⟨_,(true),(by first|rfl|(simp;done)|(simp [*];done)),H',⟨by first|omega|exact Nat.le_refl _⟩,⟨by (with_reducible repeat (first|apply zN|apply zM|apply zR)); exact yJ.out⟩,⟨by repeat (first|(with_reducible first|exact HB.out|apply zY|apply zV|apply zU|refine zQ ?_ vU.out)|exact HB.out)⟩⟩
  ·
   rw [if_neg c4] at H
   have c4b0 : (zT == 0) = false:=beq_eq_false_iff_ne.mpr c4
   have c4b1 : (zT != 0) = true:=bne_iff_ne.mpr c4
   (first|rw [c4b0]|(simp only [yV,yU]; rw [c4b0])|skip)
   replace H:=Option.bind_eq_some_iff.mp H
   obtain ⟨t293,A60,H⟩:=H
   replace H : (xT.j0 k (decide ((wrap64 (zT)) ≥ (t293.length : Int))) zT zB zW zL) = some r:=H
   have A6:=zZ.mk A60
   clear A60
   have H':=zZ.mk H
   clear H
   try go_wp2
   have zS:=zZ.mk (zM yJ.out)
   have zO:=zZ.mk (zU HB.out)
   clear yJ
   clear HB
   have yJ:=zS
   have HB:=zO
   clear zS zO
   refine oK (n:=11) (S:=fun w' => w'.cell? ⟨vR,0,none⟩ = some (.int .u8 zT) ∧ w'.cell? ⟨vR,1,none⟩ = some (.string zB) ∧ w'.cell? ⟨vR,2,none⟩ = some (.slice yR zW.length yS) ∧ w'.cell? ⟨vR,3,none⟩ = some (.slice xK zL.length xR)) (ds:=[]) #[false,false,false,false,false,false,false,false,false,false,false] (by kernel_rfl) rfl rfl ⟨(zK yJ.out 0).trans rfl,(zK yJ.out 1).trans rfl,(zK yJ.out 2).trans rfl,(zK yJ.out 3).trans rfl⟩ (fun hHeld => ?_); refine lR xT.tab1 xT.bits1 (fun HT_ HW_ => ?_)
   generalize w3.drew = w7 at yJ HB hHeld ⊢
   refine xO (i:=0) (N:=some 5) (v:=?_) (a':=?_) #[true,false,false,false,false,false,false,false,false,false,false] rfl rfl (wL HT_.out (by kernel_rfl)) (fun _ _ _ h => h) (Or.inl ⟨by rfl,?_⟩) ?_ ?_
   rotate_left
   ·
    intro w'
    go_simp
    with_reducible rfl
   rotate_left
   ·
    simp only [Act.put,List.setIfInBounds_toArray,List.set_cons_zero,List.set_cons_succ,yV,yU]
    rfl
   refine take_ (i:=1) (N:=some 6) (v:=?_) (a':=?_) #[true,true,false,false,false,false,false,false,false,false,false] rfl rfl (tB HT_.out HW_.out (by kernel_rfl)) (fun _ _ _ h => h) (Or.inl ⟨by rfl,?_⟩) hHeld ?_ ?_
   rotate_left
   ·
    rintro w' ⟨s0,s1,s2,s3⟩
    go_simp
    with_reducible rfl
   rotate_left
   ·
    simp only [Act.put,List.setIfInBounds_toArray,List.set_cons_zero,List.set_cons_succ,yV,yU]
    rfl
   refine xO (i:=2) (N:=some 7) (v:=?_) (a':=?_) #[true,true,true,false,false,false,false,false,false,false,false] rfl rfl (wL HT_.out (by kernel_rfl)) (fun _ _ _ h => h) (Or.inl ⟨by rfl,?_⟩) ?_ ?_
   rotate_left
   ·
    intro w'
    go_simp
    with_reducible rfl
   rotate_left
   ·
    simp only [Act.put,List.setIfInBounds_toArray,List.set_cons_zero,List.set_cons_succ,yV,yU]
    rfl
   refine xO (i:=3) (N:=some 8) (v:=?_) (a':=?_) #[true,true,true,true,false,false,false,false,false,false,false] rfl rfl (wL HT_.out (by kernel_rfl)) (fun _ _ _ h => h) (Or.inl ⟨by rfl,?_⟩) ?_ ?_
   rotate_left
   ·
    intro w'
    go_simp
    with_reducible rfl
   rotate_left
   ·
    simp only [Act.put,List.setIfInBounds_toArray,List.set_cons_zero,List.set_cons_succ,yV,yU]
    rfl
   refine xO (i:=4) (N:=some 9) (v:=?_) (a':=?_) #[true,true,true,true,true,false,false,false,false,false,false] rfl rfl (wL HT_.out (by kernel_rfl)) (fun _ _ _ h => h) (Or.inl ⟨by rfl,?_⟩) ?_ ?_
   rotate_left
   ·
    intro w'
    go_simp
    with_reducible rfl
   rotate_left
   ·
    simp only [Act.put,List.setIfInBounds_toArray,List.set_cons_zero,List.set_cons_succ,yV,yU]
    rfl
   refine take_ (i:=5) (N:=some 10) (v:=?_) (a':=?_) #[true,true,true,true,true,true,false,false,false,false,false] rfl rfl (tB HT_.out HW_.out (by kernel_rfl)) (fun _ _ _ h => h) (Or.inl ⟨by rfl,?_⟩) hHeld ?_ ?_
   rotate_left
   ·
    rintro w' ⟨s0,s1,s2,s3⟩
    go_simp
    with_reducible rfl
   rotate_left
   ·
    simp only [Act.put,List.setIfInBounds_toArray,List.set_cons_zero,List.set_cons_succ,yV,yU]
    rfl
   refine xO (i:=6) (N:=some 11) (v:=?_) (a':=?_) #[true,true,true,true,true,true,true,false,false,false,false] rfl rfl (wL HT_.out (by kernel_rfl)) (fun _ _ _ h => h) (Or.inl ⟨by rfl,?_⟩) ?_ ?_
   rotate_left
   ·
    intro w'
    go_simp
    with_reducible rfl
   rotate_left
   ·
    simp only [Act.put,List.setIfInBounds_toArray,List.set_cons_zero,List.set_cons_succ,yV,yU]
    rfl
   refine one_ (i:=7) (N:=some 12) #[true,true,true,true,true,true,true,true,false,false,false] rfl rfl (kV HT_.out (by kernel_rfl)) (by decide) (fun K hK => ?_)
   refine goes_ Tryd.func62 (by kernel_rfl) rfl #[] (by rfl) rfl rfl (by (try simp only [List.map_toArray,List.map_cons,List.map_nil]); first|done|rfl|(simp only [List.length_drop,List.length_take]; rfl)) ?_
   with_reducible refine (oN.calls  t293 _ A6.out).mono ?_
   rintro e w8 ⟨v294,rfl,ho0,hb⟩
   refine ⟨_,rfl,?_⟩
   have zS:=zZ.mk (Kd.R_lower ho0 (xS (by repeat (first|(with_reducible first|exact HB.out|apply zY|apply zV|apply zU|refine zQ ?_ vU.out)|exact HB.out))))
   have zO:=zZ.mk (xX (g:=vR) (o:=.cells #[.int .u8 zT,.string zB,.slice yR zW.length yS,.slice xK zL.length xR] 25 (0,0)) (by (with_reducible repeat (first|apply zN|apply zM|apply zR)); exact yJ.out) hb)
   have zI:=zZ.mk (xW (by repeat (first|(with_reducible first|exact HB.out|apply zY|apply zV|apply zU|refine zQ ?_ vU.out)|exact HB.out)) hb)
   clear yJ
   clear HB
   have HO295:=zS
   have yJ:=zO
   have HB:=zI
   clear zS zO zI
   (try clear hb)
   (try clear hb2)
   (try clear hk)
   (try clear hi)
   (try clear ho0)
   obtain ⟨Ao9,co9,eo9⟩:=Kd.R_slice HO295.out
   (first|subst eo9|(injection eo9 with f1_ f2_ f3_; have f4_:=f1_.symm; have f5_:=f3_.symm; clear f1_ f2_ f3_; subst f4_; subst f5_))
   refine hK.out _ _ ⟨(zK yJ.out 0).trans rfl,(zK yJ.out 1).trans rfl,(zK yJ.out 2).trans rfl,(zK yJ.out 3).trans rfl⟩ (fun hHeld => ?_)
   clear hK K
   refine sI (a':=?_) ?_ ?_
   rotate_left
   ·
    show Act.put _ (some 12) _ = _
    simp only [Act.put,List.setIfInBounds_toArray,List.set_cons_zero,List.set_cons_succ,yV,yU]
    rfl
   refine xO (i:=8) (N:=some 13) (v:=?_) (a':=?_) #[true,true,true,true,true,true,true,true,true,false,false] rfl rfl (wL HT_.out (by kernel_rfl)) (fun _ _ _ h => h) (Or.inl ⟨by rfl,?_⟩) ?_ ?_
   rotate_left
   ·
    intro w'
    go_simp
    with_reducible rfl
   rotate_left
   ·
    simp only [Act.put,List.setIfInBounds_toArray,List.set_cons_zero,List.set_cons_succ,yV,yU]
    rfl
   refine xO (i:=9) (N:=some 14) (v:=?_) (a':=?_) #[true,true,true,true,true,true,true,true,true,true,false] rfl rfl (wL HT_.out (by kernel_rfl)) (fun _ _ _ h => h) (Or.inl ⟨by rfl,?_⟩) ?_ ?_
   rotate_left
   ·
    intro w'
    go_simp
    with_reducible rfl
   rotate_left
   ·
    simp only [Act.put,List.setIfInBounds_toArray,List.set_cons_zero,List.set_cons_succ,yV,yU]
    rfl
   refine xO (i:=10) (N:=some 15) (v:=?_) (a':=?_) #[true,true,true,true,true,true,true,true,true,true,true] rfl rfl (wL HT_.out (by kernel_rfl)) (fun _ _ _ h => h) (Or.inl ⟨by rfl,?_⟩) ?_ ?_
   rotate_left
   ·
    intro w'
    go_simp
    with_reducible rfl
   rotate_left
   ·
    simp only [Act.put,List.setIfInBounds_toArray,List.set_cons_zero,List.set_cons_succ,yV,yU]
    rfl
   refine done_ (lO HT_.out (by kernel_rfl)) ?_
   try go_wp2
   go_meet
   case rel => exact ⟨_,(decide ((wrap64 (zT)) ≥ (t293.length : Int))),(by first|rfl|(simp;done)|(simp [*];done)),H',⟨by first|omega|exact Nat.le_refl _⟩,⟨by (with_reducible repeat (first|apply zN|apply zM|apply zR)); exact yJ.out⟩,⟨by repeat (first|(with_reducible first|exact HB.out|apply zY|apply zV|apply zU|refine zQ ?_ vU.out)|exact HB.out)⟩⟩
 case rest =>
  clear HC2
  try clear p2
  try clear c4
  try clear c4b0
  try clear c4b1
  try clear c6
  try clear p6
  obtain ⟨kq,cR,rfl,HA,HJ1,yJ,HB⟩:=hcut
  cases kq with
  | zero => exact absurd HA.out (by simp [xT.j0])
  | succ kj1 =>
   have H:=HA.out
   clear HA
   simp only [xT.j0] at H
   by_cases c10 : cR = true
   ·
    subst c10
    have H1 : (some (([(⟨1,zB,0⟩ : S61)] : List (S61)))) = some r:=by rw [if_pos rfl] at H; exact H
    clear H
    have H:=H1
    clear H1
    obtain ⟨y296,hy296⟩ : ∃ y_ : List (S61),y_ = (([(⟨1,zB,0⟩ : S61)] : List (S61))):=⟨_,rfl⟩
    replace H : (some y296) = some r:=by first|(rw [hy296]; with_reducible exact H)|(have yA:=(Option.bind_some _ _).symm.trans H; rw [hy296]; with_reducible exact yA)|(have yA:=(Option.bind_some _ _).symm.trans H; with_reducible exact yA)|with_reducible exact H|(rw [hy296]; exact H)|exact H
    have Ny296:=zZ.mk hy296
    clear hy296
    obtain rfl:=Option.some.inj H
    obtain ⟨oD,oC,oB,oA⟩:=kc4 yJ.out
    go_wp2_with (first|((with_reducible refine uU (N:=19) rfl ?_); (try (refine sY (by rfl) ?_; dsimp only)); refine Kd.R_lit k61 _ 61 ?hg (N:=19) ?hd (xs:=([(⟨1,zB,0⟩ : S61)] : List (S61))) (inner:=[.int .u8 1,.string zB,.int .i64 0]) (ok:=fun _ => True) (okp:=fun _ => True) ?hr ?hp (fun _ hk => hk) trivial (Below.refl _ _) (Nat.le_refl _) (by simp) ?_; (case hd => rfl); (case hg => rfl); (case hr => first|(go_simp; done)|(go_simp; rfl)); (case hp => exact (Reps.c3 (show Kd.M k61 _ _ _ (⟨1,zB,0⟩ : S61) [.int .u8 1,.string zB,.int .i64 0] from (uE _ _ _ (⟨1,zB,0⟩ : S61) )) (Reps.none _ _))); intro v297 w12 ho13 hb hg_ hnew_; clear hg_ hnew_; (first|rw [← Ny296.out] at ho13|(simp only [Int.reduceToNat] at ho13; rw [← Ny296.out] at ho13)); have zS:=zZ.mk (Kd.R_lower ho13 (xS (by repeat (first|(with_reducible first|exact HB.out|apply zY|apply zV|apply zU|refine zQ ?_ vU.out)|exact HB.out)))); have zO:=zZ.mk (xX (g:=vR) (o:=.cells #[.int .u8 zT,.string zB,.slice yR zW.length yS,.slice xK zL.length xR] 25 (0,0)) (by (with_reducible repeat (first|apply zN|apply zM|apply zR)); exact yJ.out) hb); have zI:=zZ.mk (xW (by repeat (first|(with_reducible first|exact HB.out|apply zY|apply zV|apply zU|refine zQ ?_ vU.out)|exact HB.out)) hb); clear yJ; clear HB; have HO298:=zS; have yJ:=zO; have HB:=zI; clear zS zO zI; clear hb ho13))
    go_ret
    exact ⟨_,by first|rfl|(simp [yG,yF] <;> rfl)|(simp [*,yG,yF] <;> rfl),by (with_reducible repeat (first|apply Kd.R_alloc|apply Kd.R_drewN|apply Kd.R_drew)); exact HO298.out,by repeat (first|(with_reducible first|exact HB.out|apply zY|apply zV|apply zU|refine zQ ?_ vU.out)|exact HB.out)⟩
   ·
    replace c10:=Bool.eq_false_iff.mpr c10
    subst c10
    have H1 : ((oN.f).bind fun t299 => (if 0 ≤ zT then (if zT < (t299.length : Int) then ((uS.f (⟨#[40]⟩ : ByteArray)).bind fun bt303 => (xT.l0 kj1 (([(⟨1,rdOf ByteArray.empty t299 zT,0⟩ : S61),(⟨bt303.1,bt303.2.1,bt303.2.2⟩ : S61)] : List (S61))) 0 zT zB zW zL)) else (none)) else (none))) = some r:=by rw [if_neg (show ¬ (false = true) by decide)] at H; exact H
    clear H
    have H:=H1
    clear H1
    replace H:=Option.bind_eq_some_iff.mp H
    obtain ⟨t299,A140,H⟩:=H
    replace H : (if 0 ≤ zT then (if zT < (t299.length : Int) then ((uS.f (⟨#[40]⟩ : ByteArray)).bind fun bt303 => (xT.l0 kj1 (([(⟨1,rdOf ByteArray.empty t299 zT,0⟩ : S61),(⟨bt303.1,bt303.2.1,bt303.2.2⟩ : S61)] : List (S61))) 0 zT zB zW zL)) else (none)) else (none)) = some r:=H
    have A14:=zZ.mk A140
    clear A140
    by_cases c15 : 0 ≤ zT
    ·
     rw [if_pos c15] at H
     have c15b0 : decide (0 ≤ zT) = true:=decide_eq_true c15
     clear c15
     by_cases c16 : zT < (t299.length : Int)
     ·
      rw [if_pos c16] at H
      have c16b0 : decide (zT < (t299.length : Int)) = true:=decide_eq_true c16
      clear c16
      replace H:=Option.bind_eq_some_iff.mp H
      obtain ⟨⟨t303,t304,t305⟩,A170,H⟩:=H
      replace H : (xT.l0 kj1 (([(⟨1,rdOf ByteArray.empty t299 zT,0⟩ : S61),(⟨t303,t304,t305⟩ : S61)] : List (S61))) 0 zT zB zW zL) = some r:=H
      have A17:=zZ.mk A170
      clear A170
      obtain ⟨y306,hy306⟩ : ∃ y_ : List (S61),y_ = (([(⟨1,rdOf ByteArray.empty t299 zT,0⟩ : S61),(⟨t303,t304,t305⟩ : S61)] : List (S61))):=⟨_,rfl⟩
      replace H : (xT.l0 kj1 y306 0 zT zB zW zL) = some r:=by first|(rw [hy306]; with_reducible exact H)|(have yA:=(Option.bind_some _ _).symm.trans H; rw [hy306]; with_reducible exact yA)|(have yA:=(Option.bind_some _ _).symm.trans H; with_reducible exact yA)|with_reducible exact H|(rw [hy306]; exact H)|exact H
      have Ny306:=zZ.mk hy306
      clear hy306
      have H':=zZ.mk H
      clear H
      try go_wp2
      have zS:=zZ.mk (zM yJ.out)
      have zO:=zZ.mk (zU HB.out)
      clear yJ
      clear HB
      have yJ:=zS
      have HB:=zO
      clear zS zO
      refine oK (n:=9) (S:=fun w' => w'.cell? ⟨vR,0,none⟩ = some (.int .u8 zT) ∧ w'.cell? ⟨vR,1,none⟩ = some (.string zB) ∧ w'.cell? ⟨vR,2,none⟩ = some (.slice yR zW.length yS) ∧ w'.cell? ⟨vR,3,none⟩ = some (.slice xK zL.length xR)) (ds:=[]) #[false,false,false,false,false,false,false,false,false] (by kernel_rfl) rfl rfl ⟨(zK yJ.out 0).trans rfl,(zK yJ.out 1).trans rfl,(zK yJ.out 2).trans rfl,(zK yJ.out 3).trans rfl⟩ (fun hHeld => ?_); refine lR xT.tab3 xT.bits3 (fun HT_ HW_ => ?_)
      generalize wc.drew = w18 at yJ HB hHeld ⊢
      refine xO (i:=1) (N:=some 21) (v:=?_) (a':=?_) #[false,true,false,false,false,false,false,false,false] rfl rfl (wL HT_.out (by kernel_rfl)) (fun _ _ _ h => h) (Or.inl ⟨by rfl,?_⟩) ?_ ?_
      rotate_left
      ·
       intro w'
       go_simp
       with_reducible rfl
      rotate_left
      ·
       simp only [Act.put,List.setIfInBounds_toArray,List.set_cons_zero,List.set_cons_succ,yV,yU]
       rfl
      refine take_ (i:=2) (N:=some 22) (v:=?_) (a':=?_) #[false,true,true,false,false,false,false,false,false] rfl rfl (tB HT_.out HW_.out (by kernel_rfl)) (fun _ _ _ h => h) (Or.inl ⟨by rfl,?_⟩) hHeld ?_ ?_
      rotate_left
      ·
       rintro w' ⟨s0,s1,s2,s3⟩
       go_simp
       with_reducible rfl
      rotate_left
      ·
       simp only [Act.put,List.setIfInBounds_toArray,List.set_cons_zero,List.set_cons_succ,yV,yU]
       rfl
      refine one_ (i:=0) (N:=some 20) #[true,true,true,false,false,false,false,false,false] rfl rfl (kV HT_.out (by kernel_rfl)) (by decide) (fun K hK => ?_)
      refine goes_ Tryd.func62 (by kernel_rfl) rfl #[] (by rfl) rfl rfl (by (try simp only [List.map_toArray,List.map_cons,List.map_nil]); first|done|rfl|(simp only [List.length_drop,List.length_take]; rfl)) ?_
      with_reducible refine (oN.calls  t299 _ A14.out).mono ?_
      rintro e w19 ⟨v300,rfl,ho0,hb⟩
      refine ⟨_,rfl,?_⟩
      have zS:=zZ.mk (Kd.R_lower ho0 (xS (by repeat (first|(with_reducible first|exact HB.out|apply zY|apply zV|apply zU|refine zQ ?_ vU.out)|exact HB.out))))
      have zO:=zZ.mk (xX (g:=vR) (o:=.cells #[.int .u8 zT,.string zB,.slice yR zW.length yS,.slice xK zL.length xR] 25 (0,0)) (by (with_reducible repeat (first|apply zN|apply zM|apply zR)); exact yJ.out) hb)
      have zI:=zZ.mk (xW (by repeat (first|(with_reducible first|exact HB.out|apply zY|apply zV|apply zU|refine zQ ?_ vU.out)|exact HB.out)) hb)
      clear yJ
      clear HB
      have HO301:=zS
      have yJ:=zO
      have HB:=zI
      clear zS zO zI
      (try clear hb)
      (try clear hb2)
      (try clear hk)
      (try clear hi)
      (try clear ho0)
      obtain ⟨Ao20,co20,eo20⟩:=Kd.R_slice HO301.out
      (first|subst eo20|(injection eo20 with f1_ f2_ f3_; have f4_:=f1_.symm; have f5_:=f3_.symm; clear f1_ f2_ f3_; subst f4_; subst f5_))
      have p302 : 0 ≤ (zT : Int):=of_decide_eq_true (by first|(with_reducible assumption)|assumption)
      have q302 : zT < (t299.length : Int):=of_decide_eq_true (by first|(with_reducible assumption)|assumption)
      obtain ⟨ad302,e302,zXR⟩:=Kd.at_string (Kd.R_reads' HO301.out).2.2 zT p302 q302
      cases e302
      replace p302:=eq_true p302
      replace q302:=eq_true q302
      refine hK.out _ _ ⟨(zK yJ.out 0).trans rfl,(zK yJ.out 1).trans rfl,(zK yJ.out 2).trans rfl,(zK yJ.out 3).trans rfl⟩ (fun hHeld0 => ?_)
      clear hK K
      refine sI (a':=?_) ?_ ?_
      rotate_left
      ·
       show Act.put _ (some 20) _ = _
       simp only [Act.put,List.setIfInBounds_toArray,List.set_cons_zero,List.set_cons_succ,yV,yU]
       rfl
      refine more_ (S2:=fun w' => w'.cell? ⟨vR,0,none⟩ = some (.int .u8 zT) ∧ w'.cell? ⟨vR,1,none⟩ = some (.string zB) ∧ w'.cell? ⟨vR,2,none⟩ = some (.slice yR zW.length yS) ∧ w'.cell? ⟨vR,3,none⟩ = some (.slice xK zL.length xR) ∧ w'.cell? (ad302.add (zT).toNat) = some (.string (rdOf ByteArray.empty t299 zT))) (fun _ h => ⟨h.1,h.2.1,h.2.2.1,h.2.2.2.1⟩) _ _ _ _ ⟨hHeld0.1,hHeld0.2.1,hHeld0.2.2.1,hHeld0.2.2.2,zXR⟩ ?_
      have hHeld : _ ∧ _ ∧ _ ∧ _ ∧ _:=⟨hHeld0.1,hHeld0.2.1,hHeld0.2.2.1,hHeld0.2.2.2,zXR⟩
      refine xO (i:=3) (N:=some 23) (v:=?_) (a':=?_) #[true,true,true,true,false,false,false,false,false] rfl rfl (wL HT_.out (by kernel_rfl)) (fun _ _ _ h => h) (Or.inl ⟨by rfl,?_⟩) ?_ ?_
      rotate_left
      ·
       intro w'
       go_simp
       with_reducible rfl
      rotate_left
      ·
       simp only [Act.put,List.setIfInBounds_toArray,List.set_cons_zero,List.set_cons_succ,yV,yU]
       rfl
      refine take_ (i:=4) (N:=some 24) (v:=?_) (a':=?_) #[true,true,true,true,true,false,false,false,false] rfl rfl (tB HT_.out HW_.out (by kernel_rfl)) (fun _ _ _ h => h) (Or.inl ⟨by rfl,?_⟩) hHeld ?_ ?_
      rotate_left
      ·
       rintro w' ⟨s0,s1,s2,s3,s4⟩
       go_simp
       with_reducible rfl
      rotate_left
      ·
       simp only [Act.put,List.setIfInBounds_toArray,List.set_cons_zero,List.set_cons_succ,yV,yU]
       rfl
      refine xO (i:=5) (N:=some 25) (v:=?_) (a':=?_) #[true,true,true,true,true,true,false,false,false] rfl rfl (wL HT_.out (by kernel_rfl)) (fun _ _ _ h => h) (Or.inl ⟨by rfl,?_⟩) ?_ ?_
      rotate_left
      ·
       intro w'
       go_simp
       with_reducible rfl
      rotate_left
      ·
       simp only [Act.put,List.setIfInBounds_toArray,List.set_cons_zero,List.set_cons_succ,yV,yU]
       rfl
      refine one_ (i:=6) (N:=some 26) #[true,true,true,true,true,true,true,false,false] rfl rfl (kV HT_.out (by kernel_rfl)) (by decide) (fun K hK => ?_)
      refine goes_ Tryd.func73 (by kernel_rfl) rfl #[.string (⟨#[40]⟩ : ByteArray)] (by rfl) rfl rfl (by (try simp only [List.map_toArray,List.map_cons,List.map_nil]); first|done|rfl|(simp only [List.length_drop,List.length_take]; rfl)) ?_
      with_reducible refine (uS.calls (⟨#[40]⟩ : ByteArray) t303 t304 t305 _ A17.out).mono ?_
      rintro e w21 ⟨rfl,hb⟩
      have HS4_:=(hb.cell (World.block_lt_of_cell? _ _ (hHeld.2.2.2.2))).trans (hHeld.2.2.2.2)
      refine ⟨_,rfl,?_⟩
      have zS:=zZ.mk (Kd.R_below (by (with_reducible repeat (first|apply Kd.R_alloc|apply Kd.R_drewN|apply Kd.R_drew)); exact HO301.out) hb)
      have zO:=zZ.mk (xX (g:=vR) (o:=.cells #[.int .u8 zT,.string zB,.slice yR zW.length yS,.slice xK zL.length xR] 25 (0,0)) (by (with_reducible repeat (first|apply zN|apply zM|apply zR)); exact yJ.out) hb)
      have zI:=zZ.mk (xW (by repeat (first|(with_reducible first|exact HB.out|apply zY|apply zV|apply zU|refine zQ ?_ vU.out)|exact HB.out)) hb)
      clear HO301
      clear yJ
      clear HB
      have HO301:=zS
      have yJ:=zO
      have HB:=zI
      clear zS zO zI
      (try clear hb)
      (try clear hb2)
      (try clear hk)
      (try clear hi)
      refine hK.out _ _ ⟨(zK yJ.out 0).trans rfl,(zK yJ.out 1).trans rfl,(zK yJ.out 2).trans rfl,(zK yJ.out 3).trans rfl,HS4_⟩ (fun hHeld => ?_)
      clear hK K
      refine sI (a':=?_) ?_ ?_
      rotate_left
      ·
       show Act.put _ (some 26) _ = _
       simp only [Act.put,List.setIfInBounds_toArray,List.set_cons_zero,List.set_cons_succ,yV,yU]
       rfl
      refine one_ (i:=7) (N:=some 27) #[true,true,true,true,true,true,true,true,false] rfl rfl (kV HT_.out (by kernel_rfl)) (by decide) (fun K hK => ?_)
      refine Kd.R_lit_step k61 _ 61 ?hg (N:=27) ?hd (xs:=([(⟨1,rdOf ByteArray.empty t299 zT,0⟩ : S61),(⟨t303,t304,t305⟩ : S61)] : List (S61))) (inner:=[.int .u8 1,.string (rdOf ByteArray.empty t299 zT),.int .i64 0,.int .u8 t303,.string t304,.int .i64 t305]) (ok:=fun _ => True) (okp:=fun _ => True) ?hr ?hp (fun _ hk => hk) trivial (Below.refl _ _) (Nat.le_refl _) (by simp) ?_; (case hd => rfl); (case hg => rfl); (case hr => first|(go_simp; done)|(go_simp; rfl)); (case hp => exact (Reps.c3 (show Kd.M k61 _ _ _ (⟨1,rdOf ByteArray.empty t299 zT,0⟩ : S61) [.int .u8 1,.string (rdOf ByteArray.empty t299 zT),.int .i64 0] from (uE _ _ _ (⟨1,rdOf ByteArray.empty t299 zT,0⟩ : S61) )) (Reps.c3 (show Kd.M k61 _ _ _ (⟨t303,t304,t305⟩ : S61) [.int .u8 t303,.string t304,.int .i64 t305] from (uE _ _ _ (⟨t303,t304,t305⟩ : S61) )) (Reps.none _ _))))
      intro v307 w22 ho23 hb hg_ hnew_
      have HS4_:=(hb.cell (World.block_lt_of_cell? _ _ (hHeld.2.2.2.2))).trans (hHeld.2.2.2.2)
      clear hg_ hnew_
      (first|rw [← Ny306.out] at ho23|(simp only [Int.reduceToNat] at ho23; rw [← Ny306.out] at ho23))
      have zS:=zZ.mk (Kd.R_below (by (with_reducible repeat (first|apply Kd.R_alloc|apply Kd.R_drewN|apply Kd.R_drew)); exact HO301.out) hb)
      have zO:=zZ.mk (Kd.R_lower ho23 (xS (by repeat (first|(with_reducible first|exact HB.out|apply zY|apply zV|apply zU|refine zQ ?_ vU.out)|exact HB.out))))
      have zI:=zZ.mk (xX (g:=vR) (o:=.cells #[.int .u8 zT,.string zB,.slice yR zW.length yS,.slice xK zL.length xR] 25 (0,0)) (by (with_reducible repeat (first|apply zN|apply zM|apply zR)); exact yJ.out) hb)
      have xV:=zZ.mk (xW (by repeat (first|(with_reducible first|exact HB.out|apply zY|apply zV|apply zU|refine zQ ?_ vU.out)|exact HB.out)) hb)
      clear HO301
      clear yJ
      clear HB
      have HO301:=zS
      have HO308:=zO
      have yJ:=zI
      have HB:=xV
      clear zS zO zI xV
      clear hb ho23
      refine hK.out _ _ ⟨(zK yJ.out 0).trans rfl,(zK yJ.out 1).trans rfl,(zK yJ.out 2).trans rfl,(zK yJ.out 3).trans rfl,HS4_⟩ (fun hHeld => ?_)
      clear hK K
      refine sI (a':=?_) ?_ ?_
      rotate_left
      ·
       show Act.put _ (some 27) _ = _
       simp only [Act.put,List.setIfInBounds_toArray,List.set_cons_zero,List.set_cons_succ,yV,yU]
       rfl
      refine xO (i:=8) (N:=some 3) (v:=?_) (a':=?_) #[true,true,true,true,true,true,true,true,true] rfl rfl (wL HT_.out (by kernel_rfl)) (fun _ _ _ h => h) (Or.inl ⟨by rfl,?_⟩) ?_ ?_
      rotate_left
      ·
       intro w'
       go_simp
       with_reducible rfl
      rotate_left
      ·
       simp only [Act.put,List.setIfInBounds_toArray,List.set_cons_zero,List.set_cons_succ,yV,yU]
       rfl
      refine done_ (lO HT_.out (by kernel_rfl)) ?_
      try go_wp2
      go_loopg [3,4] kj1 (fun kq v3 v4 w' => ∃ (yQ : List (S61)) (yT : Int),v4 = .int .i64 yT ∧ zZ (xT.l0 kq yQ yT zT zB zW zL = some r) ∧ zZ (kq ≤ kj1) ∧ zZ (Kd.R k61 61 w' w.heap.size (fun _ => True) v3 yQ) ∧ zZ (w'.heap[vR]? = some (.cells #[.int .u8 zT,.string zB,(.slice yR zW.length yS),(.slice xK zL.length xR)] 25 (0,0))) ∧ zZ (Below w.heap.size w w'))
      case atStart => exact ⟨(y306),(0),(by first|rfl|(simp;done)|(simp [*];done)),H',⟨Nat.le_refl _⟩,⟨by (with_reducible repeat (first|apply Kd.R_alloc|apply Kd.R_drewN|apply Kd.R_drew)); exact HO308.out⟩,⟨by (with_reducible repeat (first|apply zN|apply zM|apply zR)); exact yJ.out⟩,⟨by repeat (first|(with_reducible first|exact HB.out|apply zY|apply zV|apply zU|refine zQ ?_ vU.out)|exact HB.out)⟩⟩
      case round =>
       clear H'
       try clear c1
       try clear p2 p2
       try clear c3
       try clear p3
       try clear q3
       try clear hx3
       try clear c4
       try clear c4b0
       try clear c4b1
       try clear c6
       try clear p6 p6
       try clear c7
       try clear c10
       try clear c15
       try clear c15b0
       try clear c16
       try clear c16b0
       try clear oD oC oB oA
       try clear zXR
       try clear p302
       try clear q302
       obtain ⟨yQ,yT,rfl,HA,HK2,HO_3,yJ,HB⟩:=hrel
       cases gk with
       | zero => exact absurd HA.out (by simp [xT.l0])
       | succ k2 =>
        have H:=HA.out
        clear HA
        simp only [xT.l0] at H
        by_cases c24 : yT < (wrap64 ((zW.length : Int) + (zL.length : Int)))
        ·
         rw [if_pos c24] at H
         have c24b0 : decide (yT < (wrap64 ((zW.length : Int) + (zL.length : Int)))) = true:=decide_eq_true c24
         clear c24
         by_cases c25 : yT > 0
         ·
          rw [if_pos c25] at H
          have c25b0 : decide (0 < yT) = true:=decide_eq_true c25
          clear c25
          replace H:=Option.bind_eq_some_iff.mp H
          obtain ⟨⟨t315,t316,t317⟩,A260,H⟩:=H
          replace H : (if yQ.length < 4398046511104 then ((some (yQ ++ [(⟨t315,t316,t317⟩ : S61)] : List (S61))).bind fun y318 => (if yT < (zW.length : Int) then (if 0 ≤ yT then (if y318.length < 4398046511104 then (xT.l0 k2 (y318 ++ [(⟨2,(⟨#[]⟩ : ByteArray),rd zW yT⟩ : S61)]) (wrap64 (yT + 1)) zT zB zW zL) else (none)) else (none)) else (if 0 ≤ (wrap64 (yT - (zW.length : Int))) then (if (wrap64 (yT - (zW.length : Int))) < (zL.length : Int) then ((xT.f k2 ((yY zL (wrap64 (yT - (zW.length : Int)))).f0) ((yY zL (wrap64 (yT - (zW.length : Int)))).f1) ((yY zL (wrap64 (yT - (zW.length : Int)))).f2) ((yY zL (wrap64 (yT - (zW.length : Int)))).f3)).bind fun t326 => (if y318.length + t326.length < 4398046511104 then (xT.l0 k2 (y318 ++ t326) (wrap64 (yT + 1)) zT zB zW zL) else (none))) else (none)) else (none)))) else (none)) = some r:=H
          have A26:=zZ.mk A260
          clear A260
          by_cases c27 : yQ.length < 4398046511104
          ·
           rw [if_pos c27] at H
           have LMc27:=zZ.mk c27
           clear c27
           obtain ⟨y318,hy318⟩ : ∃ y_ : List (S61),y_ = (yQ ++ [(⟨t315,t316,t317⟩ : S61)]):=⟨_,rfl⟩
           replace H : (if yT < (zW.length : Int) then (if 0 ≤ yT then (if y318.length < 4398046511104 then (xT.l0 k2 (y318 ++ [(⟨2,(⟨#[]⟩ : ByteArray),rd zW yT⟩ : S61)]) (wrap64 (yT + 1)) zT zB zW zL) else (none)) else (none)) else (if 0 ≤ (wrap64 (yT - (zW.length : Int))) then (if (wrap64 (yT - (zW.length : Int))) < (zL.length : Int) then ((xT.f k2 ((yY zL (wrap64 (yT - (zW.length : Int)))).f0) ((yY zL (wrap64 (yT - (zW.length : Int)))).f1) ((yY zL (wrap64 (yT - (zW.length : Int)))).f2) ((yY zL (wrap64 (yT - (zW.length : Int)))).f3)).bind fun t326 => (if y318.length + t326.length < 4398046511104 then (xT.l0 k2 (y318 ++ t326) (wrap64 (yT + 1)) zT zB zW zL) else (none))) else (none)) else (none))) = some r:=by first|(rw [hy318]; with_reducible exact H)|(have yA:=(Option.bind_some _ _).symm.trans H; rw [hy318]; with_reducible exact yA)|(have yA:=(Option.bind_some _ _).symm.trans H; with_reducible exact yA)|with_reducible exact H|(rw [hy318]; exact H)|exact H
           have Ny318:=zZ.mk hy318
           clear hy318
           by_cases c28 : yT < (zW.length : Int)
           ·
            rw [if_pos c28] at H
            have c28b0 : decide (yT < (zW.length : Int)) = true:=decide_eq_true c28
            clear c28
            by_cases c29 : 0 ≤ yT
            ·
             rw [if_pos c29] at H
             have c29b0 : decide (0 ≤ yT) = true:=decide_eq_true c29
             clear c29
             by_cases c30 : y318.length < 4398046511104
             ·
              rw [if_pos c30] at H
              have LMc30:=zZ.mk c30
              clear c30
              obtain ⟨y322,hy322⟩ : ∃ y_ : List (S61),y_ = (y318 ++ [(⟨2,(⟨#[]⟩ : ByteArray),rd zW yT⟩ : S61)]):=⟨_,rfl⟩
              replace H : (xT.l0 k2 y322 (wrap64 (yT + 1)) zT zB zW zL) = some r:=by first|(rw [hy322]; with_reducible exact H)|(have yA:=(Option.bind_some _ _).symm.trans H; rw [hy322]; with_reducible exact yA)|(have yA:=(Option.bind_some _ _).symm.trans H; with_reducible exact yA)|with_reducible exact H|(rw [hy322]; exact H)|exact H
              have Ny322:=zZ.mk hy322
              clear hy322
              have H':=zZ.mk H
              clear H
              obtain ⟨yYU,yYT,yYS,yYR⟩:=kc4 yJ.out
              go_wp2_with (first|((with_reducible refine yD (f:=73) rfl ?_); refine yE (some 42) rfl rfl Tryd.func73 (by kernel_rfl) rfl #[.string (⟨#[44]⟩ : ByteArray)] rfl (by (try simp only [List.map_toArray,List.map_cons,List.map_nil]); first|done|rfl|(simp only [List.length_drop,List.length_take]; rfl)) ?_; (with_reducible refine (uS.calls (⟨#[44]⟩ : ByteArray) t315 t316 t317 _ A26.out).mono ?_); rintro e w32 ⟨rfl,hb⟩; refine ⟨_,rfl,?_⟩; have zS:=zZ.mk (Kd.R_below (by (with_reducible repeat (first|apply Kd.R_alloc|apply Kd.R_drewN|apply Kd.R_drew)); exact HO_3.out) hb); have zO:=zZ.mk (xX (g:=vR) (o:=.cells #[.int .u8 zT,.string zB,.slice yR zW.length yS,.slice xK zL.length xR] 25 (0,0)) (by (with_reducible repeat (first|apply zN|apply zM|apply zR)); exact yJ.out) hb); have zI:=zZ.mk (xW (by repeat (first|(with_reducible first|exact HB.out|apply zY|apply zV|apply zU|refine zQ ?_ vU.out)|exact HB.out)) hb); clear HO_3; clear yJ; clear HB; have HO_3:=zS; have yJ:=zO; have HB:=zI; clear zS zO zI; (try clear hb); (try clear hb2); (try clear hk); (try clear hi))|((with_reducible refine uX (b:=.append) (xs:=#[.tmp 41,.tmp 43]) rfl ?_); (try (refine sY (by rfl) ?_; dsimp only)); at_builtin; refine Kd.R_append k61 (w0:=w) w.heap.size rfl (.tmp 41) (.tmp 43) 43 61 (.agg #[(.int .u8 0),(.string ⟨#[]⟩),(.int .i64 0)]) 32 rfl Tryd.underlying43 info61 rfl (by decide) (by omega) u3 yQ (⟨t315,t316,t317⟩ : S61) [.int .u8 t315,.string t316,.int .i64 t317] (fun _ => True) (fun _ => False) rfl rfl ?aP (fun _ hk => hk.elim) ?aF ?aO ?aB ?aS ?aL ?_; (case aP => exact uE _ _ _ (⟨t315,t316,t317⟩ : S61)); (case aB => exact (by repeat (first|(with_reducible first|exact HB.out|apply zY|apply zV|apply zU|refine zQ ?_ vU.out)|exact HB.out))); (case aF => exact (fun _ _ => trivial)); (case aO => exact (by (with_reducible repeat (first|apply Kd.R_alloc|apply Kd.R_drewN|apply Kd.R_drew)); exact HO_3.out)); (case aS => exact (xS (by repeat (first|(with_reducible first|exact HB.out|apply zY|apply zV|apply zU|refine zQ ?_ vU.out)|exact HB.out)))); (case aL => have:=LMc27.out; omega); intro v319 w33 ho hb hg hat; rw [← Ny318.out] at ho; have zS:=zZ.mk (tC (g:=vR) (o:=.cells #[.int .u8 zT,.string zB,.slice yR zW.length yS,.slice xK zL.length xR] 25 (0,0)) (by (with_reducible repeat (first|apply zN|apply zM|apply zR)); exact yJ.out) hg (Kd.R_ne HO_3.out yJ.out (by decide))); have zO:=zZ.mk (hb); have zI:=zZ.mk (ho); clear yJ; clear HB; clear HO_3; have yJ:=zS; have HB:=zO; have HO320:=zI; clear zS zO zI; clear ho hb hg hat; obtain ⟨zUR,zUQ,zUP,zUO⟩:=kc4 yJ.out; have p321 : 0 ≤ (yT : Int):=of_decide_eq_true (by first|(with_reducible assumption)|assumption); have q321 : yT < (zW.length : Int):=of_decide_eq_true (by first|(with_reducible assumption)|assumption); obtain ⟨ad321,e321,zXQ⟩:=Kd.at_int tA.out yT p321 q321; cases e321; replace zXQ:=(HB.out.cell (World.block_lt_of_cell? w _ zXQ)).trans zXQ; replace p321:=eq_true p321; replace q321:=eq_true q321)|((with_reducible refine uX (b:=.append) (xs:=#[.tmp 50,.tmp 57]) rfl ?_); (try (refine sY (by rfl) ?_; dsimp only)); at_builtin; refine Kd.R_append k61 (w0:=w) w.heap.size rfl (.tmp 50) (.tmp 57) 43 61 (.agg #[(.int .u8 0),(.string ⟨#[]⟩),(.int .i64 0)]) 32 rfl Tryd.underlying43 info61 rfl (by decide) (by omega) v319 y318 (⟨2,(⟨#[]⟩ : ByteArray),rd zW yT⟩ : S61) [.int .u8 2,.string (⟨#[]⟩ : ByteArray),.int .i64 (rd zW yT)] (fun _ => True) (fun _ => False) rfl rfl ?aP (fun _ hk => hk.elim) ?aF ?aO ?aB ?aS ?aL ?_; (case aP => exact uE _ _ _ (⟨2,(⟨#[]⟩ : ByteArray),rd zW yT⟩ : S61)); (case aB => exact (by repeat (first|(with_reducible first|exact HB.out|apply zY|apply zV|apply zU|refine zQ ?_ vU.out)|exact HB.out))); (case aF => exact (fun _ _ => trivial)); (case aO => exact (by (with_reducible repeat (first|apply Kd.R_alloc|apply Kd.R_drewN|apply Kd.R_drew)); exact HO320.out)); (case aS => exact (xS (by repeat (first|(with_reducible first|exact HB.out|apply zY|apply zV|apply zU|refine zQ ?_ vU.out)|exact HB.out)))); (case aL => have:=LMc30.out; omega); intro v323 w35 ho hb hg hat; rw [← Ny322.out] at ho; have zS:=zZ.mk (tC (g:=vR) (o:=.cells #[.int .u8 zT,.string zB,.slice (some ad321) zW.length yS,.slice xK zL.length xR] 25 (0,0)) (by (with_reducible repeat (first|apply zN|apply zM|apply zR)); exact yJ.out) hg (Kd.R_ne HO320.out yJ.out (by decide))); have zO:=zZ.mk (hb); have zI:=zZ.mk (ho); clear yJ; clear HB; clear HO320; have yJ:=zS; have HB:=zO; have HO324:=zI; clear zS zO zI; clear ho hb hg hat))
              go_roundg k2
              case measure => have:=HJ1.out; have:=HK2.out; omega
              case rel => exact ⟨(y322),(wrap64 (yT + 1)),(by first|rfl|(simp;done)|(simp [*];done)),H',⟨by have:=HJ1.out; have:=HK2.out; omega⟩,⟨by (with_reducible repeat (first|apply Kd.R_alloc|apply Kd.R_drewN|apply Kd.R_drew)); exact HO324.out⟩,⟨by (with_reducible repeat (first|apply zN|apply zM|apply zR)); exact yJ.out⟩,⟨by repeat (first|(with_reducible first|exact HB.out|apply zY|apply zV|apply zU|refine zQ ?_ vU.out)|exact HB.out)⟩⟩
             ·
              rw [if_neg c30] at H
              exact absurd H (by simp)
            ·
             rw [if_neg c29] at H
             exact absurd H (by simp)
           ·
            rw [if_neg c28] at H
            have c28b0 : decide (yT < (zW.length : Int)) = false:=decide_eq_false c28
            clear c28
            obtain ⟨ji36,hji36⟩ : ∃ j_ : Int,(wrap64 (yT - (zW.length : Int))) = j_:=⟨_,rfl⟩
            replace H : (if 0 ≤ (ji36) then (if (ji36) < (zL.length : Int) then ((xT.f k2 ((yY zL (ji36)).f0) ((yY zL (ji36)).f1) ((yY zL (ji36)).f2) ((yY zL (ji36)).f3)).bind fun t326 => (if y318.length + t326.length < 4398046511104 then (xT.l0 k2 (y318 ++ t326) (wrap64 (yT + 1)) zT zB zW zL) else (none))) else (none)) else (none)) = some r:=by first|(rw [hji36] at H; exact H)|(simp only [hji36] at H ⊢; exact H)
            (try rw [hji36] at A26)
            have hji36w : (IntKind.i64.wrap (yT - (zW.length : Int))) = ji36:=(yV _).trans hji36
            by_cases c37 : 0 ≤ (ji36)
            ·
             rw [if_pos c37] at H
             have c37b0 : decide (0 ≤ (ji36)) = true:=decide_eq_true c37
             clear c37
             by_cases c38 : (ji36) < (zL.length : Int)
             ·
              rw [if_pos c38] at H
              have c38b0 : decide ((ji36) < (zL.length : Int)) = true:=decide_eq_true c38
              clear c38
              replace H:=Option.bind_eq_some_iff.mp H
              obtain ⟨t326,A390,H⟩:=H
              replace H : (if y318.length + t326.length < 4398046511104 then (xT.l0 k2 (y318 ++ t326) (wrap64 (yT + 1)) zT zB zW zL) else (none)) = some r:=H
              have A39:=zZ.mk A390
              clear A390
              by_cases c40 : y318.length + t326.length < 4398046511104
              ·
               rw [if_pos c40] at H
               have LMc40:=zZ.mk c40
               clear c40
               obtain ⟨y329,hy329⟩ : ∃ y_ : List (S61),y_ = (y318 ++ t326):=⟨_,rfl⟩
               replace H : (xT.l0 k2 y329 (wrap64 (yT + 1)) zT zB zW zL) = some r:=by first|(rw [hy329]; with_reducible exact H)|(have yA:=(Option.bind_some _ _).symm.trans H; rw [hy329]; with_reducible exact yA)|(have yA:=(Option.bind_some _ _).symm.trans H; with_reducible exact yA)|with_reducible exact H|(rw [hy329]; exact H)|exact H
               have Ny329:=zZ.mk hy329
               clear hy329
               have H':=zZ.mk H
               clear H
               obtain ⟨yYQ,yYP,yYO,yYN⟩:=kc4 yJ.out
               go_wp2_with (first|((with_reducible refine yD (f:=73) rfl ?_); refine yE (some 42) rfl rfl Tryd.func73 (by kernel_rfl) rfl #[.string (⟨#[44]⟩ : ByteArray)] rfl (by (try simp only [List.map_toArray,List.map_cons,List.map_nil]); first|done|rfl|(simp only [List.length_drop,List.length_take]; rfl)) ?_; (with_reducible refine (uS.calls (⟨#[44]⟩ : ByteArray) t315 t316 t317 _ A26.out).mono ?_); rintro e w42 ⟨rfl,hb⟩; refine ⟨_,rfl,?_⟩; have zS:=zZ.mk (Kd.R_below (by (with_reducible repeat (first|apply Kd.R_alloc|apply Kd.R_drewN|apply Kd.R_drew)); exact HO_3.out) hb); have zO:=zZ.mk (xX (g:=vR) (o:=.cells #[.int .u8 zT,.string zB,.slice yR zW.length yS,.slice xK zL.length xR] 25 (0,0)) (by (with_reducible repeat (first|apply zN|apply zM|apply zR)); exact yJ.out) hb); have zI:=zZ.mk (xW (by repeat (first|(with_reducible first|exact HB.out|apply zY|apply zV|apply zU|refine zQ ?_ vU.out)|exact HB.out)) hb); clear HO_3; clear yJ; clear HB; have HO_3:=zS; have yJ:=zO; have HB:=zI; clear zS zO zI; (try clear hb); (try clear hb2); (try clear hk); (try clear hi))|((with_reducible refine uX (b:=.append) (xs:=#[.tmp 41,.tmp 43]) rfl ?_); (try (refine sY (by rfl) ?_; dsimp only)); at_builtin; refine Kd.R_append k61 (w0:=w) w.heap.size rfl (.tmp 41) (.tmp 43) 43 61 (.agg #[(.int .u8 0),(.string ⟨#[]⟩),(.int .i64 0)]) 32 rfl Tryd.underlying43 info61 rfl (by decide) (by omega) u3 yQ (⟨t315,t316,t317⟩ : S61) [.int .u8 t315,.string t316,.int .i64 t317] (fun _ => True) (fun _ => False) rfl rfl ?aP (fun _ hk => hk.elim) ?aF ?aO ?aB ?aS ?aL ?_; (case aP => exact uE _ _ _ (⟨t315,t316,t317⟩ : S61)); (case aB => exact (by repeat (first|(with_reducible first|exact HB.out|apply zY|apply zV|apply zU|refine zQ ?_ vU.out)|exact HB.out))); (case aF => exact (fun _ _ => trivial)); (case aO => exact (by (with_reducible repeat (first|apply Kd.R_alloc|apply Kd.R_drewN|apply Kd.R_drew)); exact HO_3.out)); (case aS => exact (xS (by repeat (first|(with_reducible first|exact HB.out|apply zY|apply zV|apply zU|refine zQ ?_ vU.out)|exact HB.out)))); (case aL => have:=LMc27.out; omega); intro v319 w43 ho hb hg hat; rw [← Ny318.out] at ho; have zS:=zZ.mk (tC (g:=vR) (o:=.cells #[.int .u8 zT,.string zB,.slice yR zW.length yS,.slice xK zL.length xR] 25 (0,0)) (by (with_reducible repeat (first|apply zN|apply zM|apply zR)); exact yJ.out) hg (Kd.R_ne HO_3.out yJ.out (by decide))); have zO:=zZ.mk (hb); have zI:=zZ.mk (ho); clear yJ; clear HB; clear HO_3; have yJ:=zS; have HB:=zO; have HO320:=zI; clear zS zO zI; clear ho hb hg hat; obtain ⟨aK,aJ,aI,aH⟩:=kc4 yJ.out; have p325 : 0 ≤ ((ji36) : Int):=of_decide_eq_true (by first|(with_reducible assumption)|assumption); have q325 : (ji36) < (zL.length : Int):=of_decide_eq_true (by first|(with_reducible assumption)|assumption); obtain ⟨ad325,zMQ,zMP,zMO,zMN,e325,zXP,zXO,zXN,zXM,zUN,zUM,zUL,zUK⟩:=rK sV.out (ji36) p325 q325; cases e325; replace zXP:=(HB.out.cell (World.block_lt_of_cell? w _ zXP)).trans zXP; replace zXO:=(HB.out.cell (World.block_lt_of_cell? w _ zXO)).trans zXO; replace zXN:=(HB.out.cell (World.block_lt_of_cell? w _ zXN)).trans zXN; replace zXM:=(HB.out.cell (World.block_lt_of_cell? w _ zXM)).trans zXM; have zMM:=zZ.mk zUM; have zML:=zZ.mk zUN; clear zUM zUN; have zMK:=zZ.mk zUK; have zMJ:=zZ.mk zUL; clear zUK zUL; replace p325:=eq_true p325; replace q325:=eq_true q325)|((with_reducible refine yD (f:=41) rfl ?_); refine yE (some 69) rfl rfl Tryd.func41 (by kernel_rfl) rfl #[.agg #[.int .u8 ((yY zL (ji36)).f0),.string ((yY zL (ji36)).f1),.slice zMQ ((yY zL (ji36)).f2).length zMP,.slice zMO ((yY zL (ji36)).f3).length zMN]] rfl (by (try simp only [List.map_toArray,List.map_cons,List.map_nil]); first|done|(simp only [hji36]; rfl)|rfl|(simp only [List.length_drop,List.length_take]; rfl)) ?_; (with_reducible refine (ih k2 (by have:=HJ1.out; have:=HK2.out; omega) ((yY zL (ji36)).f0) ((yY zL (ji36)).f1) _ _ ((yY zL (ji36)).f2) _ _ ((yY zL (ji36)).f3) t326 _ ?side1 ?side2 ?side3 ?side4 A39.out).mono ?_); (case side1 => repeat (first|exact (Kd.C_below zMM.out HB.out)|(with_reducible refine Kd.C_alloc ?_ _)|(with_reducible refine Kd.C_drewN ?_ _)|(with_reducible refine Kd.C_drew ?_))); (case side2 => exact zML.out); (case side3 => repeat (first|exact (Kd.C_below zMK.out HB.out)|(with_reducible refine Kd.C_alloc ?_ _)|(with_reducible refine Kd.C_drewN ?_ _)|(with_reducible refine Kd.C_drew ?_))); (case side4 => exact zMJ.out); rintro e w45 ⟨v327,rfl,ho0,hb⟩; refine ⟨_,rfl,?_⟩; have zS:=zZ.mk (Kd.R_elder' (by (with_reducible repeat (first|apply Kd.R_alloc|apply Kd.R_drewN|apply Kd.R_drew)); exact HO320.out) (Kd.R_base ho0) hb); have zO:=zZ.mk (Kd.R_lower (Kd.R_new' ho0 (Kd.R_lt (by (with_reducible repeat (first|apply Kd.R_alloc|apply Kd.R_drewN|apply Kd.R_drew)); exact HO320.out))) (xS (by repeat (first|(with_reducible first|exact HB.out|apply zY|apply zV|apply zU|refine zQ ?_ vU.out)|exact HB.out)))); have zI:=zZ.mk (xX (g:=vR) (o:=.cells #[.int .u8 zT,.string zB,.slice yR zW.length yS,.slice (some ad325) zL.length xR] 25 (0,0)) (by (with_reducible repeat (first|apply zN|apply zM|apply zR)); exact yJ.out) hb); have xV:=zZ.mk (xW (by repeat (first|(with_reducible first|exact HB.out|apply zY|apply zV|apply zU|refine zQ ?_ vU.out)|exact HB.out)) hb); clear HO320; clear yJ; clear HB; have HO320:=zS; have HO328:=zO; have yJ:=zI; have HB:=xV; clear zS zO zI xV; (try clear hb); (try clear hb2); (try clear hk); (try clear hi); (try clear ho0); obtain ⟨Ao47,co47,eo47⟩:=Kd.R_slice HO328.out; subst eo47)|((with_reducible refine uX (b:=.append) (xs:=#[.tmp 59,.tmp 69]) rfl ?_); (try (refine sY (by rfl) ?_; dsimp only)); at_builtin; refine Kd.R_append_rows k61 (w0:=w) w.heap.size rfl (.tmp 59) (.tmp 69) 43 61 (.agg #[(.int .u8 0),(.string ⟨#[]⟩),(.int .i64 0)]) 32 rfl Tryd.underlying43 info61 rfl (by decide) (by omega) v319 y318 t326 _ _ _ (fun k_ => some k_ ≠ (.slice Ao47 t326.length co47 : Value).ownBlock) (fun _ => False) rfl rfl ?aO ?aR (fun _ _ h => h) (fun _ h => h.elim) ?aF ?aB ?aS ?aL ?_; (case aR => repeat (first|exact (Kd.R_reads' HO328.out).2.2|(with_reducible refine Kd.C_alloc ?_ _)|(with_reducible refine Kd.C_drewN ?_ _)|(with_reducible refine Kd.C_drew ?_))); (case aB => exact (by repeat (first|(with_reducible first|exact HB.out|apply zY|apply zV|apply zU|refine zQ ?_ vU.out)|exact HB.out))); (case aF => exact (fun k_ hk => Kd.fresh' (Kd.R_lt (by (with_reducible repeat (first|apply Kd.R_alloc|apply Kd.R_drewN|apply Kd.R_drew)); exact HO328.out)) k_ hk)); (case aO => exact (by (with_reducible repeat (first|apply Kd.R_alloc|apply Kd.R_drewN|apply Kd.R_drew)); exact Kd.R_mono HO320.out (fun _ hk => hk.2))); (case aS => exact (xS (by repeat (first|(with_reducible first|exact HB.out|apply zY|apply zV|apply zU|refine zQ ?_ vU.out)|exact HB.out)))); (case aL => have:=LMc40.out; omega); intro v330 w46 ho hb hg hat; rw [← Ny329.out] at ho; have zS:=zZ.mk (tC (g:=vR) (o:=.cells #[.int .u8 zT,.string zB,.slice yR zW.length yS,.slice (some ad325) zL.length xR] 25 (0,0)) (by (with_reducible repeat (first|apply zN|apply zM|apply zR)); exact yJ.out) hg (Kd.R_ne HO320.out yJ.out (by decide))); have zO:=zZ.mk (Kd.R_after (ok:=(fun _ => True)) (by (with_reducible repeat (first|apply Kd.R_alloc|apply Kd.R_drewN|apply Kd.R_drew)); exact HO328.out) hg hat); have zI:=zZ.mk (hb); have xV:=zZ.mk (ho); clear yJ; clear HO328; clear HB; clear HO320; have yJ:=zS; have HO328:=zO; have HB:=zI; have HO331:=xV; clear zS zO zI xV; clear ho hb hg hat))
               go_roundg k2
               case measure => have:=HJ1.out; have:=HK2.out; omega
               case rel => exact ⟨(y329),(wrap64 (yT + 1)),(by first|rfl|(simp;done)|(simp [*];done)),H',⟨by have:=HJ1.out; have:=HK2.out; omega⟩,⟨by (with_reducible repeat (first|apply Kd.R_alloc|apply Kd.R_drewN|apply Kd.R_drew)); exact Kd.R_mono HO331.out (fun _ hk => trivial)⟩,⟨by (with_reducible repeat (first|apply zN|apply zM|apply zR)); exact yJ.out⟩,⟨by repeat (first|(with_reducible first|exact HB.out|apply zY|apply zV|apply zU|refine zQ ?_ vU.out)|exact HB.out)⟩⟩
              ·
               rw [if_neg c40] at H
               exact absurd H (by simp)
             ·
              rw [if_neg c38] at H
              exact absurd H (by simp)
            ·
             rw [if_neg c37] at H
             exact absurd H (by simp)
          ·
           rw [if_neg c27] at H
           exact absurd H (by simp)
         ·
          rw [if_neg c25] at H
          have c25b0 : decide (0 < yT) = false:=decide_eq_false c25
          clear c25
          by_cases c48 : yT < (zW.length : Int)
          ·
           rw [if_pos c48] at H
           have c48b0 : decide (yT < (zW.length : Int)) = true:=decide_eq_true c48
           clear c48
           by_cases c49 : 0 ≤ yT
           ·
            rw [if_pos c49] at H
            have c49b0 : decide (0 ≤ yT) = true:=decide_eq_true c49
            clear c49
            by_cases c50 : yQ.length < 4398046511104
            ·
             rw [if_pos c50] at H
             have LMc50:=zZ.mk c50
             clear c50
             obtain ⟨y333,hy333⟩ : ∃ y_ : List (S61),y_ = (yQ ++ [(⟨2,(⟨#[]⟩ : ByteArray),rd zW yT⟩ : S61)]):=⟨_,rfl⟩
             replace H : (xT.l0 k2 y333 (wrap64 (yT + 1)) zT zB zW zL) = some r:=by first|(rw [hy333]; with_reducible exact H)|(have yA:=(Option.bind_some _ _).symm.trans H; rw [hy333]; with_reducible exact yA)|(have yA:=(Option.bind_some _ _).symm.trans H; with_reducible exact yA)|with_reducible exact H|(rw [hy333]; exact H)|exact H
             have Ny333:=zZ.mk hy333
             clear hy333
             have H':=zZ.mk H
             clear H
             obtain ⟨zMU,zMT,zMS,zMR⟩:=kc4 yJ.out
             have p332 : 0 ≤ (yT : Int):=of_decide_eq_true (by first|(with_reducible assumption)|assumption)
             have q332 : yT < (zW.length : Int):=of_decide_eq_true (by first|(with_reducible assumption)|assumption)
             obtain ⟨ad332,e332,zXL⟩:=Kd.at_int tA.out yT p332 q332
             cases e332
             replace zXL:=(HB.out.cell (World.block_lt_of_cell? w _ zXL)).trans zXL
             replace p332:=eq_true p332
             replace q332:=eq_true q332
             go_wp2_with (first|((with_reducible refine uX (b:=.append) (xs:=#[.tmp 50,.tmp 57]) rfl ?_); (try (refine sY (by rfl) ?_; dsimp only)); at_builtin; refine Kd.R_append k61 (w0:=w) w.heap.size rfl (.tmp 50) (.tmp 57) 43 61 (.agg #[(.int .u8 0),(.string ⟨#[]⟩),(.int .i64 0)]) 32 rfl Tryd.underlying43 info61 rfl (by decide) (by omega) u3 yQ (⟨2,(⟨#[]⟩ : ByteArray),rd zW yT⟩ : S61) [.int .u8 2,.string (⟨#[]⟩ : ByteArray),.int .i64 (rd zW yT)] (fun _ => True) (fun _ => False) rfl rfl ?aP (fun _ hk => hk.elim) ?aF ?aO ?aB ?aS ?aL ?_; (case aP => exact uE _ _ _ (⟨2,(⟨#[]⟩ : ByteArray),rd zW yT⟩ : S61)); (case aB => exact (by repeat (first|(with_reducible first|exact HB.out|apply zY|apply zV|apply zU|refine zQ ?_ vU.out)|exact HB.out))); (case aF => exact (fun _ _ => trivial)); (case aO => exact (by (with_reducible repeat (first|apply Kd.R_alloc|apply Kd.R_drewN|apply Kd.R_drew)); exact HO_3.out)); (case aS => exact (xS (by repeat (first|(with_reducible first|exact HB.out|apply zY|apply zV|apply zU|refine zQ ?_ vU.out)|exact HB.out)))); (case aL => have:=LMc50.out; omega); intro v334 w52 ho hb hg hat; rw [← Ny333.out] at ho; have zS:=zZ.mk (tC (g:=vR) (o:=.cells #[.int .u8 zT,.string zB,.slice (some ad332) zW.length yS,.slice xK zL.length xR] 25 (0,0)) (by (with_reducible repeat (first|apply zN|apply zM|apply zR)); exact yJ.out) hg (Kd.R_ne HO_3.out yJ.out (by decide))); have zO:=zZ.mk (hb); have zI:=zZ.mk (ho); clear yJ; clear HB; clear HO_3; have yJ:=zS; have HB:=zO; have HO335:=zI; clear zS zO zI; clear ho hb hg hat))
             go_roundg k2
             case measure => have:=HJ1.out; have:=HK2.out; omega
             case rel => exact ⟨(y333),(wrap64 (yT + 1)),(by first|rfl|(simp;done)|(simp [*];done)),H',⟨by have:=HJ1.out; have:=HK2.out; omega⟩,⟨by (with_reducible repeat (first|apply Kd.R_alloc|apply Kd.R_drewN|apply Kd.R_drew)); exact HO335.out⟩,⟨by (with_reducible repeat (first|apply zN|apply zM|apply zR)); exact yJ.out⟩,⟨by repeat (first|(with_reducible first|exact HB.out|apply zY|apply zV|apply zU|refine zQ ?_ vU.out)|exact HB.out)⟩⟩
            ·
             rw [if_neg c50] at H
             exact absurd H (by simp)
           ·
            rw [if_neg c49] at H
            exact absurd H (by simp)
          ·
           rw [if_neg c48] at H
           have c48b0 : decide (yT < (zW.length : Int)) = false:=decide_eq_false c48
           clear c48
           obtain ⟨ji53,hji53⟩ : ∃ j_ : Int,(wrap64 (yT - (zW.length : Int))) = j_:=⟨_,rfl⟩
           replace H : (if 0 ≤ (ji53) then (if (ji53) < (zL.length : Int) then ((xT.f k2 ((yY zL (ji53)).f0) ((yY zL (ji53)).f1) ((yY zL (ji53)).f2) ((yY zL (ji53)).f3)).bind fun t337 => (if yQ.length + t337.length < 4398046511104 then (xT.l0 k2 (yQ ++ t337) (wrap64 (yT + 1)) zT zB zW zL) else (none))) else (none)) else (none)) = some r:=by first|(rw [hji53] at H; exact H)|(simp only [hji53] at H ⊢; exact H)
           have hji53w : (IntKind.i64.wrap (yT - (zW.length : Int))) = ji53:=(yV _).trans hji53
           by_cases c54 : 0 ≤ (ji53)
           ·
            rw [if_pos c54] at H
            have c54b0 : decide (0 ≤ (ji53)) = true:=decide_eq_true c54
            clear c54
            by_cases c55 : (ji53) < (zL.length : Int)
            ·
             rw [if_pos c55] at H
             have c55b0 : decide ((ji53) < (zL.length : Int)) = true:=decide_eq_true c55
             clear c55
             replace H:=Option.bind_eq_some_iff.mp H
             obtain ⟨t337,A560,H⟩:=H
             replace H : (if yQ.length + t337.length < 4398046511104 then (xT.l0 k2 (yQ ++ t337) (wrap64 (yT + 1)) zT zB zW zL) else (none)) = some r:=H
             have A56:=zZ.mk A560
             clear A560
             by_cases c57 : yQ.length + t337.length < 4398046511104
             ·
              rw [if_pos c57] at H
              have LMc57:=zZ.mk c57
              clear c57
              obtain ⟨y340,hy340⟩ : ∃ y_ : List (S61),y_ = (yQ ++ t337):=⟨_,rfl⟩
              replace H : (xT.l0 k2 y340 (wrap64 (yT + 1)) zT zB zW zL) = some r:=by first|(rw [hy340]; with_reducible exact H)|(have yA:=(Option.bind_some _ _).symm.trans H; rw [hy340]; with_reducible exact yA)|(have yA:=(Option.bind_some _ _).symm.trans H; with_reducible exact yA)|with_reducible exact H|(rw [hy340]; exact H)|exact H
              have Ny340:=zZ.mk hy340
              clear hy340
              have H':=zZ.mk H
              clear H
              obtain ⟨zSX,zSW,zSV,yYM⟩:=kc4 yJ.out
              have p336 : 0 ≤ ((ji53) : Int):=of_decide_eq_true (by first|(with_reducible assumption)|assumption)
              have q336 : (ji53) < (zL.length : Int):=of_decide_eq_true (by first|(with_reducible assumption)|assumption)
              obtain ⟨ad336,zMI,zMH,zMG,zMF,e336,zXK,zXJ,zXI,zXH,zUJ,zUI,zUH,zUG⟩:=rK sV.out (ji53) p336 q336
              cases e336
              replace zXK:=(HB.out.cell (World.block_lt_of_cell? w _ zXK)).trans zXK
              replace zXJ:=(HB.out.cell (World.block_lt_of_cell? w _ zXJ)).trans zXJ
              replace zXI:=(HB.out.cell (World.block_lt_of_cell? w _ zXI)).trans zXI
              replace zXH:=(HB.out.cell (World.block_lt_of_cell? w _ zXH)).trans zXH
              have zME:=zZ.mk zUI
              have zMD:=zZ.mk zUJ
              clear zUI zUJ
              have zMC:=zZ.mk zUG
              have zMB:=zZ.mk zUH
              clear zUG zUH
              replace p336:=eq_true p336
              replace q336:=eq_true q336
              go_wp2_with (first|((with_reducible refine yD (f:=41) rfl ?_); refine yE (some 69) rfl rfl Tryd.func41 (by kernel_rfl) rfl #[.agg #[.int .u8 ((yY zL (ji53)).f0),.string ((yY zL (ji53)).f1),.slice zMI ((yY zL (ji53)).f2).length zMH,.slice zMG ((yY zL (ji53)).f3).length zMF]] rfl (by (try simp only [List.map_toArray,List.map_cons,List.map_nil]); first|done|(simp only [hji53]; rfl)|rfl|(simp only [List.length_drop,List.length_take]; rfl)) ?_; (with_reducible refine (ih k2 (by have:=HJ1.out; have:=HK2.out; omega) ((yY zL (ji53)).f0) ((yY zL (ji53)).f1) _ _ ((yY zL (ji53)).f2) _ _ ((yY zL (ji53)).f3) t337 _ ?side1 ?side2 ?side3 ?side4 A56.out).mono ?_); (case side1 => repeat (first|exact (Kd.C_below zME.out HB.out)|(with_reducible refine Kd.C_alloc ?_ _)|(with_reducible refine Kd.C_drewN ?_ _)|(with_reducible refine Kd.C_drew ?_))); (case side2 => exact zMD.out); (case side3 => repeat (first|exact (Kd.C_below zMC.out HB.out)|(with_reducible refine Kd.C_alloc ?_ _)|(with_reducible refine Kd.C_drewN ?_ _)|(with_reducible refine Kd.C_drew ?_))); (case side4 => exact zMB.out); rintro e w59 ⟨v338,rfl,ho0,hb⟩; refine ⟨_,rfl,?_⟩; have zS:=zZ.mk (Kd.R_elder' (by (with_reducible repeat (first|apply Kd.R_alloc|apply Kd.R_drewN|apply Kd.R_drew)); exact HO_3.out) (Kd.R_base ho0) hb); have zO:=zZ.mk (Kd.R_lower (Kd.R_new' ho0 (Kd.R_lt (by (with_reducible repeat (first|apply Kd.R_alloc|apply Kd.R_drewN|apply Kd.R_drew)); exact HO_3.out))) (xS (by repeat (first|(with_reducible first|exact HB.out|apply zY|apply zV|apply zU|refine zQ ?_ vU.out)|exact HB.out)))); have zI:=zZ.mk (xX (g:=vR) (o:=.cells #[.int .u8 zT,.string zB,.slice yR zW.length yS,.slice (some ad336) zL.length xR] 25 (0,0)) (by (with_reducible repeat (first|apply zN|apply zM|apply zR)); exact yJ.out) hb); have xV:=zZ.mk (xW (by repeat (first|(with_reducible first|exact HB.out|apply zY|apply zV|apply zU|refine zQ ?_ vU.out)|exact HB.out)) hb); clear HO_3; clear yJ; clear HB; have HO_3:=zS; have HO339:=zO; have yJ:=zI; have HB:=xV; clear zS zO zI xV; (try clear hb); (try clear hb2); (try clear hk); (try clear hi); (try clear ho0); obtain ⟨Ao61,co61,eo61⟩:=Kd.R_slice HO339.out; subst eo61)|((with_reducible refine uX (b:=.append) (xs:=#[.tmp 59,.tmp 69]) rfl ?_); (try (refine sY (by rfl) ?_; dsimp only)); at_builtin; refine Kd.R_append_rows k61 (w0:=w) w.heap.size rfl (.tmp 59) (.tmp 69) 43 61 (.agg #[(.int .u8 0),(.string ⟨#[]⟩),(.int .i64 0)]) 32 rfl Tryd.underlying43 info61 rfl (by decide) (by omega) u3 yQ t337 _ _ _ (fun k_ => some k_ ≠ (.slice Ao61 t337.length co61 : Value).ownBlock) (fun _ => False) rfl rfl ?aO ?aR (fun _ _ h => h) (fun _ h => h.elim) ?aF ?aB ?aS ?aL ?_; (case aR => repeat (first|exact (Kd.R_reads' HO339.out).2.2|(with_reducible refine Kd.C_alloc ?_ _)|(with_reducible refine Kd.C_drewN ?_ _)|(with_reducible refine Kd.C_drew ?_))); (case aB => exact (by repeat (first|(with_reducible first|exact HB.out|apply zY|apply zV|apply zU|refine zQ ?_ vU.out)|exact HB.out))); (case aF => exact (fun k_ hk => Kd.fresh' (Kd.R_lt (by (with_reducible repeat (first|apply Kd.R_alloc|apply Kd.R_drewN|apply Kd.R_drew)); exact HO339.out)) k_ hk)); (case aO => exact (by (with_reducible repeat (first|apply Kd.R_alloc|apply Kd.R_drewN|apply Kd.R_drew)); exact Kd.R_mono HO_3.out (fun _ hk => hk.2))); (case aS => exact (xS (by repeat (first|(with_reducible first|exact HB.out|apply zY|apply zV|apply zU|refine zQ ?_ vU.out)|exact HB.out)))); (case aL => have:=LMc57.out; omega); intro v341 w60 ho hb hg hat; rw [← Ny340.out] at ho; have zS:=zZ.mk (tC (g:=vR) (o:=.cells #[.int .u8 zT,.string zB,.slice yR zW.length yS,.slice (some ad336) zL.length xR] 25 (0,0)) (by (with_reducible repeat (first|apply zN|apply zM|apply zR)); exact yJ.out) hg (Kd.R_ne HO_3.out yJ.out (by decide))); have zO:=zZ.mk (Kd.R_after (ok:=(fun _ => True)) (by (with_reducible repeat (first|apply Kd.R_alloc|apply Kd.R_drewN|apply Kd.R_drew)); exact HO339.out) hg hat); have zI:=zZ.mk (hb); have xV:=zZ.mk (ho); clear yJ; clear HO339; clear HB; clear HO_3; have yJ:=zS; have HO339:=zO; have HB:=zI; have HO342:=xV; clear zS zO zI xV; clear ho hb hg hat))
              go_roundg k2
              case measure => have:=HJ1.out; have:=HK2.out; omega
              case rel => exact ⟨(y340),(wrap64 (yT + 1)),(by first|rfl|(simp;done)|(simp [*];done)),H',⟨by have:=HJ1.out; have:=HK2.out; omega⟩,⟨by (with_reducible repeat (first|apply Kd.R_alloc|apply Kd.R_drewN|apply Kd.R_drew)); exact Kd.R_mono HO342.out (fun _ hk => trivial)⟩,⟨by (with_reducible repeat (first|apply zN|apply zM|apply zR)); exact yJ.out⟩,⟨by repeat (first|(with_reducible first|exact HB.out|apply zY|apply zV|apply zU|refine zQ ?_ vU.out)|exact HB.out)⟩⟩
             ·
              rw [if_neg c57] at H
              exact absurd H (by simp)
            ·
             rw [if_neg c55] at H
             exact absurd H (by simp)
           ·
            rw [if_neg c54] at H
            exact absurd H (by simp)
        ·
         rw [if_neg c24] at H
         have c24b0 : decide (yT < (wrap64 ((zW.length : Int) + (zL.length : Int)))) = false:=decide_eq_false c24
         clear c24
         replace H:=Option.bind_eq_some_iff.mp H
         obtain ⟨⟨t309,t310,t311⟩,A620,H⟩:=H
         replace H : (if yQ.length < 4398046511104 then (some (yQ ++ [(⟨t309,t310,t311⟩ : S61)])) else (none)) = some r:=H
         have A62:=zZ.mk A620
         clear A620
         by_cases c63 : yQ.length < 4398046511104
         ·
          rw [if_pos c63] at H
          have LMc63:=zZ.mk c63
          clear c63
          obtain ⟨y312,hy312⟩ : ∃ y_ : List (S61),y_ = (yQ ++ [(⟨t309,t310,t311⟩ : S61)]):=⟨_,rfl⟩
          replace H : (some y312) = some r:=by first|(rw [hy312]; with_reducible exact H)|(have yA:=(Option.bind_some _ _).symm.trans H; rw [hy312]; with_reducible exact yA)|(have yA:=(Option.bind_some _ _).symm.trans H; with_reducible exact yA)|with_reducible exact H|(rw [hy312]; exact H)|exact H
          have Ny312:=zZ.mk hy312
          clear hy312
          obtain rfl:=Option.some.inj H
          obtain ⟨zOP,zOO,zON,zOM⟩:=kc4 yJ.out
          go_wp2_with (first|((with_reducible refine yD (f:=73) rfl ?_); refine yE (some 72) rfl rfl Tryd.func73 (by kernel_rfl) rfl #[.string (⟨#[41]⟩ : ByteArray)] rfl (by (try simp only [List.map_toArray,List.map_cons,List.map_nil]); first|done|rfl|(simp only [List.length_drop,List.length_take]; rfl)) ?_; (with_reducible refine (uS.calls (⟨#[41]⟩ : ByteArray) t309 t310 t311 _ A62.out).mono ?_); rintro e w65 ⟨rfl,hb⟩; refine ⟨_,rfl,?_⟩; have zS:=zZ.mk (Kd.R_below (by (with_reducible repeat (first|apply Kd.R_alloc|apply Kd.R_drewN|apply Kd.R_drew)); exact HO_3.out) hb); have zO:=zZ.mk (xX (g:=vR) (o:=.cells #[.int .u8 zT,.string zB,.slice yR zW.length yS,.slice xK zL.length xR] 25 (0,0)) (by (with_reducible repeat (first|apply zN|apply zM|apply zR)); exact yJ.out) hb); have zI:=zZ.mk (xW (by repeat (first|(with_reducible first|exact HB.out|apply zY|apply zV|apply zU|refine zQ ?_ vU.out)|exact HB.out)) hb); clear HO_3; clear yJ; clear HB; have HO_3:=zS; have yJ:=zO; have HB:=zI; clear zS zO zI; (try clear hb); (try clear hb2); (try clear hk); (try clear hi))|((with_reducible refine uX (b:=.append) (xs:=#[.tmp 71,.tmp 73]) rfl ?_); (try (refine sY (by rfl) ?_; dsimp only)); at_builtin; refine Kd.R_append k61 (w0:=w) w.heap.size rfl (.tmp 71) (.tmp 73) 43 61 (.agg #[(.int .u8 0),(.string ⟨#[]⟩),(.int .i64 0)]) 32 rfl Tryd.underlying43 info61 rfl (by decide) (by omega) u3 yQ (⟨t309,t310,t311⟩ : S61) [.int .u8 t309,.string t310,.int .i64 t311] (fun _ => True) (fun _ => False) rfl rfl ?aP (fun _ hk => hk.elim) ?aF ?aO ?aB ?aS ?aL ?_; (case aP => exact uE _ _ _ (⟨t309,t310,t311⟩ : S61)); (case aB => exact (by repeat (first|(with_reducible first|exact HB.out|apply zY|apply zV|apply zU|refine zQ ?_ vU.out)|exact HB.out))); (case aF => exact (fun _ _ => trivial)); (case aO => exact (by (with_reducible repeat (first|apply Kd.R_alloc|apply Kd.R_drewN|apply Kd.R_drew)); exact HO_3.out)); (case aS => exact (xS (by repeat (first|(with_reducible first|exact HB.out|apply zY|apply zV|apply zU|refine zQ ?_ vU.out)|exact HB.out)))); (case aL => have:=LMc63.out; omega); intro v313 w66 ho hb hg hat; rw [← Ny312.out] at ho; have zS:=zZ.mk (tC (g:=vR) (o:=.cells #[.int .u8 zT,.string zB,.slice yR zW.length yS,.slice xK zL.length xR] 25 (0,0)) (by (with_reducible repeat (first|apply zN|apply zM|apply zR)); exact yJ.out) hg (Kd.R_ne HO_3.out yJ.out (by decide))); have zO:=zZ.mk (hb); have zI:=zZ.mk (ho); clear yJ; clear HB; clear HO_3; have yJ:=zS; have HB:=zO; have HO314:=zI; clear zS zO zI; clear ho hb hg hat))
          go_ret
          exact ⟨_,by first|rfl|(simp [yG,yF] <;> rfl)|(simp [*,yG,yF] <;> rfl),by (with_reducible repeat (first|apply Kd.R_alloc|apply Kd.R_drewN|apply Kd.R_drew)); exact HO314.out,by repeat (first|(with_reducible first|exact HB.out|apply zY|apply zV|apply zU|refine zQ ?_ vU.out)|exact HB.out)⟩
         ·
          rw [if_neg c63] at H
          exact absurd H (by simp)
     ·
      rw [if_neg c16] at H
      exact absurd H (by simp)
    ·
     rw [if_neg c15] at H
     exact absurd H (by simp)
end Go.Proofs.YtjeofffddbibeaaDoor.PParseTells
end

section
namespace Go.Proofs.YtjeofffddbibeaaDoor.Pa
open Go Go.RowKit PParseTells Ex YtjeofffddbibeaaDoorW.PrintWords YtjeofffddbibeaaDoorW.PrintLast YtjeofffddbibeaaDoorW.PrintMore
def tailW : Bool → List (List Tok) → List Tok
 | _,[] => [mR]
 | f,a :: r => (if f = true then [] else [mC]) ++ (a ++ tailW false r)
theorem tail_seq : ∀ l : List (List Tok),tailW true l = seqW l
 | [] => rfl
 | [a] => rfl
 | a :: b :: r => by
  have ih:=tail_seq (b :: r)
  rw [hZ,if_neg (by simp),← ih]
  rfl
theorem tail_le : ∀ (f : Bool) (l : List (List Tok)),(tailW f l).length ≤ (tailW false l).length
 | f,[] => Nat.le_refl _
 | f,a :: r => by cases f <;> simp [tailW]
theorem zWI : ∀ l : List X,(wordsL l).length = l.length
 | [] => by rw [qW]; rfl
 | y :: l => by rw [rM,List.length_cons,List.length_cons,zWI l]
theorem wordsL_at : ∀ (l : List X) (i : Nat) (h : i < l.length),(wordsL l)[i]? = some (wordsX l[i])
 | y :: l,0,h => by rw [rM]; rfl
 | y :: l,i + 1,h => by
  rw [rM,List.getElem?_cons_succ,wordsL_at l i (by simpa using h)]
  rfl
theorem refWords_l0 (o : Int) (s : ByteArray) (ns : List Int) (xs : List X) (hm : ns.length + xs.length ≤ 1000)
  (hf : ∀ (i : Nat) (hi : i < xs.length) (k : Nat),10 * cnt xs[i] ≤ k → xT.f k xs[i].f0 xs[i].f1 xs[i].f2 xs[i].f3 = some (wordsX xs[i])) :
  ∀ (n i : Nat),i + n = ns.length + xs.length → ∀ (k : Nat) (out : List Tok),10 * cntL xs + n + 1 ≤ k → (out ++ tailW false ((ns.map (fun v => [nTok v]) ++ wordsL xs).drop i)).length < 4398046511104 →
   xT.l0 k out i o s ns xs = some (out ++ tailW (decide (i = 0)) ((ns.map (fun v => [nTok v]) ++ wordsL xs).drop i)):=by
 have hil : (ns.map (fun v => [nTok v]) ++ wordsL xs).length = ns.length + xs.length:=by rw [List.length_append,List.length_map,zWI]
 intro n
 induction n with
 | zero =>
  intro i hi k out hk hl
  obtain ⟨k,rfl⟩ : ∃ m,k = m + 1:=⟨k - 1,by omega⟩
  rw [List.drop_eq_nil_of_le (by omega)] at hl ⊢
  rw [xT.l0,w64 (by omega) (by omega),if_neg (by omega)]
  have hl' : out.length < 4398046511104:=by
   rw [List.length_append] at hl
   omega
  show (if out.length < 4398046511104 then some (out ++ [(⟨4,⟨#[41]⟩,0⟩ : Tok)]) else none) = some (out ++ [mR])
  rw [if_pos hl']
 | succ n ih =>
  intro i hi k out hk hl
  obtain ⟨k,rfl⟩ : ∃ m,k = m + 1:=⟨k - 1,by omega⟩
  obtain ⟨it,hit⟩ : ∃ it,(ns.map (fun v => [nTok v]) ++ wordsL xs)[i]? = some it:=⟨_,List.getElem?_eq_getElem (by omega)⟩
  have hdr : (ns.map (fun v => [nTok v]) ++ wordsL xs).drop i = it :: (ns.map (fun v => [nTok v]) ++ wordsL xs).drop (i + 1):=by
   obtain ⟨h,he⟩:=List.getElem?_eq_some_iff.1 hit
   rw [List.drop_eq_getElem_cons h,he]
  rw [hdr] at hl ⊢
  have key : ∀ y : List Tok,(y ++ (it ++ tailW false ((ns.map (fun v => [nTok v]) ++ wordsL xs).drop (i + 1)))).length < 4398046511104 →
    xT.l0 k (y ++ it) (wrap64 ((i : Int) + 1)) o s ns xs = some (y ++ (it ++ tailW false ((ns.map (fun v => [nTok v]) ++ wordsL xs).drop (i + 1)))):=fun y hy => by
   rw [w64 (by omega) (by omega)]
   have h:=ih (i + 1) (by omega) k (y ++ it) (by omega) (by rw [List.append_assoc]; exact hy)
   rw [show ((i + 1 : Nat) : Int) = (i : Int) + 1 by omega] at h
   rw [h,List.append_assoc]
   rw [show decide (i + 1 = 0) = false from decide_eq_false (by omega)]
  have inner : ∀ y : List Tok,(y ++ (it ++ tailW false ((ns.map (fun v => [nTok v]) ++ wordsL xs).drop (i + 1)))).length < 4398046511104 →
    (if (i : Int) < (ns.length : Int) then (if 0 ≤ (i : Int) then (if y.length < 4398046511104 then (xT.l0 k (y ++ [⟨2,(⟨#[]⟩ : ByteArray),rd ns (i : Int)⟩]) (wrap64 ((i : Int) + 1)) o s ns xs) else none) else none)
     else (if 0 ≤ (wrap64 ((i : Int) - (ns.length : Int))) then (if (wrap64 ((i : Int) - (ns.length : Int))) < (xs.length : Int) then ((xT.f k ((yY xs (wrap64 ((i : Int) - (ns.length : Int)))).f0) ((yY xs (wrap64 ((i : Int) - (ns.length : Int)))).f1) ((yY xs (wrap64 ((i : Int) - (ns.length : Int)))).f2) ((yY xs (wrap64 ((i : Int) - (ns.length : Int)))).f3)).bind fun t => (if y.length + t.length < 4398046511104 then (xT.l0 k (y ++ t) (wrap64 ((i : Int) + 1)) o s ns xs) else none)) else none) else none))
    = some (y ++ (it ++ tailW false ((ns.map (fun v => [nTok v]) ++ wordsL xs).drop (i + 1)))):=fun y hy => by
   have hy':=hy
   rw [List.length_append,List.length_append] at hy'
   by_cases hin : i < ns.length
   ·
    have he : it = [nTok ns[i]]:=by
     rw [List.getElem?_append_left (by rw [List.length_map]; exact hin),List.getElem?_map,List.getElem?_eq_getElem hin] at hit
     exact (Option.some.inj hit).symm
    have hr : rd ns (i : Int) = ns[i]:=by
     unfold rd
     rw [Int.toNat_natCast,List.getD_eq_getElem?_getD,List.getElem?_eq_getElem hin]
     rfl
    rw [if_pos (by omega),if_pos (by omega),if_pos (by omega),hr]
    have hk:=key y hy
    rw [he] at hk ⊢
    exact hk
   ·
    have hj : i - ns.length < xs.length:=by omega
    have he : it = wordsX xs[i - ns.length]:=by
     rw [List.getElem?_append_right (by rw [List.length_map]; omega),List.length_map,wordsL_at xs _ hj] at hit
     exact (Option.some.inj hit).symm
    have hw : wrap64 ((i : Int) - (ns.length : Int)) = ((i - ns.length : Nat) : Int):=by rw [w64 (by omega) (by omega)]; omega
    have hc:=lS (x:=⟨0,s,[],xs⟩) (List.getElem_mem hj)
    have hcc:=sW ⟨0,s,[],xs⟩
    have hcc' : cnt ⟨0,s,[],xs⟩ = 1 + cntL xs:=hcc
    rw [if_neg (by omega),hw,if_pos (by omega),if_pos (by omega),Ex.rd_at xs _ hj,hf _ hj k (by omega)]
    show (if y.length + (wordsX xs[i - ns.length]).length < 4398046511104 then _ else none) = _
    rw [← he,if_pos (by omega)]
    exact key y hy
  rw [xT.l0,w64 (x:=(ns.length : Int) + (xs.length : Int)) (by omega) (by omega),if_pos (by omega)]
  have hlen : (out ++ [mC] ++ (it ++ tailW false ((ns.map (fun v => [nTok v]) ++ wordsL xs).drop (i + 1)))).length < 4398046511104:=by
   have : (tailW false (it :: (ns.map (fun v => [nTok v]) ++ wordsL xs).drop (i + 1))) = [mC] ++ (it ++ tailW false ((ns.map (fun v => [nTok v]) ++ wordsL xs).drop (i + 1))):=rfl
   rw [this] at hl
   rw [List.append_assoc]
   exact hl
  by_cases h0 : i = 0
  ·
   rw [if_neg (by omega),decide_eq_true h0]
   exact inner out (by rw [List.append_assoc,List.length_append] at hlen; rw [List.length_append] at hlen ⊢; omega)
  ·
   rw [if_pos (by omega),decide_eq_false h0]
   have ho : out.length < 4398046511104:=by rw [List.append_assoc,List.length_append] at hlen; omega
   have h9:=inner (out ++ [mC]) hlen
   show (if out.length < 4398046511104 then (some (out ++ [(⟨4,⟨#[44]⟩,0⟩ : Tok)])).bind _ else none) = _
   rw [if_pos ho]
   refine h9.trans ?_
   rw [List.append_assoc]
   rfl
theorem refOps : oN.f = some (nil8 :: opsL):=rfl
theorem op_at : ∀ o : Int,1 ≤ o → o ≤ 12 → rdOf ByteArray.empty (nil8 :: opsL) o = opW o:=by
 intro o h0 h1
 rcases (show o = 1 ∨ o = 2 ∨ o = 3 ∨ o = 4 ∨ o = 5 ∨ o = 6 ∨ o = 7 ∨ o = 8 ∨ o = 9 ∨ o = 10 ∨ o = 11 ∨ o = 12 by omega) with rfl|rfl|rfl|rfl|rfl|rfl|rfl|rfl|rfl|rfl|rfl|rfl <;> rfl
theorem many_le : ∀ o : Int,1 ≤ o → o ≤ 12 → numsOf o + argsOf o ≤ 5 ∧ 2 * numsOf o + argsOf o ≤ 8:=by
 intro o h0 h1
 rcases (show o = 1 ∨ o = 2 ∨ o = 3 ∨ o = 4 ∨ o = 5 ∨ o = 6 ∨ o = 7 ∨ o = 8 ∨ o = 9 ∨ o = 10 ∨ o = 11 ∨ o = 12 by omega) with rfl|rfl|rfl|rfl|rfl|rfl|rfl|rfl|rfl|rfl|rfl|rfl <;> decide
theorem zWW (xs : List X) (hx : ∀ y ∈ xs,(wordsX y).length ≤ 12 * cnt y) : (tailW false (wordsL xs)).length ≤ 12 * cntL xs + xs.length + 1:=by
 induction xs with
 | nil => rw [qW]; simp [tailW]
 | cons y xs ih =>
  have h1:=ih (fun z hz => hx z (by simp [hz]))
  have h2:=hx y (by simp)
  rw [rM,rL]
  show ([mC] ++ (wordsX y ++ tailW false (wordsL xs))).length ≤ _
  rw [List.length_append,List.length_append,List.length_cons,List.length_nil,List.length_cons]
  omega
theorem tail_nums (ns : List Int) (r : List (List Tok)) : (tailW false (ns.map (fun v => [nTok v]) ++ r)).length = 2 * ns.length + (tailW false r).length:=by
 induction ns with
 | nil => simp
 | cons v ns ih =>
  rw [List.map_cons,List.cons_append]
  show ([mC] ++ ([nTok v] ++ tailW false (ns.map (fun v => [nTok v]) ++ r))).length = _
  rw [List.length_append,List.length_append,ih,List.length_cons]
  simp
  omega
theorem words_le (N : Nat) : ∀ x : X,cnt x ≤ N → Wf x → allR x = true → (wordsX x).length ≤ 12 * cnt x:=by
 induction N with
 | zero => intro x hx; have:=sQ x; omega
 | succ N ih =>
  intro x hN hwf hR
  have hcx:=sW x
  rcases cD hwf hR with ⟨n,rfl⟩|⟨o,ns,xs,rfl,h1,h2,h4,h5,hRL⟩
  ·
   have hw : wordsX ⟨0,n,[],[]⟩ = [wTok n]:=by rw [oM]; exact if_pos (.inl rfl)
   rw [hw]
   have:=sQ ⟨0,n,[],[]⟩
   simp
   omega
  ·
   have hw : wordsX ⟨o,nil8,ns,xs⟩ = wTok (opW o) :: mL :: seqW (ns.map (fun v => [nTok v]) ++ wordsL xs):=by rw [oM]; exact if_neg (by show ¬ (o = 0 ∨ 13 ≤ o); omega)
   have hc : cnt ⟨o,nil8,ns,xs⟩ = 1 + cntL xs:=sW _
   have hmn:=many_le o h1 h2
   have hT:=zWW xs (fun y hy => ih y (by have:=nA hy; omega) (hwf.child (x:=⟨o,nil8,ns,xs⟩) hy) (gM hRL hy))
   have hS:=tail_le true (ns.map (fun v => [nTok v]) ++ wordsL xs)
   rw [tail_seq,tail_nums] at hS
   rw [hw,hc,List.length_cons,List.length_cons]
   have:=(gP o h1 h2).2.2
   omega
theorem refWords_f (N : Nat) : ∀ x : X,cnt x ≤ N → Wf x → allR x = true → cnt x ≤ 2000 → ∀ k : Nat,10 * cnt x ≤ k → xT.f k x.f0 x.f1 x.f2 x.f3 = some (wordsX x):=by
 induction N with
 | zero => intro x hx; have:=sQ x; omega
 | succ N ih =>
  intro x hN hwf hR hcn k hk
  have hcx:=sW x
  have hle:=words_le (cnt x) x (Nat.le_refl _) hwf hR
  obtain ⟨k,rfl⟩ : ∃ m,k = m + 1 + 1:=⟨k - 2,by omega⟩
  rcases cD hwf hR with ⟨n,rfl⟩|⟨o,ns,xs,rfl,h1,h2,h4,h5,hRL⟩
  ·
   have hw : wordsX ⟨0,n,[],[]⟩ = [wTok n]:=by rw [oM]; exact if_pos (.inl rfl)
   rw [hw]
   show xT.f (k + 1 + 1) 0 n [] [] = _
   rw [xT.f,if_pos rfl,xT.j0,if_pos rfl]
  ·
   have hw : wordsX ⟨o,nil8,ns,xs⟩ = wTok (opW o) :: mL :: seqW (ns.map (fun v => [nTok v]) ++ wordsL xs):=by rw [oM]; exact if_neg (by show ¬ (o = 0 ∨ 13 ≤ o); omega)
   have hc : cnt ⟨o,nil8,ns,xs⟩ = 1 + cntL xs:=sW _
   have hmn:=many_le o h1 h2
   have hmg:=(gP o h1 h2).2.2
   rw [hw] at hle ⊢
   rw [hc] at hk hcn hle hN
   show xT.f (k + 1 + 1) o nil8 ns xs = _
   have hge : decide ((wrap64 o) ≥ (((nil8 :: opsL : List ByteArray).length : Nat) : Int)) = false:=decide_eq_false (by rw [w64 (by omega) (by omega)]; show ¬ o ≥ 13; omega)
   have hl0:=refWords_l0 o nil8 ns xs (by omega) (fun i hi m hm' => ih xs[i] (by have:=nA (List.getElem_mem hi); omega) (hwf.child (x:=⟨o,nil8,ns,xs⟩) (List.getElem_mem hi)) (gM hRL (List.getElem_mem hi)) (by have:=nA (List.getElem_mem hi); omega) m hm') (ns.length + xs.length) 0 (by omega) k [wTok (opW o),mL] (by omega) (by
    have hT:=zWW xs (fun y hy => words_le (cnt y) y (Nat.le_refl _) (hwf.child (x:=⟨o,nil8,ns,xs⟩) hy) (gM hRL hy))
    rw [List.drop_zero,List.length_append,tail_nums,List.length_cons,List.length_cons,List.length_nil]
    omega)
   rw [List.drop_zero,decide_eq_true rfl,tail_seq] at hl0
   rw [xT.f,if_neg (by omega),refOps]
   show xT.j0 (k + 1) (decide ((wrap64 o) ≥ (((nil8 :: opsL : List ByteArray).length : Nat) : Int))) o nil8 ns xs = _
   rw [hge,xT.j0,if_neg (by simp),refOps]
   show (if 0 ≤ o then (if o < 13 then xT.l0 k [(⟨1,rdOf ByteArray.empty (nil8 :: opsL) o,0⟩ : Tok),mL] 0 o nil8 ns xs else none) else none) = _
   rw [if_pos (by omega),if_pos (by omega),op_at o h1 h2]
   exact hl0
end Go.Proofs.YtjeofffddbibeaaDoor.Pa
end
