/-
 Part 9 of what the row stands on,put together by a program: PTd,PdT,PdD,PdG,RdA,RdE,RdF,RdB,RdC,RdD,Sam,Awk,Awa.
-/
import Derived.Test.YtjeofffddbibeaaDoorPmH
set_option linter.unusedVariables false
set_option linter.unusedSimpArgs false
section
namespace Go.Proofs.YtjeofffddbibeaaDoor.PParseTells
open Go.RowKit YtjeofffddbibeaaDoorW.PrintWords YtjeofffddbibeaaDoorW.PrintLast YtjeofffddbibeaaDoorW.PrintMore
attribute [local go_sem] tH tM tG tL tK tJ tN tI
mutual
def wR.l0 : Nat → List (S61) → ByteArray → Int → Int → Int → ByteArray → List ByteArray → List Int → Int → Int → Bool → Bool → Int → ByteArray → List Int → List (S25) → Option ((List (S61)))
 | 0,_,_,_,_,_,_,_,_,_,_,_,_,_,_,_,_ => none
 | k + 1,x3,x4,x6,x7,x8,nD,pW,pV,oV,oU,oT,oS,oR,oQ,oP,oO => if x8 < (x4.size : Int) then (if 0 ≤ x8 then (if (bt x4 x8) = 110 then (if 0 ≤ x6 then (if x6 < (pW.length : Int) then (if x3.length < 4398046511104 then (wR.l0 k (x3 ++ [(⟨1,rdOf ByteArray.empty pW x6,0⟩ : S61)]) x4 (wrap64 (x6 + 1)) x7 (wrap64 (x8 + 1)) nD pW pV oV oU oT oS oR oQ oP oO) else (none)) else (none)) else (none)) else (if (bt x4 x8) = 105 then (if 0 ≤ x7 then (if x7 < (pV.length : Int) then (if x3.length < 4398046511104 then (wR.l0 k (x3 ++ [(⟨2,(⟨#[]⟩ : ByteArray),rd pV x7⟩ : S61)]) x4 x6 (wrap64 (x7 + 1)) (wrap64 (x8 + 1)) nD pW pV oV oU oT oS oR oQ oP oO) else (none)) else (none)) else (none)) else (if (bt x4 x8) = 101 then ((xT.f k oR oQ oP oO).bind fun t372 => (if x3.length + t372.length < 4398046511104 then (wR.l0 k (x3 ++ t372) x4 x6 x7 (wrap64 (x8 + 1)) nD pW pV oV oU oT oS oR oQ oP oO) else (none))) else (if (bt x4 x8) = 61 then ((uS.f (⟨#[61]⟩ : ByteArray)).bind fun bt378 => (if x3.length < 4398046511104 then (wR.l0 k (x3 ++ [(⟨bt378.1,bt378.2.1,bt378.2.2⟩ : S61)]) x4 x6 x7 (wrap64 (x8 + 1)) nD pW pV oV oU oT oS oR oQ oP oO) else (none))) else ((uS.f (⟨#[91]⟩ : ByteArray)).bind fun bt384 => (if x3.length < 4398046511104 then ((some (x3 ++ [(⟨bt384.1,bt384.2.1,bt384.2.2⟩ : S61)] : List (S61))).bind fun y387 => (if oT = true then (if y387.length < 4398046511104 then (wR.j1 k (y387 ++ [(⟨2,(⟨#[]⟩ : ByteArray),oV⟩ : S61)]) x4 x6 x7 x8 nD pW pV oV oU oT oS oR oQ oP oO) else (none)) else (wR.j1 k y387 x4 x6 x7 x8 nD pW pV oV oU oT oS oR oQ oP oO))) else (none))))))) else (none)) else (some x3)
def wR.j1 : Nat → List (S61) → ByteArray → Int → Int → Int → ByteArray → List ByteArray → List Int → Int → Int → Bool → Bool → Int → ByteArray → List Int → List (S25) → Option ((List (S61)))
 | 0,_,_,_,_,_,_,_,_,_,_,_,_,_,_,_,_ => none
 | k + 1,x3,x4,x6,x7,x8,nD,pW,pV,oV,oU,oT,oS,oR,oQ,oP,oO => (uS.f (⟨#[58]⟩ : ByteArray)).bind fun bt393 => (if x3.length < 4398046511104 then ((some (x3 ++ [(⟨bt393.1,bt393.2.1,bt393.2.2⟩ : S61)] : List (S61))).bind fun y396 => (if oS = true then (if y396.length < 4398046511104 then ((some (y396 ++ [(⟨2,(⟨#[]⟩ : ByteArray),oU⟩ : S61)] : List (S61))).bind fun y399 => ((uS.f (⟨#[93]⟩ : ByteArray)).bind fun bt402 => (if y399.length < 4398046511104 then (wR.l0 k (y399 ++ [(⟨bt402.1,bt402.2.1,bt402.2.2⟩ : S61)]) x4 x6 x7 (wrap64 (x8 + 1)) nD pW pV oV oU oT oS oR oQ oP oO) else (none)))) else (none)) else ((uS.f (⟨#[93]⟩ : ByteArray)).bind fun bt408 => (if y396.length < 4398046511104 then (wR.l0 k (y396 ++ [(⟨bt408.1,bt408.2.1,bt408.2.2⟩ : S61)]) x4 x6 x7 (wrap64 (x8 + 1)) nD pW pV oV oU oT oS oR oQ oP oO) else (none))))) else (none))
end
def wR.f (k : Nat) (zT : ByteArray) (zE : List ByteArray) (zW : List Int) (zH : Int) (zG : Int) (yM : Bool) (yO : Bool) (yX : Int) (yW : ByteArray) (zA : List Int) (yZ : List (S25)) : Option ((List (S61))):=(wS.f k zT).bind fun bt362 => (wR.l0 k (([(⟨1,zT,0⟩ : S61)] : List (S61))) bt362.1 0 0 0 zT zE zW zH zG yM yO yX yW zA yZ)
set_option maxHeartbeats 8000000 in
set_option maxRecDepth 100000 in
theorem wR.calls (k : Nat) (zT : ByteArray) (wW : Option Addr) (wY : Nat) (zE : List ByteArray) (yR : Option Addr) (yS : Nat) (zW : List Int) (zH : Int) (zG : Int) (yM : Bool) (yO : Bool) (yX : Int) (yW : ByteArray) (xF : Option Addr) (xE : Nat) (zA : List Int) (xD : Option Addr) (xC : Nat) (yZ : List (S25)) (r : List (S61)) (w : World) (mF : Kd.C Kd.string w wW zE.length zE) (mE : zE.length ≤ wY) (uW : Kd.C (Kd.int .i64) w yR zW.length zW) (uV : zW.length ≤ yS) (mD : Kd.C (Kd.int .i64) w xF zA.length zA) (mB : zA.length ≤ xE) (mA : Kd.C k25 w xD yZ.length yZ) (lZ : yZ.length ≤ xC) (h : wR.f k zT zE zW zH zG yM yO yX yW zA yZ = some r) :
  Calls Tryd.prog 43 #[.agg #[.string zT,.slice wW zE.length wY,.slice yR zW.length yS,.int .i64 zH,.int .i64 zG,.bool yM,.bool yO,.int .u8 yX,.string yW,.slice xF zA.length xE,.slice xD yZ.length xC]] w fun e w' => ∃ v0_ : Value,e = .returned (v0_) ∧ Kd.R k61 61 w' w.heap.size (fun _ => True) v0_ r ∧ Below w.heap.size w w':=by
 have hu54:=Tryd.underlying54
 have hu61:=Tryd.underlying61
 have hu25:=Tryd.underlying25
 have jI:=zZ.mk mF
 have zVB:=zZ.mk mE
 clear mF mE
 have tA:=zZ.mk uW
 have rX:=zZ.mk uV
 clear uW uV
 have rQ:=zZ.mk mD
 have rP:=zZ.mk mB
 clear mD mB
 have rO:=zZ.mk mA
 have rN:=zZ.mk lZ
 clear mA lZ
 have HB:=zZ.mk (Below.refl w.heap.size w)
 have H : ((wS.f k zT).bind fun bt362 => (wR.l0 k (([(⟨1,zT,0⟩ : S61)] : List (S61))) bt362.1 0 0 0 zT zE zW zH zG yM yO yX yW zA yZ)) = some r:=h
 clear h
 obtain ⟨y359,hy359⟩ : ∃ y_ : List (S61),y_ = (([(⟨1,zT,0⟩ : S61)] : List (S61))):=⟨_,rfl⟩
 replace H : ((wS.f k zT).bind fun bt362 => (wR.l0 k y359 bt362.1 0 0 0 zT zE zW zH zG yM yO yX yW zA yZ)) = some r:=by first|(rw [hy359]; with_reducible exact H)|(have yA:=(Option.bind_some _ _).symm.trans H; rw [hy359]; with_reducible exact yA)|(have yA:=(Option.bind_some _ _).symm.trans H; with_reducible exact yA)|with_reducible exact H|(rw [hy359]; exact H)|exact H
 have Ny359:=zZ.mk hy359
 clear hy359
 replace H:=Option.bind_eq_some_iff.mp H
 obtain ⟨⟨t362,t363⟩,A20,H⟩:=H
 replace H : (wR.l0 k y359 t362 0 0 0 zT zE zW zH zG yM yO yX yW zA yZ) = some r:=H
 have A2:=zZ.mk A20
 clear A20
 have H':=zZ.mk H
 clear H
 go_enter Tryd.func43,Tryd.ntmps43
 go_wp2_with (first|((with_reducible refine uU (N:=1) rfl ?_); refine tY ?hg (N:=1) ?hd (cs:=#[.string zT,.slice wW zE.length wY,.slice yR zW.length yS,.int .i64 zH,.int .i64 zG,.bool yM,.bool yO,.int .u8 yX,.string yW,.slice xF zA.length xE,.slice xD yZ.length xC]) (t:=54) ?hr ?_; (case hd => rfl); (case hg => rfl); (case hr => first|(go_simp; done)|(go_simp; rfl)); intro tO hg w3 hbox hb; have zS:=zZ.mk (xW (by repeat (first|(with_reducible first|exact HB.out|apply zY|apply zV|apply zU)|exact HB.out)) hb); have zO:=zZ.mk (hbox); have zI:=zZ.mk ((by rw [hg]; exact (xS (by repeat (first|(with_reducible first|exact HB.out|apply zY|apply zV|apply zU)|exact HB.out))) : w.heap.size ≤ tO)); have xV:=zZ.mk ((by rw [hg]; exact (xS (by repeat (first|(with_reducible first|exact HB.out|apply zY|apply zV|apply zU)|exact HB.out))) : w.heap.size ≤ tO)); clear HB; have HB:=zS; have xU:=zO; have GW358:=zI; have vZ:=xV; clear zS zO zI xV; clear hb hbox hg; obtain ⟨jH,jG,jF,jE,jD,jC,jB,jA,iZ,iY,iX⟩:=kc11 xU.out)|((with_reducible refine uU (N:=12) rfl ?_); refine Kd.R_lit k61 _ 61 ?hg (N:=12) ?hd (xs:=([(⟨1,zT,0⟩ : S61)] : List (S61))) (inner:=[.int .u8 1,.string zT,.int .i64 0]) (ok:=fun _ => True) (okp:=fun _ => True) ?hr ?hp (fun _ hk => hk) trivial (Below.refl _ _) (Nat.le_refl _) (by simp) ?_; (case hd => rfl); (case hg => rfl); (case hr => first|(go_simp; done)|(go_simp; rfl)); (case hp => exact (Reps.c3 (show Kd.M k61 _ _ _ (⟨1,zT,0⟩ : S61) [.int .u8 1,.string zT,.int .i64 0] from (uE _ _ _ (⟨1,zT,0⟩ : S61) )) (Reps.none _ _))); intro v360 w5 ho6 hb hg_ hnew_; clear hg_ hnew_; (first|rw [← Ny359.out] at ho6|(simp only [Int.reduceToNat] at ho6; rw [← Ny359.out] at ho6)); have zS:=zZ.mk (Kd.R_lower ho6 (xS (by repeat (first|(with_reducible first|exact HB.out|apply zY|apply zV|apply zU|refine zQ ?_ vZ.out)|exact HB.out)))); have zO:=zZ.mk (xX (g:=tO) (o:=.cells #[.string zT,.slice wW zE.length wY,.slice yR zW.length yS,.int .i64 zH,.int .i64 zG,.bool yM,.bool yO,.int .u8 yX,.string yW,.slice xF zA.length xE,.slice xD yZ.length xC] 54 (0,0)) (by (with_reducible repeat (first|apply zN|apply zM|apply zR)); exact xU.out) hb); have zI:=zZ.mk (xW (by repeat (first|(with_reducible first|exact HB.out|apply zY|apply zV|apply zU|refine zQ ?_ vZ.out)|exact HB.out)) hb); clear xU; clear HB; have HO361:=zS; have xU:=zO; have HB:=zI; clear zS zO zI; clear hb ho6; obtain ⟨bP,bO,bN,bM,zUF,zUE,zUD,zUC,zUB,zUA,zTZ⟩:=kc11 xU.out)|((with_reducible refine yD (f:=35) rfl ?_); refine yE (some 16) rfl rfl Tryd.func35 (by kernel_rfl) rfl #[.string zT] rfl (by (try simp only [List.map_toArray,List.map_cons,List.map_nil]); first|done|rfl|(simp only [List.length_drop,List.length_take]; rfl)) ?_; (with_reducible refine (wS.calls k zT t362 t363 _ A2.out).mono ?_); rintro e w' ⟨rfl,⟨nd,rfl⟩⟩; refine ⟨_,rfl,?_⟩))
 go_loopg [3,6,7,8] k (fun kq v3 v6 v7 v8 w' => ∃ (wN : List (S61)) (yH : Int) (xH : Int) (yP : Int),v6 = .int .i64 yH ∧ v7 = .int .i64 xH ∧ v8 = .int .i64 yP ∧ zZ (wR.l0 kq wN t362 yH xH yP zT zE zW zH zG yM yO yX yW zA yZ = some r) ∧ zZ (kq ≤ k) ∧ zZ (Kd.R k61 61 w' w.heap.size (fun _ => True) v3 wN) ∧ zZ (w'.heap[tO]? = some (.cells #[.string zT,(.slice wW zE.length wY),(.slice yR zW.length yS),.int .i64 zH,.int .i64 zG,.bool yM,.bool yO,.int .u8 yX,.string yW,(.slice xF zA.length xE),(.slice xD yZ.length xC)] 54 (0,0))) ∧ zZ (Below w.heap.size w w'))
 case atStart => exact ⟨(y359),(0),(0),(0),(by first|rfl|(simp;done)|(simp [*];done)),(by first|rfl|(simp;done)|(simp [*];done)),(by first|rfl|(simp;done)|(simp [*];done)),H',⟨Nat.le_refl _⟩,⟨by (with_reducible repeat (first|apply Kd.R_alloc|apply Kd.R_drewN|apply Kd.R_drew)); exact HO361.out⟩,⟨by (with_reducible repeat (first|apply zN|apply zM|apply zR)); exact xU.out⟩,⟨by repeat (first|(with_reducible first|exact HB.out|apply zY|apply zV|apply zU|refine zQ ?_ vZ.out)|exact HB.out)⟩⟩
 case round =>
  clear H'
  try clear p2
  try clear c3
  try clear c4
  try clear jH jG iX jF jE jD jC jB jA iZ iY
  try clear bP bO zTZ bN bM zUF zUE zUD zUC zUB zUA
  obtain ⟨wN,yH,xH,yP,rfl,rfl,rfl,HA,HK1,HO_3,xU,HB⟩:=hrel
  cases gk with
  | zero => exact absurd HA.out (by simp [wR.l0])
  | succ k1 =>
   have H:=HA.out
   clear HA
   simp only [wR.l0] at H
   by_cases c8 : yP < (t362.size : Int)
   ·
    rw [if_pos c8] at H
    have c8b0 : decide (yP < (t362.size : Int)) = true:=decide_eq_true c8
    clear c8
    by_cases c9 : 0 ≤ yP
    ·
     rw [if_pos c9] at H
     have c9b0 : decide (0 ≤ yP) = true:=decide_eq_true c9
     clear c9
     by_cases c11 : (bt t362 yP) = 110
     ·
      rw [if_pos c11] at H
      have c11b0 : ((bt t362 yP) == 110) = true:=beq_iff_eq.mpr c11
      have c11b1 : ((bt t362 yP) != 110) = false:=bne_eq_false_iff_eq.mpr c11
      clear c11
      by_cases c12 : 0 ≤ yH
      ·
       rw [if_pos c12] at H
       have c12b0 : decide (0 ≤ yH) = true:=decide_eq_true c12
       clear c12
       by_cases c13 : yH < (zE.length : Int)
       ·
        rw [if_pos c13] at H
        have c13b0 : decide (yH < (zE.length : Int)) = true:=decide_eq_true c13
        clear c13
        by_cases c14 : wN.length < 4398046511104
        ·
         rw [if_pos c14] at H
         have LMc14:=zZ.mk c14
         clear c14
         obtain ⟨y365,hy365⟩ : ∃ y_ : List (S61),y_ = (wN ++ [(⟨1,rdOf ByteArray.empty zE yH,0⟩ : S61)]):=⟨_,rfl⟩
         replace H : (wR.l0 k1 y365 t362 (wrap64 (yH + 1)) xH (wrap64 (yP + 1)) zT zE zW zH zG yM yO yX yW zA yZ) = some r:=by first|(rw [hy365]; with_reducible exact H)|(have yA:=(Option.bind_some _ _).symm.trans H; rw [hy365]; with_reducible exact yA)|(have yA:=(Option.bind_some _ _).symm.trans H; with_reducible exact yA)|with_reducible exact H|(rw [hy365]; exact H)|exact H
         have Ny365:=zZ.mk hy365
         clear hy365
         have H':=zZ.mk H
         clear H
         have p10 : 0 ≤ (yP : Int):=of_decide_eq_true (by first|(with_reducible assumption)|assumption)
         have q10 : yP < (t362.size : Int):=of_decide_eq_true (by first|(with_reducible assumption)|assumption)
         have hx10:=xG t362 yP
         replace p10:=eq_true p10
         replace q10:=eq_true q10
         obtain ⟨pD,pC,pB,nU,eU,eT,eS,eR,eQ,eP,eO⟩:=kc11 xU.out
         have p364 : 0 ≤ (yH : Int):=of_decide_eq_true (by first|(with_reducible assumption)|assumption)
         have q364 : yH < (zE.length : Int):=of_decide_eq_true (by first|(with_reducible assumption)|assumption)
         obtain ⟨ad364,e364,cQ⟩:=Kd.at_string jI.out yH p364 q364
         cases e364
         replace cQ:=(HB.out.cell (World.block_lt_of_cell? w _ cQ)).trans cQ
         replace p364:=eq_true p364
         replace q364:=eq_true q364
         go_wp2_with (first|((with_reducible refine uX (b:=.append) (xs:=#[.tmp 62,.tmp 69]) rfl ?_); at_builtin; refine Kd.R_append k61 (w0:=w) w.heap.size rfl (.tmp 62) (.tmp 69) 43 61 (.agg #[(.int .u8 0),(.string ⟨#[]⟩),(.int .i64 0)]) 32 rfl Tryd.underlying43 info61 rfl (by decide) (by omega) u3 wN (⟨1,rdOf ByteArray.empty zE yH,0⟩ : S61) [.int .u8 1,.string (rdOf ByteArray.empty zE yH),.int .i64 0] (fun _ => True) (fun _ => False) rfl rfl ?aP (fun _ hk => hk.elim) ?aF ?aO ?aB ?aS ?aL ?_; (case aP => exact uE _ _ _ (⟨1,rdOf ByteArray.empty zE yH,0⟩ : S61)); (case aB => exact (by repeat (first|(with_reducible first|exact HB.out|apply zY|apply zV|apply zU|refine zQ ?_ vZ.out)|exact HB.out))); (case aF => exact (fun _ _ => trivial)); (case aO => exact (by (with_reducible repeat (first|apply Kd.R_alloc|apply Kd.R_drewN|apply Kd.R_drew)); exact HO_3.out)); (case aS => exact (xS (by repeat (first|(with_reducible first|exact HB.out|apply zY|apply zV|apply zU|refine zQ ?_ vZ.out)|exact HB.out)))); (case aL => have:=LMc14.out; omega); intro v366 w16 ho hb hg hat; rw [← Ny365.out] at ho; have zS:=zZ.mk (tC (g:=tO) (o:=.cells #[.string zT,.slice (some ad364) zE.length wY,.slice yR zW.length yS,.int .i64 zH,.int .i64 zG,.bool yM,.bool yO,.int .u8 yX,.string yW,.slice xF zA.length xE,.slice xD yZ.length xC] 54 (0,0)) (by (with_reducible repeat (first|apply zN|apply zM|apply zR)); exact xU.out) hg (Kd.R_ne HO_3.out xU.out (by decide))); have zO:=zZ.mk (hb); have zI:=zZ.mk (ho); clear xU; clear HB; clear HO_3; have xU:=zS; have HB:=zO; have HO367:=zI; clear zS zO zI; clear ho hb hg hat))
         go_roundg k1
         case measure => have:=HK1.out; omega
         case rel => exact ⟨(y365),(wrap64 (yH + 1)),(xH),(wrap64 (yP + 1)),(by first|rfl|(simp;done)|(simp [*];done)),(by first|rfl|(simp;done)|(simp [*];done)),(by first|rfl|(simp;done)|(simp [*];done)),H',⟨by have:=HK1.out; omega⟩,⟨by (with_reducible repeat (first|apply Kd.R_alloc|apply Kd.R_drewN|apply Kd.R_drew)); exact HO367.out⟩,⟨by (with_reducible repeat (first|apply zN|apply zM|apply zR)); exact xU.out⟩,⟨by repeat (first|(with_reducible first|exact HB.out|apply zY|apply zV|apply zU|refine zQ ?_ vZ.out)|exact HB.out)⟩⟩
        ·
         rw [if_neg c14] at H
         exact absurd H (by simp)
       ·
        rw [if_neg c13] at H
        exact absurd H (by simp)
      ·
       rw [if_neg c12] at H
       exact absurd H (by simp)
     ·
      rw [if_neg c11] at H
      have c11b0 : ((bt t362 yP) == 110) = false:=beq_eq_false_iff_ne.mpr c11
      have c11b1 : ((bt t362 yP) != 110) = true:=bne_iff_ne.mpr c11
      by_cases c17 : (bt t362 yP) = 105
      ·
       rw [if_pos c17] at H
       have c17b0 : ((bt t362 yP) == 105) = true:=beq_iff_eq.mpr c17
       have c17b1 : ((bt t362 yP) != 105) = false:=bne_eq_false_iff_eq.mpr c17
       clear c17
       by_cases c18 : 0 ≤ xH
       ·
        rw [if_pos c18] at H
        have c18b0 : decide (0 ≤ xH) = true:=decide_eq_true c18
        clear c18
        by_cases c19 : xH < (zW.length : Int)
        ·
         rw [if_pos c19] at H
         have c19b0 : decide (xH < (zW.length : Int)) = true:=decide_eq_true c19
         clear c19
         by_cases c20 : wN.length < 4398046511104
         ·
          rw [if_pos c20] at H
          have LMc20:=zZ.mk c20
          clear c20
          obtain ⟨y369,hy369⟩ : ∃ y_ : List (S61),y_ = (wN ++ [(⟨2,(⟨#[]⟩ : ByteArray),rd zW xH⟩ : S61)]):=⟨_,rfl⟩
          replace H : (wR.l0 k1 y369 t362 yH (wrap64 (xH + 1)) (wrap64 (yP + 1)) zT zE zW zH zG yM yO yX yW zA yZ) = some r:=by first|(rw [hy369]; with_reducible exact H)|(have yA:=(Option.bind_some _ _).symm.trans H; rw [hy369]; with_reducible exact yA)|(have yA:=(Option.bind_some _ _).symm.trans H; with_reducible exact yA)|with_reducible exact H|(rw [hy369]; exact H)|exact H
          have Ny369:=zZ.mk hy369
          clear hy369
          have H':=zZ.mk H
          clear H
          have p10 : 0 ≤ (yP : Int):=of_decide_eq_true (by first|(with_reducible assumption)|assumption)
          have q10 : yP < (t362.size : Int):=of_decide_eq_true (by first|(with_reducible assumption)|assumption)
          have hx10:=xG t362 yP
          replace p10:=eq_true p10
          replace q10:=eq_true q10
          obtain ⟨zVK,zVJ,zVI,zVH,zMA,zLZ,zLY,zLX,zLW,zLV,zLU⟩:=kc11 xU.out
          have p368 : 0 ≤ (xH : Int):=of_decide_eq_true (by first|(with_reducible assumption)|assumption)
          have q368 : xH < (zW.length : Int):=of_decide_eq_true (by first|(with_reducible assumption)|assumption)
          obtain ⟨ad368,e368,cP⟩:=Kd.at_int tA.out xH p368 q368
          cases e368
          replace cP:=(HB.out.cell (World.block_lt_of_cell? w _ cP)).trans cP
          replace p368:=eq_true p368
          replace q368:=eq_true q368
          go_wp2_with (first|((with_reducible refine uX (b:=.append) (xs:=#[.tmp 75,.tmp 82]) rfl ?_); at_builtin; refine Kd.R_append k61 (w0:=w) w.heap.size rfl (.tmp 75) (.tmp 82) 43 61 (.agg #[(.int .u8 0),(.string ⟨#[]⟩),(.int .i64 0)]) 32 rfl Tryd.underlying43 info61 rfl (by decide) (by omega) u3 wN (⟨2,(⟨#[]⟩ : ByteArray),rd zW xH⟩ : S61) [.int .u8 2,.string (⟨#[]⟩ : ByteArray),.int .i64 (rd zW xH)] (fun _ => True) (fun _ => False) rfl rfl ?aP (fun _ hk => hk.elim) ?aF ?aO ?aB ?aS ?aL ?_; (case aP => exact uE _ _ _ (⟨2,(⟨#[]⟩ : ByteArray),rd zW xH⟩ : S61)); (case aB => exact (by repeat (first|(with_reducible first|exact HB.out|apply zY|apply zV|apply zU|refine zQ ?_ vZ.out)|exact HB.out))); (case aF => exact (fun _ _ => trivial)); (case aO => exact (by (with_reducible repeat (first|apply Kd.R_alloc|apply Kd.R_drewN|apply Kd.R_drew)); exact HO_3.out)); (case aS => exact (xS (by repeat (first|(with_reducible first|exact HB.out|apply zY|apply zV|apply zU|refine zQ ?_ vZ.out)|exact HB.out)))); (case aL => have:=LMc20.out; omega); intro v370 w22 ho hb hg hat; rw [← Ny369.out] at ho; have zS:=zZ.mk (tC (g:=tO) (o:=.cells #[.string zT,.slice wW zE.length wY,.slice (some ad368) zW.length yS,.int .i64 zH,.int .i64 zG,.bool yM,.bool yO,.int .u8 yX,.string yW,.slice xF zA.length xE,.slice xD yZ.length xC] 54 (0,0)) (by (with_reducible repeat (first|apply zN|apply zM|apply zR)); exact xU.out) hg (Kd.R_ne HO_3.out xU.out (by decide))); have zO:=zZ.mk (hb); have zI:=zZ.mk (ho); clear xU; clear HB; clear HO_3; have xU:=zS; have HB:=zO; have HO371:=zI; clear zS zO zI; clear ho hb hg hat))
          go_roundg k1
          case measure => have:=HK1.out; omega
          case rel => exact ⟨(y369),(yH),(wrap64 (xH + 1)),(wrap64 (yP + 1)),(by first|rfl|(simp;done)|(simp [*];done)),(by first|rfl|(simp;done)|(simp [*];done)),(by first|rfl|(simp;done)|(simp [*];done)),H',⟨by have:=HK1.out; omega⟩,⟨by (with_reducible repeat (first|apply Kd.R_alloc|apply Kd.R_drewN|apply Kd.R_drew)); exact HO371.out⟩,⟨by (with_reducible repeat (first|apply zN|apply zM|apply zR)); exact xU.out⟩,⟨by repeat (first|(with_reducible first|exact HB.out|apply zY|apply zV|apply zU|refine zQ ?_ vZ.out)|exact HB.out)⟩⟩
         ·
          rw [if_neg c20] at H
          exact absurd H (by simp)
        ·
         rw [if_neg c19] at H
         exact absurd H (by simp)
       ·
        rw [if_neg c18] at H
        exact absurd H (by simp)
      ·
       rw [if_neg c17] at H
       have c17b0 : ((bt t362 yP) == 105) = false:=beq_eq_false_iff_ne.mpr c17
       have c17b1 : ((bt t362 yP) != 105) = true:=bne_iff_ne.mpr c17
       by_cases c23 : (bt t362 yP) = 101
       ·
        rw [if_pos c23] at H
        have c23b0 : ((bt t362 yP) == 101) = true:=beq_iff_eq.mpr c23
        have c23b1 : ((bt t362 yP) != 101) = false:=bne_eq_false_iff_eq.mpr c23
        clear c23
        replace H:=Option.bind_eq_some_iff.mp H
        obtain ⟨t372,A240,H⟩:=H
        replace H : (if wN.length + t372.length < 4398046511104 then (wR.l0 k1 (wN ++ t372) t362 yH xH (wrap64 (yP + 1)) zT zE zW zH zG yM yO yX yW zA yZ) else (none)) = some r:=H
        have A24:=zZ.mk A240
        clear A240
        by_cases c25 : wN.length + t372.length < 4398046511104
        ·
         rw [if_pos c25] at H
         have LMc25:=zZ.mk c25
         clear c25
         obtain ⟨y375,hy375⟩ : ∃ y_ : List (S61),y_ = (wN ++ t372):=⟨_,rfl⟩
         replace H : (wR.l0 k1 y375 t362 yH xH (wrap64 (yP + 1)) zT zE zW zH zG yM yO yX yW zA yZ) = some r:=by first|(rw [hy375]; with_reducible exact H)|(have yA:=(Option.bind_some _ _).symm.trans H; rw [hy375]; with_reducible exact yA)|(have yA:=(Option.bind_some _ _).symm.trans H; with_reducible exact yA)|with_reducible exact H|(rw [hy375]; exact H)|exact H
         have Ny375:=zZ.mk hy375
         clear hy375
         have H':=zZ.mk H
         clear H
         have p10 : 0 ≤ (yP : Int):=of_decide_eq_true (by first|(with_reducible assumption)|assumption)
         have q10 : yP < (t362.size : Int):=of_decide_eq_true (by first|(with_reducible assumption)|assumption)
         have hx10:=xG t362 yP
         replace p10:=eq_true p10
         replace q10:=eq_true q10
         obtain ⟨eN,eM,eL,eK,eJ,eI,eH,eG,eF,eE,eD⟩:=kc11 xU.out
         go_wp2_with (first|((with_reducible refine yD (f:=41) rfl ?_); refine yE (some 91) rfl rfl Tryd.func41 (by kernel_rfl) rfl #[.agg #[.int .u8 yX,.string yW,.slice xF zA.length xE,.slice xD yZ.length xC]] rfl (by (try simp only [List.map_toArray,List.map_cons,List.map_nil]); first|done|rfl|(simp only [List.length_drop,List.length_take]; rfl)) ?_; (with_reducible refine (xT.calls k1 yX yW _ _ zA _ _ yZ t372 _ ?side1 ?side2 ?side3 ?side4 A24.out).mono ?_); (case side1 => repeat (first|exact (Kd.C_below rQ.out HB.out)|(with_reducible refine Kd.C_alloc ?_ _)|(with_reducible refine Kd.C_drewN ?_ _)|(with_reducible refine Kd.C_drew ?_))); (case side2 => exact rP.out); (case side3 => repeat (first|exact (Kd.C_below rO.out HB.out)|(with_reducible refine Kd.C_alloc ?_ _)|(with_reducible refine Kd.C_drewN ?_ _)|(with_reducible refine Kd.C_drew ?_))); (case side4 => exact rN.out); rintro e w27 ⟨v373,rfl,ho0,hb⟩; refine ⟨_,rfl,?_⟩; have zS:=zZ.mk (Kd.R_elder' (by (with_reducible repeat (first|apply Kd.R_alloc|apply Kd.R_drewN|apply Kd.R_drew)); exact HO_3.out) (Kd.R_base ho0) hb); have zO:=zZ.mk (Kd.R_lower (Kd.R_new' ho0 (Kd.R_lt (by (with_reducible repeat (first|apply Kd.R_alloc|apply Kd.R_drewN|apply Kd.R_drew)); exact HO_3.out))) (xS (by repeat (first|(with_reducible first|exact HB.out|apply zY|apply zV|apply zU|refine zQ ?_ vZ.out)|exact HB.out)))); have zI:=zZ.mk (xX (g:=tO) (o:=.cells #[.string zT,.slice wW zE.length wY,.slice yR zW.length yS,.int .i64 zH,.int .i64 zG,.bool yM,.bool yO,.int .u8 yX,.string yW,.slice xF zA.length xE,.slice xD yZ.length xC] 54 (0,0)) (by (with_reducible repeat (first|apply zN|apply zM|apply zR)); exact xU.out) hb); have xV:=zZ.mk (xW (by repeat (first|(with_reducible first|exact HB.out|apply zY|apply zV|apply zU|refine zQ ?_ vZ.out)|exact HB.out)) hb); clear HO_3; clear xU; clear HB; have HO_3:=zS; have HO374:=zO; have xU:=zI; have HB:=xV; clear zS zO zI xV; (try clear hb); (try clear hb2); (try clear hk); (try clear hi); (try clear ho0); obtain ⟨Ao29,co29,eo29⟩:=Kd.R_slice HO374.out; subst eo29)|((with_reducible refine uX (b:=.append) (xs:=#[.tmp 88,.tmp 91]) rfl ?_); at_builtin; refine Kd.R_append_rows k61 (w0:=w) w.heap.size rfl (.tmp 88) (.tmp 91) 43 61 (.agg #[(.int .u8 0),(.string ⟨#[]⟩),(.int .i64 0)]) 32 rfl Tryd.underlying43 info61 rfl (by decide) (by omega) u3 wN t372 _ _ _ (fun k_ => some k_ ≠ (.slice Ao29 t372.length co29 : Value).ownBlock) (fun _ => False) rfl rfl ?aO ?aR (fun _ _ h => h) (fun _ h => h.elim) ?aF ?aB ?aS ?aL ?_; (case aR => repeat (first|exact (Kd.R_reads' HO374.out).2.2|(with_reducible refine Kd.C_alloc ?_ _)|(with_reducible refine Kd.C_drewN ?_ _)|(with_reducible refine Kd.C_drew ?_))); (case aB => exact (by repeat (first|(with_reducible first|exact HB.out|apply zY|apply zV|apply zU|refine zQ ?_ vZ.out)|exact HB.out))); (case aF => exact (fun k_ hk => Kd.fresh' (Kd.R_lt (by (with_reducible repeat (first|apply Kd.R_alloc|apply Kd.R_drewN|apply Kd.R_drew)); exact HO374.out)) k_ hk)); (case aO => exact (by (with_reducible repeat (first|apply Kd.R_alloc|apply Kd.R_drewN|apply Kd.R_drew)); exact Kd.R_mono HO_3.out (fun _ hk => hk.2))); (case aS => exact (xS (by repeat (first|(with_reducible first|exact HB.out|apply zY|apply zV|apply zU|refine zQ ?_ vZ.out)|exact HB.out)))); (case aL => have:=LMc25.out; omega); intro v376 w28 ho hb hg hat; rw [← Ny375.out] at ho; have zS:=zZ.mk (tC (g:=tO) (o:=.cells #[.string zT,.slice wW zE.length wY,.slice yR zW.length yS,.int .i64 zH,.int .i64 zG,.bool yM,.bool yO,.int .u8 yX,.string yW,.slice xF zA.length xE,.slice xD yZ.length xC] 54 (0,0)) (by (with_reducible repeat (first|apply zN|apply zM|apply zR)); exact xU.out) hg (Kd.R_ne HO_3.out xU.out (by decide))); have zO:=zZ.mk (Kd.R_after (ok:=(fun _ => True)) (by (with_reducible repeat (first|apply Kd.R_alloc|apply Kd.R_drewN|apply Kd.R_drew)); exact HO374.out) hg hat); have zI:=zZ.mk (hb); have xV:=zZ.mk (ho); clear xU; clear HO374; clear HB; clear HO_3; have xU:=zS; have HO374:=zO; have HB:=zI; have HO377:=xV; clear zS zO zI xV; clear ho hb hg hat))
         go_roundg k1
         case measure => have:=HK1.out; omega
         case rel => exact ⟨(y375),(yH),(xH),(wrap64 (yP + 1)),(by first|rfl|(simp;done)|(simp [*];done)),(by first|rfl|(simp;done)|(simp [*];done)),(by first|rfl|(simp;done)|(simp [*];done)),H',⟨by have:=HK1.out; omega⟩,⟨by (with_reducible repeat (first|apply Kd.R_alloc|apply Kd.R_drewN|apply Kd.R_drew)); exact Kd.R_mono HO377.out (fun _ hk => trivial)⟩,⟨by (with_reducible repeat (first|apply zN|apply zM|apply zR)); exact xU.out⟩,⟨by repeat (first|(with_reducible first|exact HB.out|apply zY|apply zV|apply zU|refine zQ ?_ vZ.out)|exact HB.out)⟩⟩
        ·
         rw [if_neg c25] at H
         exact absurd H (by simp)
       ·
        rw [if_neg c23] at H
        have c23b0 : ((bt t362 yP) == 101) = false:=beq_eq_false_iff_ne.mpr c23
        have c23b1 : ((bt t362 yP) != 101) = true:=bne_iff_ne.mpr c23
        by_cases c30 : (bt t362 yP) = 61
        ·
         rw [if_pos c30] at H
         have c30b0 : ((bt t362 yP) == 61) = true:=beq_iff_eq.mpr c30
         have c30b1 : ((bt t362 yP) != 61) = false:=bne_eq_false_iff_eq.mpr c30
         clear c30
         replace H:=Option.bind_eq_some_iff.mp H
         obtain ⟨⟨t378,t379,t380⟩,A310,H⟩:=H
         replace H : (if wN.length < 4398046511104 then (wR.l0 k1 (wN ++ [(⟨t378,t379,t380⟩ : S61)]) t362 yH xH (wrap64 (yP + 1)) zT zE zW zH zG yM yO yX yW zA yZ) else (none)) = some r:=H
         have A31:=zZ.mk A310
         clear A310
         by_cases c32 : wN.length < 4398046511104
         ·
          rw [if_pos c32] at H
          have LMc32:=zZ.mk c32
          clear c32
          obtain ⟨y381,hy381⟩ : ∃ y_ : List (S61),y_ = (wN ++ [(⟨t378,t379,t380⟩ : S61)]):=⟨_,rfl⟩
          replace H : (wR.l0 k1 y381 t362 yH xH (wrap64 (yP + 1)) zT zE zW zH zG yM yO yX yW zA yZ) = some r:=by first|(rw [hy381]; with_reducible exact H)|(have yA:=(Option.bind_some _ _).symm.trans H; rw [hy381]; with_reducible exact yA)|(have yA:=(Option.bind_some _ _).symm.trans H; with_reducible exact yA)|with_reducible exact H|(rw [hy381]; exact H)|exact H
          have Ny381:=zZ.mk hy381
          clear hy381
          have H':=zZ.mk H
          clear H
          have p10 : 0 ≤ (yP : Int):=of_decide_eq_true (by first|(with_reducible assumption)|assumption)
          have q10 : yP < (t362.size : Int):=of_decide_eq_true (by first|(with_reducible assumption)|assumption)
          have hx10:=xG t362 yP
          replace p10:=eq_true p10
          replace q10:=eq_true q10
          go_wp2_with (first|((with_reducible refine yD (f:=73) rfl ?_); refine yE (some 96) rfl rfl Tryd.func73 (by kernel_rfl) rfl #[.string (⟨#[61]⟩ : ByteArray)] rfl (by (try simp only [List.map_toArray,List.map_cons,List.map_nil]); first|done|rfl|(simp only [List.length_drop,List.length_take]; rfl)) ?_; (with_reducible refine (uS.calls (⟨#[61]⟩ : ByteArray) t378 t379 t380 _ A31.out).mono ?_); rintro e w33 ⟨rfl,hb⟩; refine ⟨_,rfl,?_⟩; have zS:=zZ.mk (Kd.R_below (by (with_reducible repeat (first|apply Kd.R_alloc|apply Kd.R_drewN|apply Kd.R_drew)); exact HO_3.out) hb); have zO:=zZ.mk (xX (g:=tO) (o:=.cells #[.string zT,.slice wW zE.length wY,.slice yR zW.length yS,.int .i64 zH,.int .i64 zG,.bool yM,.bool yO,.int .u8 yX,.string yW,.slice xF zA.length xE,.slice xD yZ.length xC] 54 (0,0)) (by (with_reducible repeat (first|apply zN|apply zM|apply zR)); exact xU.out) hb); have zI:=zZ.mk (xW (by repeat (first|(with_reducible first|exact HB.out|apply zY|apply zV|apply zU|refine zQ ?_ vZ.out)|exact HB.out)) hb); clear HO_3; clear xU; clear HB; have HO_3:=zS; have xU:=zO; have HB:=zI; clear zS zO zI; (try clear hb); (try clear hb2); (try clear hk); (try clear hi))|((with_reducible refine uX (b:=.append) (xs:=#[.tmp 95,.tmp 97]) rfl ?_); at_builtin; refine Kd.R_append k61 (w0:=w) w.heap.size rfl (.tmp 95) (.tmp 97) 43 61 (.agg #[(.int .u8 0),(.string ⟨#[]⟩),(.int .i64 0)]) 32 rfl Tryd.underlying43 info61 rfl (by decide) (by omega) u3 wN (⟨t378,t379,t380⟩ : S61) [.int .u8 t378,.string t379,.int .i64 t380] (fun _ => True) (fun _ => False) rfl rfl ?aP (fun _ hk => hk.elim) ?aF ?aO ?aB ?aS ?aL ?_; (case aP => exact uE _ _ _ (⟨t378,t379,t380⟩ : S61)); (case aB => exact (by repeat (first|(with_reducible first|exact HB.out|apply zY|apply zV|apply zU|refine zQ ?_ vZ.out)|exact HB.out))); (case aF => exact (fun _ _ => trivial)); (case aO => exact (by (with_reducible repeat (first|apply Kd.R_alloc|apply Kd.R_drewN|apply Kd.R_drew)); exact HO_3.out)); (case aS => exact (xS (by repeat (first|(with_reducible first|exact HB.out|apply zY|apply zV|apply zU|refine zQ ?_ vZ.out)|exact HB.out)))); (case aL => have:=LMc32.out; omega); intro v382 w34 ho hb hg hat; rw [← Ny381.out] at ho; have zS:=zZ.mk (tC (g:=tO) (o:=.cells #[.string zT,.slice wW zE.length wY,.slice yR zW.length yS,.int .i64 zH,.int .i64 zG,.bool yM,.bool yO,.int .u8 yX,.string yW,.slice xF zA.length xE,.slice xD yZ.length xC] 54 (0,0)) (by (with_reducible repeat (first|apply zN|apply zM|apply zR)); exact xU.out) hg (Kd.R_ne HO_3.out xU.out (by decide))); have zO:=zZ.mk (hb); have zI:=zZ.mk (ho); clear xU; clear HB; clear HO_3; have xU:=zS; have HB:=zO; have HO383:=zI; clear zS zO zI; clear ho hb hg hat))
          go_roundg k1
          case measure => have:=HK1.out; omega
          case rel => exact ⟨(y381),(yH),(xH),(wrap64 (yP + 1)),(by first|rfl|(simp;done)|(simp [*];done)),(by first|rfl|(simp;done)|(simp [*];done)),(by first|rfl|(simp;done)|(simp [*];done)),H',⟨by have:=HK1.out; omega⟩,⟨by (with_reducible repeat (first|apply Kd.R_alloc|apply Kd.R_drewN|apply Kd.R_drew)); exact HO383.out⟩,⟨by (with_reducible repeat (first|apply zN|apply zM|apply zR)); exact xU.out⟩,⟨by repeat (first|(with_reducible first|exact HB.out|apply zY|apply zV|apply zU|refine zQ ?_ vZ.out)|exact HB.out)⟩⟩
         ·
          rw [if_neg c32] at H
          exact absurd H (by simp)
        ·
         rw [if_neg c30] at H
         have c30b0 : ((bt t362 yP) == 61) = false:=beq_eq_false_iff_ne.mpr c30
         have c30b1 : ((bt t362 yP) != 61) = true:=bne_iff_ne.mpr c30
         replace H:=Option.bind_eq_some_iff.mp H
         obtain ⟨⟨t384,t385,t386⟩,A350,H⟩:=H
         replace H : (if wN.length < 4398046511104 then ((some (wN ++ [(⟨t384,t385,t386⟩ : S61)] : List (S61))).bind fun y387 => (if yM = true then (if y387.length < 4398046511104 then (wR.j1 k1 (y387 ++ [(⟨2,(⟨#[]⟩ : ByteArray),zH⟩ : S61)]) t362 yH xH yP zT zE zW zH zG yM yO yX yW zA yZ) else (none)) else (wR.j1 k1 y387 t362 yH xH yP zT zE zW zH zG yM yO yX yW zA yZ))) else (none)) = some r:=H
         have A35:=zZ.mk A350
         clear A350
         by_cases c36 : wN.length < 4398046511104
         ·
          rw [if_pos c36] at H
          have LMc36:=zZ.mk c36
          clear c36
          obtain ⟨y387,hy387⟩ : ∃ y_ : List (S61),y_ = (wN ++ [(⟨t384,t385,t386⟩ : S61)]):=⟨_,rfl⟩
          replace H : (if yM = true then (if y387.length < 4398046511104 then (wR.j1 k1 (y387 ++ [(⟨2,(⟨#[]⟩ : ByteArray),zH⟩ : S61)]) t362 yH xH yP zT zE zW zH zG yM yO yX yW zA yZ) else (none)) else (wR.j1 k1 y387 t362 yH xH yP zT zE zW zH zG yM yO yX yW zA yZ)) = some r:=by first|(rw [hy387]; with_reducible exact H)|(have yA:=(Option.bind_some _ _).symm.trans H; rw [hy387]; with_reducible exact yA)|(have yA:=(Option.bind_some _ _).symm.trans H; with_reducible exact yA)|with_reducible exact H|(rw [hy387]; exact H)|exact H
          have Ny387:=zZ.mk hy387
          clear hy387
          have HC37:=zZ.mk H
          clear H
          have p10 : 0 ≤ (yP : Int):=of_decide_eq_true (by first|(with_reducible assumption)|assumption)
          have q10 : yP < (t362.size : Int):=of_decide_eq_true (by first|(with_reducible assumption)|assumption)
          have hx10:=xG t362 yP
          replace p10:=eq_true p10
          replace q10:=eq_true q10
          go_upto_if 34 with (first|((with_reducible refine yD (f:=73) rfl ?_); refine yE (some 29) rfl rfl Tryd.func73 (by kernel_rfl) rfl #[.string (⟨#[91]⟩ : ByteArray)] rfl (by (try simp only [List.map_toArray,List.map_cons,List.map_nil]); first|done|rfl|(simp only [List.length_drop,List.length_take]; rfl)) ?_; (with_reducible refine (uS.calls (⟨#[91]⟩ : ByteArray) t384 t385 t386 _ A35.out).mono ?_); rintro e w38 ⟨rfl,hb⟩; refine ⟨_,rfl,?_⟩; have zS:=zZ.mk (Kd.R_below (by (with_reducible repeat (first|apply Kd.R_alloc|apply Kd.R_drewN|apply Kd.R_drew)); exact HO_3.out) hb); have zO:=zZ.mk (xX (g:=tO) (o:=.cells #[.string zT,.slice wW zE.length wY,.slice yR zW.length yS,.int .i64 zH,.int .i64 zG,.bool yM,.bool yO,.int .u8 yX,.string yW,.slice xF zA.length xE,.slice xD yZ.length xC] 54 (0,0)) (by (with_reducible repeat (first|apply zN|apply zM|apply zR)); exact xU.out) hb); have zI:=zZ.mk (xW (by repeat (first|(with_reducible first|exact HB.out|apply zY|apply zV|apply zU|refine zQ ?_ vZ.out)|exact HB.out)) hb); clear HO_3; clear xU; clear HB; have HO_3:=zS; have xU:=zO; have HB:=zI; clear zS zO zI; (try clear hb); (try clear hb2); (try clear hk); (try clear hi))|((with_reducible refine uX (b:=.append) (xs:=#[.tmp 28,.tmp 30]) rfl ?_); at_builtin; refine Kd.R_append k61 (w0:=w) w.heap.size rfl (.tmp 28) (.tmp 30) 43 61 (.agg #[(.int .u8 0),(.string ⟨#[]⟩),(.int .i64 0)]) 32 rfl Tryd.underlying43 info61 rfl (by decide) (by omega) u3 wN (⟨t384,t385,t386⟩ : S61) [.int .u8 t384,.string t385,.int .i64 t386] (fun _ => True) (fun _ => False) rfl rfl ?aP (fun _ hk => hk.elim) ?aF ?aO ?aB ?aS ?aL ?_; (case aP => exact uE _ _ _ (⟨t384,t385,t386⟩ : S61)); (case aB => exact (by repeat (first|(with_reducible first|exact HB.out|apply zY|apply zV|apply zU|refine zQ ?_ vZ.out)|exact HB.out))); (case aF => exact (fun _ _ => trivial)); (case aO => exact (by (with_reducible repeat (first|apply Kd.R_alloc|apply Kd.R_drewN|apply Kd.R_drew)); exact HO_3.out)); (case aS => exact (xS (by repeat (first|(with_reducible first|exact HB.out|apply zY|apply zV|apply zU|refine zQ ?_ vZ.out)|exact HB.out)))); (case aL => have:=LMc36.out; omega); intro v388 w39 ho hb hg hat; rw [← Ny387.out] at ho; have zS:=zZ.mk (tC (g:=tO) (o:=.cells #[.string zT,.slice wW zE.length wY,.slice yR zW.length yS,.int .i64 zH,.int .i64 zG,.bool yM,.bool yO,.int .u8 yX,.string yW,.slice xF zA.length xE,.slice xD yZ.length xC] 54 (0,0)) (by (with_reducible repeat (first|apply zN|apply zM|apply zR)); exact xU.out) hg (Kd.R_ne HO_3.out xU.out (by decide))); have zO:=zZ.mk (hb); have zI:=zZ.mk (ho); clear xU; clear HB; clear HO_3; have xU:=zS; have HB:=zO; have HO389:=zI; clear zS zO zI; clear ho hb hg hat; obtain ⟨zVF,zVE,zVD,zVC,zLT,zLS,zLR,zLQ,zLP,zLO,zLN⟩:=kc11 xU.out))
          (try simp only [Act.put,List.setIfInBounds_toArray,List.set_cons_zero,List.set_cons_succ])
          go_cut [3] (fun v3 wc => ∃ (kq : Nat) (nC : List (S61)),zZ (wR.j1 kq nC t362 yH xH yP zT zE zW zH zG yM yO yX yW zA yZ = some r) ∧ zZ (kq ≤ k1) ∧ zZ (Kd.R k61 61 wc w.heap.size (fun _ => True) v3 nC) ∧ zZ (wc.heap[tO]? = some (.cells #[.string zT,(.slice wW zE.length wY),(.slice yR zW.length yS),.int .i64 zH,.int .i64 zG,.bool yM,.bool yO,.int .u8 yX,.string yW,(.slice xF zA.length xE),(.slice xD yZ.length xC)] 54 (0,0))) ∧ zZ (Below w.heap.size w wc))
          case first =>
           have H:=HC37.out
           clear HC37
           by_cases c41 : yM = true
           ·
            subst c41
            have H1 : (if y387.length < 4398046511104 then (wR.j1 k1 (y387 ++ [(⟨2,(⟨#[]⟩ : ByteArray),zH⟩ : S61)]) t362 yH xH yP zT zE zW zH zG true yO yX yW zA yZ) else (none)) = some r:=by rw [if_pos rfl] at H; exact H
            clear H
            have H:=H1
            clear H1
            by_cases c42 : y387.length < 4398046511104
            ·
             rw [if_pos c42] at H
             have LMc42:=zZ.mk c42
             clear c42
             obtain ⟨y390,hy390⟩ : ∃ y_ : List (S61),y_ = (y387 ++ [(⟨2,(⟨#[]⟩ : ByteArray),zH⟩ : S61)]):=⟨_,rfl⟩
             replace H : (wR.j1 k1 y390 t362 yH xH yP zT zE zW zH zG true yO yX yW zA yZ) = some r:=by first|(rw [hy390]; with_reducible exact H)|(have yA:=(Option.bind_some _ _).symm.trans H; rw [hy390]; with_reducible exact yA)|(have yA:=(Option.bind_some _ _).symm.trans H; with_reducible exact yA)|with_reducible exact H|(rw [hy390]; exact H)|exact H
             have Ny390:=zZ.mk hy390
             clear hy390
             have H':=zZ.mk H
             clear H
             obtain ⟨zLM,zLL,zLK,zLJ,zLI,zLH,zLG,zLF,zLE,zLD,zLC⟩:=kc11 xU.out
             go_wp2_with (first|((with_reducible refine uX (b:=.append) (xs:=#[.tmp 35,.tmp 40]) rfl ?_); at_builtin; refine Kd.R_append k61 (w0:=w) w.heap.size rfl (.tmp 35) (.tmp 40) 43 61 (.agg #[(.int .u8 0),(.string ⟨#[]⟩),(.int .i64 0)]) 32 rfl Tryd.underlying43 info61 rfl (by decide) (by omega) v388 y387 (⟨2,(⟨#[]⟩ : ByteArray),zH⟩ : S61) [.int .u8 2,.string (⟨#[]⟩ : ByteArray),.int .i64 zH] (fun _ => True) (fun _ => False) rfl rfl ?aP (fun _ hk => hk.elim) ?aF ?aO ?aB ?aS ?aL ?_; (case aP => exact uE _ _ _ (⟨2,(⟨#[]⟩ : ByteArray),zH⟩ : S61)); (case aB => exact (by repeat (first|(with_reducible first|exact HB.out|apply zY|apply zV|apply zU|refine zQ ?_ vZ.out)|exact HB.out))); (case aF => exact (fun _ _ => trivial)); (case aO => exact (by (with_reducible repeat (first|apply Kd.R_alloc|apply Kd.R_drewN|apply Kd.R_drew)); exact HO389.out)); (case aS => exact (xS (by repeat (first|(with_reducible first|exact HB.out|apply zY|apply zV|apply zU|refine zQ ?_ vZ.out)|exact HB.out)))); (case aL => have:=LMc42.out; omega); intro v391 w44 ho hb hg hat; rw [← Ny390.out] at ho; have zS:=zZ.mk (tC (g:=tO) (o:=.cells #[.string zT,.slice wW zE.length wY,.slice yR zW.length yS,.int .i64 zH,.int .i64 zG,.bool true,.bool yO,.int .u8 yX,.string yW,.slice xF zA.length xE,.slice xD yZ.length xC] 54 (0,0)) (by (with_reducible repeat (first|apply zN|apply zM|apply zR)); exact xU.out) hg (Kd.R_ne HO389.out xU.out (by decide))); have zO:=zZ.mk (hb); have zI:=zZ.mk (ho); clear xU; clear HB; clear HO389; have xU:=zS; have HB:=zO; have HO392:=zI; clear zS zO zI; clear ho hb hg hat))
             go_meet
             case rel => exact ⟨_,(y390),H',⟨by have:=HK1.out; first|omega|exact Nat.le_refl _⟩,⟨by (with_reducible repeat (first|apply Kd.R_alloc|apply Kd.R_drewN|apply Kd.R_drew)); exact HO392.out⟩,⟨by (with_reducible repeat (first|apply zN|apply zM|apply zR)); exact xU.out⟩,⟨by repeat (first|(with_reducible first|exact HB.out|apply zY|apply zV|apply zU|refine zQ ?_ vZ.out)|exact HB.out)⟩⟩
            ·
             rw [if_neg c42] at H
             exact absurd H (by simp)
           ·
            replace c41:=Bool.eq_false_iff.mpr c41
            subst c41
            have H1 : (wR.j1 k1 y387 t362 yH xH yP zT zE zW zH zG false yO yX yW zA yZ) = some r:=by rw [if_neg (show ¬ (false = true) by decide)] at H; exact H
            clear H
            have H:=H1
            clear H1
            have H':=zZ.mk H
            clear H
            go_wp2
            go_meet
            case rel => exact ⟨_,(y387),H',⟨by have:=HK1.out; first|omega|exact Nat.le_refl _⟩,⟨by (with_reducible repeat (first|apply Kd.R_alloc|apply Kd.R_drewN|apply Kd.R_drew)); exact HO389.out⟩,⟨by (with_reducible repeat (first|apply zN|apply zM|apply zR)); exact xU.out⟩,⟨by repeat (first|(with_reducible first|exact HB.out|apply zY|apply zV|apply zU|refine zQ ?_ vZ.out)|exact HB.out)⟩⟩
          case rest =>
           clear HC37
           try clear c1
           try clear p1
           try clear q1
           try clear hx1
           try clear c2
           try clear p2 p2
           try clear c3
           try clear p3
           try clear q3
           try clear hx3
           try clear c4
           try clear p6
           try clear c7
           try clear c8
           try clear c8b0
           try clear c9
           try clear c9b0
           try clear p10 p10
           try clear q10 q10
           try clear hx10
           try clear c11
           try clear c11b0
           try clear c11b1
           try clear c12
           try clear c12b0
           try clear c13
           try clear c13b0
           try clear c14
           try clear c17
           try clear c17b0
           try clear c17b1
           try clear c18
           try clear c18b0
           try clear c19
           try clear c19b0
           try clear c20
           try clear c23
           try clear c23b0
           try clear c23b1
           try clear c25
           try clear c30
           try clear c30b0
           try clear c30b1
           try clear c32
           try clear c35
           try clear c36
           try clear p36
           try clear q36
           try clear hx36
           try clear c41
           try clear c42
           try clear c43
           try clear pD pC eO pB nU eU eT eS eR eQ eP
           try clear zVK zVJ zLU zVI zVH zMA zLZ zLY zLX zLW zLV
           try clear eN eM eD eL eK eJ eI eH eG eF eE
           try clear zVF zVE zLN zVD zVC zLT zLS zLR zLQ zLP zLO
           try clear zLM zLL zLC zLK zLJ zLI zLH zLG zLF zLE zLD
           try clear jH jG iX jF jE jD jC jB jA iZ iY
           try clear bP bO zTZ bN bM zUF zUE zUD zUC zUB zUA
           try clear cQ
           try clear cP
           try clear p364
           try clear p368
           try clear q364
           try clear q368
           obtain ⟨kq,nC,HA,HJ36,HO_3,xU,HB⟩:=hcut
           cases kq with
           | zero => exact absurd HA.out (by simp [wR.j1])
           | succ kj36 =>
            have H:=HA.out
            clear HA
            simp only [wR.j1] at H
            replace H:=Option.bind_eq_some_iff.mp H
            obtain ⟨⟨t393,t394,t395⟩,A450,H⟩:=H
            replace H : (if nC.length < 4398046511104 then ((some (nC ++ [(⟨t393,t394,t395⟩ : S61)] : List (S61))).bind fun y396 => (if yO = true then (if y396.length < 4398046511104 then ((some (y396 ++ [(⟨2,(⟨#[]⟩ : ByteArray),zG⟩ : S61)] : List (S61))).bind fun y399 => ((uS.f (⟨#[93]⟩ : ByteArray)).bind fun bt402 => (if y399.length < 4398046511104 then (wR.l0 kj36 (y399 ++ [(⟨bt402.1,bt402.2.1,bt402.2.2⟩ : S61)]) t362 yH xH (wrap64 (yP + 1)) zT zE zW zH zG yM yO yX yW zA yZ) else (none)))) else (none)) else ((uS.f (⟨#[93]⟩ : ByteArray)).bind fun bt408 => (if y396.length < 4398046511104 then (wR.l0 kj36 (y396 ++ [(⟨bt408.1,bt408.2.1,bt408.2.2⟩ : S61)]) t362 yH xH (wrap64 (yP + 1)) zT zE zW zH zG yM yO yX yW zA yZ) else (none))))) else (none)) = some r:=H
            have A45:=zZ.mk A450
            clear A450
            by_cases c46 : nC.length < 4398046511104
            ·
             rw [if_pos c46] at H
             have LMc46:=zZ.mk c46
             clear c46
             obtain ⟨y396,hy396⟩ : ∃ y_ : List (S61),y_ = (nC ++ [(⟨t393,t394,t395⟩ : S61)]):=⟨_,rfl⟩
             replace H : (if yO = true then (if y396.length < 4398046511104 then ((some (y396 ++ [(⟨2,(⟨#[]⟩ : ByteArray),zG⟩ : S61)] : List (S61))).bind fun y399 => ((uS.f (⟨#[93]⟩ : ByteArray)).bind fun bt402 => (if y399.length < 4398046511104 then (wR.l0 kj36 (y399 ++ [(⟨bt402.1,bt402.2.1,bt402.2.2⟩ : S61)]) t362 yH xH (wrap64 (yP + 1)) zT zE zW zH zG yM yO yX yW zA yZ) else (none)))) else (none)) else ((uS.f (⟨#[93]⟩ : ByteArray)).bind fun bt408 => (if y396.length < 4398046511104 then (wR.l0 kj36 (y396 ++ [(⟨bt408.1,bt408.2.1,bt408.2.2⟩ : S61)]) t362 yH xH (wrap64 (yP + 1)) zT zE zW zH zG yM yO yX yW zA yZ) else (none)))) = some r:=by first|(rw [hy396]; with_reducible exact H)|(have yA:=(Option.bind_some _ _).symm.trans H; rw [hy396]; with_reducible exact yA)|(have yA:=(Option.bind_some _ _).symm.trans H; with_reducible exact yA)|with_reducible exact H|(rw [hy396]; exact H)|exact H
             have Ny396:=zZ.mk hy396
             clear hy396
             by_cases c47 : yO = true
             ·
              subst c47
              have H1 : (if y396.length < 4398046511104 then ((some (y396 ++ [(⟨2,(⟨#[]⟩ : ByteArray),zG⟩ : S61)] : List (S61))).bind fun y399 => ((uS.f (⟨#[93]⟩ : ByteArray)).bind fun bt402 => (if y399.length < 4398046511104 then (wR.l0 kj36 (y399 ++ [(⟨bt402.1,bt402.2.1,bt402.2.2⟩ : S61)]) t362 yH xH (wrap64 (yP + 1)) zT zE zW zH zG yM true yX yW zA yZ) else (none)))) else (none)) = some r:=by rw [if_pos rfl] at H; exact H
              clear H
              have H:=H1
              clear H1
              by_cases c48 : y396.length < 4398046511104
              ·
               rw [if_pos c48] at H
               have LMc48:=zZ.mk c48
               clear c48
               obtain ⟨y399,hy399⟩ : ∃ y_ : List (S61),y_ = (y396 ++ [(⟨2,(⟨#[]⟩ : ByteArray),zG⟩ : S61)]):=⟨_,rfl⟩
               replace H : ((uS.f (⟨#[93]⟩ : ByteArray)).bind fun bt402 => (if y399.length < 4398046511104 then (wR.l0 kj36 (y399 ++ [(⟨bt402.1,bt402.2.1,bt402.2.2⟩ : S61)]) t362 yH xH (wrap64 (yP + 1)) zT zE zW zH zG yM true yX yW zA yZ) else (none))) = some r:=by first|(rw [hy399]; with_reducible exact H)|(have yA:=(Option.bind_some _ _).symm.trans H; rw [hy399]; with_reducible exact yA)|(have yA:=(Option.bind_some _ _).symm.trans H; with_reducible exact yA)|with_reducible exact H|(rw [hy399]; exact H)|exact H
               have Ny399:=zZ.mk hy399
               clear hy399
               replace H:=Option.bind_eq_some_iff.mp H
               obtain ⟨⟨t402,t403,t404⟩,A490,H⟩:=H
               replace H : (if y399.length < 4398046511104 then (wR.l0 kj36 (y399 ++ [(⟨t402,t403,t404⟩ : S61)]) t362 yH xH (wrap64 (yP + 1)) zT zE zW zH zG yM true yX yW zA yZ) else (none)) = some r:=H
               have A49:=zZ.mk A490
               clear A490
               by_cases c50 : y399.length < 4398046511104
               ·
                rw [if_pos c50] at H
                have LMc50:=zZ.mk c50
                clear c50
                obtain ⟨y405,hy405⟩ : ∃ y_ : List (S61),y_ = (y399 ++ [(⟨t402,t403,t404⟩ : S61)]):=⟨_,rfl⟩
                replace H : (wR.l0 kj36 y405 t362 yH xH (wrap64 (yP + 1)) zT zE zW zH zG yM true yX yW zA yZ) = some r:=by first|(rw [hy405]; with_reducible exact H)|(have yA:=(Option.bind_some _ _).symm.trans H; rw [hy405]; with_reducible exact yA)|(have yA:=(Option.bind_some _ _).symm.trans H; with_reducible exact yA)|with_reducible exact H|(rw [hy405]; exact H)|exact H
                have Ny405:=zZ.mk hy405
                clear hy405
                have H':=zZ.mk H
                clear H
                go_wp2_with (first|((with_reducible refine yD (f:=73) rfl ?_); refine yE (some 43) rfl rfl Tryd.func73 (by kernel_rfl) rfl #[.string (⟨#[58]⟩ : ByteArray)] rfl (by (try simp only [List.map_toArray,List.map_cons,List.map_nil]); first|done|rfl|(simp only [List.length_drop,List.length_take]; rfl)) ?_; (with_reducible refine (uS.calls (⟨#[58]⟩ : ByteArray) t393 t394 t395 _ A45.out).mono ?_); rintro e w51 ⟨rfl,hb⟩; refine ⟨_,rfl,?_⟩; have zS:=zZ.mk (Kd.R_below (by (with_reducible repeat (first|apply Kd.R_alloc|apply Kd.R_drewN|apply Kd.R_drew)); exact HO_3.out) hb); have zO:=zZ.mk (xX (g:=tO) (o:=.cells #[.string zT,.slice wW zE.length wY,.slice yR zW.length yS,.int .i64 zH,.int .i64 zG,.bool yM,.bool true,.int .u8 yX,.string yW,.slice xF zA.length xE,.slice xD yZ.length xC] 54 (0,0)) (by (with_reducible repeat (first|apply zN|apply zM|apply zR)); exact xU.out) hb); have zI:=zZ.mk (xW (by repeat (first|(with_reducible first|exact HB.out|apply zY|apply zV|apply zU|refine zQ ?_ vZ.out)|exact HB.out)) hb); clear HO_3; clear xU; clear HB; have HO_3:=zS; have xU:=zO; have HB:=zI; clear zS zO zI; (try clear hb); (try clear hb2); (try clear hk); (try clear hi))|((with_reducible refine uX (b:=.append) (xs:=#[.tmp 42,.tmp 44]) rfl ?_); at_builtin; refine Kd.R_append k61 (w0:=w) w.heap.size rfl (.tmp 42) (.tmp 44) 43 61 (.agg #[(.int .u8 0),(.string ⟨#[]⟩),(.int .i64 0)]) 32 rfl Tryd.underlying43 info61 rfl (by decide) (by omega) u3 nC (⟨t393,t394,t395⟩ : S61) [.int .u8 t393,.string t394,.int .i64 t395] (fun _ => True) (fun _ => False) rfl rfl ?aP (fun _ hk => hk.elim) ?aF ?aO ?aB ?aS ?aL ?_; (case aP => exact uE _ _ _ (⟨t393,t394,t395⟩ : S61)); (case aB => exact (by repeat (first|(with_reducible first|exact HB.out|apply zY|apply zV|apply zU|refine zQ ?_ vZ.out)|exact HB.out))); (case aF => exact (fun _ _ => trivial)); (case aO => exact (by (with_reducible repeat (first|apply Kd.R_alloc|apply Kd.R_drewN|apply Kd.R_drew)); exact HO_3.out)); (case aS => exact (xS (by repeat (first|(with_reducible first|exact HB.out|apply zY|apply zV|apply zU|refine zQ ?_ vZ.out)|exact HB.out)))); (case aL => have:=LMc46.out; omega); intro v397 w52 ho hb hg hat; rw [← Ny396.out] at ho; have zS:=zZ.mk (tC (g:=tO) (o:=.cells #[.string zT,.slice wW zE.length wY,.slice yR zW.length yS,.int .i64 zH,.int .i64 zG,.bool yM,.bool true,.int .u8 yX,.string yW,.slice xF zA.length xE,.slice xD yZ.length xC] 54 (0,0)) (by (with_reducible repeat (first|apply zN|apply zM|apply zR)); exact xU.out) hg (Kd.R_ne HO_3.out xU.out (by decide))); have zO:=zZ.mk (hb); have zI:=zZ.mk (ho); clear xU; clear HB; clear HO_3; have xU:=zS; have HB:=zO; have HO398:=zI; clear zS zO zI; clear ho hb hg hat; obtain ⟨yYL,yYK,yYJ,yYI,yYH,yYG,yYF,yYE,yYD,yYC,yYB⟩:=kc11 xU.out)|((with_reducible refine uX (b:=.append) (xs:=#[.tmp 49,.tmp 54]) rfl ?_); at_builtin; refine Kd.R_append k61 (w0:=w) w.heap.size rfl (.tmp 49) (.tmp 54) 43 61 (.agg #[(.int .u8 0),(.string ⟨#[]⟩),(.int .i64 0)]) 32 rfl Tryd.underlying43 info61 rfl (by decide) (by omega) v397 y396 (⟨2,(⟨#[]⟩ : ByteArray),zG⟩ : S61) [.int .u8 2,.string (⟨#[]⟩ : ByteArray),.int .i64 zG] (fun _ => True) (fun _ => False) rfl rfl ?aP (fun _ hk => hk.elim) ?aF ?aO ?aB ?aS ?aL ?_; (case aP => exact uE _ _ _ (⟨2,(⟨#[]⟩ : ByteArray),zG⟩ : S61)); (case aB => exact (by repeat (first|(with_reducible first|exact HB.out|apply zY|apply zV|apply zU|refine zQ ?_ vZ.out)|exact HB.out))); (case aF => exact (fun _ _ => trivial)); (case aO => exact (by (with_reducible repeat (first|apply Kd.R_alloc|apply Kd.R_drewN|apply Kd.R_drew)); exact HO398.out)); (case aS => exact (xS (by repeat (first|(with_reducible first|exact HB.out|apply zY|apply zV|apply zU|refine zQ ?_ vZ.out)|exact HB.out)))); (case aL => have:=LMc48.out; omega); intro v400 w54 ho hb hg hat; rw [← Ny399.out] at ho; have zS:=zZ.mk (tC (g:=tO) (o:=.cells #[.string zT,.slice wW zE.length wY,.slice yR zW.length yS,.int .i64 zH,.int .i64 zG,.bool yM,.bool true,.int .u8 yX,.string yW,.slice xF zA.length xE,.slice xD yZ.length xC] 54 (0,0)) (by (with_reducible repeat (first|apply zN|apply zM|apply zR)); exact xU.out) hg (Kd.R_ne HO398.out xU.out (by decide))); have zO:=zZ.mk (hb); have zI:=zZ.mk (ho); clear xU; clear HB; clear HO398; have xU:=zS; have HB:=zO; have HO401:=zI; clear zS zO zI; clear ho hb hg hat)|((with_reducible refine yD (f:=73) rfl ?_); refine yE (some 57) rfl rfl Tryd.func73 (by kernel_rfl) rfl #[.string (⟨#[93]⟩ : ByteArray)] rfl (by (try simp only [List.map_toArray,List.map_cons,List.map_nil]); first|done|rfl|(simp only [List.length_drop,List.length_take]; rfl)) ?_; (with_reducible refine (uS.calls (⟨#[93]⟩ : ByteArray) t402 t403 t404 _ A49.out).mono ?_); rintro e w55 ⟨rfl,hb⟩; refine ⟨_,rfl,?_⟩; have zS:=zZ.mk (Kd.R_below (by (with_reducible repeat (first|apply Kd.R_alloc|apply Kd.R_drewN|apply Kd.R_drew)); exact HO401.out) hb); have zO:=zZ.mk (xX (g:=tO) (o:=.cells #[.string zT,.slice wW zE.length wY,.slice yR zW.length yS,.int .i64 zH,.int .i64 zG,.bool yM,.bool true,.int .u8 yX,.string yW,.slice xF zA.length xE,.slice xD yZ.length xC] 54 (0,0)) (by (with_reducible repeat (first|apply zN|apply zM|apply zR)); exact xU.out) hb); have zI:=zZ.mk (xW (by repeat (first|(with_reducible first|exact HB.out|apply zY|apply zV|apply zU|refine zQ ?_ vZ.out)|exact HB.out)) hb); clear HO401; clear xU; clear HB; have HO401:=zS; have xU:=zO; have HB:=zI; clear zS zO zI; (try clear hb); (try clear hb2); (try clear hk); (try clear hi))|((with_reducible refine uX (b:=.append) (xs:=#[.tmp 56,.tmp 58]) rfl ?_); at_builtin; refine Kd.R_append k61 (w0:=w) w.heap.size rfl (.tmp 56) (.tmp 58) 43 61 (.agg #[(.int .u8 0),(.string ⟨#[]⟩),(.int .i64 0)]) 32 rfl Tryd.underlying43 info61 rfl (by decide) (by omega) v400 y399 (⟨t402,t403,t404⟩ : S61) [.int .u8 t402,.string t403,.int .i64 t404] (fun _ => True) (fun _ => False) rfl rfl ?aP (fun _ hk => hk.elim) ?aF ?aO ?aB ?aS ?aL ?_; (case aP => exact uE _ _ _ (⟨t402,t403,t404⟩ : S61)); (case aB => exact (by repeat (first|(with_reducible first|exact HB.out|apply zY|apply zV|apply zU|refine zQ ?_ vZ.out)|exact HB.out))); (case aF => exact (fun _ _ => trivial)); (case aO => exact (by (with_reducible repeat (first|apply Kd.R_alloc|apply Kd.R_drewN|apply Kd.R_drew)); exact HO401.out)); (case aS => exact (xS (by repeat (first|(with_reducible first|exact HB.out|apply zY|apply zV|apply zU|refine zQ ?_ vZ.out)|exact HB.out)))); (case aL => have:=LMc50.out; omega); intro v406 w56 ho hb hg hat; rw [← Ny405.out] at ho; have zS:=zZ.mk (tC (g:=tO) (o:=.cells #[.string zT,.slice wW zE.length wY,.slice yR zW.length yS,.int .i64 zH,.int .i64 zG,.bool yM,.bool true,.int .u8 yX,.string yW,.slice xF zA.length xE,.slice xD yZ.length xC] 54 (0,0)) (by (with_reducible repeat (first|apply zN|apply zM|apply zR)); exact xU.out) hg (Kd.R_ne HO401.out xU.out (by decide))); have zO:=zZ.mk (hb); have zI:=zZ.mk (ho); clear xU; clear HB; clear HO401; have xU:=zS; have HB:=zO; have HO407:=zI; clear zS zO zI; clear ho hb hg hat))
                go_roundg kj36
                case measure => have:=HK1.out; have:=HJ36.out; omega
                case rel => exact ⟨(y405),(yH),(xH),(wrap64 (yP + 1)),(by first|rfl|(simp;done)|(simp [*];done)),(by first|rfl|(simp;done)|(simp [*];done)),(by first|rfl|(simp;done)|(simp [*];done)),H',⟨by have:=HK1.out; have:=HJ36.out; omega⟩,⟨by (with_reducible repeat (first|apply Kd.R_alloc|apply Kd.R_drewN|apply Kd.R_drew)); exact HO407.out⟩,⟨by (with_reducible repeat (first|apply zN|apply zM|apply zR)); exact xU.out⟩,⟨by repeat (first|(with_reducible first|exact HB.out|apply zY|apply zV|apply zU|refine zQ ?_ vZ.out)|exact HB.out)⟩⟩
               ·
                rw [if_neg c50] at H
                exact absurd H (by simp)
              ·
               rw [if_neg c48] at H
               exact absurd H (by simp)
             ·
              replace c47:=Bool.eq_false_iff.mpr c47
              subst c47
              have H1 : ((uS.f (⟨#[93]⟩ : ByteArray)).bind fun bt408 => (if y396.length < 4398046511104 then (wR.l0 kj36 (y396 ++ [(⟨bt408.1,bt408.2.1,bt408.2.2⟩ : S61)]) t362 yH xH (wrap64 (yP + 1)) zT zE zW zH zG yM false yX yW zA yZ) else (none))) = some r:=by rw [if_neg (show ¬ (false = true) by decide)] at H; exact H
              clear H
              have H:=H1
              clear H1
              replace H:=Option.bind_eq_some_iff.mp H
              obtain ⟨⟨t408,t409,t410⟩,A570,H⟩:=H
              replace H : (if y396.length < 4398046511104 then (wR.l0 kj36 (y396 ++ [(⟨t408,t409,t410⟩ : S61)]) t362 yH xH (wrap64 (yP + 1)) zT zE zW zH zG yM false yX yW zA yZ) else (none)) = some r:=H
              have A57:=zZ.mk A570
              clear A570
              by_cases c58 : y396.length < 4398046511104
              ·
               rw [if_pos c58] at H
               have LMc58:=zZ.mk c58
               clear c58
               obtain ⟨y411,hy411⟩ : ∃ y_ : List (S61),y_ = (y396 ++ [(⟨t408,t409,t410⟩ : S61)]):=⟨_,rfl⟩
               replace H : (wR.l0 kj36 y411 t362 yH xH (wrap64 (yP + 1)) zT zE zW zH zG yM false yX yW zA yZ) = some r:=by first|(rw [hy411]; with_reducible exact H)|(have yA:=(Option.bind_some _ _).symm.trans H; rw [hy411]; with_reducible exact yA)|(have yA:=(Option.bind_some _ _).symm.trans H; with_reducible exact yA)|with_reducible exact H|(rw [hy411]; exact H)|exact H
               have Ny411:=zZ.mk hy411
               clear hy411
               have H':=zZ.mk H
               clear H
               go_wp2_with (first|((with_reducible refine yD (f:=73) rfl ?_); refine yE (some 43) rfl rfl Tryd.func73 (by kernel_rfl) rfl #[.string (⟨#[58]⟩ : ByteArray)] rfl (by (try simp only [List.map_toArray,List.map_cons,List.map_nil]); first|done|rfl|(simp only [List.length_drop,List.length_take]; rfl)) ?_; (with_reducible refine (uS.calls (⟨#[58]⟩ : ByteArray) t393 t394 t395 _ A45.out).mono ?_); rintro e w59 ⟨rfl,hb⟩; refine ⟨_,rfl,?_⟩; have zS:=zZ.mk (Kd.R_below (by (with_reducible repeat (first|apply Kd.R_alloc|apply Kd.R_drewN|apply Kd.R_drew)); exact HO_3.out) hb); have zO:=zZ.mk (xX (g:=tO) (o:=.cells #[.string zT,.slice wW zE.length wY,.slice yR zW.length yS,.int .i64 zH,.int .i64 zG,.bool yM,.bool false,.int .u8 yX,.string yW,.slice xF zA.length xE,.slice xD yZ.length xC] 54 (0,0)) (by (with_reducible repeat (first|apply zN|apply zM|apply zR)); exact xU.out) hb); have zI:=zZ.mk (xW (by repeat (first|(with_reducible first|exact HB.out|apply zY|apply zV|apply zU|refine zQ ?_ vZ.out)|exact HB.out)) hb); clear HO_3; clear xU; clear HB; have HO_3:=zS; have xU:=zO; have HB:=zI; clear zS zO zI; (try clear hb); (try clear hb2); (try clear hk); (try clear hi))|((with_reducible refine uX (b:=.append) (xs:=#[.tmp 42,.tmp 44]) rfl ?_); at_builtin; refine Kd.R_append k61 (w0:=w) w.heap.size rfl (.tmp 42) (.tmp 44) 43 61 (.agg #[(.int .u8 0),(.string ⟨#[]⟩),(.int .i64 0)]) 32 rfl Tryd.underlying43 info61 rfl (by decide) (by omega) u3 nC (⟨t393,t394,t395⟩ : S61) [.int .u8 t393,.string t394,.int .i64 t395] (fun _ => True) (fun _ => False) rfl rfl ?aP (fun _ hk => hk.elim) ?aF ?aO ?aB ?aS ?aL ?_; (case aP => exact uE _ _ _ (⟨t393,t394,t395⟩ : S61)); (case aB => exact (by repeat (first|(with_reducible first|exact HB.out|apply zY|apply zV|apply zU|refine zQ ?_ vZ.out)|exact HB.out))); (case aF => exact (fun _ _ => trivial)); (case aO => exact (by (with_reducible repeat (first|apply Kd.R_alloc|apply Kd.R_drewN|apply Kd.R_drew)); exact HO_3.out)); (case aS => exact (xS (by repeat (first|(with_reducible first|exact HB.out|apply zY|apply zV|apply zU|refine zQ ?_ vZ.out)|exact HB.out)))); (case aL => have:=LMc46.out; omega); intro v397 w60 ho hb hg hat; rw [← Ny396.out] at ho; have zS:=zZ.mk (tC (g:=tO) (o:=.cells #[.string zT,.slice wW zE.length wY,.slice yR zW.length yS,.int .i64 zH,.int .i64 zG,.bool yM,.bool false,.int .u8 yX,.string yW,.slice xF zA.length xE,.slice xD yZ.length xC] 54 (0,0)) (by (with_reducible repeat (first|apply zN|apply zM|apply zR)); exact xU.out) hg (Kd.R_ne HO_3.out xU.out (by decide))); have zO:=zZ.mk (hb); have zI:=zZ.mk (ho); clear xU; clear HB; clear HO_3; have xU:=zS; have HB:=zO; have HO398:=zI; clear zS zO zI; clear ho hb hg hat; obtain ⟨yYA,yXZ,yXY,yXX,yXW,yXV,yXU,yXT,yXS,yXR,yXQ⟩:=kc11 xU.out)|((with_reducible refine yD (f:=73) rfl ?_); refine yE (some 57) rfl rfl Tryd.func73 (by kernel_rfl) rfl #[.string (⟨#[93]⟩ : ByteArray)] rfl (by (try simp only [List.map_toArray,List.map_cons,List.map_nil]); first|done|rfl|(simp only [List.length_drop,List.length_take]; rfl)) ?_; (with_reducible refine (uS.calls (⟨#[93]⟩ : ByteArray) t408 t409 t410 _ A57.out).mono ?_); rintro e w62 ⟨rfl,hb⟩; refine ⟨_,rfl,?_⟩; have zS:=zZ.mk (Kd.R_below (by (with_reducible repeat (first|apply Kd.R_alloc|apply Kd.R_drewN|apply Kd.R_drew)); exact HO398.out) hb); have zO:=zZ.mk (xX (g:=tO) (o:=.cells #[.string zT,.slice wW zE.length wY,.slice yR zW.length yS,.int .i64 zH,.int .i64 zG,.bool yM,.bool false,.int .u8 yX,.string yW,.slice xF zA.length xE,.slice xD yZ.length xC] 54 (0,0)) (by (with_reducible repeat (first|apply zN|apply zM|apply zR)); exact xU.out) hb); have zI:=zZ.mk (xW (by repeat (first|(with_reducible first|exact HB.out|apply zY|apply zV|apply zU|refine zQ ?_ vZ.out)|exact HB.out)) hb); clear HO398; clear xU; clear HB; have HO398:=zS; have xU:=zO; have HB:=zI; clear zS zO zI; (try clear hb); (try clear hb2); (try clear hk); (try clear hi))|((with_reducible refine uX (b:=.append) (xs:=#[.tmp 56,.tmp 58]) rfl ?_); at_builtin; refine Kd.R_append k61 (w0:=w) w.heap.size rfl (.tmp 56) (.tmp 58) 43 61 (.agg #[(.int .u8 0),(.string ⟨#[]⟩),(.int .i64 0)]) 32 rfl Tryd.underlying43 info61 rfl (by decide) (by omega) v397 y396 (⟨t408,t409,t410⟩ : S61) [.int .u8 t408,.string t409,.int .i64 t410] (fun _ => True) (fun _ => False) rfl rfl ?aP (fun _ hk => hk.elim) ?aF ?aO ?aB ?aS ?aL ?_; (case aP => exact uE _ _ _ (⟨t408,t409,t410⟩ : S61)); (case aB => exact (by repeat (first|(with_reducible first|exact HB.out|apply zY|apply zV|apply zU|refine zQ ?_ vZ.out)|exact HB.out))); (case aF => exact (fun _ _ => trivial)); (case aO => exact (by (with_reducible repeat (first|apply Kd.R_alloc|apply Kd.R_drewN|apply Kd.R_drew)); exact HO398.out)); (case aS => exact (xS (by repeat (first|(with_reducible first|exact HB.out|apply zY|apply zV|apply zU|refine zQ ?_ vZ.out)|exact HB.out)))); (case aL => have:=LMc58.out; omega); intro v412 w63 ho hb hg hat; rw [← Ny411.out] at ho; have zS:=zZ.mk (tC (g:=tO) (o:=.cells #[.string zT,.slice wW zE.length wY,.slice yR zW.length yS,.int .i64 zH,.int .i64 zG,.bool yM,.bool false,.int .u8 yX,.string yW,.slice xF zA.length xE,.slice xD yZ.length xC] 54 (0,0)) (by (with_reducible repeat (first|apply zN|apply zM|apply zR)); exact xU.out) hg (Kd.R_ne HO398.out xU.out (by decide))); have zO:=zZ.mk (hb); have zI:=zZ.mk (ho); clear xU; clear HB; clear HO398; have xU:=zS; have HB:=zO; have HO413:=zI; clear zS zO zI; clear ho hb hg hat))
               go_roundg kj36
               case measure => have:=HK1.out; have:=HJ36.out; omega
               case rel => exact ⟨(y411),(yH),(xH),(wrap64 (yP + 1)),(by first|rfl|(simp;done)|(simp [*];done)),(by first|rfl|(simp;done)|(simp [*];done)),(by first|rfl|(simp;done)|(simp [*];done)),H',⟨by have:=HK1.out; have:=HJ36.out; omega⟩,⟨by (with_reducible repeat (first|apply Kd.R_alloc|apply Kd.R_drewN|apply Kd.R_drew)); exact HO413.out⟩,⟨by (with_reducible repeat (first|apply zN|apply zM|apply zR)); exact xU.out⟩,⟨by repeat (first|(with_reducible first|exact HB.out|apply zY|apply zV|apply zU|refine zQ ?_ vZ.out)|exact HB.out)⟩⟩
              ·
               rw [if_neg c58] at H
               exact absurd H (by simp)
            ·
             rw [if_neg c46] at H
             exact absurd H (by simp)
         ·
          rw [if_neg c36] at H
          exact absurd H (by simp)
    ·
     rw [if_neg c9] at H
     exact absurd H (by simp)
   ·
    rw [if_neg c8] at H
    have c8b0 : decide (yP < (t362.size : Int)) = false:=decide_eq_false c8
    clear c8
    obtain rfl:=Option.some.inj H
    go_wp2
    go_ret
    exact ⟨_,by first|rfl|(simp [yG,yF] <;> rfl)|(simp [*,yG,yF] <;> rfl),by (with_reducible repeat (first|apply Kd.R_alloc|apply Kd.R_drewN|apply Kd.R_drew)); exact HO_3.out,by repeat (first|(with_reducible first|exact HB.out|apply zY|apply zV|apply zU|refine zQ ?_ vZ.out)|exact HB.out)⟩
end Go.Proofs.YtjeofffddbibeaaDoor.PParseTells
end

section
namespace Go.Proofs.YtjeofffddbibeaaDoor.Pa
open Go Go.RowKit PParseTells Ex YtjeofffddbibeaaDoorW.PrintWords YtjeofffddbibeaaDoorW.PrintLast YtjeofffddbibeaaDoorW.PrintMore
theorem pT (s : ByteArray) : uS.f s = some (4,s,0):=rfl
theorem head_txt (ns : List ByteArray) (i : Nat) (h : i < ns.length) : (ns.drop i).headD e8 = ns[i]:=by
 rw [List.drop_eq_getElem_cons h]; rfl
theorem head_num (ns : List Int) (i : Nat) (h : i < ns.length) : (ns.drop i).headD 0 = ns[i]:=by
 rw [List.drop_eq_getElem_cons h]; rfl
set_option maxHeartbeats 2000000 in
theorem told_l0 (c : Cmd) (s : ByteArray) (hs : s.size ≤ 10) (hlet : ∀ b ∈ s.data.toList,b = 110 ∨ b = 105 ∨ b = 101 ∨ b = 114 ∨ b = 61) (K : Nat)
  (hx : 101 ∈ s.data.toList → ∀ k,K ≤ k → xT.f k c.x.f0 c.x.f1 c.x.f2 c.x.f3 = some (wordsX c.x)) :
  ∀ (l : List UInt8) (i n1 n2 : Nat) (acc : List Tok),i + l.length ≤ 10 → s.data.toList.drop i = l → n1 + l.count 110 = c.names.length → n2 + l.count 105 = c.nums.length → n1 + l.length ≤ 20 → n2 + l.length ≤ 20 →
   acc.length + (cmdW c l (c.names.drop n1) (c.nums.drop n2)).length ≤ 1000000000 → ∀ k,K + 2 * l.length + 1 ≤ k →
   wR.l0 k acc s (n1 : Nat) (n2 : Nat) (i : Nat) c.word c.names c.nums c.lo c.hi c.hl c.hh c.x.f0 c.x.f1 c.x.f2 c.x.f3 = some (acc ++ cmdW c l (c.names.drop n1) (c.nums.drop n2)):=by
 have hsz : s.size = s.data.toList.length:=by simp
 intro l
 induction l with
 | nil =>
  intro i n1 n2 acc hi hd h1 h2 g1 g2 hz k hk
  obtain ⟨k,rfl⟩ : ∃ m,k = m + 1:=⟨k - 1,by omega⟩
  have hle : s.data.toList.length ≤ i:=List.drop_eq_nil_iff.1 hd
  rw [wR.l0,if_neg (by omega),cmdW,List.append_nil]
 | cons b l ih =>
  intro i n1 n2 acc hi hd h1 h2 g1 g2 hz k hk
  obtain ⟨k,rfl⟩ : ∃ m,k = m + 1:=⟨k - 1,by omega⟩
  rw [List.length_cons] at hi g1 g2 hk
  have hil : i < s.data.toList.length:=by
   rcases Nat.lt_or_ge i s.data.toList.length with h|h
   · exact h
   · rw [List.drop_of_length_le h] at hd; cases hd
  rw [List.drop_eq_getElem_cons hil] at hd
  injection hd with hb hd
  have hm:=hlet _ (List.getElem_mem hil)
  have hmem : b ∈ s.data.toList:=hb ▸ List.getElem_mem hil
  rw [hb] at hm
  have hcm : cmdW c (b :: l) (c.names.drop n1) (c.nums.drop n2) = partW c b (c.names.drop n1) (c.nums.drop n2) ++ cmdW c l (tailN b (c.names.drop n1)) (tailI b (c.nums.drop n2)):=rfl
  rw [hcm,List.length_append] at hz
  have ha : acc.length < 4398046511104:=by omega
  rw [hcm,wR.l0,if_pos (by omega),if_pos (Int.natCast_nonneg i)]
  have e1 : wrap64 ((i : Int) + 1) = ((i + 1 : Nat) : Int):=by
   rw [Ex.w64 (by omega) (by omega)]; omega
  have e2 : wrap64 ((n1 : Int) + 1) = ((n1 + 1 : Nat) : Int):=by
   rw [Ex.w64 (by omega) (by omega)]; omega
  have e3 : wrap64 ((n2 : Int) + 1) = ((n2 + 1 : Nat) : Int):=by
   rw [Ex.w64 (by omega) (by omega)]; omega
  have hbt:=xG s i hil
  rw [hb] at hbt
  rw [hbt,e1,e2,e3]
  clear hbt e1 e2 e3 hb hlet hs hil hcm
  rcases hm with rfl|rfl|rfl|rfl|rfl
  ·
   have hN : n1 < c.names.length:=by rw [List.count_cons_self] at h1; omega
   have hp : partW c 110 (c.names.drop n1) (c.nums.drop n2) = [wTok ((c.names.drop n1).headD e8)]:=if_pos rfl
   have ht : tailN 110 (c.names.drop n1) = c.names.drop (n1 + 1):=by show (c.names.drop n1).drop 1 = _; rw [List.drop_drop]
   have hti : tailI 110 (c.nums.drop n2) = c.nums.drop n2:=if_neg (by decide)
   rw [hp,ht,hti,List.length_singleton] at hz
   rw [hp,ht,hti,if_pos (by decide),if_pos (Int.natCast_nonneg n1),if_pos (Int.ofNat_lt.2 hN),if_pos ha,rd_txt _ _ hN,head_txt _ _ hN,
    ih (i + 1) (n1 + 1) n2 _ (by omega) hd (by rw [List.count_cons_self] at h1; omega) (by rw [List.count_cons_of_ne (by decide)] at h2; omega) (by omega) (by omega) (by rw [List.length_append,List.length_singleton]; omega) k (by omega),List.append_assoc]
  ·
   have hN : n2 < c.nums.length:=by rw [List.count_cons_self] at h2; omega
   have hp : partW c 105 (c.names.drop n1) (c.nums.drop n2) = [nTok ((c.nums.drop n2).headD 0)]:=by unfold partW; rw [if_neg (by decide),if_pos rfl]
   have ht : tailN 105 (c.names.drop n1) = c.names.drop n1:=if_neg (by decide)
   have hti : tailI 105 (c.nums.drop n2) = c.nums.drop (n2 + 1):=by show (c.nums.drop n2).drop 1 = _; rw [List.drop_drop]
   rw [hp,ht,hti,List.length_singleton] at hz
   rw [hp,ht,hti,if_neg (by decide),if_pos (by decide),if_pos (Int.natCast_nonneg n2),if_pos (Int.ofNat_lt.2 hN),if_pos ha,rd_num _ _ hN,head_num _ _ hN,
    ih (i + 1) n1 (n2 + 1) _ (by omega) hd (by rw [List.count_cons_of_ne (by decide)] at h1; omega) (by rw [List.count_cons_self] at h2; omega) (by omega) (by omega) (by rw [List.length_append,List.length_singleton]; omega) k (by omega),List.append_assoc]
  ·
   have hp : partW c 101 (c.names.drop n1) (c.nums.drop n2) = wordsX c.x:=by unfold partW; rw [if_neg (by decide),if_neg (by decide),if_pos rfl]
   have ht : tailN 101 (c.names.drop n1) = c.names.drop n1:=if_neg (by decide)
   have hti : tailI 101 (c.nums.drop n2) = c.nums.drop n2:=if_neg (by decide)
   rw [hp,ht,hti] at hz
   rw [hp,ht,hti,if_neg (by decide),if_neg (by decide),if_pos (by decide),hx hmem k (by omega),Option.bind_some,if_pos (by omega),
    ih (i + 1) n1 n2 _ (by omega) hd (by rw [List.count_cons_of_ne (by decide)] at h1; omega) (by rw [List.count_cons_of_ne (by decide)] at h2; omega) (by omega) (by omega) (by rw [List.length_append]; omega) k (by omega),List.append_assoc]
  ·
   have hp : partW c 114 (c.names.drop n1) (c.nums.drop n2) = rngW c:=by unfold partW; rw [if_neg (by decide),if_neg (by decide),if_neg (by decide),if_pos rfl]
   have ht : tailN 114 (c.names.drop n1) = c.names.drop n1:=if_neg (by decide)
   have hti : tailI 114 (c.nums.drop n2) = c.nums.drop n2:=if_neg (by decide)
   rw [hp,ht,hti] at hz
   obtain ⟨k,rfl⟩ : ∃ m,k = m + 1:=⟨k - 1,by omega⟩
   have e1:=zZ.mk (show wrap64 ((i : Int) + 1) = ((i + 1 : Nat) : Int) by
    rw [Ex.w64 (by omega) (by omega)]; omega)
   have IH:=ih (i + 1) n1 n2 (acc ++ rngW c) (by omega) hd (by rw [List.count_cons_of_ne (by decide)] at h1; omega) (by rw [List.count_cons_of_ne (by decide)] at h2; omega) (by omega) (by omega) (by rw [List.length_append]; omega) k (by omega)
   rw [hp,ht,hti,if_neg (by decide),if_neg (by decide),if_neg (by decide),if_neg (by decide),pT,Option.bind_some,if_pos ha,Option.bind_some]
   rw [List.append_assoc] at IH
   obtain ⟨wd,NS,ns,lo,hg,hl,hh,x⟩:=c
   unfold rngW at IH hz ⊢
   dsimp only at *
   have hz3 : acc.length ≤ 1000000000:=by omega
   cases hl <;> cases hh <;> simp only [endW,if_true,if_false,Bool.false_eq_true,List.nil_append,List.cons_append,List.length_cons,List.length_nil] at IH hz ⊢
   ·
    rw [wR.j1,pT,Option.bind_some,if_pos (by simp; omega),Option.bind_some,if_neg (by simp),pT,Option.bind_some,if_pos (by simp; omega),e1.out]
    simp only [List.append_assoc,List.cons_append,List.nil_append] at IH ⊢
    exact IH
   ·
    rw [wR.j1,pT,Option.bind_some,if_pos (by simp; omega),Option.bind_some,if_pos rfl,if_pos (by simp; omega),Option.bind_some,pT,Option.bind_some,if_pos (by simp; omega),e1.out]
    simp only [List.append_assoc,List.cons_append,List.nil_append] at IH ⊢
    exact IH
   ·
    rw [if_pos (by simp; omega),wR.j1,pT,Option.bind_some,if_pos (by simp; omega),Option.bind_some,if_neg (by simp),pT,Option.bind_some,if_pos (by simp; omega),e1.out]
    simp only [List.append_assoc,List.cons_append,List.nil_append] at IH ⊢
    exact IH
   ·
    rw [if_pos (by simp; omega),wR.j1,pT,Option.bind_some,if_pos (by simp; omega),Option.bind_some,if_pos rfl,if_pos (by simp; omega),Option.bind_some,pT,Option.bind_some,if_pos (by simp; omega),e1.out]
    simp only [List.append_assoc,List.cons_append,List.nil_append] at IH ⊢
    exact IH
  ·
   have hp : partW c 61 (c.names.drop n1) (c.nums.drop n2) = [mk ⟨#[61]⟩]:=by unfold partW; rw [if_neg (by decide),if_neg (by decide),if_neg (by decide),if_neg (by decide)]
   have ht : tailN 61 (c.names.drop n1) = c.names.drop n1:=if_neg (by decide)
   have hti : tailI 61 (c.nums.drop n2) = c.nums.drop n2:=if_neg (by decide)
   rw [hp,ht,hti,List.length_singleton] at hz
   rw [hp,ht,hti,if_neg (by decide),if_neg (by decide),if_neg (by decide),if_pos (by decide),pT,Option.bind_some,if_pos ha,
    ih (i + 1) n1 n2 _ (by omega) hd (by rw [List.count_cons_of_ne (by decide)] at h1; omega) (by rw [List.count_cons_of_ne (by decide)] at h2; omega) (by omega) (by omega) (by rw [List.length_append,List.length_singleton]; omega) k (by omega),List.append_assoc]
theorem cmdW_le {c : Cmd} (hwf : Wf c.x) (hR : rightC c = true) : (cmdW c (shapeF c.word).1.data.toList c.names c.nums).length ≤ 300000:=by
 obtain ⟨h1,h2,h3,h4,h5⟩:=kW hR
 obtain ⟨hs,hlet⟩:=cI c.word
 have hsz : (shapeF c.word).1.size = (shapeF c.word).1.data.toList.length:=by simp
 rw [cmdW_len]
 have key : ∀ l : List UInt8,(∀ b ∈ l,b ∈ (shapeF c.word).1.data.toList) → lenL c l ≤ 24005 * l.length:=by
  intro l
  induction l with
  | nil => intro _; exact Nat.le_refl _
  | cons b l ih =>
   intro h
   have:=ih (fun a ha => h a (by simp [ha]))
   have hb : (if b = 101 then (wordsX c.x).length else if b = 114 then lenR c.hl c.hh else 1) ≤ 24005:=by
    by_cases h6 : b = 101
    ·
     rw [if_pos h6]
     obtain ⟨r1,r2,r3⟩:=cH (h5 (h6 ▸ h b (by simp)))
     have:=words_le (cnt c.x) c.x (Nat.le_refl _) hwf r1
     omega
    ·
     rw [if_neg h6]
     split
     · unfold lenR; split <;> split <;> omega
     · omega
   rw [lenL,List.length_cons]
   omega
 have:=key _ (fun _ h => h)
 omega
theorem wordsC_le {c : Cmd} (hwf : Wf c.x) (hR : rightC c = true) : (wordsC c).length ≤ 300001:=by
 have h:=cmdW_le hwf hR
 show (cmdW c (shapeF c.word).1.data.toList c.names c.nums).length + 1 ≤ _
 omega
theorem told_f (c : Cmd) (hwf : Wf c.x) (hR : rightC c = true) (k : Nat) (hk : 30000 ≤ k) : wR.f k c.word c.names c.nums c.lo c.hi c.hl c.hh c.x.f0 c.x.f1 c.x.f2 c.x.f3 = some (wordsC c):=by
 obtain ⟨h1,h2,h3,h4,h5⟩:=kW hR
 obtain ⟨hs,hlet⟩:=cI c.word
 have hsz : (shapeF c.word).1.size = (shapeF c.word).1.data.toList.length:=by simp
 have hcn : c.names.length ≤ 10:=by have:=List.count_le_length (a:=(110 : UInt8)) (l:=(shapeF c.word).1.data.toList); omega
 have hci : c.nums.length ≤ 10:=by have:=List.count_le_length (a:=(105 : UInt8)) (l:=(shapeF c.word).1.data.toList); omega
 have hlen:=cmdW_le hwf hR
 unfold wR.f
 rw [zWA c.word k (by omega),Option.bind_some]
 have H:=told_l0 c (shapeF c.word).1 hs hlet 20000 (fun hm k hk => by
  obtain ⟨r1,r2,r3⟩:=cH (h5 hm)
  exact refWords_f (cnt c.x) c.x (Nat.le_refl _) hwf r1 r3 k (by omega)) (shapeF c.word).1.data.toList 0 0 0 [wTok c.word] (by omega) rfl (by omega) (by omega) (by omega) (by omega) (by rw [List.drop_zero,List.drop_zero,List.length_singleton]; omega) k (by omega)
 rw [List.drop_zero,List.drop_zero] at H
 exact H
theorem Told_calls (c : Cmd) (hR : rightC c = true) (A1 : Option Addr) (c1 : Nat) (A2 : Option Addr) (c2 : Nat) (A3 : Option Addr) (c3 : Nat) (A4 : Option Addr) (c4 : Nat) (w : World) (h : HasC w c A1 c1 A2 c2 A3 c3 A4 c4) (n : Nat) (hn : (wordsC c).length = n) :
  Calls Tryd.prog 43 #[.agg (cmA c A1 c1 A2 c2 A3 c3 A4 c4)] w fun e w' => ∃ B d,e = .returned (.slice B n d) ∧ n ≤ d ∧ Kd.C k61 w' B n (wordsC c) ∧ Below w.heap.size w w':=by
 subst hn
 refine (wR.calls 30000 c.word A1 c1 c.names A2 c2 c.nums c.lo c.hi c.hl c.hh c.x.f0 c.x.f1 A3 c3 c.x.f2 A4 c4 c.x.f3 _ w h.C1 h.n1 h.C2 h.n2 h.has.C2 h.has.l2 h.has.C3 h.has.l3 (told_f c h.has.wf hR 30000 (Nat.le_refl _))).mono ?_
 rintro e w' ⟨v,rfl,ho,hb⟩
 obtain ⟨B,d,rfl,hd,hC⟩:=Kd.R_reads ho
 exact ⟨B,d,rfl,hd,hC,hb⟩
theorem zTQ (c : Cmd) (A1 : Option Addr) (c1 : Nat) (A2 : Option Addr) (c2 : Nat) (A3 : Option Addr) (c3 : Nat) (A4 : Option Addr) (c4 : Nat) (w : World) (h : HasC w c A1 c1 A2 c2 A3 c3 A4 c4) (hc : cnt c.x ≤ 1048576) :
  Calls Tryd.prog 42 #[.agg (cmA c A1 c1 A2 c2 A3 c3 A4 c4)] w fun e w' => e = .returned (.bool (rightC c)) ∧ Below w.heap.size w w' :=
 xP.calls (4000100 + c.names.length) c.word A1 c1 c.names A2 c2 c.nums c.lo c.hi c.hl c.hh c.x.f0 c.x.f1 A3 c3 c.x.f2 A4 c4 c.x.f3 _ w h.C1 h.n1 h.C2 h.n2 h.has.C2 h.has.l2 h.has.C3 h.has.l3 (RightC_f c hc h.has.wf (Kd.C_max h.C1) _ (Nat.le_refl _))
theorem zTU (x : X) (A2 : Option Addr) (c2 : Nat) (A3 : Option Addr) (c3 : Nat) (w : World) (h : Has w x A2 c2 A3 c3) (hc : cnt x ≤ 1048576) :
  Calls Tryd.prog 23 #[agg x A2 c2 A3 c3] w fun e w' => e = .returned (.int .i64 (cnt x)) ∧ Below w.heap.size w w' :=
 uL.calls (2 * cnt x) x.f0 x.f1 A2 c2 x.f2 A3 c3 x.f3 _ w h.C2 h.l2 h.C3 h.l3 (zWT (cnt x) x (Nat.le_refl _) (by omega) _ (Nat.le_refl _))
theorem name_len {s : ByteArray} (h : nameB s = true) : s.data.toList.length ≤ 100:=by
 unfold nameB at h
 cases hl : s.data.toList with
 | nil => simp
 | cons b l =>
  rw [hl] at h
  unfold nameL at h
  simp only [Bool.and_eq_true,decide_eq_true_eq] at h
  rw [List.length_cons]
  omega
structure Ints (c : Cmd) : Prop where
 ints : ∀ n ∈ c.nums,-9223372036854775808 ≤ n ∧ n ≤ 9223372036854775807
 lo64 : -9223372036854775808 ≤ c.lo ∧ c.lo ≤ 9223372036854775807
 hi64 : -9223372036854775808 ≤ c.hi ∧ c.hi ≤ 9223372036854775807
abbrev I64 (n : Int) : Prop:=-9223372036854775808 ≤ n ∧ n ≤ 9223372036854775807
structure TokG (t : Tok) : Prop where
 name : t.f0 = 1 → nameB t.f1 = true
 n64 : I64 t.f2
theorem cJ {s : ByteArray} (h : nameB s = true) : s.size ≤ 140737488351232:=by
 have:=name_len h
 have hsz : s.size = s.data.toList.length:=(Array.length_toList).symm
 omega
theorem wf_leaf (s : ByteArray) (hs : s.size ≤ 140737488351232) : Wf ⟨0,s,[],[]⟩:=by rw [Wf_eq]; exact ⟨⟨Int.le_refl 0,show (0 : Int) ≤ 255 by decide⟩,hs,by simp,by rw [WfL]; trivial⟩
structure POut (d : Nat) (p : Int) (r : Res) : Prop where
 wf : Wf r.x
 all : allR r.x = true
 dep : Ex.dep r.x ≤ d
 cnt : r.p = p + Ex.cnt r.x
 le : r.p ≤ 2000
 toks : ∀ t ∈ r.l,TokG t
structure SOut (d nums many m : Nat) (x : X) (p : Int) (r : Res) : Prop where
 f0 : r.x.f0 = x.f0
 f1 : r.x.f1 = x.f1
 n2 : r.x.f2.length = x.f2.length + (nums - (many - m))
 n3 : r.x.f3.length + (nums - (many - m)) = x.f3.length + m
 i2 : ∀ v ∈ r.x.f2,v ∈ x.f2 ∨ I64 v
 i3 : ∀ z ∈ r.x.f3,z ∈ x.f3 ∨ (Wf z ∧ allR z = true ∧ Ex.dep z ≤ d)
 cnt : r.p + cntL x.f3 = p + cntL r.x.f3
 le : r.p ≤ 2000
 toks : ∀ t ∈ r.l,TokG t
theorem hY (s : ByteArray) (L : List Tok) (h : (markF s L).2 = 0) : ∀ t ∈ (markF s L).1,t ∈ L:=by
 rcases qY s L with ⟨t,r,rfl,h1,_⟩|⟨h1,_⟩
 ·
  rw [h1]
  intro u hu
  exact List.mem_cons_of_mem _ hu
 · rw [h1] at h; cases h
theorem iE (ks : List Int) (L : List Tok) (h : (takeF ks L).2.2 = 0) (hL : ∀ t ∈ L,TokG t) : ∃ t r,L = t :: r ∧ takeF ks L = (t,r,0) ∧ t.f0 ∈ ks ∧ TokG t ∧ ∀ u ∈ r,TokG u:=by
 rcases pS ks L with ⟨t,r,rfl,h1,h2⟩|h1
 · exact ⟨t,r,rfl,h1,h2,hL t (by simp),fun u hu => hL u (List.mem_cons_of_mem _ hu)⟩
 · rw [h1] at h; cases h
theorem steps_right (d nums many : Nat) (hnm : nums ≤ many) (hrec : ∀ p L,(∀ t ∈ L,TokG t) → 0 ≤ p → (exprF d p L).e = 0 → POut d p (exprF d p L)) : ∀ (m : Nat) (x : X) (p : Int) (L : List Tok),m ≤ many → (∀ t ∈ L,TokG t) → 0 ≤ p → p ≤ 2000 →
  (stepsF (exprF d) nums many m x p L).e = 0 → SOut d nums many m x p (stepsF (exprF d) nums many m x p L):=by
 intro m
 induction m with
 | zero =>
  intro x p L hm hL h0 h1 he
  rw [stepsF]
  exact ⟨rfl,rfl,by show x.f2.length = _; omega,by show x.f3.length + _ = _; omega,fun v hv => .inl hv,fun z hz => .inl hz,rfl,h1,hL⟩
 | succ m ih =>
  intro x p L hm hL h0 h1 he
  rw [stepsF] at he ⊢
  obtain ⟨it,hit⟩ : ∃ it,itemF (exprF d) (decide (many - (m + 1) < nums)) x p L = it:=⟨_,rfl⟩
  rw [hit] at he ⊢
  by_cases h2 : it.e ≠ 0
  · rw [if_pos h2] at he; exact absurd he h2
  rw [if_neg h2] at he ⊢
  have hsub:=hY (if m = 0 then RPA else COM) it.l
  obtain ⟨mk,hmk⟩ : ∃ mk,markF (if m = 0 then RPA else COM) it.l = mk:=⟨_,rfl⟩
  rw [hmk] at he hsub ⊢
  by_cases h3 : mk.2 ≠ 0
  · rw [if_pos h3] at he; exact absurd he h3
  rw [if_neg h3] at he ⊢
  have h2 : it.e = 0:=Decidable.not_not.1 h2
  have h3 : mk.2 = 0:=Decidable.not_not.1 h3
  unfold itemF at hit
  by_cases hn : many - (m + 1) < nums
  ·
   rw [decide_eq_true hn,if_pos rfl] at hit
   rw [← hit] at h2
   obtain ⟨t,r,hLr,ht,_,hg,hr⟩:=iE [2,3] L h2 hL
   have hnf : numF L = (t,r,0):=ht
   rw [hnf] at hit
   subst hit
   dsimp only at he hsub ⊢
   have ho:=ih ⟨x.f0,x.f1,x.f2 ++ [t.f2],x.f3⟩ p mk.1 (by omega) (fun u hu => hr u (hsub h3 u hu)) h0 h1 he
   have n2:=ho.n2
   have n3:=ho.n3
   dsimp only at n2 n3
   rw [List.length_append,List.length_singleton] at n2
   exact ⟨ho.f0,ho.f1,by omega,by omega,fun v hv => by
    rcases ho.i2 v hv with h|h
    ·
     rcases List.mem_append.1 h with h|h
     · exact .inl h
     · rw [List.mem_singleton.1 h]; exact .inr hg.n64
    · exact .inr h,ho.i3,ho.cnt,ho.le,ho.toks⟩
  ·
   rw [decide_eq_false hn,if_neg (by simp)] at hit
   rw [← hit] at h2
   have hE:=hrec p L hL h0 h2
   generalize exprF d p L = r at hit hE
   subst hit
   dsimp only at he hsub ⊢
   have hcp:=sQ r.x
   have ho:=ih ⟨x.f0,x.f1,x.f2,x.f3 ++ [r.x]⟩ r.p mk.1 (by omega) (fun u hu => hE.toks u (hsub h3 u hu)) (by have:=hE.cnt; omega) hE.le he
   have n2:=ho.n2
   have n3:=ho.n3
   have nc:=ho.cnt
   dsimp only at n2 n3 nc
   rw [List.length_append,List.length_singleton] at n3
   rw [zWD,rL,rY] at nc
   have hc:=hE.cnt
   exact ⟨ho.f0,ho.f1,by omega,by omega,ho.i2,fun z hz => by
    rcases ho.i3 z hz with h|h
    ·
     rcases List.mem_append.1 h with h|h
     · exact .inl h
     · rw [List.mem_singleton.1 h]; exact .inr ⟨hE.wf,hE.all,hE.dep⟩
    · exact .inr h,by omega,ho.le,ho.toks⟩
theorem lA {xs : List X} {d : Nat} (h : ∀ y ∈ xs,dep y ≤ d) : depL xs ≤ d:=by
 induction xs with
 | nil => rw [eC]; exact Nat.zero_le _
 | cons y ys ih =>
  rw [dM]
  have h1:=h y (by simp)
  have h2:=ih (fun z hz => h z (by simp [hz]))
  omega
theorem allRL_of {xs : List X} (h : ∀ y ∈ xs,allR y = true) : allRL xs = true:=by
 induction xs with
 | nil => exact cB
 | cons y ys ih => rw [bZ,h y (by simp),ih (fun z hz => h z (by simp [hz]))]; rfl
theorem expr_right : ∀ (d : Nat) (p : Int) (L : List Tok),(∀ t ∈ L,TokG t) → 0 ≤ p → (exprF d p L).e = 0 → POut d p (exprF d p L):=by
 intro d
 induction d with
 | zero =>
  intro p L hL h0 he
  exfalso
  have e : exprF 0 p L = exprG true (fun p L => ⟨zX,L,p,111⟩) p L:=rfl
  rw [e] at he
  unfold exprG at he
  by_cases hk : kindF L = 1
  · rw [if_pos ⟨hk,.inl rfl⟩] at he; cases he
  ·
   rw [if_neg (fun h => hk h.1)] at he
   rcases pS [1] L with ⟨t,r,rfl,_,h2⟩|h1
   · exact hk (List.mem_singleton.1 h2)
   · rw [h1,if_pos (by simp)] at he; cases he
 | succ d ih =>
  intro p L hL h0 he
  have e : exprF (d + 1) p L = exprG false (exprF d) p L:=rfl
  rw [e] at he ⊢
  unfold exprG at he ⊢
  by_cases hk : kindF L = 1 ∧ (false = true ∨ 2000 ≤ p)
  · rw [if_pos hk] at he; cases he
  rw [if_neg hk] at he ⊢
  by_cases ht : (takeF [1] L).2.2 ≠ 0
  · rw [if_pos ht] at he; exact absurd he ht
  rw [if_neg ht] at he ⊢
  obtain ⟨t,r,rfl,h1,h2,hg,hr⟩:=iE [1] L (Decidable.not_not.1 ht) hL
  have h3 : t.f0 = 1:=List.mem_singleton.1 h2
  have hp : p < 2000:=by
   rcases Int.lt_or_le p 2000 with h|h
   · exact h
   · exact absurd ⟨h3,.inr h⟩ hk
  rw [h1] at he ⊢
  dsimp only at he ⊢
  by_cases ho : (opF t.f1).2 = true ∧ isF LPA r = true
  ·
   rw [if_pos ho] at he ⊢
   obtain ⟨o1,o2⟩:=op_inv ho.1
   generalize (opF t.f1).1 = o at *
   obtain ⟨m1,m2,m3,m4⟩:=gP o o1 o2
   have hs:=steps_right d (numsOf o).toNat (manyOf o) (by omega) ih (manyOf o) ⟨o,nil8,[],[]⟩ (p + 1) r.tail (Nat.le_refl _) (fun u hu => hr u (List.mem_of_mem_tail hu)) (by omega) (by omega) he
   generalize stepsF (exprF d) (numsOf o).toNat (manyOf o) (manyOf o) ⟨o,nil8,[],[]⟩ (p + 1) r.tail = R at *
   obtain ⟨y,l,q,ee⟩:=R
   obtain ⟨f0,f1,f2,f3⟩:=y
   obtain ⟨s0,s1,s2,s3,s4,s5,s6,s7,s8⟩:=hs
   dsimp only at s0 s1 s2 s3 s4 s5 s6 s7 s8 he
   subst s0
   subst s1
   rw [List.length_nil] at s2 s3
   rw [rY] at s6
   have hz : ∀ z ∈ f3,Wf z ∧ allR z = true ∧ dep z ≤ d:=fun z hz => by
    rcases s5 z hz with h|h
    · cases h
    · exact h
   have hv : ∀ v ∈ f2,I64 v:=fun v hv => by
    rcases s4 v hv with h|h
    · cases h
    · exact h
   refine ⟨?_,?_,?_,?_,s7,s8⟩
   · exact (Wf_eq _).2 ⟨⟨by show 0 ≤ f0; omega,by show f0 ≤ 255; omega⟩,by show (0 : Nat) ≤ _; omega,hv,WfL_of (fun z h => (hz z h).1)⟩
   ·
    rw [iD,allRL_of (xs:=f3) (fun z h => (hz z h).2.1),Bool.and_true]
    unfold rightB
    dsimp only
    rw [decide_eq_true (show f0 ≤ 12 from o2),decide_eq_true (show (f2.length : Int) = numsOf f0 by omega),decide_eq_true (show (f3.length : Int) = argsOf f0 by omega),if_neg (show ¬ f0 = 0 by omega)]
    decide +kernel
   ·
    rw [kR]
    have:=lA (xs:=f3) (fun z h => (hz z h).2.2)
    show 1 + depL f3 ≤ d + 1
    omega
   ·
    rw [sW]
    show q = p + ((1 + cntL f3 : Nat) : Int)
    omega
  ·
   rw [if_neg ho] at he ⊢
   have hn:=hg.name h3
   refine ⟨?_,?_,?_,?_,by show p + 1 ≤ 2000; omega,hr⟩
   · exact wf_leaf t.f1 (cJ hn)
   ·
    rw [iD,cB,Bool.and_true]
    unfold rightB
    dsimp only
    rw [if_pos rfl,hn]
    have h1 : numsOf 0 = 0:=by decide
    have h2 : argsOf 0 = 0:=by decide
    simp [h1,h2]
   · rw [kR,eC]; omega
   · rw [sW,rY]; rfl
structure Rg (c : Cmd) : Prop where
 l : c.hl = false → c.lo = 0
 h : c.hh = false → c.hi = 0
 l64 : I64 c.lo
 h64 : I64 c.hi
theorem end_right (s : ByteArray) (L : List Tok) (hL : ∀ t ∈ L,TokG t) (h : (endF s L).2.2.2 = 0) : ((endF s L).2.1 = false → (endF s L).1 = 0) ∧ I64 (endF s L).1 ∧ ∀ t ∈ (endF s L).2.2.1,TokG t:=by
 unfold endF at h ⊢
 by_cases hi : isF s L = true
 ·
  rw [if_pos hi] at h ⊢
  exact ⟨fun _ => rfl,(⟨by decide,by decide⟩ : I64 0),fun t ht => hL t (hY s L h t ht)⟩
 rw [if_neg hi] at h ⊢
 by_cases hn : (numF L).2.2 = 0
 ·
  rw [if_pos hn] at h ⊢
  obtain ⟨t,r,rfl,h1,_,hg,hr⟩:=iE [2,3] L hn hL
  have hnf : numF (t :: r) = (t,r,0):=h1
  rw [hnf] at h ⊢
  dsimp only at h ⊢
  exact ⟨fun e => (by rw [decide_eq_true h] at e; cases e),hg.n64,fun u hu => hr u (hY s r h u hu)⟩
 ·
  rw [if_neg hn] at h
  exact absurd h hn
theorem scope_right (L : List Tok) (hL : ∀ t ∈ L,TokG t) (h : (scopeF L).e = 0) (k : Cmd) : Rg { k with lo:=(scopeF L).lo,hi:=(scopeF L).hi,hl:=(scopeF L).hl,hh:=(scopeF L).hh } ∧ ∀ t ∈ (scopeF L).l,TokG t:=by
 unfold scopeF at h ⊢
 by_cases h1 : (markF LBR L).2 ≠ 0
 · rw [if_pos h1] at h; exact absurd h h1
 rw [if_neg h1] at h ⊢
 have h1:=Decidable.not_not.1 h1
 by_cases h2 : (endF CLN (markF LBR L).1).2.2.2 ≠ 0
 · rw [if_pos h2] at h; exact absurd h h2
 rw [if_neg h2] at h ⊢
 have h2:=Decidable.not_not.1 h2
 obtain ⟨a1,a2,a3⟩:=end_right CLN _ (fun t ht => hL t (hY LBR L h1 t ht)) h2
 obtain ⟨b1,b2,b3⟩:=end_right RBR _ a3 h
 exact ⟨⟨a1,b1,a2,b2⟩,b3⟩
structure FOut (k : Cmd) (l : List UInt8) (c : Cmd) : Prop where
 wd : c.word = k.word
 nl : c.names.length = k.names.length + l.count 110
 ns : ∀ s ∈ c.names,s ∈ k.names ∨ nameB s = true
 il : c.nums.length = k.nums.length + l.count 105
 iv : ∀ v ∈ c.nums,v ∈ k.nums ∨ I64 v
 rg : 114 ∈ l → Rg c
 rn : 114 ∉ l → c.lo = k.lo ∧ c.hi = k.hi ∧ c.hl = k.hl ∧ c.hh = k.hh
 ex : 101 ∈ l → Wf c.x ∧ RightB c.x = true
 en : 101 ∉ l → c.x = k.x
theorem gS : ∀ (l : List UInt8) (k : Cmd) (L : List Tok),okL (l.map (fun b => (b.toNat : Int))) = true → (∀ t ∈ L,TokG t) →
  (foldF (l.map (fun b => (b.toNat : Int))) k L 0).2.2 = 0 → FOut k l (foldF (l.map (fun b => (b.toNat : Int))) k L 0).1
 | [],k,L,_,hL,he => by
  rw [List.map_nil,foldF]
  exact ⟨rfl,rfl,fun s h => .inl h,rfl,fun v h => .inl h,fun h => (by cases h),fun _ => ⟨rfl,rfl,rfl,rfl⟩,fun h => (by cases h),fun _ => rfl⟩
 | b :: l,k,L,hok,hL,he => by
  rcases ok_lets hok with ⟨rfl,rfl⟩|⟨hb,hne,hok2⟩
  ·
   rw [List.map_cons,foldF,part_e,List.map_nil] at he ⊢
   dsimp only at he ⊢
   by_cases h1 : (exprF 40 0 L).e ≠ 0
   · rw [if_pos h1] at he; exact absurd he h1
   rw [if_neg h1,foldF] at he ⊢
   have ho:=expr_right 40 0 L hL (Int.le_refl _) (Decidable.not_not.1 h1)
   have hr : RightB (exprF 40 0 L).x = true:=by
    have h3:=ho.cnt
    have h4:=ho.le
    unfold RightB
    rw [ho.all,decide_eq_true ho.dep,decide_eq_true (show Ex.cnt (exprF 40 0 L).x ≤ 2000 by omega)]
    rfl
   exact ⟨rfl,rfl,fun s h => .inl h,rfl,fun v h => .inl h,fun h => (by simp at h),fun _ => ⟨rfl,rfl,rfl,rfl⟩,fun _ => ⟨ho.wf,hr⟩,fun h => by simp at h⟩
  ·
   rw [List.map_cons,foldF] at he ⊢
   rcases hb with rfl|rfl|rfl|rfl
   ·
    rw [part_n] at he ⊢
    dsimp only at he ⊢
    by_cases h1 : (takeF [1] L).2.2 ≠ 0
    · rw [if_pos h1] at he; exact absurd he h1
    rw [if_neg h1] at he ⊢
    obtain ⟨t,r,rfl,h2,h3,hg,hr⟩:=iE [1] L (Decidable.not_not.1 h1) hL
    rw [h2] at he ⊢
    dsimp only at he ⊢
    have ih:=gS l _ r hok2 hr he
    obtain ⟨a1,a2,a3,a4,a5,a6,a7,a8,a9⟩:=ih
    dsimp only at a1 a2 a3 a4 a5 a6 a7 a8 a9
    rw [List.length_append,List.length_singleton] at a2
    refine ⟨a1,by rw [a2,List.count_cons_self]; omega,fun s h => ?_,by rw [a4,List.count_cons_of_ne (by decide)],a5,fun h => a6 (by simpa using h),fun h => a7 (by simpa using h),fun h => a8 (by simpa using h),fun h => a9 (by simpa using h)⟩
    rcases a3 s h with h|h
    ·
     rcases List.mem_append.1 h with h|h
     · exact .inl h
     · rw [List.mem_singleton.1 h]; exact .inr (hg.name (List.mem_singleton.1 h3))
    · exact .inr h
   ·
    rw [part_i] at he ⊢
    dsimp only at he ⊢
    by_cases h1 : (numF L).2.2 ≠ 0
    · rw [if_pos h1] at he; exact absurd he h1
    rw [if_neg h1] at he ⊢
    obtain ⟨t,r,rfl,h2,h3,hg,hr⟩:=iE [2,3] L (Decidable.not_not.1 h1) hL
    have hnf : numF (t :: r) = (t,r,0):=h2
    rw [hnf] at he ⊢
    dsimp only at he ⊢
    have ih:=gS l _ r hok2 hr he
    obtain ⟨a1,a2,a3,a4,a5,a6,a7,a8,a9⟩:=ih
    dsimp only at a1 a2 a3 a4 a5 a6 a7 a8 a9
    rw [List.length_append,List.length_singleton] at a4
    refine ⟨a1,by rw [a2,List.count_cons_of_ne (by decide)],a3,by rw [a4,List.count_cons_self]; omega,fun s h => ?_,fun h => a6 (by simpa using h),fun h => a7 (by simpa using h),fun h => a8 (by simpa using h),fun h => a9 (by simpa using h)⟩
    rcases a5 s h with h|h
    ·
     rcases List.mem_append.1 h with h|h
     · exact .inl h
     · rw [List.mem_singleton.1 h]; exact .inr hg.n64
    · exact .inr h
   ·
    rw [part_r] at he ⊢
    dsimp only at he ⊢
    by_cases h1 : (scopeF L).e ≠ 0
    · rw [if_pos h1] at he; exact absurd he h1
    rw [if_neg h1] at he ⊢
    obtain ⟨s1,s2⟩:=scope_right L hL (Decidable.not_not.1 h1) k
    have ih:=gS l _ (scopeF L).l hok2 s2 he
    generalize (foldF (l.map (fun b => (b.toNat : Int))) { k with lo:=(scopeF L).lo,hi:=(scopeF L).hi,hl:=(scopeF L).hl,hh:=(scopeF L).hh } (scopeF L).l 0).1 = R at *
    obtain ⟨a1,a2,a3,a4,a5,a6,a7,a8,a9⟩:=ih
    dsimp only at a1 a2 a3 a4 a5 a6 a7 a8 a9
    refine ⟨a1,by rw [a2,List.count_cons_of_ne (by decide)],a3,by rw [a4,List.count_cons_of_ne (by decide)],a5,fun _ => ?_,fun h => absurd (by simp) h,fun h => a8 (by simpa using h),fun h => a9 (by simpa using h)⟩
    by_cases hm : 114 ∈ l
    · exact a6 hm
    ·
     obtain ⟨b1,b2,b3,b4⟩:=a7 hm
     obtain ⟨c1,c2,c3,c4⟩:=s1
     dsimp only at c1 c2 c3 c4
     exact ⟨by rw [b1,b3]; exact c1,by rw [b2,b4]; exact c2,by rw [b1]; exact c3,by rw [b2]; exact c4⟩
   ·
    rw [part_eq] at he ⊢
    dsimp only at he ⊢
    by_cases h1 : (markF ⟨#[61]⟩ L).2 ≠ 0
    · rw [if_pos h1] at he; exact absurd he h1
    rw [if_neg h1] at he ⊢
    have ih:=gS l _ _ hok2 (fun t ht => hL t (hY _ L (Decidable.not_not.1 h1) t ht)) he
    obtain ⟨a1,a2,a3,a4,a5,a6,a7,a8,a9⟩:=ih
    exact ⟨a1,by rw [a2,List.count_cons_of_ne (by decide)],a3,by rw [a4,List.count_cons_of_ne (by decide)],a5,fun h => a6 (by simpa using h),fun h => a7 (by simpa using h),fun h => a8 (by simpa using h),fun h => a9 (by simpa using h)⟩
theorem has_not (s : ByteArray) (b : UInt8) (h : b ∉ s.data.toList) : hasC s b = false:=by
 rw [← Bool.not_eq_true,kQ]; exact h
theorem parse_right (L : List Tok) (hL : ∀ t ∈ L,TokG t) (h : (parseC L).2.2 = 0) : rightC (parseC L).1 = true ∧ Ints (parseC L).1 ∧ Wf (parseC L).1.x ∧ (∀ s ∈ (parseC L).1.names,nameB s = true) ∧ (parseC L).2.1 = -1:=by
 cases L with
 | nil => cases h
 | cons t r =>
  have e : parseC (t :: r) = if t.f0 ≠ 1 then (zC,0,110) else if (shapeF t.f1).2 = false then (zC,0,110) else endC ((r.length : Int) + 1) (foldF (lets (shapeF t.f1).1) (wC t.f1) r 0):=rfl
  rw [e] at h ⊢
  by_cases h1 : t.f0 ≠ 1
  · rw [if_pos h1] at h; cases h
  rw [if_neg h1] at h ⊢
  by_cases h2 : (shapeF t.f1).2 = false
  · rw [if_pos h2] at h; cases h
  rw [if_neg h2] at h ⊢
  unfold endC at h ⊢
  by_cases h3 : (placeF ((r.length : Int) + 1) (foldF (lets (shapeF t.f1).1) (wC t.f1) r 0).2.1 (foldF (lets (shapeF t.f1).1) (wC t.f1) r 0).2.2).2 ≠ 0
  · rw [if_pos h3] at h; exact absurd h h3
  rw [if_neg h3] at h ⊢
  have h3:=Decidable.not_not.1 h3
  have h4 : (foldF (lets (shapeF t.f1).1) (wC t.f1) r 0).2.2 = 0:=by
   unfold placeF at h3
   by_cases h5 : (foldF (lets (shapeF t.f1).1) (wC t.f1) r 0).2.2 = 0
   · exact h5
   · rw [if_neg h5] at h3; exact absurd h3 h5
  have h6 : (placeF ((r.length : Int) + 1) (foldF (lets (shapeF t.f1).1) (wC t.f1) r 0).2.1 (foldF (lets (shapeF t.f1).1) (wC t.f1) r 0).2.2).1 = -1:=by
   unfold placeF at h3 ⊢
   rw [if_pos h4] at h3 ⊢
   by_cases h5 : (foldF (lets (shapeF t.f1).1) (wC t.f1) r 0).2.1 = []
   · rw [if_pos h5]
   · rw [if_neg h5] at h3; cases h3
  have ho:=gS (shapeF t.f1).1.data.toList (wC t.f1) r (eB t.f1).1 (fun u hu => hL u (List.mem_cons_of_mem _ hu)) h4
  have hfold : foldF ((shapeF t.f1).1.data.toList.map (fun b => (b.toNat : Int))) (wC t.f1) r 0 = foldF (lets (shapeF t.f1).1) (wC t.f1) r 0:=rfl
  rw [hfold] at ho
  dsimp only
  generalize (foldF (lets (shapeF t.f1).1) (wC t.f1) r 0).1 = c at *
  obtain ⟨a1,a2,a3,a4,a5,a6,a7,a8,a9⟩:=ho
  have hns : ∀ s ∈ c.names,nameB s = true:=fun s hs => by
   rcases a3 s hs with h|h
   · cases h
   · exact h
  have hiv : ∀ v ∈ c.nums,I64 v:=fun v hv => by
   rcases a5 v hv with h|h
   · cases h
   · exact h
  have h0 : I64 0:=⟨by decide,by decide⟩
  have hr64 : I64 c.lo ∧ I64 c.hi:=by
   by_cases hm : 114 ∈ (shapeF t.f1).1.data.toList
   · exact ⟨(a6 hm).l64,(a6 hm).h64⟩
   ·
    obtain ⟨b1,b2,_,_⟩:=a7 hm
    rw [b1,b2]
    exact ⟨h0,h0⟩
  have hwf : Wf c.x:=by
   by_cases hm : 101 ∈ (shapeF t.f1).1.data.toList
   · exact (a8 hm).1
   · rw [a9 hm]; exact wf_leaf _ (by decide)
  refine ⟨?_,⟨hiv,hr64.1,hr64.2⟩,hwf,hns,h6⟩
  have hw : c.word = t.f1:=a1
  unfold rightC
  rw [hw]
  have e1 : decide (cntC (shapeF t.f1).1 110 = (c.names.length : Int)) = true:=decide_eq_true (by
   show ((Lib.countByte (shapeF t.f1).1.data.toList 110 : Nat) : Int) = (c.names.length : Int)
   rw [a2]; unfold Lib.countByte; simp)
  have e2 : decide (cntC (shapeF t.f1).1 105 = (c.nums.length : Int)) = true:=decide_eq_true (by
   show ((Lib.countByte (shapeF t.f1).1.data.toList 105 : Nat) : Int) = (c.nums.length : Int)
   rw [a4]; unfold Lib.countByte; simp)
  have e3 : scopedB c.lo c.hi c.hl c.hh (hasC (shapeF t.f1).1 114) = true:=by
   show scopedB c.lo c.hi c.hl c.hh _ = true
   by_cases hm : 114 ∈ (shapeF t.f1).1.data.toList
   ·
    rw [(kQ _ _).2 hm]
    obtain ⟨b1,b2,_,_⟩:=a6 hm
    unfold scopedB
    rw [if_pos rfl]
    cases hl : c.hl <;> cases hh : c.hh <;> simp [b1,b2,hl,hh]
   ·
    rw [has_not _ _ hm]
    obtain ⟨b1,b2,b3,b4⟩:=a7 hm
    rw [b1,b2,b3,b4]
    rfl
  have e4 : c.names.all nameB = true:=List.all_eq_true.2 hns
  have e5 : (if hasC (shapeF t.f1).1 101 = true then RightB c.x else bareB c.x) = true:=by
   show (if hasC (shapeF t.f1).1 101 = true then RightB c.x else bareB c.x) = true
   by_cases hm : 101 ∈ (shapeF t.f1).1.data.toList
   · rw [if_pos ((kQ _ _).2 hm)]; exact (a8 hm).2
   ·
    rw [if_neg (by rw [kQ]; exact hm),a9 hm]
    show bareB zX = true
    decide +kernel
  rw [e1,e2,e3,e4,e5,show (shapeF t.f1).2 = true by simpa using h2]
  rfl
theorem good_w {s : ByteArray} (h : nameB s = true) : TokG (wTok s):=⟨fun _ => h,(⟨by decide,by decide⟩ : I64 0)⟩
theorem good_n {v : Int} (h : I64 v) : TokG (nTok v):=⟨fun e => (by have e : (2 : Int) = 1:=e; omega),h⟩
theorem mY (s : ByteArray) : TokG ⟨4,s,0⟩:=⟨fun e => (by have e : (4 : Int) = 1:=e; omega),(⟨by decide,by decide⟩ : I64 0)⟩
theorem ops_name : ∀ k : Fin 13,k.val ≠ 0 → nameB (opW (k.val : Int)) = true:=by decide +kernel
theorem op_name (o : Int) (h0 : 1 ≤ o) (h1 : o ≤ 12) : nameB (opW o) = true:=by
 have h:=ops_name ⟨o.toNat,by omega⟩ (by show o.toNat ≠ 0; omega)
 rwa [show ((⟨o.toNat,by omega⟩ : Fin 13).val : Int) = o by show (o.toNat : Int) = o; omega] at h
theorem seq_good : ∀ l : List (List Tok),(∀ a ∈ l,∀ t ∈ a,TokG t) → ∀ t ∈ seqW l,TokG t
 | [],_,t,ht => by
  rw [List.mem_singleton.1 (show t ∈ [mR] from ht)]; exact mY _
 | [a],h,t,ht => by
  rcases List.mem_append.1 (show t ∈ a ++ [mR] from ht) with ht|ht
  · exact h a (by simp) t ht
  · rw [List.mem_singleton.1 ht]; exact mY _
 | a :: b :: r,h,t,ht => by
  rcases List.mem_append.1 (show t ∈ a ++ mC :: seqW (b :: r) from ht) with ht|ht
  · exact h a (by simp) t ht
  ·
   rcases List.mem_cons.1 ht with ht|ht
   · rw [ht]; exact mY _
   · exact seq_good (b :: r) (fun a' ha' => h a' (by simp only [List.mem_cons] at ha' ⊢; exact .inr ha')) t ht
theorem wordsL_in {xs : List X} {a : List Tok} (h : a ∈ wordsL xs) : ∃ y ∈ xs,a = wordsX y:=by
 induction xs with
 | nil => rw [qW] at h; cases h
 | cons y ys ih =>
  rw [rM] at h
  rcases List.mem_cons.1 h with rfl|h
  · exact ⟨y,by simp,rfl⟩
  ·
   obtain ⟨z,hz,he⟩:=ih h
   exact ⟨z,by simp [hz],he⟩
theorem words_good (N : Nat) : ∀ x : X,cnt x ≤ N → Wf x → allR x = true → ∀ t ∈ wordsX x,TokG t:=by
 induction N with
 | zero => intro x hx; have:=sQ x; omega
 | succ N ih =>
  intro x hN hwf hR t ht
  have h1:=hR
  rw [iD,Bool.and_eq_true] at h1
  have h2:=h1.1
  unfold rightB at h2
  simp only [Bool.and_eq_true,decide_eq_true_eq] at h2
  obtain ⟨⟨⟨h3,h4⟩,h5⟩,h6⟩:=h2
  rw [oM] at ht
  by_cases h0 : x.f0 = 0
  ·
   rw [if_pos (.inl h0)] at ht
   rw [if_pos h0] at h6
   rw [List.mem_singleton.1 ht]
   exact good_w h6
  ·
   have hop:=hwf.op.1
   rw [if_neg (by omega)] at ht
   rcases List.mem_cons.1 ht with ht|ht
   · rw [ht]; exact good_w (op_name _ (by omega) h3)
   rcases List.mem_cons.1 ht with ht|ht
   · rw [ht]; exact mY _
   refine seq_good _ (fun a ha t ht => ?_) t ht
   rcases List.mem_append.1 ha with ha|ha
   ·
    obtain ⟨v,hv,rfl⟩:=List.mem_map.1 ha
    rw [List.mem_singleton.1 ht]
    exact good_n (hwf.nums v hv)
   ·
    obtain ⟨y,hy,rfl⟩:=wordsL_in ha
    exact ih y (by have:=nA hy; have:=sW x; omega) (hwf.child hy) (gM h1.2 hy) t ht
theorem end_good (n : Int) (b : Bool) (h : I64 n) : ∀ t ∈ endW n b,TokG t:=by
 intro t ht
 cases b
 · cases ht
 · rw [List.mem_singleton.1 (show t ∈ [nTok n] from ht)]; exact good_n h
theorem rng_good (c : Cmd) (hI : Ints c) : ∀ t ∈ rngW c,TokG t:=by
 intro t ht
 unfold rngW at ht
 rcases List.mem_cons.1 ht with ht|ht
 · rw [ht]; exact mY _
 rcases List.mem_append.1 ht with ht|ht
 · exact end_good _ _ hI.lo64 t ht
 rcases List.mem_cons.1 ht with ht|ht
 · rw [ht]; exact mY _
 rcases List.mem_append.1 ht with ht|ht
 · exact end_good _ _ hI.hi64 t ht
 · rw [List.mem_singleton.1 ht]; exact mY _
theorem tailN_mem {b : UInt8} {NS : List ByteArray} {s : ByteArray} (h : s ∈ tailN b NS) : s ∈ NS:=by
 unfold tailN at h
 split at h <;> first|exact List.mem_of_mem_drop h|exact h
theorem tailI_mem {b : UInt8} {ns : List Int} {s : Int} (h : s ∈ tailI b ns) : s ∈ ns:=by
 unfold tailI at h
 split at h <;> first|exact List.mem_of_mem_drop h|exact h
theorem cmd_good (c : Cmd) (hI : Ints c) : ∀ (l : List UInt8) (NS : List ByteArray) (ns : List Int),NS.length = l.count 110 → ns.length = l.count 105 → (∀ s ∈ NS,nameB s = true) → (∀ v ∈ ns,I64 v) → (101 ∈ l → Wf c.x ∧ allR c.x = true) → ∀ t ∈ cmdW c l NS ns,TokG t
 | [],_,_,_,_,_,_,_,t,ht => by rw [cmdW] at ht; cases ht
 | b :: l,NS,ns,e1,e2,h1,h2,h3,t,ht => by
  obtain ⟨t1,t2,t3,t4⟩:=zXG e1 e2
  rw [cmdW] at ht
  rcases List.mem_append.1 ht with ht|ht
  ·
   unfold partW at ht
   by_cases b1 : b = 110
   ·
    rw [if_pos b1] at ht
    obtain ⟨s,r,rfl⟩:=t3 b1
    rw [List.mem_singleton.1 (show t ∈ [wTok s] from ht)]
    exact good_w (h1 s (by simp))
   rw [if_neg b1] at ht
   by_cases b2 : b = 105
   ·
    rw [if_pos b2] at ht
    obtain ⟨s,r,rfl⟩:=t4 b2
    rw [List.mem_singleton.1 (show t ∈ [nTok s] from ht)]
    exact good_n (h2 s (by simp))
   rw [if_neg b2] at ht
   by_cases b3 : b = 101
   ·
    rw [if_pos b3] at ht
    obtain ⟨w1,w2⟩:=h3 (by simp [b3])
    exact words_good _ c.x (Nat.le_refl _) w1 w2 t ht
   rw [if_neg b3] at ht
   by_cases b4 : b = 114
   ·
    rw [if_pos b4] at ht
    exact rng_good c hI t ht
   rw [if_neg b4] at ht
   rw [List.mem_singleton.1 ht]
   exact mY _
  · exact cmd_good c hI l _ _ t1 t2 (fun s hs => h1 s (tailN_mem hs)) (fun s hs => h2 s (tailI_mem hs)) (fun h => h3 (by simp [h])) t ht
theorem wordsC_good {c : Cmd} (hI : Ints c) (hwf : Wf c.x) (hR : rightC c = true) : ∀ t ∈ wordsC c,TokG t:=by
 obtain ⟨h1,h2,h3,h4,h5⟩:=kW hR
 have hw : ∀ q ∈ shapeL,nameB q.2 = true:=by decide +kernel
 intro t ht
 rcases List.mem_cons.1 (show t ∈ wTok c.word :: cmdW c (shapeF c.word).1.data.toList c.names c.nums from ht) with ht|ht
 ·
  rw [ht]
  refine good_w ?_
  unfold shapeF at h1
  rcases gT c.word shapeL with h|⟨q,hq,h,he⟩
  · rw [h] at h1; cases h1
  ·
   have e : q.2 = c.word:=by
    have h4:=eq_of_beq he
    rw [Lib.toList_data,Lib.toList_data] at h4
    exact WideShapes.bytes_inj h4
   rw [← e]; exact hw q hq
 ·
  exact cmd_good c hI _ _ _ (by omega) (by omega) (fun s hs => List.all_eq_true.1 h4 s hs) hI.ints (fun hm => by
   have hB:=h5 hm
   unfold RightB at hB
   simp only [Bool.and_eq_true] at hB
   exact ⟨hwf,hB.1.1⟩) t ht
structure Ok (c : Cmd) : Prop where
 i : Ints c
 wf : Wf c.x
 r : rightC c = true
theorem Ok.names {c : Cmd} (h : Ok c) : ∀ s ∈ c.names,s.size ≤ 140737488351232:=fun s hs => cJ (List.all_eq_true.1 (kW h.r).2.2.2.1 s hs)
theorem Ok.x {c : Cmd} (h : Ok c) : cnt c.x ≤ 2000:=by
 by_cases hm : 101 ∈ (shapeF c.word).1.data.toList
 ·
  have hR:=(kW h.r).2.2.2.2 hm
  unfold RightB at hR
  simp only [Bool.and_eq_true,decide_eq_true_eq] at hR
  exact hR.2
 ·
  rw [bare_zero ((scoped_of h.r).2 (has_not _ _ hm))]
  rw [sW,rY]
  omega
theorem hasC_of {w W : World} {c : Cmd} {vN vM v2 v3 : Value} (h : GivesC w W c vN vM v2 v3) :
  ∃ A1 c1 A2 c2 A3 c3 A4 c4,vN = .slice A1 c.names.length c1 ∧ vM = .slice A2 c.nums.length c2 ∧ v2 = .slice A3 c.x.f2.length c3 ∧ v3 = .slice A4 c.x.f3.length c4 ∧ (Ints c → Wf c.x → (∀ s ∈ c.names,s.size ≤ 140737488351232) → HasC W c A1 c1 A2 c2 A3 c3 A4 c4):=by
 obtain ⟨h1,h2,h3⟩:=h
 obtain ⟨A1,c1,rfl⟩:=Kd.R_slice h1
 obtain ⟨A2,c2,rfl⟩:=Kd.R_slice h2
 obtain ⟨u2,u3,he,h5,h6⟩:=gX h3
 simp only [List.cons.injEq,true_and,and_true] at he
 obtain ⟨rfl,rfl⟩:=he
 obtain ⟨A3,c3,rfl⟩:=Kd.R_slice h5
 obtain ⟨A4,c4,rfl⟩:=Kd.R_slice h6
 obtain ⟨_,a1,b1⟩:=Kd.R_reads' h1
 obtain ⟨_,a2,b2⟩:=Kd.R_reads' h2
 obtain ⟨_,a3,b3⟩:=Kd.R_reads' h5
 obtain ⟨_,a4,b4⟩:=Kd.R_reads' h6
 exact ⟨A1,c1,A2,c2,A3,c3,A4,c4,rfl,rfl,rfl,rfl,fun hI hwf hs => ⟨a1,b1,a2,b2,⟨hwf,a3,b3,a4,b4⟩,hs,hI.ints,hI.lo64,hI.hi64⟩⟩
theorem dR (L : List Tok) (C : Cmd) (a g : Int) (hL : parseC L = (C,a,g)) (hT : g = 0 → ∀ t ∈ L,TokG t) (B : Option Addr) (n d : Nat) (w : World) (hn : L.length = n) (hK : Kd.C k61 w B n L) (hd : n ≤ d) (hC : Cal w) :
  Calls Tryd.prog 38 #[.slice B n d] w fun e w' => ∃ E1 f1 E2 f2 E3 f3 E4 f4,e = .returned (.tuple #[.agg (cmA C E1 f1 E2 f2 E3 f3 E4 f4),.int .i64 a,.int .i64 g]) ∧ (g = 0 → HasC w' C E1 f1 E2 f2 E3 f3 E4 f4) ∧ Below w.heap.size w w':=by
 subst hn
 refine (zXC L B _ d w rfl hK hd hC).mono ?_
 rintro e w' ⟨vN,vM,v2,v3,rfl,hg,hb⟩
 rw [hL] at hg ⊢
 dsimp only at hg ⊢
 obtain ⟨A1,c1,A2,c2,A3,c3,A4,c4,rfl,rfl,rfl,rfl,hh⟩:=hasC_of hg
 refine ⟨A1,c1,A2,c2,A3,c3,A4,c4,rfl,fun h0 => ?_,hb⟩
 have hr:=parse_right L (hT h0) (by rw [hL]; exact h0)
 rw [hL] at hr
 obtain ⟨r1,r2,r3,r4,_⟩:=hr
 exact hh r2 r3 (fun s hs => cJ (r4 s hs))
theorem less_first {c : Cmd} {C : Cmd} {a : Int} (h : parseC (wordsC c).tail = (C,a,0)) : C ≠ c:=by
 have h1:=zWM (c:=c) (L:=(wordsC c).tail) (by rw [List.length_tail]; have : 0 < (wordsC c).length:=by { unfold wordsC; simp }; omega) (by rw [h])
 rwa [h] at h1
theorem less_last {c : Cmd} {C : Cmd} {a : Int} (h : parseC ((wordsC c).take ((wordsC c).length - 1)) = (C,a,0)) : C ≠ c:=by
 have h1:=zWM (c:=c) (L:=(wordsC c).take ((wordsC c).length - 1)) (by rw [List.length_take]; have : 0 < (wordsC c).length:=by { unfold wordsC; simp }; omega) (by rw [h])
 rwa [h] at h1
theorem other_word {s : ByteArray} {r : List Tok} {C : Cmd} {a : Int} (h : parseC (wTok s :: r) = (C,a,0)) : C.word = s:=by
 have h1:=(parse_len (wTok s) r (by rw [h])).1
 rwa [h] at h1
theorem zXB (c : Cmd) : wordsC c = wTok c.word :: (wordsC c).tail:=rfl
def RdR (w0 W : World) (g : Nat) (L0 L : List Tok) (p e : Int) : Prop :=
 ∃ k : Nat,k ≤ L0.length ∧ L0.drop k = L ∧ IsS101 w0 W g L0 k p e ∧ Below w0.heap.size w0 W ∧ L0.length ≤ 9223372036854775800
theorem rd_at (L0 : List Tok) (k : Nat) {t : Tok} {r : List Tok} (h : L0.drop k = t :: r) : rd_T61 L0 (k : Int) = t ∧ k < L0.length ∧ L0.drop (k + 1) = r:=by
 have hl : k < L0.length:=by
  rcases Nat.lt_or_ge k L0.length with h1|h1
  · exact h1
  · rw [List.drop_of_length_le h1] at h; cases h
 rw [List.drop_eq_getElem_cons hl] at h
 injection h with h1 h2
 refine ⟨?_,hl,h2⟩
 unfold rd_T61
 rw [Int.toNat_natCast,List.getD_eq_getElem?_getD,List.getElem?_eq_getElem hl,Option.getD_some]
 exact h1
section
variable {w0 w W W2 : World} {g : Nat} {L0 L : List Tok} {p e : Int}
theorem RdR.keep (h : RdR w0 W g L0 L p e) (hk : Below W.heap.size W W2) : RdR w0 W2 g L0 L p e:=by
 obtain ⟨k,h1,h2,⟨A0,c0,h3,h4,h5⟩,h6,h7⟩:=h
 exact ⟨k,h1,h2,⟨A0,c0,(hk.block g (wT h3)).trans h3,h4,h5⟩,xN h6 h6.size hk,h7⟩
theorem RdR.mv (h : RdR w0 W g L0 L p e) {S : Nat → Prop} (hk : Kept W W2 S) (hB : Below w0.heap.size w0 W2) (hg : ¬ S g) : RdR w0 W2 g L0 L p e:=by
 obtain ⟨k,h1,h2,⟨A0,c0,h3,h4,h5⟩,h6,h7⟩:=h
 exact ⟨k,h1,h2,⟨A0,c0,(hk.2 g (wT h3) hg).trans h3,h4,h5⟩,hB,h7⟩
theorem RdR.lt (h : RdR w0 W g L0 L p e) : g < W.heap.size:=by
 obtain ⟨k,h1,h2,⟨A0,c0,h3,h4,h5⟩,h6,h7⟩:=h
 exact wT h3
theorem RdR.ge (h : RdR w0 W g L0 L p e) : w0.heap.size ≤ g:=by
 obtain ⟨k,h1,h2,⟨A0,c0,h3,h4,h5⟩,h6,h7⟩:=h
 exact h4
theorem RdR.low (h : RdR w0 W g L0 L p e) : Below w0.heap.size w0 W:=by
 obtain ⟨k,h1,h2,h3,h6,h7⟩:=h
 exact h6
end
theorem zWJ {P : Program} {fn : Func} {p : Tmp} {ty : TypeId} (h : fn.results = #[.cell p ty]) (tmps : Array Value) (w : World) (g : Nat) (t : TypeId) (cs : Array Value) (fr : Nat × Nat) (d : TypeDesc)
  (hp : tmps.getD p undef = .pointer (some ⟨g,0,none⟩)) (hg : w.heap[g]? = some (.cells cs t fr))
  (hu : P.underlying ty = some d) (hd : (match d with|.struct _|.array _ _ => true|_ => false) = true) (hi : (P.info? ty).map (·.size) = some cs.size) :
  (results fn tmps).run P w = .ok (.agg cs) w:=by
 have hp' : tmps[p]?.getD undef = .pointer (some ⟨g,0,none⟩):=by simpa using hp
 simp [results,h,hp',asAddr,run_loadVar_row w g t ty cs fr d hg hu hd hi]
structure RxSt (w0 w W : World) (g b6 b : Nat) (op : Int) (L0 L : List Tok) (p e : Int) (ns : List Int) (ys : List X) (v2 v3 : Value) : Prop where
 isp : RdR w0 W g L0 L p e
 kept : Kept w W (At g)
 box : W.heap[b]? = some (.cells #[.int .u8 op,.string nil8,v2,v3] TX (0,0))
 zero : W.heap[b6]? = some (.cells zCells TX (0,0))
 nums : kI.R 2 W (b + 1) (fun _ => True) v2 ns
 args : kX.R TX W (b + 1) (fun _ => True) v3 ys
 lg : g < w.heap.size
 l6 : w.heap.size ≤ b6
 lb : b6 < b
section
variable {w0 w W W2 : World} {g b6 b : Nat} {op : Int} {L0 L L2 : List Tok} {p p2 e e2 : Int} {ns : List Int} {ys : List X} {v2 v3 : Value}
theorem RxSt.at (h : RxSt w0 w W g b6 b op L0 L p e ns ys v2 v3) (hI : RdR w0 W2 g L0 L2 p2 e2) (hk : Kept W W2 (At g)) : RxSt w0 w W2 g b6 b op L0 L2 p2 e2 ns ys v2 v3:=by
 have h1:=h.lg
 have h2:=h.l6
 have h3:=h.lb
 exact ⟨hI,h.kept.then_ hk (fun k hs => .inl hs),uO h.box hk (fun hs => by have : b = g:=hs; omega),uO h.zero hk (fun hs => by have : b6 = g:=hs; omega),
  R_at h.nums hk (by omega),R_at h.args hk (by omega),h1,h2,h3⟩
theorem RxSt.lt (h : RxSt w0 w W g b6 b op L0 L p e ns ys v2 v3) : b < W.heap.size:=wT h.box
theorem RxSt.grown_isp (h : RxSt w0 w W g b6 b op L0 L p e ns ys v2 v3) {row : Option Nat} (hg : W.grownBy W2 row) (hr : ∀ k,row = some k → b + 1 ≤ k) : RdR w0 W2 g L0 L p e:=by
 have h1:=h.lg
 have h2:=h.l6
 have h3:=h.lb
 have h4:=h.isp.ge
 have h5:=h.lt
 exact h.isp.mv (S:=fun k => b + 1 ≤ k) (Kept.of_grown hg (Kept.refl W _) (fun k hk => .inl (hr k hk))) (h.isp.low.grown hg (by omega) (fun k hk => by have:=hr k hk; omega)) (by show ¬ (b + 1 ≤ g); omega)
theorem RxSt.num (h : RxSt w0 w W g b6 b op L0 L p e ns [] v2 (.slice none 0 0)) {n : Int} {u : Value} (hR : kI.R 2 W2 (b + 1) (fun _ => True) u (ns ++ [n])) (hg : W.grownBy W2 v2.ownBlock) :
  RxSt w0 w (W2.setCell ⟨b,2,none⟩ u) g b6 b op L0 L p e (ns ++ [n]) [] u (.slice none 0 0):=by
 have h1:=h.lg
 have h2:=h.l6
 have h3:=h.lb
 have h5:=h.lt
 have hr:=Kd.R_base h.nums
 have hbox : W2.heap[b]? = _:=(hg.block b h5 (fun he => by have:=hr b he.symm; omega)).trans h.box
 have hz : W2.heap[b6]? = _:=(hg.block b6 (by omega) (fun he => by have:=hr b6 he.symm; omega)).trans h.zero
 have hK : Kept w W2 (At g):=Kept.of_grown hg h.kept (fun k hk => .inr (by have:=hr k hk; omega))
 have hI:=h.grown_isp hg hr
 exact ⟨hI.mv (S:=fun k => k = b) (Kept.setCell (Kept.refl _ (fun k => k = b)) (p:=⟨b,2,none⟩) (.inl rfl) u) (zQ hI.low (by have:=h.isp.ge; show _ ≤ b; omega)) (by show ¬ (g = b); omega),yL hK 2 u (by omega),
  zF hbox 2 u rfl,wV hz (by show b ≠ b6; omega) u,wE hR (by omega) 2 u,Kd.R_nil _ _ _ _ _,h1,h2,h3⟩
theorem RxSt.arg (h : RxSt w0 w W g b6 b op L0 L p e ns ys v2 v3) {y : X} {u : Value} (hR : kX.R TX W2 (b + 1) (fun _ => True) u (ys ++ [y])) (hg : W.grownBy W2 v3.ownBlock) :
  RxSt w0 w (W2.setCell ⟨b,3,none⟩ u) g b6 b op L0 L p e ns (ys ++ [y]) v2 u:=by
 have h1:=h.lg
 have h2:=h.l6
 have h3:=h.lb
 have h5:=h.lt
 have hr:=Kd.R_base h.args
 have hbox : W2.heap[b]? = _:=(hg.block b h5 (fun he => by have:=hr b he.symm; omega)).trans h.box
 have hz : W2.heap[b6]? = _:=(hg.block b6 (by omega) (fun he => by have:=hr b6 he.symm; omega)).trans h.zero
 have hK : Kept w W2 (At g):=Kept.of_grown hg h.kept (fun k hk => .inr (by have:=hr k hk; omega))
 have hI:=h.grown_isp hg hr
 exact ⟨hI.mv (S:=fun k => k = b) (Kept.setCell (Kept.refl _ (fun k => k = b)) (p:=⟨b,3,none⟩) (.inl rfl) u) (zQ hI.low (by have:=h.isp.ge; show _ ≤ b; omega)) (by show ¬ (g = b); omega),yL hK 3 u (by omega),
  zF hbox 3 u rfl,wV hz (by show b ≠ b6; omega) u,wE (Kd.R_over h.nums h.args (fun q hq => by simp [Kd.E,kI,Kd.int,Kd.scalar] at hq; subst hq; decide) hg) (by omega) 3 u,wE hR (by omega) 3 u,h1,h2,h3⟩
theorem RxSt.box_grown (h : RxSt w0 w W g b6 b op L0 L p e ns ys v2 v3) {row : Option Nat} (hg : W.grownBy W2 row) (hr : ∀ k,row = some k → b + 1 ≤ k) : W2.heap[b]? = some (.cells #[.int .u8 op,.string nil8,v2,v3] TX (0,0)) :=
 (hg.block b h.lt (fun he => by have:=hr b he.symm; omega)).trans h.box
theorem RxSt.close (h : RxSt w0 w W g b6 b op L0 L p e ns ys v2 v3) (hk : Kept W W2 (At b6)) (hB : Below w0.heap.size w0 W2) : RdR w0 W2 g L0 L p e ∧ Kept w W2 (At g):=by
 have h1:=h.lg
 have h2:=h.l6
 exact ⟨h.isp.mv hk hB (by show ¬ (g = b6); omega),h.kept.then_ hk (fun k hs => .inr (by have : k = b6:=hs; omega))⟩
theorem RxSt.done (h : RxSt w0 w W g b6 b op L0 L p e ns ys v2 v3) (hk : Kept W W2 (At b6)) : Gives w W2 ⟨op,nil8,ns,ys⟩ v2 v3:=by
 have h2:=h.l6
 have h3:=h.lb
 exact rJ _ _ _ ⟨op,nil8,ns,ys⟩ (Kd.R_lower (R_at h.nums hk (by omega)) (by omega)) (Kd.R_lower (R_at h.args hk (by omega)) (by omega))
end
def contF (F : Int → List Tok → Res) (nn mm k : Nat) (x : X) (p : Int) (L : List Tok) : Res :=
 if k = 0 then stepsF F nn mm mm x p L
 else if (markF (if k = mm then RPA else COM) L).2 ≠ 0 then ⟨zX,(markF (if k = mm then RPA else COM) L).1,p,(markF (if k = mm then RPA else COM) L).2⟩
 else stepsF F nn mm (mm - k) x p (markF (if k = mm then RPA else COM) L).1
def Dead (R : Res) (L : List Tok) (e : Int) : Prop:=e ≠ 0 ∧ R.l = L ∧ R.e = e
def Inv1 (F : Int → List Tok → Res) (nn mm k : Nat) (R : Res) (x : X) (L : List Tok) (p e : Int) : Prop:=(e = 0 ∧ (0 ≤ p ∧ p ≤ 2000) ∧ contF F nn mm k x p L = R) ∨ Dead R L e
def Inv2 (F : Int → List Tok → Res) (nn mm k : Nat) (R : Res) (x : X) (L : List Tok) (p e : Int) : Prop:=(e = 0 ∧ (0 ≤ p ∧ p ≤ 2000) ∧ stepsF F nn mm (mm - k) x p L = R) ∨ Dead R L e
section
variable {F : Int → List Tok → Res} {nn mm k : Nat} {R : Res} {x : X} {L : List Tok} {p e : Int}
theorem Inv1.ok (h : Inv1 F nn mm k R x L p e) : e = 0 → 0 ≤ p ∧ p ≤ 2000:=fun he => h.elim (fun h => h.2.1) (fun h => absurd he h.1)
theorem Inv2.ok (h : Inv2 F nn mm k R x L p e) : e = 0 → 0 ≤ p ∧ p ≤ 2000:=fun he => h.elim (fun h => h.2.1) (fun h => absurd he h.1)
end
structure RySt (w0 w W : World) (g : Nat) (L0 L : List Tok) (p e : Int) : Prop where
 isp : RdR w0 W g L0 L p e
 kept : Kept w W (At g)
 zero : W.heap[w.heap.size]? = some (.cells zCells TX (0,0))
 lg : g < w.heap.size
section
variable {w0 w W W2 : World} {g : Nat} {L0 L L2 : List Tok} {p p2 e e2 : Int}
theorem RySt.at (h : RySt w0 w W g L0 L p e) (hI : RdR w0 W2 g L0 L2 p2 e2) (hk : Kept W W2 (At g)) : RySt w0 w W2 g L0 L2 p2 e2:=by
 have h1:=h.lg
 exact ⟨hI,h.kept.then_ hk (fun k hs => .inl hs),uO h.zero hk (fun hs => by have : w.heap.size = g:=hs; omega),h1⟩
theorem RySt.later (h : RySt w0 w W g L0 L p e) (hb : Below W.heap.size W W2) : RySt w0 w W2 g L0 L p e:=h.at (h.isp.keep hb) (Kept.of_below hb _)
theorem RySt.close (h : RySt w0 w W g L0 L p e) (hk : Kept W W2 (At w.heap.size)) (hB : Below w0.heap.size w0 W2) : RdR w0 W2 g L0 L p e ∧ Kept w W2 (At g):=by
 have h1:=h.lg
 exact ⟨h.isp.mv hk hB (by show ¬ (g = w.heap.size); omega),h.kept.then_ hk (fun k hs => .inr (by have : k = w.heap.size:=hs; omega))⟩
theorem RySt.sz (h : RySt w0 w W g L0 L p e) : w.heap.size < W.heap.size:=wT h.zero
theorem RxSt.later {b6 b : Nat} {op : Int} {ns : List Int} {ys : List X} {v2 v3 : Value} (h : RxSt w0 w W g b6 b op L0 L p e ns ys v2 v3) (hb : Below W.heap.size W W2) : RxSt w0 w W2 g b6 b op L0 L p e ns ys v2 v3:=h.at (h.isp.keep hb) (Kept.of_below hb _)
theorem RdR.facts (h : RdR w0 W g L0 L p e) : ∃ (k : Nat) (A0 : Option Addr) (c0 : Nat),k ≤ L0.length ∧ L0.drop k = L ∧ W.cell? ⟨g,0,none⟩ = some (.slice A0 L0.length c0) ∧ W.cell? ⟨g,1,none⟩ = some (.int .i64 k) ∧ W.cell? ⟨g,2,none⟩ = some (.int .i64 p) ∧ W.cell? ⟨g,3,none⟩ = some (.int .i64 e) ∧ W.frozen? ⟨g,2,none⟩ = false ∧ L0.length ≤ 9223372036854775800 ∧
  ∀ t r,L = t :: r → ∃ ad,A0 = some ad ∧ W.cell? (ad.add (k * 3)) = some (.int .u8 t.f0) ∧ k < L0.length:=by
 obtain ⟨k,h1,h2,⟨A0,c0,h3,h4,h5⟩,h6,h7⟩:=h
 refine ⟨k,A0,c0,h1,h2,(zK h3 0).trans rfl,(zK h3 1).trans rfl,(zK h3 2).trans rfl,(zK h3 3).trans rfl,zP h3 2,h7,?_⟩
 rintro t r rfl
 obtain ⟨q1,q2,q3⟩:=rd_at L0 k h2
 obtain ⟨ad,rfl,c1,c2,c3⟩:=at_T61 (Kd.C_below h5 h6) (k : Int) (by omega) (by omega)
 rw [q1] at c1
 exact ⟨ad,rfl,c1,q2⟩
theorem RdR.more (h : RdR w0 W g L0 L p e) (q : Int) : RdR w0 (W.setCell ⟨g,2,none⟩ (.int .i64 q)) g L0 L q e:=by
 obtain ⟨k,h1,h2,⟨A0,c0,h3,h4,h5⟩,h6,h7⟩:=h
 exact ⟨k,h1,h2,⟨A0,c0,zF h3 2 _ rfl,h4,h5⟩,zQ h6 h4,h7⟩
end
structure RxRel (w0 w wb wr : World) (g : Nat) (op : Int) (L0 : List Tok) (nn aa : Nat) (F : Int → List Tok → Res) (R : Res) (k : Nat) (L : List Tok) (p e : Int) (ns : List Int) (ys : List X) (v2 v3 : Value) : Prop where
 k1 : k ≤ nn + aa
 len : ns.length + ys.length = k
 nil : k ≤ nn → ys = [] ∧ v3 = .slice none 0 0
 inv : Inv1 F nn (nn + aa) k R ⟨op,nil8,ns,ys⟩ L p e
 st : RxSt w0 w wr g w.heap.size wb.heap.size op L0 L p e ns ys v2 v3
section
variable {w0 w W W2 : World} {g : Nat} {L0 L : List Tok} {p e : Int}
end
theorem place_ok {a : Int} {L : List Tok} {e : Int} (h : (placeF a L e).2 = 0) : e = 0 ∧ (placeF a L e).1 = -1:=by
 unfold placeF at h ⊢
 by_cases he : e = 0
 ·
  rw [if_pos he] at h ⊢
  by_cases hL : L = []
  ·
   rw [if_pos hL] at h ⊢
   exact ⟨he,rfl⟩
  ·
   rw [if_neg hL] at h
   cases h
 ·
  rw [if_neg he] at h
  exact absurd h he
structure RaSt (w0 W : World) (g b B : Nat) (L0 L : List Tok) (p e : Int) (c : Cmd) (vN vM v2 v3 : Value) : Prop where
 isp : RdR w0 W g L0 L p e
 box : W.heap[b]? = some (.cells (cCells c vN vM v2 v3) TC (0,0))
 names : kT.R TS W B (fun _ => True) vN c.names
 nums : kI.R 2 W B (fun _ => True) vM c.nums
 expr : kX.M W B (fun _ => True) c.x [.int .u8 c.x.f0,.string c.x.f1,v2,v3]
 gb : g < b
 bB : b < B
section
variable {w0 w W W2 : World} {g b B : Nat} {L0 L L2 : List Tok} {p p2 e e2 : Int} {c : Cmd} {vN vM v2 v3 : Value}
theorem RaSt.at (h : RaSt w0 W g b B L0 L p e c vN vM v2 v3) (hI : RdR w0 W2 g L0 L2 p2 e2) (hk : Kept W W2 (At g)) : RaSt w0 W2 g b B L0 L2 p2 e2 c vN vM v2 v3:=by
 have h1:=h.gb
 have h2:=h.bB
 exact ⟨hI,uO h.box hk (fun hs => by have : b = g:=hs; omega),R_at h.names hk (by omega),R_at h.nums hk (by omega),M_at h.expr hk (by omega),h1,h2⟩
theorem RaSt.later (h : RaSt w0 W g b B L0 L p e c vN vM v2 v3) (hb : Below W.heap.size W W2) : RaSt w0 W2 g b B L0 L p e c vN vM v2 v3:=h.at (h.isp.keep hb) (Kept.of_below hb _)
theorem RaSt.lt (h : RaSt w0 W g b B L0 L p e c vN vM v2 v3) : b < W.heap.size:=wT h.box
theorem RaSt.grown_isp (h : RaSt w0 W g b B L0 L p e c vN vM v2 v3) (hB : B ≤ W.heap.size) {row : Option Nat} (hg : W.grownBy W2 row) (hr : ∀ k,row = some k → B ≤ k) : RdR w0 W2 g L0 L p e:=by
 have h1:=h.gb
 have h2:=h.bB
 have h4:=h.isp.ge
 exact h.isp.mv (S:=fun k => B ≤ k) (Kept.of_grown hg (Kept.refl W _) (fun k hk => .inl (hr k hk))) (h.isp.low.grown hg (by omega) (fun k hk => by have:=hr k hk; omega)) (by show ¬ (B ≤ g); omega)
theorem RaSt.grown_box (h : RaSt w0 W g b B L0 L p e c vN vM v2 v3) {row : Option Nat} (hg : W.grownBy W2 row) (hr : ∀ k,row = some k → B ≤ k) : W2.heap[b]? = some (.cells (cCells c vN vM v2 v3) TC (0,0)) :=
 (hg.block b h.lt (fun he => by have:=hr b he.symm; have:=h.bB; omega)).trans h.box
theorem RaSt.setNames (h : RaSt w0 W g b B L0 L p e c vN vM sN sN) (hx : c.x = zX) (hB : B ≤ W.heap.size) {t : ByteArray} {u : Value} (hR : kT.R TS W2 B (fun _ => True) u (c.names ++ [t])) (hg : W.grownBy W2 vN.ownBlock) :
  RaSt w0 (W2.setCell ⟨b,1,none⟩ u) g b B L0 L p e { c with names:=c.names ++ [t] } u vM sN sN:=by
 have h1:=h.gb
 have h2:=h.bB
 have h4:=h.isp.ge
 have hr:=Kd.R_base h.names
 have hI:=h.grown_isp hB hg hr
 exact ⟨hI.mv (S:=At b) (by (with_reducible repeat (first|exact Kept.refl _ _|apply Kept.alloc|apply Kept.drewN|apply Kept.drew|refine xL ?_ _ _|refine yL ?_ _ _ (Nat.le_refl _)|refine yL ?_ _ _ (by first|assumption|omega)))) (zQ hI.low (by show _ ≤ b; omega)) (by show ¬ (g = b); omega),zF (h.grown_box hg hr) 1 u rfl,
  wE hR h2 1 u,wE (Kd.R_over h.nums h.names (fun q hq => by simp [Kd.E,kI,Kd.int,Kd.scalar] at hq; subst hq; decide) hg) h2 1 u,by
   show kX.M _ B _ c.x [.int .u8 c.x.f0,.string c.x.f1,sN,sN]
   rw [hx]
   exact rJ _ _ _ zX (Kd.R_nil _ _ _ _ _) (Kd.R_nil _ _ _ _ _),h1,h2⟩
theorem RaSt.setNums (h : RaSt w0 W g b B L0 L p e c vN vM sN sN) (hx : c.x = zX) (hB : B ≤ W.heap.size) {n : Int} {u : Value} (hR : kI.R 2 W2 B (fun _ => True) u (c.nums ++ [n])) (hg : W.grownBy W2 vM.ownBlock) :
  RaSt w0 (W2.setCell ⟨b,2,none⟩ u) g b B L0 L p e { c with nums:=c.nums ++ [n] } vN u sN sN:=by
 have h1:=h.gb
 have h2:=h.bB
 have h4:=h.isp.ge
 have hr:=Kd.R_base h.nums
 have hI:=h.grown_isp hB hg hr
 exact ⟨hI.mv (S:=At b) (by (with_reducible repeat (first|exact Kept.refl _ _|apply Kept.alloc|apply Kept.drewN|apply Kept.drew|refine xL ?_ _ _|refine yL ?_ _ _ (Nat.le_refl _)|refine yL ?_ _ _ (by first|assumption|omega)))) (zQ hI.low (by show _ ≤ b; omega)) (by show ¬ (g = b); omega),zF (h.grown_box hg hr) 2 u rfl,
  wE (Kd.R_over h.names h.nums (fun q hq => by simp [Kd.E,kT,Kd.string,Kd.scalar] at hq; subst hq; decide) hg) h2 2 u,wE hR h2 2 u,by
   show kX.M _ B _ c.x [.int .u8 c.x.f0,.string c.x.f1,sN,sN]
   rw [hx]
   exact rJ _ _ _ zX (Kd.R_nil _ _ _ _ _) (Kd.R_nil _ _ _ _ _),h1,h2⟩
theorem RaSt.setRange (h : RaSt w0 W g b B L0 L p e c vN vM sN sN) (hx : c.x = zX) (r : Rng) :
  RaSt w0 ((((W.setCell ⟨b,3,none⟩ (.int .i64 r.lo)).setCell ⟨b,4,none⟩ (.int .i64 r.hi)).setCell ⟨b,5,none⟩ (.bool r.hl)).setCell ⟨b,6,none⟩ (.bool r.hh)) g b B L0 L p e { c with lo:=r.lo,hi:=r.hi,hl:=r.hl,hh:=r.hh } vN vM sN sN:=by
 have h1:=h.gb
 have h2:=h.bB
 have h4:=h.isp.ge
 have hw0 : w0.heap.size ≤ b:=by omega
 exact ⟨h.isp.mv (S:=At b) (by (with_reducible repeat (first|exact Kept.refl _ _|apply Kept.alloc|apply Kept.drewN|apply Kept.drew|refine xL ?_ _ _|refine yL ?_ _ _ (Nat.le_refl _)|refine yL ?_ _ _ (by first|assumption|omega)))) (by (with_reducible repeat (first|exact h.isp.low|apply zY|apply zV|apply zU|refine zQ ?_ (by first|assumption|omega)))) (by show ¬ (g = b); omega),zF (zF (zF (zF h.box 3 _ rfl) 4 _ rfl) 5 _ rfl) 6 _ rfl,
  wE (wE (wE (wE h.names h2 3 _) h2 4 _) h2 5 _) h2 6 _,wE (wE (wE (wE h.nums h2 3 _) h2 4 _) h2 5 _) h2 6 _,by
   show kX.M _ B _ c.x [.int .u8 c.x.f0,.string c.x.f1,sN,sN]
   rw [hx]
   exact rJ _ _ _ zX (Kd.R_nil _ _ _ _ _) (Kd.R_nil _ _ _ _ _),h1,h2⟩
theorem RaSt.setExpr (h : RaSt w0 W g b B L0 L p e c vN vM v2 v3) {x : X} {u2 u3 : Value} (hx : kX.M W B (fun _ => True) x [.int .u8 x.f0,.string x.f1,u2,u3]) :
  RaSt w0 ((((W.setCell ⟨b,7,none⟩ (.int .u8 x.f0)).setCell ⟨b,8,none⟩ (.string x.f1)).setCell ⟨b,9,none⟩ u2).setCell ⟨b,10,none⟩ u3) g b B L0 L p e { c with x:=x } vN vM u2 u3:=by
 have h1:=h.gb
 have h2:=h.bB
 have h4:=h.isp.ge
 have hw0 : w0.heap.size ≤ b:=by omega
 exact ⟨h.isp.mv (S:=At b) (by (with_reducible repeat (first|exact Kept.refl _ _|apply Kept.alloc|apply Kept.drewN|apply Kept.drew|refine xL ?_ _ _|refine yL ?_ _ _ (Nat.le_refl _)|refine yL ?_ _ _ (by first|assumption|omega)))) (by (with_reducible repeat (first|exact h.isp.low|apply zY|apply zV|apply zU|refine zQ ?_ (by first|assumption|omega)))) (by show ¬ (g = b); omega),zF (zF (zF (zF h.box 7 _ rfl) 8 _ rfl) 9 _ rfl) 10 _ rfl,
  wE (wE (wE (wE h.names h2 7 _) h2 8 _) h2 9 _) h2 10 _,wE (wE (wE (wE h.nums h2 7 _) h2 8 _) h2 9 _) h2 10 _,M_at hx (by (with_reducible repeat (first|exact Kept.refl _ _|apply Kept.alloc|apply Kept.drewN|apply Kept.drew|refine xL ?_ _ _|refine yL ?_ _ _ (Nat.le_refl _)|refine yL ?_ _ _ (by first|assumption|omega)))) h2,h1,h2⟩
theorem RaSt.givesC (h : RaSt w0 W g b B L0 L p e c vN vM v2 v3) {j : Nat} (hj : j < B) (hk : Kept W W2 (At j)) (hw : w.heap.size ≤ B) : GivesC w W2 c vN vM v2 v3 :=
 ⟨Kd.R_lower (R_at h.names hk hj) hw,Kd.R_lower (R_at h.nums hk hj) hw,kX.M_lower hw (M_at h.expr hk hj)⟩
theorem RaSt.slices (h : RaSt w0 W g b B L0 L p e c vN vM v2 v3) : ∃ A0 n0 c0 A1 n1 c1 A2 n2 c2 A3 n3 c3,vN = .slice A0 n0 c0 ∧ vM = .slice A1 n1 c1 ∧ v2 = .slice A2 n2 c2 ∧ v3 = .slice A3 n3 c3:=by
 obtain ⟨A0,c0,e0⟩:=Kd.R_slice h.names
 obtain ⟨A1,c1,e1⟩:=Kd.R_slice h.nums
 obtain ⟨u2,u3,he,h2,h3⟩:=gX h.expr
 simp only [List.cons.injEq,true_and,and_true] at he
 obtain ⟨rfl,rfl⟩:=he
 obtain ⟨A2,c2,e2⟩:=Kd.R_slice h2
 obtain ⟨A3,c3,e3⟩:=Kd.R_slice h3
 exact ⟨A0,_,c0,A1,_,c1,A2,_,c2,A3,_,c3,e0,e1,e2,e3⟩
end
def InvC (ls : List Int) (R : Cmd × List Tok × Int) (c : Cmd) (L : List Tok) (p e : Int) : Prop :=
 (e = 0 ∧ (0 ≤ p ∧ p ≤ 2000) ∧ foldF ls c L p = R) ∨ (e ≠ 0 ∧ R.2.1 = L ∧ R.2.2 = e)
theorem InvC.ok {ls : List Int} {R : Cmd × List Tok × Int} {c : Cmd} {L : List Tok} {p e : Int} (h : InvC ls R c L p e) : e = 0 → 0 ≤ p ∧ p ≤ 2000:=fun he => h.elim (fun h => h.2.1) (fun h => absurd he h.1)
theorem InvC.step {l : Int} {ls : List Int} {R : Cmd × List Tok × Int} {c c9 : Cmd} {L L9 : List Tok} {p e p9 e9 : Int} (h : InvC (l :: ls) R c L p e)
  (h1 : e = 0 → L9 = (partF l c L p).2.1 ∧ e9 = (partF l c L p).2.2.2 ∧ (e9 = 0 → c9 = (partF l c L p).1 ∧ p9 = (partF l c L p).2.2.1)) (h2 : e ≠ 0 → L9 = L ∧ e9 = e) : InvC ls R c9 L9 p9 e9:=by
 rcases h with ⟨h0,hp,hf⟩|h
 ·
  obtain ⟨q1,q2,q3⟩:=h1 h0
  rw [foldF] at hf
  by_cases hz : (partF l c L p).2.2.2 = 0
  ·
   rw [if_neg (by rw [hz]; simp)] at hf
   have hz9 : e9 = 0:=by rw [q2]; exact hz
   obtain ⟨q4,q5⟩:=q3 hz9
   have hb:=(cG l c L p hp.1 hp.2).2.2 hz
   rw [← q4,← q1,← q5] at hf
   rw [← q5] at hb
   exact .inl ⟨hz9,hb,hf⟩
  ·
   rw [if_pos hz] at hf
   refine .inr ⟨by rw [q2]; exact hz,?_,?_⟩
   · rw [← hf,q1]
   · rw [← hf,q2]
 ·
  obtain ⟨q1,q2⟩:=h2 h.1
  exact .inr ⟨by rw [q2]; exact h.1,by rw [q1]; exact h.2.1,by rw [q2]; exact h.2.2⟩
theorem InvC.fin {R : Cmd × List Tok × Int} {c : Cmd} {L : List Tok} {p e : Int} (h : InvC [] R c L p e) (a : Int) : placeF a L e = placeF a R.2.1 R.2.2 ∧ ((placeF a L e).2 = 0 → R.1 = c ∧ (placeF a L e).1 = -1):=by
 rcases h with ⟨rfl,hp,hf⟩|h
 ·
  rw [foldF] at hf
  rw [← hf]
  exact ⟨rfl,fun h => ⟨rfl,(place_ok h).2⟩⟩
 ·
  rw [h.2.1,h.2.2]
  exact ⟨rfl,fun h9 => absurd (place_ok h9).1 h.1⟩
structure CmRelR (w W : World) (g : Nat) (L0 : List Tok) (s : ByteArray) (R : Cmd × List Tok × Int) (k : Nat) (c : Cmd) (L : List Tok) (p e : Int) (vN vM v2 v3 : Value) : Prop where
 k1 : k ≤ s.size
 nn : c.names.length ≤ k
 nm : c.nums.length ≤ k
 ok : okL ((lets s).drop k) = true
 xz : (lets s).drop k = [] ∨ c.x = zX ∧ v2 = sN ∧ v3 = sN
 inv : InvC ((lets s).drop k) R c L p e
 st : RaSt w W g (g + 1) (g + 1 + 1) L0 L p e c vN vM v2 v3
 zero : W.heap[w.heap.size]? = some (.cells (cCells zC sN sN sN sN) TC (0,0))
 sz : g + 1 + 1 ≤ W.heap.size
 lg : w.heap.size < g
mutual
def wt : X → Nat
 | ⟨_,_,ns,xs⟩ => 4 + ns.length + wtL xs
def wtL : List X → Nat
 | [] => 0
 | y :: ys => wt y + wtL ys
end
theorem wt_eq (x : X) : wt x = 4 + x.f2.length + wtL x.f3:=by cases x; rw [wt]
theorem wtL_cons (y : X) (ys : List X) : wtL (y :: ys) = wt y + wtL ys:=by rw [wtL]
theorem rdX_at (ys : List X) (i : Nat) (hi : i < ys.length) : yY ys (i : Int) = ys[i]:=by
 unfold yY
 rw [Int.toNat_natCast,List.getD_eq_getElem?_getD,List.getElem?_eq_getElem hi]
 rfl
theorem self_l1 (o : Int) (s : ByteArray) (ns : List Int) (xs : List X) (hm : xs.length ≤ 9223372036854775807)
  (hf : ∀ (i : Nat) (hi : i < xs.length) (k : Nat),wt xs[i] ≤ k → yC.f k xs[i].f0 xs[i].f1 xs[i].f2 xs[i].f3 xs[i].f0 xs[i].f1 xs[i].f2 xs[i].f3 = some true) :
  ∀ (n i : Nat),i + n = xs.length → ∀ k : Nat,wtL (xs.drop i) + 1 ≤ k → yC.l1 k i o s ns xs o s ns xs = some true:=by
 intro n
 induction n with
 | zero =>
  intro i hi k hk
  obtain ⟨k,rfl⟩ : ∃ m,k = m + 1:=⟨k - 1,by omega⟩
  simp only [yC.l1]
  rw [if_neg (by omega)]
 | succ n ih =>
  intro i hi k hk
  obtain ⟨k,rfl⟩ : ∃ m,k = m + 1:=⟨k - 1,by omega⟩
  have hix : i < xs.length:=by omega
  rw [List.drop_eq_getElem_cons hix,wtL_cons] at hk
  have hw : 4 ≤ wt xs[i]:=by rw [wt_eq]; omega
  have hn:=ih (i + 1) (by omega) k (by omega)
  rw [show ((i + 1 : Nat) : Int) = (i : Int) + 1 by omega] at hn
  simp only [yC.l1]
  rw [if_pos (by omega),if_pos (by omega),if_pos (by omega),rdX_at xs i hix,hf i hix k (by omega),Option.bind_some,if_pos rfl,w64 (by omega) (by omega),hn]
theorem self_l0 (o : Int) (s : ByteArray) (a : List Int) (xs : List X) (hm : a.length ≤ 9223372036854775807) (K : Nat)
  (hf : ∀ k : Nat,K ≤ k → yC.l1 k 0 o s a xs o s a xs = some true) :
  ∀ (n i : Nat),i + n = a.length → ∀ k : Nat,n + 1 + K ≤ k → yC.l0 k i o s a xs o s a xs = some true:=by
 intro n
 induction n with
 | zero =>
  intro i hi k hk
  obtain ⟨k,rfl⟩ : ∃ m,k = m + 1:=⟨k - 1,by omega⟩
  simp only [yC.l0]
  rw [if_neg (by omega),hf k (by omega)]
 | succ n ih =>
  intro i hi k hk
  obtain ⟨k,rfl⟩ : ∃ m,k = m + 1:=⟨k - 1,by omega⟩
  have hn:=ih (i + 1) (by omega) k (by omega)
  rw [show ((i + 1 : Nat) : Int) = (i : Int) + 1 by omega] at hn
  simp only [yC.l0]
  rw [if_pos (by omega),if_pos (by omega),if_pos (by omega)]
  rw [show ∀ (p : Prop) [Decidable p] (a b : Option Bool),p → (if p then a else b) = a from fun p _ a b h => if_pos h]
  · rw [w64 (by omega) (by omega),hn]
  · first|rfl|trivial
theorem self_f (N : Nat) : ∀ (x : X),cnt x ≤ N → ∀ (w : World) (cs : List Value),kX.K w x cs → ∀ k : Nat,wt x ≤ k → yC.f k x.f0 x.f1 x.f2 x.f3 x.f0 x.f1 x.f2 x.f3 = some true:=by
 induction N with
 | zero => intro x hx; have:=sQ x; omega
 | succ N ih =>
  intro x hN w cs hx k hk
  rw [wt_eq] at hk
  obtain ⟨k,rfl⟩ : ∃ m,k = m + 2:=⟨k - 2,by omega⟩
  obtain ⟨A2,c2,A3,c3,_,_,g2,_,g3⟩:=iC hx
  simp only [yC.f]
  rw [if_pos trivial,if_pos trivial,if_pos trivial,show ((x.f3.length : Int) != (x.f3.length : Int)) = false from bne_eq_false_iff_eq.2 rfl]
  simp only [yC.j0]
  rw [if_neg (by simp)]
  have hL:=self_l1 x.f0 x.f1 x.f2 x.f3 g3.2.1 (fun i hi m hm => by
   obtain ⟨ad,c,_,_,hc,_⟩:=Kd.C_get g3 z25 (i : Int) (by omega) (by omega)
   have he : x.f3.getD (i : Int).toNat z25 = x.f3[i]:=by
    rw [Int.toNat_natCast,List.getD_eq_getElem?_getD,List.getElem?_eq_getElem hi]; rfl
   rw [he] at hc
   exact ih x.f3[i] (by have:=lS (List.getElem_mem hi); omega) w c hc m hm) x.f3.length 0 (by omega)
  rw [List.drop_zero] at hL
  exact self_l0 x.f0 x.f1 x.f2 x.f3 g2.2.1 (wtL x.f3 + 1) hL x.f2.length 0 (by omega) k (by omega)
theorem Made_to (o : Int) (A2 : Option Addr) (n2 c2 : Nat) (A3 : Option Addr) (n3 c3 : Nat) (w : World) :
  Calls Tryd.prog 14 #[.int .u8 o,.slice A2 n2 c2,.slice A3 n3 c3] w fun e w' => e = .returned (.agg #[.int .u8 o,.string nil8,.slice A2 n2 c2,.slice A3 n3 c3]) ∧ Below w.heap.size w w':=by
 go_enter Tryd.func14,Tryd.ntmps14
 go_wp2
 refine bodyPost_ret (zWJ rfl _ _ _ TX _ (0,0) _ rfl (wP w (.cells #[.int .u8 o,.string nil8,.slice A2 n2 c2,.slice A3 n3 c3] TX)) Tryd.underlying25 rfl sG) rfl ?_
 exact ⟨rfl,zY (Below.refl _ _) _⟩
theorem Named_to (s : ByteArray) (w : World) :
  Calls Tryd.prog 17 #[.string s] w fun e w' => e = .returned (.agg #[.int .u8 0,.string s,.slice none 0 0,.slice none 0 0]) ∧ Below w.heap.size w w':=by
 go_enter Tryd.func17,Tryd.ntmps17
 go_wp2
 refine bodyPost_ret (zWJ rfl _ _ _ TX _ (0,0) _ rfl (wP w (.cells #[.int .u8 0,.string s,.slice none 0 0,.slice none 0 0] TX)) Tryd.underlying25 rfl sG) rfl ?_
 exact ⟨rfl,zY (Below.refl _ _) _⟩
set_option maxHeartbeats 8000000 in
set_option maxRecDepth 100000 in
theorem line_expr (k : Nat) (s : ByteArray) (T : List Tok) (r2 : Int) (hW : vT.f k s = some (T,r2)) (x : X) (at1 e1 : Int) (hP : parseE T = (x,at1,e1)) (w : World) (hL : Cal w) :
  Calls Tryd.prog 58 #[.string s] w fun e w' => ∃ A2 c2 A3 c3,e = .returned (.tuple #[ag x (.slice A2 x.f2.length c2) (.slice A3 x.f3.length c3),.int .i64 at1,.int .i64 e1]) ∧ kX.K w' x [.int .u8 x.f0,.string x.f1,.slice A2 x.f2.length c2,.slice A3 x.f3.length c3] ∧ Below w.heap.size w w':=by
 have CW:=fun W => zZ.mk (vT.calls k s T r2 W hW)
 have CE:=fun A n c W h1 h2 h3 h4 => zZ.mk (Expr_calls T A n c W h1 h2 h3 h4)
 rw [hP] at CE
 dsimp only at CE
 have HL:=zZ.mk hL
 have bz:=wP w (.cells zCells TX (0,0))
 clear hW hP hL
 go_enter Tryd.func58,Tryd.ntmps58
 go_wp2_with fail
 (with_reducible refine (CW _).out.mono ?_)
 rintro e w1 ⟨v0,rfl,hR,hb1⟩
 obtain ⟨A,c,rfl,hc,hC⟩:=Kd.R_reads hR
 have HB1:=zZ.mk (xN (zY (Below.refl w.heap.size w) (.cells zCells TX (0,0))) (zY (Below.refl w.heap.size w) (.cells zCells TX (0,0))).size hb1)
 have bz1:=(hb1.block _ (wT bz)).trans bz
 have HCC:=zZ.mk hC
 clear hR hb1 CW bz hC
 go_wp2_with fail
 (with_reducible refine (CE A _ c _ ?a1 ?a2 ?a3 ?a4).out.mono ?_)
 case a1 => rfl
 case a2 => exact HCC.out
 case a3 => exact hc
 case a4 => exact HL.out.l HB1.out
 rintro e w2 ⟨v2,v3,rfl,hg,hb2⟩
 obtain ⟨A2,c2,A3,c3,rfl,rfl⟩:=hg.slices
 have ZZ:=zZ.mk ((hb2.block _ (wT bz1)).trans bz1)
 have HB2:=zZ.mk (xN HB1.out HB1.out.size hb2)
 have HG:=zZ.mk hg
 have hlt:=wT bz1
 clear hb2 hg CE bz1
 have z0:=(zK ZZ.out 0).trans (show zCells[0]? = some (Value.int .u8 0) from rfl)
 have z1:=(zK ZZ.out 1).trans (show zCells[1]? = some (Value.string nil8) from rfl)
 have z2:=(zK ZZ.out 2).trans (show zCells[2]? = some (Value.slice none 0 0) from rfl)
 have z3:=(zK ZZ.out 3).trans (show zCells[3]? = some (Value.slice none 0 0) from rfl)
 have y0:=zP ZZ.out 0
 have y1:=zP ZZ.out 1
 have y2:=zP ZZ.out 2
 have y3:=zP ZZ.out 3
 go_wp2
 refine bodyPost_ret (rZ rfl _ _ _ TX _ (0,0) _ rfl (zF (zF (zF (zF ZZ.out 0 _ rfl) 1 _ rfl) 2 _ rfl) 3 _ rfl) Tryd.underlying25 rfl sG) rfl ?_
 exact ⟨_,_,_,_,rfl,kX.K_of_M (HG.out.step (by refine Kept.mono (S:=At w.heap.size) ?_ (fun k hk => by have h1 : k = w.heap.size:=hk; omega); (with_reducible repeat (first|exact Kept.refl _ _|apply Kept.alloc|apply Kept.drewN|apply Kept.drew|refine xL ?_ _ _|refine yL ?_ _ _ (Nat.le_refl _)|refine yL ?_ _ _ (by first|assumption|omega))))),by (with_reducible repeat (first|exact HB2.out|apply zY|apply zV|apply zU|refine zQ ?_ (by first|assumption|omega)))⟩
set_option maxHeartbeats 8000000 in
set_option maxRecDepth 100000 in
theorem line_command (k : Nat) (s : ByteArray) (T : List Tok) (r2 : Int) (hW : vT.f k s = some (T,r2)) (q : Cmd) (at1 e1 : Int) (hP : parseC T = (q,at1,e1)) (w : World) (hL : Cal w) :
  Calls Tryd.prog 59 #[.string s] w fun e w' => ∃ AN cN AM nM cM A2 n2 c2 A3 n3 c3,e = .returned (.tuple #[cmdV q (.slice AN q.names.length cN) (.slice AM nM cM) (.slice A2 n2 c2) (.slice A3 n3 c3),.int .i64 at1,.int .i64 e1]) ∧ q.names.length ≤ cN ∧ kT.C w' AN q.names.length q.names ∧ Below w.heap.size w w':=by
 have CW:=fun W => zZ.mk (vT.calls k s T r2 W hW)
 have CE:=fun A n c W h1 h2 h3 h4 => zZ.mk (zXC T A n c W h1 h2 h3 h4)
 rw [hP] at CE
 dsimp only at CE
 have HL:=zZ.mk hL
 have bz:=wP w (.cells (cCells zC sN sN sN sN) TC (0,0))
 clear hW hP hL
 go_enter Tryd.func59,Tryd.ntmps59
 go_wp2_with fail
 (with_reducible refine (CW _).out.mono ?_)
 rintro e w1 ⟨v0,rfl,hR,hb1⟩
 obtain ⟨A,c,rfl,hc,hC⟩:=Kd.R_reads hR
 have HB1:=zZ.mk (xN (zY (Below.refl w.heap.size w) (.cells (cCells zC sN sN sN sN) TC (0,0))) (zY (Below.refl w.heap.size w) (.cells (cCells zC sN sN sN sN) TC (0,0))).size hb1)
 have bz1:=(hb1.block _ (wT bz)).trans bz
 have HCC:=zZ.mk hC
 clear hR hb1 CW bz hC
 go_wp2_with fail
 (with_reducible refine (CE A _ c _ ?a1 ?a2 ?a3 ?a4).out.mono ?_)
 case a1 => rfl
 case a2 => exact HCC.out
 case a3 => exact hc
 case a4 => exact HL.out.l HB1.out
 rintro e w2 ⟨vN,vM,v2,v3,rfl,hg,hb2⟩
 obtain ⟨hg1,hg2,hg3⟩:=hg
 obtain ⟨AN,cN,rfl,lN,gN⟩:=Kd.R_reads hg1
 obtain ⟨AM,cM,rfl⟩:=Kd.R_slice hg2
 obtain ⟨A2,c2,A3,c3,he,_,_,_,_⟩:=iC (kX.K_of_M hg3)
 simp only [List.cons.injEq,true_and,and_true] at he
 obtain ⟨rfl,rfl⟩:=he
 have ZZ:=zZ.mk ((hb2.block _ (wT bz1)).trans bz1)
 have HB2:=zZ.mk (xN HB1.out HB1.out.size hb2)
 have HG:=zZ.mk hg1
 have hlt:=wT bz1
 clear hb2 hg1 hg2 hg3 CE bz1 gN
 obtain ⟨z0,z1,z2,z3,z4,z5,z6,z7,z8,z9,z10⟩:=cells11 ZZ.out
 obtain ⟨y0,y1,y2,y3,y4,y5,y6,y7,y8,y9,y10⟩:=free11 ZZ.out
 go_wp2
 refine bodyPost_ret (rZ rfl _ _ _ TC _ (0,0) _ rfl (put11 ZZ.out _ _ _ _ _ _ _ _ _ _ _) Tryd.underlying54 rfl rA) rfl ?_
 exact ⟨AN,cN,_,_,_,_,_,_,_,_,_,rfl,lN,(Kd.R_reads' (R_at HG.out (W2:=_) (g:=w.heap.size) (by (with_reducible repeat (first|exact Kept.refl _ _|apply Kept.alloc|apply Kept.drewN|apply Kept.drew|refine xL ?_ _ _|refine yL ?_ _ _ (Nat.le_refl _)|refine yL ?_ _ _ (by first|assumption|omega)))) hlt)).2.2,by (with_reducible repeat (first|exact HB2.out|apply zY|apply zV|apply zU|refine zQ ?_ (by first|assumption|omega)))⟩
structure Bx (b : Nat) (x : X) (A2 : Option Addr) (c2 : Nat) (A3 : Option Addr) (c3 : Nat) (W : World) : Prop where
 q0 : W.cell? ⟨b,0,none⟩ = some (.int .u8 x.f0)
 q1 : W.cell? ⟨b,1,none⟩ = some (.string x.f1)
 q2 : W.cell? ⟨b,2,none⟩ = some (.slice A2 x.f2.length c2)
 q3 : W.cell? ⟨b,3,none⟩ = some (.slice A3 x.f3.length c3)
 K : kX.K W x [.int .u8 x.f0,.string x.f1,.slice A2 x.f2.length c2,.slice A3 x.f3.length c3]
theorem cell_on {W W2 : World} {a : Addr} {v : Value} (hb : Below W.heap.size W W2) (h : W.cell? a = some v) : W2.cell? a = some v:=(hb.cell (World.block_lt_of_cell? W a h)).trans h
theorem Bx.later {b : Nat} {x : X} {A2 : Option Addr} {c2 : Nat} {A3 : Option Addr} {c3 : Nat} {W W2 : World} (h : Bx b x A2 c2 A3 c3 W) (hb : Below W.heap.size W W2) : Bx b x A2 c2 A3 c3 W2 :=
 ⟨cell_on hb h.q0,cell_on hb h.q1,cell_on hb h.q2,cell_on hb h.q3,kX.K_below hb h.K⟩
theorem Bx.a {b : Nat} {x : X} {A2 : Option Addr} {c2 : Nat} {A3 : Option Addr} {c3 : Nat} {W : World} (h : Bx b x A2 c2 A3 c3 W) (o : Obj) : Bx b x A2 c2 A3 c3 (W.alloc o):=h.later (zY (Below.refl _ _) o)
theorem Bx.new {x : X} {A2 : Option Addr} {c2 : Nat} {A3 : Option Addr} {c3 : Nat} {W : World} (h : kX.K W x [.int .u8 x.f0,.string x.f1,.slice A2 x.f2.length c2,.slice A3 x.f3.length c3]) :
  Bx W.heap.size x A2 c2 A3 c3 (W.alloc (.cells #[.int .u8 x.f0,.string x.f1,.slice A2 x.f2.length c2,.slice A3 x.f3.length c3] TX)):=by
 have h1:=wP W (.cells #[.int .u8 x.f0,.string x.f1,.slice A2 x.f2.length c2,.slice A3 x.f3.length c3] TX)
 exact ⟨(zK h1 0).trans rfl,(zK h1 1).trans rfl,(zK h1 2).trans rfl,(zK h1 3).trans rfl,kX.K_below (zY (Below.refl _ _) _) h⟩
theorem same_k (x : X) (A2 : Option Addr) (c2 : Nat) (A3 : Option Addr) (c3 : Nat) (B2 : Option Addr) (d2 : Nat) (B3 : Option Addr) (d3 : Nat) (w : World) (h1 : kX.K w x [.int .u8 x.f0,.string x.f1,.slice A2 x.f2.length c2,.slice A3 x.f3.length c3]) (h2 : kX.K w x [.int .u8 x.f0,.string x.f1,.slice B2 x.f2.length d2,.slice B3 x.f3.length d3]) :
  Calls Tryd.prog 28 #[.agg #[.int .u8 x.f0,.string x.f1,.slice A2 x.f2.length c2,.slice A3 x.f3.length c3],.agg #[.int .u8 x.f0,.string x.f1,.slice B2 x.f2.length d2,.slice B3 x.f3.length d3]] w fun e w' => e = .returned (.bool true) ∧ Below w.heap.size w w':=by
 obtain ⟨A2',c2',A3',c3',he,l2,g2,l3,g3⟩:=iC h1
 obtain ⟨B2',d2',B3',d3',hf,m2,i2,m3,i3⟩:=iC h2
 simp only [List.cons.injEq,Value.slice.injEq,true_and,and_true] at he hf
 obtain ⟨⟨rfl,rfl⟩,rfl,rfl⟩:=he
 obtain ⟨⟨rfl,rfl⟩,rfl,rfl⟩:=hf
 exact yC.calls (wt x) x.f0 x.f1 A2 c2 x.f2 A3 c3 x.f3 x.f0 x.f1 B2 d2 x.f2 B3 d3 x.f3 _ w g2 l2 g3 l3 i2 m2 i3 m3 (self_f (cnt x) x (Nat.le_refl _) w _ h1 _ (Nat.le_refl _))
theorem add0 (b i : Nat) : (⟨b,0,none⟩ : Addr).add i = ⟨b,i,none⟩:=by
 unfold Addr.add
 split
 · rename_i h0; rw [h0]
 · simp
theorem rowI {W : World} {b : Nat} {n : Int} (h : W.heap[b]? = some (.cells #[.int .i64 n] 2 (0,0))) : kI.C W (some ⟨b,0,none⟩) 1 [n]:=by
 refine ⟨rfl,by decide,fun _ => ⟨_,rfl,fun j p hj => ?_⟩⟩
 match j,hj with
 | 0,hj =>
  obtain rfl : n = p:=by simpa using hj
  refine ⟨[.int .i64 n],rfl,rfl,fun i u hu => ?_⟩
  match i,hu with
  | 0,hu => cases hu; show W.cell? ((⟨b,0,none⟩ : Addr).add 0) = _; rw [add0]; exact (zK h 0).trans rfl
theorem rowS {W : World} {b : Nat} {l : List ByteArray} (hl : l.length ≤ 9223372036854775807) (h : W.heap[b]? = some (.cells (l.map Value.string).toArray TS (0,0))) : kT.C W (some ⟨b,0,none⟩) l.length l:=by
 refine ⟨rfl,hl,fun _ => ⟨_,rfl,fun j p hj => ⟨[.string p],rfl,rfl,fun i u hu => ?_⟩⟩⟩
 cases i with
 | succ i => simp at hu
 | zero =>
  have hu' : Value.string p = u:=by simpa using hu
  subst hu'
  show W.cell? ((⟨b,0,none⟩ : Addr).add (j * 1 + 0)) = _
  rw [add0]
  refine (zK h _).trans ?_
  simp [hj]
theorem rowX1 {W : World} {b : Nat} {x : X} {u0 u1 u2 u3 : Value} (hk : kX.K W x [u0,u1,u2,u3]) (h : W.heap[b]? = some (.cells #[u0,u1,u2,u3] TX (0,0))) : kX.C W (some ⟨b,0,none⟩) 1 [x]:=by
 refine ⟨rfl,by decide,fun _ => ⟨_,rfl,fun j p hj => ?_⟩⟩
 match j,hj with
 | 0,hj =>
  obtain rfl : x = p:=by simpa using hj
  refine ⟨[u0,u1,u2,u3],rfl,hk,fun i u hu => ?_⟩
  show W.cell? ((⟨b,0,none⟩ : Addr).add (0 * 4 + i)) = _
  rw [add0,Nat.zero_mul,Nat.zero_add]
  refine (zK h i).trans ?_
  simpa using hu
theorem rowX2 {W : World} {b : Nat} {x y : X} {u0 u1 u2 u3 v0 v1 v2 v3 : Value} (hk : kX.K W x [u0,u1,u2,u3]) (hk2 : kX.K W y [v0,v1,v2,v3]) (h : W.heap[b]? = some (.cells #[u0,u1,u2,u3,v0,v1,v2,v3] TX (0,0))) : kX.C W (some ⟨b,0,none⟩) 2 [x,y]:=by
 refine ⟨rfl,by decide,fun _ => ⟨_,rfl,fun j p hj => ?_⟩⟩
 match j,hj with
 | 0,hj =>
  obtain rfl : x = p:=by simpa using hj
  refine ⟨[u0,u1,u2,u3],rfl,hk,fun i u hu => ?_⟩
  show W.cell? ((⟨b,0,none⟩ : Addr).add (0 * 4 + i)) = _
  rw [add0,Nat.zero_mul,Nat.zero_add]
  refine (zK h i).trans ?_
  match i,hu with
  | 0,hu => simpa using hu
  | 1,hu => simpa using hu
  | 2,hu => simpa using hu
  | 3,hu => simpa using hu
 | 1,hj =>
  obtain rfl : y = p:=by simpa using hj
  refine ⟨[v0,v1,v2,v3],rfl,hk2,fun i u hu => ?_⟩
  show W.cell? ((⟨b,0,none⟩ : Addr).add (1 * 4 + i)) = _
  rw [add0,Nat.one_mul]
  refine (zK h _).trans ?_
  match i,hu with
  | 0,hu => simpa using hu
  | 1,hu => simpa using hu
  | 2,hu => simpa using hu
  | 3,hu => simpa using hu
theorem K_named (W : World) (s : ByteArray) : kX.K W ⟨0,s,[],[]⟩ [.int .u8 0,.string s,.slice none 0 0,.slice none 0 0] :=
 k25_mk W ⟨0,s,[],[]⟩ (Nat.le_refl 0) (Kd.C_nil _ _) (Nat.le_refl 0) (Kd.C_nil _ _)
abbrev line (s : ByteArray) : List Tok:=((vT.f 60 s).getD ([],0)).1
theorem some_of {o : Option (List Tok × Int)} (h : o.isSome = true) : o = some ((o.getD ([],0)).1,(o.getD ([],0)).2):=by
 cases o with
 | none => cases h
 | some p => rfl
theorem lineE (s : ByteArray) (x : X) (at1 e1 : Int) (h1 : (vT.f 60 s).isSome = true) (h2 : parseE (line s) = (x,at1,e1)) (w : World) (hL : Cal w) :
  Calls Tryd.prog 58 #[.string s] w fun e w' => ∃ A2 c2 A3 c3,e = .returned (.tuple #[ag x (.slice A2 x.f2.length c2) (.slice A3 x.f3.length c3),.int .i64 at1,.int .i64 e1]) ∧ kX.K w' x [.int .u8 x.f0,.string x.f1,.slice A2 x.f2.length c2,.slice A3 x.f3.length c3] ∧ Below w.heap.size w w':=line_expr 60 s _ _ (some_of h1) x at1 e1 h2 w hL
theorem lineC (s : ByteArray) (q : Cmd) (at1 e1 : Int) (h1 : (vT.f 60 s).isSome = true) (h2 : parseC (line s) = (q,at1,e1)) (w : World) (hL : Cal w) :
  Calls Tryd.prog 59 #[.string s] w fun e w' => ∃ AN cN AM nM cM A2 n2 c2 A3 n3 c3,e = .returned (.tuple #[cmdV q (.slice AN q.names.length cN) (.slice AM nM cM) (.slice A2 n2 c2) (.slice A3 n3 c3),.int .i64 at1,.int .i64 e1]) ∧ q.names.length ≤ cN ∧ kT.C w' AN q.names.length q.names ∧ Below w.heap.size w w':=line_command 60 s _ _ (some_of h1) q at1 e1 h2 w hL
theorem ex1_w : (vT.f 60 ⟨#[103,114,111,117,112,40,51,44,32,100,97,121,41]⟩).isSome = true:=by decide +kernel
theorem ex1_p : parseE (line ⟨#[103,114,111,117,112,40,51,44,32,100,97,121,41]⟩) = (⟨1,nil8,[3],[⟨0,⟨#[100,97,121]⟩,[],[]⟩]⟩,-1,0):=by kernel_rfl
theorem ex2_w : (vT.f 60 ⟨#[117,110,105,111,110,40,97,44,32,115,104,105,102,116,40,45,49,44,32,98,41,41]⟩).isSome = true:=by decide +kernel
theorem ex2_p : parseE (line ⟨#[117,110,105,111,110,40,97,44,32,115,104,105,102,116,40,45,49,44,32,98,41,41]⟩) = (⟨10,nil8,[],[⟨0,⟨#[97]⟩,[],[]⟩,⟨2,nil8,[-1],[⟨0,⟨#[98]⟩,[],[]⟩]⟩]⟩,-1,0):=by kernel_rfl
theorem ex3_w : (vT.f 60 ⟨#[103,114,111,117,112,40,100,97,121,41]⟩).isSome = true:=by decide +kernel
theorem ex3_p : parseE (line ⟨#[103,114,111,117,112,40,100,97,121,41]⟩) = (zX,2,110):=by kernel_rfl
theorem ex4_w : (vT.f 60 ⟨#[103,114,111,117,112,40,51,44,32,100,97,121]⟩).isSome = true:=by decide +kernel
theorem ex4_p : parseE (line ⟨#[103,114,111,117,112,40,51,44,32,100,97,121]⟩) = (zX,5,110):=by kernel_rfl
theorem ex5_w : (vT.f 60 ⟨#[97,32,98]⟩).isSome = true:=by decide +kernel
theorem ex5_p : parseE (line ⟨#[97,32,98]⟩) = (zX,1,110):=by kernel_rfl
theorem ex6_w : (vT.f 60 ⟨#[]⟩).isSome = true:=by decide +kernel
theorem ex6_p : parseE (line ⟨#[]⟩) = (zX,0,110):=by kernel_rfl
theorem ex7_w : (vT.f 60 ⟨#[103,114,111,117,112]⟩).isSome = true:=by decide +kernel
theorem ex7_p : parseE (line ⟨#[103,114,111,117,112]⟩) = (⟨0,⟨#[103,114,111,117,112]⟩,[],[]⟩,-1,0):=by kernel_rfl
theorem cm1_w : (vT.f 60 ⟨#[98,111,117,110,100,32,120,32,121,32,100,97,121,32,91,49,58,93]⟩).isSome = true:=by decide +kernel
theorem cm1_p : parseC (line ⟨#[98,111,117,110,100,32,120,32,121,32,100,97,121,32,91,49,58,93]⟩) = (⟨⟨#[98,111,117,110,100]⟩,[⟨#[120]⟩,⟨#[121]⟩,⟨#[100,97,121]⟩],[],1,0,true,false,zX⟩,-1,0):=by kernel_rfl
theorem cm2_w : (vT.f 60 ⟨#[100,101,102,105,110,101,32,97,32,61,32,98]⟩).isSome = true:=by decide +kernel
theorem cm2_p : parseC (line ⟨#[100,101,102,105,110,101,32,97,32,61,32,98]⟩) = (⟨⟨#[100,101,102,105,110,101]⟩,[⟨#[97]⟩],[],0,0,false,false,⟨0,⟨#[98]⟩,[],[]⟩⟩,-1,0):=by kernel_rfl
theorem cm3_w : (vT.f 60 ⟨#[100,101,102,105,110,101,32,97,32,98]⟩).isSome = true:=by decide +kernel
theorem cm3_p : parseC (line ⟨#[100,101,102,105,110,101,32,97,32,98]⟩) = (zC,2,110):=by kernel_rfl
theorem cm4_w : (vT.f 60 ⟨#[83,104,111,119,32,97]⟩).isSome = true:=by decide +kernel
theorem cm4_p : parseC (line ⟨#[83,104,111,119,32,97]⟩) = (zC,0,110):=by kernel_rfl
end Go.Proofs.YtjeofffddbibeaaDoor.Pa
end
