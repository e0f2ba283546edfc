/-
 Part 2 of what the row stands on,put together by a program: PParseTellsx0,PPar,Par1,Par2,Par3,ParT,ExprN,ExprV,ExprC,ExprO,ParM,ParE,Shelf,ParA,ParF,ParG,ParH,ParI,ParJ.
-/
import Derived.ArgAppend
import Derived.Below
import Derived.BigQuiet
import Derived.Deep.AppendLies
import Derived.Deep.CutBlock
import Derived.Deep.DeepCutAuto
import Derived.Deep.Draws
import Derived.Deep.LoopGhost
import Derived.Deep.OwnRows
import Derived.Deep.QuietTactic
import Derived.Deep.RegionHeld3
import Derived.Ground.SlgnProg
import Derived.KernelRfl
import Derived.Laws.BitsLemmas
import Derived.Laws.BytesArg
import Derived.Laws.EntriesVeiled
import Derived.Laws.IdiomCopy
import Derived.Laws.MakeOwn
import Derived.Laws.OwnMore
import Derived.Laws.RangeString
import Derived.Laws.Rows
import Derived.Laws.Slices
import Derived.Lib.AppendStr
import Derived.Lib.ConvBytes
import Derived.Lib.Fields
import Derived.Lib.IndexMore
import Derived.Lib.LaidTab
import Derived.Lib.SlicesS
import Derived.Lib.Space
import Derived.LoopN
import Derived.Maps.AppendAt
import Derived.OneCell
import Derived.OrdersHeld
import Derived.Outline
import Derived.OwnWalk
import Derived.RowKit
import Derived.RowKit3
import Derived.Shelf.LaysM
import Derived.Shelf.Slices.Turned
import Derived.Shelf.SlicesE.Clone
import Derived.Shelf.Small.Strs
import Derived.Shelf.Small.Utf8
import Derived.Shelf.Strings.AsciiSet
import Derived.Shelf.Strings.Cut
import Derived.Shelf.Strings.Fields
import Derived.Shelf.Strings.FieldsAny
import Derived.Shelf.Strings.FieldsFuncAny
import Derived.Shelf.Strings.Runes
import Derived.Shelf.Strings.Search1
import Derived.Shelf.Strings.Search2
import Derived.Shelf.Strings.Shaped
import Derived.Shelf.Strings.SplitShaped
import Derived.Shelf.Strings.Trim
import Derived.Shelf.Unicode.Decode
import Derived.Shelf.Unicode.DecodeAny
import Derived.Shelf.Unicode.DecodeLast
import Derived.Shelf.Unicode.DecodeSlow
import Derived.Shelf.Unicode.ExclAny
import Derived.Shelf.Unicode.Is16Any
import Derived.Shelf.Unicode.Is16White
import Derived.Shelf.Unicode.Is16WhiteD
import Derived.Shelf.Unicode.Is32Any
import Derived.Shelf.Unicode.IsSpaceAny
import Derived.Shelf.Unicode.IsSpaceAnyD
import Derived.Shelf.Unicode.Latin
import Derived.StillTailTactics
import Derived.Tactics
import Derived.Test.YtjeofffddbibeaaDoorProg
import Derived.WalkKit
import Derived.WalkSmall
import Derived.WalkSpells
import Derived.WideLaws
import Derived.Test.YtjeofffddbibeaaDoorPmA
set_option linter.unusedVariables false
set_option linter.unusedSimpArgs false
section
namespace Go.Proofs.YtjeofffddbibeaaDoor.PParseTells
open Go.RowKit YtjeofffddbibeaaDoorW.PrintWords YtjeofffddbibeaaDoorW.PrintLast YtjeofffddbibeaaDoorW.PrintMore
attribute [local go_sem] tH tM tG tL tK tJ tN tI
def errW : Option Int → Value
 | none => .nilIface
 | some c => .iface 0 (.int .i64 c)
theorem yG : errW none = .nilIface:=rfl
theorem yF (c : Int) : errW (some c) = .iface 0 (.int .i64 c):=rfl
theorem info9 : (Tryd.prog.info? 9).map (fun i => (i.zero,i.size,i.bytes)) = some (some (.string ⟨#[]⟩),1,16):=by kernel_rfl
theorem info61 : (Tryd.prog.info? 61).map (fun i => (i.zero,i.size,i.bytes)) = some (some (.agg #[(.int .u8 0),(.string ⟨#[]⟩),(.int .i64 0)]),3,32):=by kernel_rfl
structure S25 where
 f0 : Int
 f1 : ByteArray
 f2 : (List Int)
 f3 : (List S25)
def z25 : S25:=⟨(0 : Int),(⟨#[]⟩ : ByteArray),([] : List Int),([] : List S25)⟩
def F25 (d : Kd S25) : Kd S25:=Kd.iso (Kd.pair (Kd.int .u8) (Kd.pair Kd.string (Kd.pair (Kd.slice 2 (Kd.int .i64)) (Kd.slice 25 d)))) (fun x : S25 => (x.f0,x.f1,x.f2,x.f3))
theorem mono25 : Kd.Mono F25:=Kd.mono_iso _ (Kd.mono_pair (Kd.mono_const _) (Kd.mono_pair (Kd.mono_const _) (Kd.mono_pair (Kd.mono_const _) (Kd.mono_slice 25 Kd.mono_id))))
theorem sub25 : Kd.Sub F25 [2,25]:=Kd.sub_iso _ (Kd.sub_pair (Kd.sub_const _ (by decide)) (Kd.sub_pair (Kd.sub_const _ (by decide)) (Kd.sub_pair (Kd.sub_const _ (by decide)) (Kd.sub_slice 25 (by decide) Kd.sub_id))))
theorem sz25 : ∀ n,(Kd.upto F25 4 [2,25] n).sz = 4:=Kd.upto_sz (fun _ => rfl)
def k25 : Kd S25:=Kd.fix F25 4 [2,25] sz25 (Kd.upto_E sub25)
theorem iC {w : World} {x : S25} {cs : List Value} (h : k25.K w x cs) : ∃ A2 c2 A3 c3,cs = [.int .u8 x.f0,.string x.f1,.slice A2 x.f2.length c2,.slice A3 x.f3.length c3] ∧ x.f2.length ≤ c2 ∧ (Kd.int .i64).C w A2 x.f2.length x.f2 ∧ x.f3.length ≤ c3 ∧ k25.C w A3 x.f3.length x.f3:=by
 obtain ⟨n,h⟩:=h
 cases n with
 | zero => exact h.elim
 | succ n =>
  obtain ⟨_,_,rfl,rfl,⟨_,_,rfl,rfl,⟨_,_,rfl,⟨A2,c2,rfl,l2,g2⟩,⟨A3,c3,rfl,l3,g3⟩⟩⟩⟩:=h
  exact ⟨A2,c2,A3,c3,rfl,l2,g2,l3,Kd.fix_C g3⟩
theorem gX {w : World} {base : Nat} {ok : Nat → Prop} {x : S25} {cs : List Value} (h : k25.M w base ok x cs) : ∃ v2 v3,cs = [.int .u8 x.f0,.string x.f1,v2,v3] ∧ (Kd.int .i64).R 2 w base ok v2 x.f2 ∧ k25.R 25 w base ok v3 x.f3:=by
 obtain ⟨n,h⟩:=h
 cases n with
 | zero => exact h.elim
 | succ n =>
  obtain ⟨_,_,rfl,rfl,⟨_,_,rfl,rfl,⟨_,_,rfl,⟨v2,rfl,g2⟩,⟨v3,rfl,g3⟩⟩⟩⟩:=h
  exact ⟨v2,v3,rfl,g2,Kd.fix_R g3⟩
theorem k25_mk (w : World) (x : S25) {A2 : Option Addr} {c2 : Nat} (l2 : x.f2.length ≤ c2) (g2 : (Kd.int .i64).C w A2 x.f2.length x.f2) {A3 : Option Addr} {c3 : Nat} (l3 : x.f3.length ≤ c3) (g3 : k25.C w A3 x.f3.length x.f3) : k25.K w x [.int .u8 x.f0,.string x.f1,.slice A2 x.f2.length c2,.slice A3 x.f3.length c3]:=by
 obtain ⟨n3,q3⟩:=Kd.fix_C_back mono25 g3
 have r3:=Kd.upto_C_le mono25 sz25 (show n3 ≤ n3 by omega) q3
 exact ⟨n3 + 1,⟨[.int .u8 x.f0],[.string x.f1,.slice A2 x.f2.length c2,.slice A3 x.f3.length c3],rfl,rfl,⟨[.string x.f1],[.slice A2 x.f2.length c2,.slice A3 x.f3.length c3],rfl,rfl,⟨[.slice A2 x.f2.length c2],[.slice A3 x.f3.length c3],rfl,⟨A2,c2,rfl,l2,g2⟩,⟨A3,c3,rfl,l3,r3⟩⟩⟩⟩⟩
theorem rJ (w : World) (base : Nat) (ok : Nat → Prop) (x : S25) {v2 : Value} (g2 : (Kd.int .i64).R 2 w base ok v2 x.f2) {v3 : Value} (g3 : k25.R 25 w base ok v3 x.f3) : k25.M w base ok x [.int .u8 x.f0,.string x.f1,v2,v3]:=by
 obtain ⟨n3,q3⟩:=Kd.fix_R_back mono25 g3
 have r3:=Kd.upto_R_le mono25 sz25 (show n3 ≤ n3 by omega) q3
 exact ⟨n3 + 1,⟨[.int .u8 x.f0],[.string x.f1,v2,v3],rfl,rfl,⟨[.string x.f1],[v2,v3],rfl,rfl,⟨[v2],[v3],rfl,⟨v2,rfl,g2⟩,⟨v3,rfl,r3⟩⟩⟩⟩⟩
def yY (xs : List S25) (i : Int) : S25:=xs.getD i.toNat z25
theorem rK {w : World} {A : Option Addr} {n : Nat} {xs : List S25} (h : Kd.C k25 w A n xs) (i : Int) (h0 : 0 ≤ i) (h1 : i < n) : ∃ ad A2 c2 A3 c3,A = some ad ∧ w.cell? (ad.add (i.toNat * 4)) = some (.int .u8 (yY xs i).f0) ∧ w.cell? ⟨(ad.add (i.toNat * 4)).block,(ad.add (i.toNat * 4)).off + 1,none⟩ = some (.string (yY xs i).f1) ∧ w.cell? ⟨(ad.add (i.toNat * 4)).block,(ad.add (i.toNat * 4)).off + 2,none⟩ = some (.slice A2 (yY xs i).f2.length c2) ∧ w.cell? ⟨(ad.add (i.toNat * 4)).block,(ad.add (i.toNat * 4)).off + 3,none⟩ = some (.slice A3 (yY xs i).f3.length c3) ∧ (yY xs i).f2.length ≤ c2 ∧ (Kd.int .i64).C w A2 (yY xs i).f2.length (yY xs i).f2 ∧ (yY xs i).f3.length ≤ c3 ∧ k25.C w A3 (yY xs i).f3.length (yY xs i).f3:=by
 obtain ⟨ad,c,e,_,hK,hc0⟩:=Kd.C_get h z25 i h0 h1
 have hc : ∀ j u,c[j]? = some u → w.cell? (ad.add (i.toNat * 4 + j)) = some u:=hc0
 obtain ⟨A2,c2,A3,c3,rfl,l2,g2,l3,g3⟩:=iC hK
 exact ⟨ad,A2,c2,A3,c3,e,hc 0 _ rfl,by rw [← iB _ _ 1 (by omega)]; exact hc 1 _ rfl,by rw [← iB _ _ 2 (by omega)]; exact hc 2 _ rfl,by rw [← iB _ _ 3 (by omega)]; exact hc 3 _ rfl,l2,g2,l3,g3⟩
structure S159 where
 f0 : Int
 f1 : Int
 f2 : Int
structure S162 where
 f0 : Int
 f1 : Int
 f2 : Int
structure S61 where
 f0 : Int
 f1 : ByteArray
 f2 : Int
def z61 : S61:=⟨(0 : Int),(⟨#[]⟩ : ByteArray),(0 : Int)⟩
def k61 : Kd S61:=Kd.iso (Kd.pair (Kd.int .u8) (Kd.pair Kd.string (Kd.int .i64))) (fun x : S61 => (x.f0,x.f1,x.f2))
theorem gQ {w : World} {x : S61} {cs : List Value} (h : k61.K w x cs) : cs = [.int .u8 x.f0,.string x.f1,.int .i64 x.f2]:=by
 obtain ⟨_,_,rfl,rfl,⟨_,_,rfl,rfl,rfl⟩⟩:=h
 exact rfl
theorem uE (w : World) (base : Nat) (ok : Nat → Prop) (x : S61)  : k61.M w base ok x [.int .u8 x.f0,.string x.f1,.int .i64 x.f2]:=⟨[.int .u8 x.f0],[.string x.f1,.int .i64 x.f2],rfl,rfl,⟨[.string x.f1],[.int .i64 x.f2],rfl,rfl,rfl⟩⟩
def rd_T61 (xs : List S61) (i : Int) : S61:=xs.getD i.toNat z61
theorem at_T61 {w : World} {A : Option Addr} {n : Nat} {xs : List S61} (h : Kd.C k61 w A n xs) (i : Int) (h0 : 0 ≤ i) (h1 : i < n) : ∃ ad ,A = some ad ∧ w.cell? (ad.add (i.toNat * 3)) = some (.int .u8 (rd_T61 xs i).f0) ∧ w.cell? ⟨(ad.add (i.toNat * 3)).block,(ad.add (i.toNat * 3)).off + 1,none⟩ = some (.string (rd_T61 xs i).f1) ∧ w.cell? ⟨(ad.add (i.toNat * 3)).block,(ad.add (i.toNat * 3)).off + 2,none⟩ = some (.int .i64 (rd_T61 xs i).f2):=by
 obtain ⟨ad,c,e,_,hK,hc0⟩:=Kd.C_get h z61 i h0 h1
 have hc : ∀ j u,c[j]? = some u → w.cell? (ad.add (i.toNat * 3 + j)) = some u:=hc0
 obtain rfl:=gQ hK
 exact ⟨ad,e,hc 0 _ rfl,by rw [← iB _ _ 1 (by omega)]; exact hc 1 _ rfl,by rw [← iB _ _ 2 (by omega)]; exact hc 2 _ rfl⟩
end Go.Proofs.YtjeofffddbibeaaDoor.PParseTells
end

section
namespace Go.Proofs.YtjeofffddbibeaaDoor.PParseTells
open Go.RowKit YtjeofffddbibeaaDoorW.PrintWords YtjeofffddbibeaaDoorW.PrintLast YtjeofffddbibeaaDoorW.PrintMore
attribute [local go_sem] tH tM tG tL tK tJ tN tI
def pQ.l0 : Nat → List ByteArray → List ByteArray → Int → Int → Option (Bool)
 | 0,_,_,_,_ => none
 | k + 1,x0,x1,x12,x13 => if x13 < x12 then (if 0 ≤ x13 then (if x13 < (x0.length : Int) then (if x13 < (x1.length : Int) then (if (rdOf ByteArray.empty x0 x13).toList = (rdOf ByteArray.empty x1 x13).toList then (pQ.l0 k x0 x1 x12 (wrap64 (x13 + 1))) else (some false)) else (none)) else (none)) else (none)) else (some true)
def pQ.f (k : Nat) (l0 : List ByteArray) (l1 : List ByteArray) : Option (Bool):=if (l0.length : Int) = (l1.length : Int) then (pQ.l0 k l0 l1 (l0.length : Int) 0) else (some false)
set_option maxHeartbeats 8000000 in
set_option maxRecDepth 100000 in
theorem pQ.calls (k : Nat) (A0 : Option Addr) (c0 : Nat) (l0 : List ByteArray) (A1 : Option Addr) (c1 : Nat) (l1 : List ByteArray) (r : Bool) (w : World) (hr0 : Kd.C Kd.string w A0 l0.length l0) (hc0 : l0.length ≤ c0) (hr1 : Kd.C Kd.string w A1 l1.length l1) (hc1 : l1.length ≤ c1) (h : pQ.f k l0 l1 = some r) :
  Calls Tryd.prog 15 #[.slice A0 l0.length c0,.slice A1 l1.length c1] w fun e w' => e = .returned (.bool r) ∧ Drawn0 w w':=by
 have HR0:=zZ.mk hr0
 have HC0:=zZ.mk hc0
 clear hr0 hc0
 have HR1:=zZ.mk hr1
 have HC1:=zZ.mk hc1
 clear hr1 hc1
 have H : (if (l0.length : Int) = (l1.length : Int) then (pQ.l0 k l0 l1 (l0.length : Int) 0) else (some false)) = some r:=h
 clear h
 by_cases c3 : (l0.length : Int) = (l1.length : Int)
 ·
  rw [if_pos c3] at H
  have c3b0 : ((l0.length : Int) == (l1.length : Int)) = true:=beq_iff_eq.mpr c3
  have c3b1 : ((l0.length : Int) != (l1.length : Int)) = false:=bne_eq_false_iff_eq.mpr c3
  have c3b2 : (l0.length == l1.length) = true:=by first|simpa using c3|(simp at c3 ⊢; omega)
  clear c3
  have H':=zZ.mk H
  clear H
  go_enter Tryd.func15,Tryd.ntmps15
  go_wp2
  repeat (go_quiet (fail); try go_wp2)
  go_loopg [13] k (fun kq v13 w' => ∃ (vQ : Int),v13 = .int .i64 vQ ∧ zZ (pQ.l0 kq l0 l1 (l0.length : Int) vQ = some r) ∧ zZ (kq ≤ k) ∧ Drawn0 w w')
  case atStart => exact ⟨(0),(by first|rfl|(simp;done)|(simp [*];done)),H',⟨Nat.le_refl _⟩,by repeat (first|exact Drawn0.refl _|apply Drawn0.step)⟩
  case round =>
   clear H'
   try clear c1
   try clear p2
   try clear c3
   try clear c3b0
   try clear c3b1
   try clear c3b2
   obtain ⟨vQ,rfl,HA,HK1,⟨m1,rfl⟩⟩:=hrel
   cases gk with
   | zero => exact absurd HA.out (by simp [pQ.l0])
   | succ k1 =>
    have H:=HA.out
    clear HA
    simp only [pQ.l0] at H
    by_cases c4 : vQ < (l0.length : Int)
    ·
     rw [if_pos c4] at H
     have c4b0 : decide (vQ < (l0.length : Int)) = true:=decide_eq_true c4
     clear c4
     by_cases c5 : 0 ≤ vQ
     ·
      rw [if_pos c5] at H
      have c5b0 : decide (0 ≤ vQ) = true:=decide_eq_true c5
      clear c5
      by_cases c6 : vQ < (l0.length : Int)
      ·
       rw [if_pos c6] at H
       have c6b0 : decide (vQ < (l0.length : Int)) = true:=decide_eq_true c6
       clear c6
       by_cases c7 : vQ < (l1.length : Int)
       ·
        rw [if_pos c7] at H
        have c7b0 : decide (vQ < (l1.length : Int)) = true:=decide_eq_true c7
        clear c7
        by_cases c8 : (rdOf ByteArray.empty l0 vQ).toList = (rdOf ByteArray.empty l1 vQ).toList
        ·
         rw [if_pos c8] at H
         have c8b0 : ((rdOf ByteArray.empty l0 vQ).toList == (rdOf ByteArray.empty l1 vQ).toList) = true:=beq_iff_eq.mpr c8
         have c8b1 : ((rdOf ByteArray.empty l0 vQ).toList != (rdOf ByteArray.empty l1 vQ).toList) = false:=bne_eq_false_iff_eq.mpr c8
         clear c8
         have H':=zZ.mk H
         clear H
         have p109 : 0 ≤ (vQ : Int):=of_decide_eq_true (by first|(with_reducible assumption)|assumption)
         have q109 : vQ < (l0.length : Int):=of_decide_eq_true (by first|(with_reducible assumption)|assumption)
         obtain ⟨ad109,e109,zTO⟩:=Kd.at_string HR0.out vQ p109 q109
         cases e109
         replace p109:=eq_true p109
         replace q109:=eq_true q109
         have p110 : 0 ≤ (vQ : Int):=of_decide_eq_true (by first|(with_reducible assumption)|assumption)
         have q110 : vQ < (l1.length : Int):=of_decide_eq_true (by first|(with_reducible assumption)|assumption)
         obtain ⟨ad110,e110,zTN⟩:=Kd.at_string HR1.out vQ p110 q110
         cases e110
         replace p110:=eq_true p110
         replace q110:=eq_true q110
         go_wp2
         repeat (go_quiet (fail); try go_wp2)
         go_roundg k1
         case measure => have:=HK1.out; omega
         case rel => exact ⟨(wrap64 (vQ + 1)),(by first|rfl|(simp;done)|(simp [*];done)),H',⟨by have:=HK1.out; omega⟩,by repeat (first|exact Drawn0.refl _|apply Drawn0.step)⟩
        ·
         rw [if_neg c8] at H
         have c8b0 : ((rdOf ByteArray.empty l0 vQ).toList == (rdOf ByteArray.empty l1 vQ).toList) = false:=beq_eq_false_iff_ne.mpr c8
         have c8b1 : ((rdOf ByteArray.empty l0 vQ).toList != (rdOf ByteArray.empty l1 vQ).toList) = true:=bne_iff_ne.mpr c8
         obtain rfl:=Option.some.inj H
         have p109 : 0 ≤ (vQ : Int):=of_decide_eq_true (by first|(with_reducible assumption)|assumption)
         have q109 : vQ < (l0.length : Int):=of_decide_eq_true (by first|(with_reducible assumption)|assumption)
         obtain ⟨ad109,e109,zTO⟩:=Kd.at_string HR0.out vQ p109 q109
         cases e109
         replace p109:=eq_true p109
         replace q109:=eq_true q109
         have p110 : 0 ≤ (vQ : Int):=of_decide_eq_true (by first|(with_reducible assumption)|assumption)
         have q110 : vQ < (l1.length : Int):=of_decide_eq_true (by first|(with_reducible assumption)|assumption)
         obtain ⟨ad110,e110,zTN⟩:=Kd.at_string HR1.out vQ p110 q110
         cases e110
         replace p110:=eq_true p110
         replace q110:=eq_true q110
         go_wp2
         repeat (go_quiet (fail); try go_wp2)
         go_ret
         exact ⟨by first|rfl|(simp; done)|(simp [*]; done),by repeat (first|exact Drawn0.refl _|apply Drawn0.step)⟩
       ·
        rw [if_neg c7] at H
        exact absurd H (by simp)
      ·
       rw [if_neg c6] at H
       exact absurd H (by simp)
     ·
      rw [if_neg c5] at H
      exact absurd H (by simp)
    ·
     rw [if_neg c4] at H
     have c4b0 : decide (vQ < (l0.length : Int)) = false:=decide_eq_false c4
     clear c4
     obtain rfl:=Option.some.inj H
     go_wp2
     repeat (go_quiet (fail); try go_wp2)
     go_ret
     exact ⟨by first|rfl|(simp; done)|(simp [*]; done),by repeat (first|exact Drawn0.refl _|apply Drawn0.step)⟩
 ·
  rw [if_neg c3] at H
  have c3b0 : ((l0.length : Int) == (l1.length : Int)) = false:=beq_eq_false_iff_ne.mpr c3
  have c3b1 : ((l0.length : Int) != (l1.length : Int)) = true:=bne_iff_ne.mpr c3
  have c3b2 : (l0.length == l1.length) = false:=by first|simpa using c3|(simp at c3 ⊢; omega)
  obtain rfl:=Option.some.inj H
  go_enter Tryd.func15,Tryd.ntmps15
  go_wp2
  repeat (go_quiet (fail); try go_wp2)
  go_ret
  exact ⟨by first|rfl|(simp; done)|(simp [*]; done),by repeat (first|exact Drawn0.refl _|apply Drawn0.step)⟩
def IsS94 (w0 W : World) (g : Nat) (f0 : List (S61)) (f1 : Int) (f2 : Int) : Prop:=∃ A0 c0,W.heap[g]? = some (.cells #[.slice A0 f0.length c0,.int .i64 f1,.int .i64 f2] 94 (0,0)) ∧ w0.heap.size ≤ g ∧ Kd.C k61 w0 A0 f0.length f0
theorem IsS94.grown {w0 W : World} {g : Nat} {f0 : List (S61)} {f1 : Int} {f2 : Int} {W1 : World} {row : Option Nat} (h : IsS94 w0 W g f0 f1 f2) (hw : W.grownBy W1 row) (hne : some g ≠ row) : IsS94 w0 W1 g f0 f1 f2:=by
 obtain ⟨A0,c0,hb,hg,hr0⟩:=h
 exact ⟨A0,c0,tC hb hw hne,hg,hr0⟩
theorem IsS94.kept {w0 W : World} {g : Nat} {f0 : List (S61)} {f1 : Int} {f2 : Int} {W1 : World} {S : Nat → Prop} (h : IsS94 w0 W g f0 f1 f2) (hk : Kept W W1 S) (hne : ¬ S g) : IsS94 w0 W1 g f0 f1 f2:=by
 obtain ⟨A0,c0,hb,hg,hr0⟩:=h
 exact ⟨A0,c0,uO hb hk hne,hg,hr0⟩
theorem IsS94.below {w0 W : World} {g : Nat} {f0 : List (S61)} {f1 : Int} {f2 : Int} {W1 : World} (h : IsS94 w0 W g f0 f1 f2) (hw : Below W.heap.size W W1) : IsS94 w0 W1 g f0 f1 f2:=h.grown (cK hw none) (by simp)
theorem IsS94.alloc {w0 W : World} {g : Nat} {f0 : List (S61)} {f1 : Int} {f2 : Int} (h : IsS94 w0 W g f0 f1 f2) (o : Obj) : IsS94 w0 (W.alloc o) g f0 f1 f2:=h.below (zY (Below.refl _ _) o)
theorem IsS94.drewN {w0 W : World} {g : Nat} {f0 : List (S61)} {f1 : Int} {f2 : Int} (h : IsS94 w0 W g f0 f1 f2) (m : Nat) : IsS94 w0 (W.drewN m) g f0 f1 f2:=h
theorem IsS94.drew {w0 W : World} {g : Nat} {f0 : List (S61)} {f1 : Int} {f2 : Int} (h : IsS94 w0 W g f0 f1 f2) : IsS94 w0 W.drew g f0 f1 f2:=h
theorem IsS94.at_ {w0 W : World} {g : Nat} {f0 : List (S61)} {f1 : Int} {f2 : Int} {w' : World} {m : Nat} (hq : W.drewN m = w') (h : IsS94 w0 W g f0 f1 f2) : IsS94 w0 w' g f0 f1 f2:=by subst hq; exact IsS94.drewN h m
theorem IsS94.apart {w0 W : World} {g : Nat} {f0 : List (S61)} {f1 : Int} {f2 : Int} {α : Type} {d : Kd α} {e : Nat} {base : Nat} {ok : Nat → Prop} {v : Value} {xs : List α} (h : IsS94 w0 W g f0 f1 f2) (ho : d.R e W base ok v xs) (ht : ∀ q,q ∈ e :: d.E → q ≠ 94) : d.R e W base (fun k => ok k ∧ k ≠ g) v xs:=by
 obtain ⟨A0,c0,hb,hg,hr0⟩:=h
 exact Kd.R_types ho hb ht
theorem IsS94.own_ne {w0 W : World} {g : Nat} {f0 : List (S61)} {f1 : Int} {f2 : Int} {α : Type} {d : Kd α} {e : Nat} {base : Nat} {ok : Nat → Prop} {v : Value} {xs : List α} (h : IsS94 w0 W g f0 f1 f2) (ho : d.R e W base ok v xs) (ht : e ≠ 94) : some g ≠ v.ownBlock:=by
 obtain ⟨A0,c0,hb,hg,hr0⟩:=h
 exact Kd.R_ne ho hb ht
theorem IsS94.lt {w0 W : World} {g : Nat} {f0 : List (S61)} {f1 : Int} {f2 : Int} (h : IsS94 w0 W g f0 f1 f2) : g < W.heap.size:=by
 obtain ⟨A0,c0,hb,hg,hr0⟩:=h
 exact wT hb
theorem IsS94.ge {w0 W : World} {g : Nat} {f0 : List (S61)} {f1 : Int} {f2 : Int} (h : IsS94 w0 W g f0 f1 f2) : w0.heap.size ≤ g:=by
 obtain ⟨A0,c0,hb,hg,hr0⟩:=h
 exact hg
theorem IsS94.new (w0 W : World) (A0 : Option Addr) (c0 : Nat) (f0 : List (S61)) (f1 : Int) (f2 : Int) (hB : Below w0.heap.size w0 W) (hr0 : Kd.C k61 w0 A0 f0.length f0) : IsS94 w0 (W.alloc (.cells #[.slice A0 f0.length c0,.int .i64 f1,.int .i64 f2] 94)) W.heap.size f0 f1 f2:=⟨A0,c0,by simpa using heap_alloc_new W _,hB.size,hr0⟩
def sA.l0 : Nat → List Int → Int → Int → Int → Option (Int)
 | 0,_,_,_,_ => none
 | k + 1,x0,x1,x7,x8 => if x8 < x7 then (if 0 ≤ x8 then (if x8 < (x0.length : Int) then (if x1 = (rd x0 x8) then (some x8) else (sA.l0 k x0 x1 x7 (wrap64 (x8 + 1)))) else (none)) else (none)) else (some (-1))
def sA.f (k : Nat) (l0 : List Int) (a1 : Int) : Option (Int):=sA.l0 k l0 a1 (l0.length : Int) 0
set_option maxHeartbeats 8000000 in
set_option maxRecDepth 100000 in
theorem sA.calls (k : Nat) (A0 : Option Addr) (c0 : Nat) (l0 : List Int) (a1 : Int) (r : Int) (w : World) (hr0 : Kd.C (Kd.int .u8) w A0 l0.length l0) (hc0 : l0.length ≤ c0) (h : sA.f k l0 a1 = some r) :
  Calls Tryd.prog 116 #[.slice A0 l0.length c0,.int .u8 a1] w fun e w' => e = .returned (.int .i64 r) ∧ Drawn0 w w':=by
 have HR0:=zZ.mk hr0
 have HC0:=zZ.mk hc0
 clear hr0 hc0
 have H : (sA.l0 k l0 a1 (l0.length : Int) 0) = some r:=h
 clear h
 have H':=zZ.mk H
 clear H
 go_enter Tryd.func116,Tryd.ntmps116
 go_wp2
 go_loopg [8] k (fun kq v8 w' => ∃ (yP : Int),v8 = .int .i64 yP ∧ zZ (sA.l0 kq l0 a1 (l0.length : Int) yP = some r) ∧ zZ (kq ≤ k) ∧ Drawn0 w w')
 case atStart => exact ⟨(0),(by first|rfl|(simp;done)|(simp [*];done)),H',⟨Nat.le_refl _⟩,by repeat (first|exact Drawn0.refl _|apply Drawn0.step)⟩
 case round =>
  clear H'
  try clear c1
  try clear p2
  obtain ⟨yP,rfl,HA,HK1,⟨m1,rfl⟩⟩:=hrel
  cases gk with
  | zero => exact absurd HA.out (by simp [sA.l0])
  | succ k1 =>
   have H:=HA.out
   clear HA
   simp only [sA.l0] at H
   by_cases c3 : yP < (l0.length : Int)
   ·
    rw [if_pos c3] at H
    have c3b0 : decide (yP < (l0.length : Int)) = true:=decide_eq_true c3
    clear c3
    by_cases c4 : 0 ≤ yP
    ·
     rw [if_pos c4] at H
     have c4b0 : decide (0 ≤ yP) = true:=decide_eq_true c4
     clear c4
     by_cases c5 : yP < (l0.length : Int)
     ·
      rw [if_pos c5] at H
      have c5b0 : decide (yP < (l0.length : Int)) = true:=decide_eq_true c5
      clear c5
      by_cases c6 : a1 = (rd l0 yP)
      ·
       rw [if_pos c6] at H
       have c6b0 : (a1 == (rd l0 yP)) = true:=beq_iff_eq.mpr c6
       have c6b1 : (a1 != (rd l0 yP)) = false:=bne_eq_false_iff_eq.mpr c6
       clear c6
       obtain rfl:=Option.some.inj H
       have p117 : 0 ≤ (yP : Int):=of_decide_eq_true (by first|(with_reducible assumption)|assumption)
       have q117 : yP < (l0.length : Int):=of_decide_eq_true (by first|(with_reducible assumption)|assumption)
       obtain ⟨ad117,e117,zTM⟩:=Kd.at_int HR0.out yP p117 q117
       cases e117
       replace p117:=eq_true p117
       replace q117:=eq_true q117
       go_wp2
       go_ret
       exact ⟨by first|rfl|(simp; done)|(simp [*]; done),by repeat (first|exact Drawn0.refl _|apply Drawn0.step)⟩
      ·
       rw [if_neg c6] at H
       have c6b0 : (a1 == (rd l0 yP)) = false:=beq_eq_false_iff_ne.mpr c6
       have c6b1 : (a1 != (rd l0 yP)) = true:=bne_iff_ne.mpr c6
       have H':=zZ.mk H
       clear H
       have p117 : 0 ≤ (yP : Int):=of_decide_eq_true (by first|(with_reducible assumption)|assumption)
       have q117 : yP < (l0.length : Int):=of_decide_eq_true (by first|(with_reducible assumption)|assumption)
       obtain ⟨ad117,e117,zTM⟩:=Kd.at_int HR0.out yP p117 q117
       cases e117
       replace p117:=eq_true p117
       replace q117:=eq_true q117
       go_wp2
       go_roundg k1
       case measure => have:=HK1.out; omega
       case rel => exact ⟨(wrap64 (yP + 1)),(by first|rfl|(simp;done)|(simp [*];done)),H',⟨by have:=HK1.out; omega⟩,by repeat (first|exact Drawn0.refl _|apply Drawn0.step)⟩
     ·
      rw [if_neg c5] at H
      exact absurd H (by simp)
    ·
     rw [if_neg c4] at H
     exact absurd H (by simp)
   ·
    rw [if_neg c3] at H
    have c3b0 : decide (yP < (l0.length : Int)) = false:=decide_eq_false c3
    clear c3
    obtain rfl:=Option.some.inj H
    go_wp2
    go_ret
    exact ⟨by first|rfl|(simp; done)|(simp [*]; done),by repeat (first|exact Drawn0.refl _|apply Drawn0.step)⟩
def kP.f (k : Nat) (l0 : List Int) (a1 : Int) : Option (Bool):=(sA.f k l0 a1).bind fun t118 => (some (decide (t118 ≥ 0)))
set_option maxHeartbeats 8000000 in
set_option maxRecDepth 100000 in
theorem kP.calls (k : Nat) (A0 : Option Addr) (c0 : Nat) (l0 : List Int) (a1 : Int) (r : Bool) (w : World) (hr0 : Kd.C (Kd.int .u8) w A0 l0.length l0) (hc0 : l0.length ≤ c0) (h : kP.f k l0 a1 = some r) :
  Calls Tryd.prog 95 #[.slice A0 l0.length c0,.int .u8 a1] w fun e w' => e = .returned (.bool r) ∧ Drawn0 w w':=by
 have HR0:=zZ.mk hr0
 have HC0:=zZ.mk hc0
 clear hr0 hc0
 have H : ((sA.f k l0 a1).bind fun t118 => (some (decide (t118 ≥ 0)))) = some r:=h
 clear h
 replace H:=Option.bind_eq_some_iff.mp H
 obtain ⟨t118,A30,H⟩:=H
 replace H : (some (decide (t118 ≥ 0))) = some r:=H
 have A3:=zZ.mk A30
 clear A30
 obtain rfl:=Option.some.inj H
 go_enter Tryd.func95,Tryd.ntmps95
 go_wp2_with (first|((with_reducible refine yD (f:=116) rfl ?_); refine yE (some 7) rfl rfl Tryd.func116 (by kernel_rfl) rfl #[.slice A0 l0.length c0,.int .u8 a1] rfl (by (try simp only [List.map_toArray,List.map_cons,List.map_nil]); first|done|rfl|(simp only [List.length_drop,List.length_take]; rfl)) ?_; (with_reducible refine (sA.calls k _ _ l0 a1 t118 _ ?side1 ?side2 A3.out).mono ?_); (case side1 => repeat (first|exact HR0.out|(with_reducible refine Kd.C_alloc ?_ _)|(with_reducible refine Kd.C_drewN ?_ _)|(with_reducible refine Kd.C_drew ?_))); (case side2 => exact HC0.out); rintro e w' ⟨rfl,⟨nd,rfl⟩⟩; refine ⟨_,rfl,?_⟩))
 go_ret
 exact ⟨by first|rfl|(simp; done)|(simp [*]; done),by repeat (first|exact Drawn0.refl _|apply Drawn0.step)⟩
end Go.Proofs.YtjeofffddbibeaaDoor.PParseTells
end

section
namespace Go.Proofs.YtjeofffddbibeaaDoor.Pa
open Go Go.RowKit PParseTells YtjeofffddbibeaaDoorW.PrintWords YtjeofffddbibeaaDoorW.PrintLast YtjeofffddbibeaaDoorW.PrintMore
abbrev Tok:=S61
abbrev tokV (t : Tok) : Value:=.agg #[.int .u8 t.f0,.string t.f1,.int .i64 t.f2]
def IsP (w0 W : World) (g : Nat) (L : List Tok) (a p : Int) : Prop :=
 ∃ A0 c0,W.heap[g]? = some (.cells #[.slice A0 L.length c0,.int .i64 a,.int .i64 p] 94 (0,0)) ∧ w0.heap.size ≤ g ∧ L.length ≤ c0 ∧ Kd.C k61 w0 A0 L.length L ∧ Below w0.heap.size w0 W
theorem IsP.keep {w0 W W1 : World} {g : Nat} {L : List Tok} {a p : Int} (h : IsP w0 W g L a p) (hk : Below W.heap.size W W1) : IsP w0 W1 g L a p:=by
 obtain ⟨A0,c0,h1,h2,h3,h4,h5⟩:=h
 exact ⟨A0,c0,(hk.block g (wT h1)).trans h1,h2,h3,h4,xN h5 h5.size hk⟩
theorem IsP.lt {w0 W : World} {g : Nat} {L : List Tok} {a p : Int} (h : IsP w0 W g L a p) : g < W.heap.size:=by
 obtain ⟨A0,c0,h1,_⟩:=h
 exact wT h1
theorem IsP.head {w0 W : World} {g : Nat} {t : Tok} {r : List Tok} {a p : Int} (h : IsP w0 W g (t :: r) a p) :
  ∃ ad c0,W.heap[g]? = some (.cells #[.slice (some ad) (r.length + 1) c0,.int .i64 a,.int .i64 p] 94 (0,0)) ∧ r.length + 1 ≤ c0 ∧ W.cell? ad = some (.int .u8 t.f0) ∧ W.cell? ⟨ad.block,ad.off + 1,none⟩ = some (.string t.f1) ∧ W.cell? ⟨ad.block,ad.off + 2,none⟩ = some (.int .i64 t.f2) ∧ r.length + 1 ≤ 9223372036854775807:=by
 obtain ⟨A0,c0,h1,h2,h3,h4,h5⟩:=h
 have hC:=Kd.C_below h4 h5
 obtain ⟨ad,rfl,c1,c2,c3⟩:=at_T61 hC 0 (by omega) (by simp)
 have e : ad.add ((0 : Int).toNat * 3) = ad:=by show ad.add 0 = ad; exact Addr.add_zero' ad
 rw [e] at c1 c2 c3
 exact ⟨ad,c0,h1,h3,c1,c2,c3,hC.2.1⟩
def kindF : List Tok → Int
 | [] => 0
 | t :: _ => t.f0
def isF (s : ByteArray) : List Tok → Bool
 | [] => false
 | t :: _ => decide (t.f0 = 4) && (t.f1.toList == s.toList)
set_option maxHeartbeats 4000000 in
theorem cA (g : Nat) (L : List Tok) (a p : Int) (w0 w : World) (hI : IsP w0 w g L a p) :
  Calls Tryd.prog 82 #[.pointer (some ⟨g,0,none⟩)] w fun e w' => e = .returned (.int .u8 (kindF L)) ∧ Drawn0 w w':=by
 cases L with
 | nil =>
  obtain ⟨A0,c0,h1,h2,h3,h4,h5⟩:=hI
  have q0 : w.cell? ⟨g,0,none⟩ = some (.slice A0 0 c0):=(zK h1 0).trans rfl
  have hk : kindF [] = 0:=rfl
  rw [hk]
  clear h1 h2 h3 h4 h5 hk
  go_enter Tryd.func82,Tryd.ntmps82
  go_wp2
  go_ret
  exact ⟨rfl,by repeat (first|exact Drawn0.refl _|apply Drawn0.step)⟩
 | cons t r =>
  obtain ⟨ad,c0,h1,h3,c1,c2,c3,hm⟩:=hI.head
  have q0 : w.cell? ⟨g,0,none⟩ = some (.slice (some ad) (r.length + 1) c0):=(zK h1 0).trans rfl
  have hk : kindF (t :: r) = t.f0:=rfl
  rw [hk]
  obtain ⟨N,hN⟩ : ∃ N,N = r.length + 1:=⟨_,rfl⟩
  rw [← hN] at q0
  have n1 : ((N : Int) == 0) = false:=beq_eq_false_iff_ne.2 (by omega)
  have n2 : (0 : Int) < (N : Int):=by omega
  have n3 : ¬ (N = 0):=by omega
  have n4 : 0 < N:=by omega
  clear h1 h3 hk hN hI hm
  go_enter Tryd.func82,Tryd.ntmps82
  go_wp2
  go_ret
  exact ⟨rfl,by repeat (first|exact Drawn0.refl _|apply Drawn0.step)⟩
theorem IsP.drawn {w0 W W1 : World} {g : Nat} {L : List Tok} {a p : Int} (h : IsP w0 W g L a p) (hk : Drawn0 W W1) : IsP w0 W1 g L a p:=h.keep hk.below
set_option maxHeartbeats 4000000 in
theorem is_calls (g : Nat) (s : ByteArray) (L : List Tok) (a p : Int) (w0 w : World) (hI : IsP w0 w g L a p) :
  Calls Tryd.prog 96 #[.pointer (some ⟨g,0,none⟩),.string s] w fun e w' => e = .returned (.bool (isF s L)) ∧ Drawn0 w w':=by
 have CK:=zZ.mk (cA g L a p w0 w hI)
 cases L with
 | nil =>
  have hk : kindF [] = 0:=rfl
  have hi : isF s [] = false:=rfl
  rw [hk] at CK
  rw [hi]
  clear hk hi hI
  go_enter Tryd.func96,Tryd.ntmps96
  go_wp2_with fail
  (with_reducible refine CK.out.mono ?_)
  rintro e w1 ⟨rfl,hd1⟩
  have HD:=zZ.mk hd1
  clear hd1
  go_wp2
  go_ret
  exact ⟨rfl,by repeat (first|exact HD.out|exact Drawn0.refl _|apply Drawn0.step)⟩
 | cons t r =>
  have hk : kindF (t :: r) = t.f0:=rfl
  have hi : isF s (t :: r) = (decide (t.f0 = 4) && (t.f1.toList == s.toList)):=rfl
  rw [hk] at CK
  rw [hi]
  have HI:=zZ.mk hI
  clear hk hi hI
  by_cases h4 : t.f0 = 4
  ·
   have e4 : (t.f0 == 4) = true:=beq_iff_eq.2 h4
   rw [decide_eq_true h4,Bool.true_and]
   go_enter Tryd.func96,Tryd.ntmps96
   go_wp2_with fail
   (with_reducible refine CK.out.mono ?_)
   rintro e w1 ⟨rfl,hd1⟩
   obtain ⟨ad,c0,h1,h3,c1,c2,c3,hm⟩:=(HI.out.drawn hd1).head
   have q0 : w1.cell? ⟨g,0,none⟩ = some (.slice (some ad) (r.length + 1) c0):=(zK h1 0).trans rfl
   have HD:=zZ.mk hd1
   have n2 : (0 : Int) < ((r.length : Int) + 1):=by omega
   clear hd1 h1 h3 hm h4
   go_wp2
   go_ret
   exact ⟨rfl,by repeat (first|exact HD.out|exact Drawn0.refl _|apply Drawn0.step)⟩
  ·
   have e4 : (t.f0 == 4) = false:=beq_eq_false_iff_ne.2 h4
   rw [decide_eq_false h4,Bool.false_and]
   go_enter Tryd.func96,Tryd.ntmps96
   go_wp2_with fail
   (with_reducible refine CK.out.mono ?_)
   rintro e w1 ⟨rfl,hd1⟩
   have HD:=zZ.mk hd1
   clear hd1 h4
   go_wp2
   go_ret
   exact ⟨rfl,by repeat (first|exact HD.out|exact Drawn0.refl _|apply Drawn0.step)⟩
abbrev At (g : Nat) : Nat → Prop:=fun k => k = g
theorem wV {w : World} {g : Nat} {o : Obj} (h : w.heap[g]? = some o) {p : Addr} (hp : p.block ≠ g) (u : Value) : (w.setCell p u).heap[g]? = some o:=(Below.heap_setCell w p u g (Ne.symm hp)).trans h
theorem IsP.mv {w0 W W1 : World} {g : Nat} {L : List Tok} {a p : Int} (h : IsP w0 W g L a p) {S : Nat → Prop} (hk : Kept W W1 S) (hB : Below w0.heap.size w0 W1) (hg : ¬ S g) : IsP w0 W1 g L a p:=by
 obtain ⟨A0,c0,h1,h2,h3,h4,h5⟩:=h
 exact ⟨A0,c0,(hk.2 g (wT h1) hg).trans h1,h2,h3,h4,hB⟩
theorem IsP.low {w0 W : World} {g : Nat} {L : List Tok} {a p : Int} (h : IsP w0 W g L a p) : Below w0.heap.size w0 W:=by
 obtain ⟨A0,c0,h1,h2,h3,h4,h5⟩:=h
 exact h5
theorem IsP.ge {w0 W : World} {g : Nat} {L : List Tok} {a p : Int} (h : IsP w0 W g L a p) : w0.heap.size ≤ g:=by
 obtain ⟨A0,c0,h1,h2,_⟩:=h
 exact h2
theorem IsP.tail {w0 W : World} {g : Nat} {t : Tok} {r : List Tok} {a p : Int} (h : IsP w0 W g (t :: r) a p) :
  ∃ ad c0,W.heap[g]? = some (.cells #[.slice (some ad) (r.length + 1) c0,.int .i64 a,.int .i64 p] 94 (0,0)) ∧ r.length + 1 ≤ c0 ∧ W.cell? ad = some (.int .u8 t.f0) ∧ W.cell? ⟨ad.block,ad.off + 1,none⟩ = some (.string t.f1) ∧ W.cell? ⟨ad.block,ad.off + 2,none⟩ = some (.int .i64 t.f2) ∧ r.length + 1 ≤ 9223372036854775807 ∧
   ∀ W1,W1.heap[g]? = some (.cells #[.slice (if c0 = 1 then some ad else some (ad.add 3)) r.length (c0 - 1),.int .i64 a,.int .i64 p] 94 (0,0)) → Below w0.heap.size w0 W1 → IsP w0 W1 g r a p:=by
 obtain ⟨ad,c0,h1,h3,c1,c2,c3,hm⟩:=h.head
 obtain ⟨A0,c0',e1,e2,e3,e4,e5⟩:=h
 rw [h1] at e1
 simp only [Option.some.injEq,Obj.cells.injEq] at e1
 have e6:=e1.1
 simp only [Array.mk.injEq,List.cons.injEq,Value.slice.injEq] at e6
 obtain ⟨⟨rfl,_,rfl⟩,_⟩:=e6
 refine ⟨ad,c0,h1,h3,c1,c2,c3,hm,?_⟩
 intro W1 b1 b2
 have hd:=Kd.C_drop (m:=1) (c:=c0) e4 (by simp) e3
 rw [show (if c0 = 1 then some ad else (some ad).map (·.add (1 * k61.sz))) = (if c0 = 1 then some ad else some (ad.add 3)) from rfl] at hd
 exact ⟨_,c0 - 1,b1,e2,by omega,hd,b2⟩
theorem IsP.fin {w0 w W1 : World} {g : Nat} {L : List Tok} {a p : Int} (h : IsP w0 w g L a p) (hk : Kept w W1 (fun _ => False)) (hB : Below w0.heap.size w0 W1) : IsP w0 W1 g L a p ∧ Kept w W1 (At g):=⟨h.mv hk hB (fun h => h),hk.mono (fun _ h => h.elim)⟩
theorem xL {w W : World} {g : Nat} (h : Kept w W (At g)) (i : Nat) (u : Value) : Kept w (W.setCell ⟨g,i,none⟩ u) (At g):=h.setCell (p:=⟨g,i,none⟩) (.inl rfl) u
theorem yL {w W : World} {S : Nat → Prop} {b : Nat} (h : Kept w W S) (i : Nat) (u : Value) (hb : w.heap.size ≤ b) : Kept w (W.setCell ⟨b,i,none⟩ u) S:=h.setCell (p:=⟨b,i,none⟩) (.inr hb) u
theorem kU (w : World) (ks : List Int) (hl : ks.length ≤ 9223372036854775807) : (Kd.int .u8).C (w.alloc (.cells (ks.map (Value.int .u8)).toArray 5)) (some ⟨w.heap.size,0,none⟩) ks.length ks:=by
 refine ⟨rfl,hl,fun _ => ⟨_,rfl,fun j p hj => ⟨[.int .u8 p],rfl,rfl,fun i u hu => ?_⟩⟩⟩
 cases i with
 | succ i => simp at hu
 | zero =>
  have hu' : Value.int .u8 p = u:=by simpa using hu
  subst hu'
  have he : (⟨w.heap.size,0,none⟩ : Addr).add (j * (Kd.int .u8).sz + 0) = ⟨w.heap.size,j,none⟩:=by
   show (⟨w.heap.size,0,none⟩ : Addr).add (j * 1 + 0) = _
   unfold Addr.add
   split
   ·
    rename_i h0
    have : j = 0:=by omega
    subst this
    rfl
   · simp
  refine (congrArg (fun x => World.cell? (w.alloc (.cells (ks.map (Value.int .u8)).toArray 5)) x) he).trans ?_
  refine (zK (wP w _) j).trans ?_
  simp [hj]
def takeF (ks : List Int) : List Tok → Tok × List Tok × Int
 | [] => (z61,[],110)
 | t :: r => if t.f0 ≠ 0 ∧ t.f0 ∈ ks then (t,r,0) else (z61,t :: r,110)
def Asks (ks : List Int) : Prop:=∀ x : Int,∃ k,kP.f k ks x = some (decide (x ∈ ks))
theorem asks1 : Asks [1]:=by
 intro x
 refine ⟨3,?_⟩
 by_cases h : x = 1
 · subst h; rfl
 · simp [kP.f,sA.f,sA.l0,rd,h,wrap64]
theorem asks23 : Asks [2,3]:=by
 intro x
 refine ⟨4,?_⟩
 by_cases h : x = 2
 · subst h; rfl
 by_cases h' : x = 3
 · subst h'; decide +kernel
 · simp [kP.f,sA.f,sA.l0,rd,h,h',wrap64]
theorem gY : (Tryd.prog.info? 61).map (·.size) = some 3:=by kernel_rfl
set_option maxHeartbeats 8000000 in
theorem dT (g : Nat) (ks : List Int) (hct : Asks ks) (A : Option Addr) (n c : Nat) (L : List Tok) (a p : Int) (w0 w : World) (hI : IsP w0 w g L a p) (hn : n = ks.length) (hK : (Kd.int .u8).C w A ks.length ks) (hc : ks.length ≤ c) :
  Calls Tryd.prog 83 #[.pointer (some ⟨g,0,none⟩),.slice A n c] w fun e w' => e = .returned (.tuple #[tokV (takeF ks L).1,.int .i64 (takeF ks L).2.2]) ∧ IsP w0 w' g (takeF ks L).2.1 a p ∧ Kept w w' (At g):=by
 subst hn
 have hg:=hI.ge
 have hlt:=hI.lt
 have hsz : w0.heap.size ≤ w.heap.size:=by omega
 have CK:=fun W h => zZ.mk (cA g L a p w0 W h)
 have CC : ∀ x W,Below w.heap.size w W → zZ (Calls Tryd.prog 95 #[.slice A ks.length c,.int .u8 x] W fun e w' => e = .returned (.bool (decide (x ∈ ks))) ∧ Drawn0 W w'):=by
  intro x W hb
  obtain ⟨k,hk⟩:=hct x
  exact ⟨kP.calls k A c ks x _ W (Kd.C_below hK hb) hc hk⟩
 cases L with
 | nil =>
  have HI:=zZ.mk hI
  have hk : kindF [] = 0:=rfl
  rw [hk] at CK
  have e0 : takeF ks [] = (z61,[],110):=rfl
  rw [e0]
  clear hI hk e0
  go_enter Tryd.func83,Tryd.ntmps83
  go_wp2_with fail
  (with_reducible refine (CK _ ?i).out.mono ?_)
  case i => exact HI.out.keep (zY (Below.refl _ _) _)
  rintro e w1 ⟨rfl,⟨m,rfl⟩⟩
  go_wp2
  have b1:=wP w (.cells #[.int .u8 0,.string { data:=#[] },.int .i64 0] 61)
  refine bodyPost_ret (uT rfl _ _ _ 61 _ (0,0) _ rfl (zF (zF (zF (zN b1 m) 0 _ rfl) 1 _ rfl) 2 _ rfl) Tryd.underlying61 rfl gY) rfl ?_
  exact ⟨rfl,HI.out.fin (by (with_reducible repeat (first|exact Kept.refl _ _|apply Kept.alloc|apply Kept.drewN|apply Kept.drew|refine xL ?_ _ _|refine yL ?_ _ _ (Nat.le_refl _)|refine yL ?_ _ _ (by first|assumption|omega)))) (by (with_reducible repeat (first|exact HI.out.low|apply zY|apply zV|apply zU|refine zQ ?_ (by first|assumption|omega))))⟩
 | cons t r =>
  have HI:=zZ.mk hI
  have hk : kindF (t :: r) = t.f0:=rfl
  rw [hk] at CK
  have e0 : takeF ks (t :: r) = if t.f0 ≠ 0 ∧ t.f0 ∈ ks then (t,r,0) else (z61,t :: r,110):=rfl
  rw [e0]
  obtain ⟨ad,c0,h1,h3,c1,c2,c3,hm,hT⟩:=hI.tail
  have h1d : ∀ o m,((w.alloc o).drewN m).heap[g]? = _:=fun o m => zN (zR h1 o) m
  have b1:=wP w (.cells #[.int .u8 0,.string { data:=#[] },.int .i64 0] 61)
  clear hI hk e0
  by_cases hz : t.f0 = 0
  ·
   have ez : (t.f0 == 0) = true:=beq_iff_eq.2 hz
   rw [if_neg (fun h => h.1 hz)]
   clear h1 h3 c1 c2 c3 hm hT h1d
   go_enter Tryd.func83,Tryd.ntmps83
   go_wp2_with fail
   (with_reducible refine (CK _ ?i).out.mono ?_)
   case i => exact HI.out.keep (zY (Below.refl _ _) _)
   rintro e w1 ⟨rfl,⟨m,rfl⟩⟩
   go_wp2
   refine bodyPost_ret (uT rfl _ _ _ 61 _ (0,0) _ rfl (zF (zF (zF (zN b1 m) 0 _ rfl) 1 _ rfl) 2 _ rfl) Tryd.underlying61 rfl gY) rfl ?_
   exact ⟨rfl,HI.out.fin (by (with_reducible repeat (first|exact Kept.refl _ _|apply Kept.alloc|apply Kept.drewN|apply Kept.drew|refine xL ?_ _ _|refine yL ?_ _ _ (Nat.le_refl _)|refine yL ?_ _ _ (by first|assumption|omega)))) (by (with_reducible repeat (first|exact HI.out.low|apply zY|apply zV|apply zU|refine zQ ?_ (by first|assumption|omega))))⟩
  have ez : (t.f0 == 0) = false:=beq_eq_false_iff_ne.2 hz
  by_cases hi : t.f0 ∈ ks
  ·
   have ei : decide (t.f0 ∈ ks) = true:=decide_eq_true hi
   rw [if_pos ⟨hz,hi⟩]
   have n1 : (0 : Int) < (r.length : Int) + 1:=by omega
   have n2 : 0 < r.length + 1:=by omega
   have n3 : 1 ≤ r.length + 1:=by omega
   have n5 : r.length + 1 - 1 = r.length:=by omega
   have q0 : w.cell? ⟨g,0,none⟩ = some (.slice (some ad) (r.length + 1) c0):=(zK h1 0).trans rfl
   have had:=World.block_lt_of_cell? _ _ c1
   have f0:=zP h1 0
   clear hi hz
   go_enter Tryd.func83,Tryd.ntmps83
   go_wp2_with fail
   (with_reducible refine (CK _ ?i).out.mono ?_)
   case i => exact HI.out.keep (zY (Below.refl _ _) _)
   rintro e w1 ⟨rfl,⟨m,rfl⟩⟩
   go_wp2_with fail
   (with_reducible refine (CC _ _ ?i).out.mono ?_)
   case i => (with_reducible repeat (first|exact (Below.refl w.heap.size w)|apply zY|apply zV|apply zU|refine zQ ?_ (by first|assumption|omega)))
   rintro e w1 ⟨rfl,⟨m2,rfl⟩⟩
   rw [ei]
   have hne : g ≠ w.heap.size:=by omega
   by_cases hc1 : c0 = 1
   ·
    subst hc1
    rw [if_pos rfl] at hT
    go_wp2
    all_goals refine bodyPost_ret (uT rfl _ _ _ 61 _ (0,0) _ rfl (zR (zF (zF (zF (wV (zN b1 _) hne _) 0 _ rfl) 1 _ rfl) 2 _ rfl) _) Tryd.underlying61 rfl gY) rfl ?_
    all_goals refine ⟨rfl,hT _ ?_ ?_,?_⟩
    · exact zR (wV (wV (wV (zF (zN (zR h1 _) _) 0 _ rfl) hne.symm _) hne.symm _) hne.symm _) _
    · (with_reducible repeat (first|exact HI.out.low|apply zY|apply zV|apply zU|refine zQ ?_ (by first|assumption|omega)))
    · (with_reducible repeat (first|exact Kept.refl _ _|apply Kept.alloc|apply Kept.drewN|apply Kept.drew|refine xL ?_ _ _|refine yL ?_ _ _ (Nat.le_refl _)|refine yL ?_ _ _ (by first|assumption|omega)))
   ·
    rw [if_neg hc1] at hT
    go_wp2
    all_goals refine bodyPost_ret (uT rfl _ _ _ 61 _ (0,0) _ rfl (zR (zF (zF (zF (wV (zN b1 _) hne _) 0 _ rfl) 1 _ rfl) 2 _ rfl) _) Tryd.underlying61 rfl gY) rfl ?_
    all_goals refine ⟨rfl,hT _ ?_ ?_,?_⟩
    · exact zR (wV (wV (wV (zF (zN (zR h1 _) _) 0 _ rfl) hne.symm _) hne.symm _) hne.symm _) _
    · (with_reducible repeat (first|exact HI.out.low|apply zY|apply zV|apply zU|refine zQ ?_ (by first|assumption|omega)))
    · (with_reducible repeat (first|exact Kept.refl _ _|apply Kept.alloc|apply Kept.drewN|apply Kept.drew|refine xL ?_ _ _|refine yL ?_ _ _ (Nat.le_refl _)|refine yL ?_ _ _ (by first|assumption|omega)))
  ·
   have ei : decide (t.f0 ∈ ks) = false:=decide_eq_false hi
   rw [if_neg (fun h => hi h.2)]
   clear h1 h3 c1 c2 c3 hm hT h1d hi hz
   go_enter Tryd.func83,Tryd.ntmps83
   go_wp2_with fail
   (with_reducible refine (CK _ ?i).out.mono ?_)
   case i => exact HI.out.keep (zY (Below.refl _ _) _)
   rintro e w1 ⟨rfl,⟨m,rfl⟩⟩
   go_wp2_with fail
   (with_reducible refine (CC _ _ ?i).out.mono ?_)
   case i => (with_reducible repeat (first|exact (Below.refl w.heap.size w)|apply zY|apply zV|apply zU|refine zQ ?_ (by first|assumption|omega)))
   rintro e w1 ⟨rfl,⟨m2,rfl⟩⟩
   rw [ei]
   go_wp2
   refine bodyPost_ret (uT rfl _ _ _ 61 _ (0,0) _ rfl (zF (zF (zF (zN (zN b1 m) m2) 0 _ rfl) 1 _ rfl) 2 _ rfl) Tryd.underlying61 rfl gY) rfl ?_
   exact ⟨rfl,HI.out.fin (by (with_reducible repeat (first|exact Kept.refl _ _|apply Kept.alloc|apply Kept.drewN|apply Kept.drew|refine xL ?_ _ _|refine yL ?_ _ _ (Nat.le_refl _)|refine yL ?_ _ _ (by first|assumption|omega)))) (by (with_reducible repeat (first|exact HI.out.low|apply zY|apply zV|apply zU|refine zQ ?_ (by first|assumption|omega))))⟩
def markF (s : ByteArray) (L : List Tok) : List Tok × Int:=if isF s L = true then (L.tail,0) else (L,110)
set_option maxHeartbeats 8000000 in
theorem mZ (g : Nat) (s : ByteArray) (L : List Tok) (a p : Int) (w0 w : World) (hI : IsP w0 w g L a p) :
  Calls Tryd.prog 84 #[.pointer (some ⟨g,0,none⟩),.string s] w fun e w' => e = .returned (.int .i64 (markF s L).2) ∧ IsP w0 w' g (markF s L).1 a p ∧ Kept w w' (At g):=by
 have hg:=hI.ge
 have hlt:=hI.lt
 have hsz : w0.heap.size ≤ w.heap.size:=by omega
 have CI:=zZ.mk (is_calls g s L a p w0 w hI)
 have HI:=zZ.mk hI
 cases hi : isF s L with
 | false =>
  have e0 : markF s L = (L,110):=if_neg (by rw [hi]; simp)
  rw [e0]
  rw [hi] at CI
  clear hI e0 hi
  go_enter Tryd.func84,Tryd.ntmps84
  go_wp2_with fail
  (with_reducible refine CI.out.mono ?_)
  rintro e w1 ⟨rfl,⟨m,rfl⟩⟩
  go_wp2
  go_ret
  exact ⟨rfl,HI.out.fin (by (with_reducible repeat (first|exact Kept.refl _ _|apply Kept.alloc|apply Kept.drewN|apply Kept.drew|refine xL ?_ _ _|refine yL ?_ _ _ (Nat.le_refl _)|refine yL ?_ _ _ (by first|assumption|omega)))) (by (with_reducible repeat (first|exact HI.out.low|apply zY|apply zV|apply zU|refine zQ ?_ (by first|assumption|omega))))⟩
 | true =>
  cases L with
  | nil => cases hi
  | cons t r =>
  have e0 : markF s (t :: r) = (r,0):=if_pos hi
  rw [e0]
  rw [hi] at CI
  obtain ⟨ad,c0,h1,h3,c1,c2,c3,hm,hT⟩:=hI.tail
  have n1 : (0 : Int) < (r.length : Int) + 1:=by omega
  have n2 : 0 < r.length + 1:=by omega
  have n3 : 1 ≤ r.length + 1:=by omega
  have n5 : r.length + 1 - 1 = r.length:=by omega
  have q0 : w.cell? ⟨g,0,none⟩ = some (.slice (some ad) (r.length + 1) c0):=(zK h1 0).trans rfl
  have f0:=zP h1 0
  clear hI hi e0 c1 c2 c3
  go_enter Tryd.func84,Tryd.ntmps84
  go_wp2_with fail
  (with_reducible refine CI.out.mono ?_)
  rintro e w1 ⟨rfl,⟨m,rfl⟩⟩
  by_cases hc1 : c0 = 1
  ·
   subst hc1
   rw [if_pos rfl] at hT
   go_wp2
   go_ret
   refine ⟨rfl,hT _ ?_ ?_,?_⟩
   · exact zF (zN h1 _) 0 _ rfl
   · (with_reducible repeat (first|exact HI.out.low|apply zY|apply zV|apply zU|refine zQ ?_ (by first|assumption|omega)))
   · (with_reducible repeat (first|exact Kept.refl _ _|apply Kept.alloc|apply Kept.drewN|apply Kept.drew|refine xL ?_ _ _|refine yL ?_ _ _ (Nat.le_refl _)|refine yL ?_ _ _ (by first|assumption|omega)))
  ·
   rw [if_neg hc1] at hT
   go_wp2
   go_ret
   refine ⟨rfl,hT _ ?_ ?_,?_⟩
   · exact zF (zN h1 _) 0 _ rfl
   · (with_reducible repeat (first|exact HI.out.low|apply zY|apply zV|apply zU|refine zQ ?_ (by first|assumption|omega)))
   · (with_reducible repeat (first|exact Kept.refl _ _|apply Kept.alloc|apply Kept.drewN|apply Kept.drew|refine xL ?_ _ _|refine yL ?_ _ _ (Nat.le_refl _)|refine yL ?_ _ _ (by first|assumption|omega)))
abbrev numF (L : List Tok) : Tok × List Tok × Int:=takeF [2,3] L
set_option maxHeartbeats 8000000 in
theorem cL (g : Nat) (L : List Tok) (a p : Int) (w0 w : World) (hI : IsP w0 w g L a p) :
  Calls Tryd.prog 88 #[.pointer (some ⟨g,0,none⟩)] w fun e w' => e = .returned (.tuple #[.int .i64 (numF L).1.f2,.int .i64 (numF L).2.2]) ∧ IsP w0 w' g (numF L).2.1 a p ∧ Kept w w' (At g):=by
 have hg:=hI.ge
 have hlt:=hI.lt
 have hsz : w0.heap.size ≤ w.heap.size:=by omega
 have CT:=fun A W h hC => zZ.mk (dT g [2,3] asks23 A 2 2 L a p w0 W h rfl hC (Nat.le_refl _))
 have HI:=zZ.mk hI
 have HT : ∃ t L1 e,takeF [2,3] L = (t,L1,e):=⟨_,_,_,rfl⟩
 obtain ⟨t,L1,e1,HT⟩:=HT
 have HT' : numF L = (t,L1,e1):=HT
 rw [HT']
 rw [HT] at CT
 clear hI HT HT'
 go_enter Tryd.func88,Tryd.ntmps88
 go_wp2_with fail
 (with_reducible refine (CT (some ⟨w.heap.size,0,none⟩) _ ?i ?j).out.mono ?_)
 case i => exact HI.out.keep (zY (Below.refl _ _) _)
 case j => exact kU w [2,3] (by decide)
 rintro e w1 ⟨rfl,hI1,hk⟩
 have hk1:=zZ.mk (((Kept.refl w (At g)).alloc (.cells #[.int .u8 2,.int .u8 3] 5)).then_ hk (fun _ h => .inl h))
 have HI1:=zZ.mk hI1
 have hs1:=hk1.out.1
 clear hk hI1
 go_wp2
 go_ret2
 exact ⟨rfl,HI1.out.mv (S:=fun _ => False) (by (with_reducible repeat (first|exact Kept.refl _ _|apply Kept.alloc|apply Kept.drewN|apply Kept.drew|refine xL ?_ _ _|refine yL ?_ _ _ (Nat.le_refl _)|refine yL ?_ _ _ (by first|assumption|omega)))) (by (with_reducible repeat (first|exact HI1.out.low|apply zY|apply zV|apply zU|refine zQ ?_ (by first|assumption|omega)))) (fun h => h),by (with_reducible repeat (first|exact hk1.out|apply Kept.alloc|apply Kept.drewN|apply Kept.drew|refine xL ?_ _ _|refine yL ?_ _ _ (by first|assumption|omega)))⟩
structure Cal (w : World) : Prop where
 space : Lib.TabIs Tryd.prog w "strings.asciiSpace" .u8 Lib.asciiSpaceTab
 maxl : ∃ m,w.cell? ⟨2,0,none⟩ = some (.int .i64 m)
theorem gSpace : Tryd.prog.globalNamed "strings.asciiSpace" = some 0:=by kernel_rfl
theorem Cal.l {w w' : World} (h : Cal w) (k : Below w.heap.size w w') : Cal w':=by
 obtain ⟨m,hm⟩:=h.maxl
 refine ⟨?_,m,(k.cell (World.block_lt_of_cell? w _ hm)).trans hm⟩
 have hp:=h.space
 have h0 : w.cell? ⟨0,0,none⟩ = some (.int .u8 (Lib.asciiSpaceTab.getD 0 0)):=hp.cell gSpace 0 (by decide +kernel)
 exact var?_below k gSpace (World.block_lt_of_cell? w _ h0) hp
abbrev OPS : ByteArray:=⟨#[103,114,111,117,112,32,115,104,105,102,116,32,115,117,98,115,101,116,32,97,108,116,101,114,32,99,111,109,98,105,110,101,32,97,110,99,104,111,114,32,100,111,119,110,32,117,112,32,109,101,101,116,32,117,110,105,111,110,32,99,117,116,32,108,101,115,115]⟩
def opsL : List ByteArray:=[⟨#[103,114,111,117,112]⟩,⟨#[115,104,105,102,116]⟩,⟨#[115,117,98,115,101,116]⟩,⟨#[97,108,116,101,114]⟩,⟨#[99,111,109,98,105,110,101]⟩,⟨#[97,110,99,104,111,114]⟩,⟨#[100,111,119,110]⟩,⟨#[117,112]⟩,⟨#[109,101,101,116]⟩,⟨#[117,110,105,111,110]⟩,⟨#[99,117,116]⟩,⟨#[108,101,115,115]⟩]
theorem ops_fields : (Lib.fields OPS.data.toList).map (fun l => (⟨l.toArray⟩ : ByteArray)) = opsL:=by decide +kernel
theorem ops_ascii : ∀ (j : Nat) b,OPS.data.toList[j]? = some b → b.toNat < 128:=by
 intro j b hb
 have h : ∀ b ∈ OPS.data.toList,b.toNat < 128:=by decide +kernel
 exact h b (List.mem_of_getElem? hb)
abbrev SHAPES : ByteArray:=⟨#[110,61,101,58,100,101,102,105,110,101,32,110,58,100,114,111,112,32,110,58,115,104,111,119,32,110,58,102,111,114,109,32,110,58,118,97,114,32,110,105,58,101,120,116,101,110,116,32,110,105,58,103,114,97,110,117,108,101,32,110,105,58,110,101,120,116,32,110,105,58,112,114,101,118,32,110,105,58,115,112,97,110,32,110,110,58,114,101,108,32,110,110,105,58,99,111,118,101,114,32,110,110,110,114,58,98,111,117,110,100,32,105,58,100,97,116,101,32,105,105,105,58,115,111,108,118,101,32,58,110,101,116,32,58,105,110,102,101,114,32,58,114,101,115,101,116]⟩
def shapeL : List (ByteArray × ByteArray):=(Lib.fields SHAPES.data.toList).map fun l => (⟨(Lib.cut l [58]).1.toArray⟩,⟨(Lib.cut l [58]).2.1.toArray⟩)
theorem shapes_ascii : ∀ (j : Nat) b,SHAPES.data.toList[j]? = some b → b.toNat < 128:=by
 intro j b hb
 have h : ∀ b ∈ SHAPES.data.toList,b.toNat < 128:=by decide +kernel
 exact h b (List.mem_of_getElem? hb)
def opF (s : ByteArray) : Int × Bool:=if Lib.idxOfS opsL s < 0 then (0,false) else (1 + Lib.idxOfS opsL s,true)
theorem idx_from (s : ByteArray) : ∀ (zs : List ByteArray) (i : Nat),Lib.idxFromS zs s i < (i + zs.length : Nat) ∧ -1 ≤ Lib.idxFromS zs s i ∨ zs = []
 | [],i => .inr rfl
 | z :: zs,i => by
  left
  rw [Lib.idxFromS]
  split
  · rw [List.length_cons]; omega
  ·
   rcases idx_from s zs (i + 1) with h|h
   · rw [List.length_cons]; omega
   ·
    subst h
    rw [Lib.idxFromS,List.length_cons]
    omega
theorem idx_le (s : ByteArray) : Lib.idxOfS opsL s < 12 ∧ -1 ≤ Lib.idxOfS opsL s:=by
 rcases idx_from s opsL 0 with h|h
 · exact h
 · cases h
end Go.Proofs.YtjeofffddbibeaaDoor.Pa
end

section
namespace Go.Proofs.YtjeofffddbibeaaDoor.Ex
open Go Go.RowKit PParseTells YtjeofffddbibeaaDoorW.PrintWords YtjeofffddbibeaaDoorW.PrintLast YtjeofffddbibeaaDoorW.PrintMore
abbrev X:=S25
abbrev kX : Kd X:=k25
abbrev kI : Kd Int:=Kd.int .i64
abbrev agg (x : X) (A2 : Option Addr) (c2 : Nat) (A3 : Option Addr) (c3 : Nat) : Value:=.agg #[.int .u8 x.f0,.string x.f1,.slice A2 x.f2.length c2,.slice A3 x.f3.length c3]
section
variable {σ : Type} (f : σ → X → Int → σ × Bool)
mutual
def goX : σ → X → Int → σ × Bool
 | s,⟨o,n,ns,xs⟩,d => if (f s ⟨o,n,ns,xs⟩ d).2 = true then goL (f s ⟨o,n,ns,xs⟩ d).1 xs (d + 1) else ((f s ⟨o,n,ns,xs⟩ d).1,false)
def goL : σ → List X → Int → σ × Bool
 | s,[],_ => (s,true)
 | s,y :: ys,d => if (goX s y d).2 = true then goL (goX s y d).1 ys d else ((goX s y d).1,false)
end
end
mutual
def cnt : X → Nat
 | ⟨_,_,_,xs⟩ => 1 + cntL xs
def cntL : List X → Nat
 | [] => 0
 | y :: ys => cnt y + cntL ys
end
theorem sW (x : X) : cnt x = 1 + cntL x.f3:=by cases x; rw [cnt]
theorem rY : cntL [] = 0:=by rw [cntL]
theorem rL (y : X) (ys : List X) : cntL (y :: ys) = cnt y + cntL ys:=by rw [cntL]
theorem zWD (xs ys : List X) : cntL (xs ++ ys) = cntL xs + cntL ys:=by
 induction xs with
 | nil => simp [rY]
 | cons y xs ih => rw [List.cons_append,rL,rL,ih]; omega
theorem nA {y : X} {xs : List X} (h : y ∈ xs) : cnt y ≤ cntL xs:=by
 induction xs with
 | nil => cases h
 | cons z xs ih =>
  rw [rL]
  rcases List.mem_cons.1 h with rfl|h
  · omega
  · have:=ih h; omega
theorem sQ (x : X) : 0 < cnt x:=by rw [sW]; omega
theorem lS {x y : X} (h : y ∈ x.f3) : cnt y < cnt x:=by
 have:=nA h
 rw [sW x]
 omega
theorem len_cntL (xs : List X) : xs.length ≤ cntL xs:=by
 induction xs with
 | nil => simp
 | cons y ys ih => rw [rL,List.length_cons]; have:=sQ y; omega
mutual
def Wf : X → Prop
 | ⟨o,n,ns,xs⟩ => (0 ≤ o ∧ o ≤ 255) ∧ n.size ≤ 140737488351232 ∧ (∀ k ∈ ns,-9223372036854775808 ≤ k ∧ k ≤ 9223372036854775807) ∧ WfL xs
def WfL : List X → Prop
 | [] => True
 | y :: ys => Wf y ∧ WfL ys
end
theorem Wf_eq (x : X) : Wf x ↔ (0 ≤ x.f0 ∧ x.f0 ≤ 255) ∧ x.f1.size ≤ 140737488351232 ∧ (∀ k ∈ x.f2,-9223372036854775808 ≤ k ∧ k ≤ 9223372036854775807) ∧ WfL x.f3:=by cases x; rw [Wf]
theorem WfL_mem {xs : List X} (h : WfL xs) {y : X} (hy : y ∈ xs) : Wf y:=by
 induction xs with
 | nil => cases hy
 | cons z xs ih =>
  rw [WfL] at h
  rcases List.mem_cons.1 hy with rfl|hy
  · exact h.1
  · exact ih h.2 hy
theorem WfL_of {xs : List X} (h : ∀ y ∈ xs,Wf y) : WfL xs:=by
 induction xs with
 | nil => rw [WfL]; trivial
 | cons z xs ih => rw [WfL]; exact ⟨h z (by simp),ih fun y hy => h y (by simp [hy])⟩
theorem Wf.child {x y : X} (h : Wf x) (hy : y ∈ x.f3) : Wf y:=WfL_mem ((Wf_eq x).1 h).2.2.2 hy
theorem Wf.op {x : X} (h : Wf x) : 0 ≤ x.f0 ∧ x.f0 ≤ 255:=((Wf_eq x).1 h).1
theorem Wf.name {x : X} (h : Wf x) : x.f1.size ≤ 140737488351232:=((Wf_eq x).1 h).2.1
theorem Wf.nums {x : X} (h : Wf x) : ∀ k ∈ x.f2,-9223372036854775808 ≤ k ∧ k ≤ 9223372036854775807:=((Wf_eq x).1 h).2.2.1
def fld (p : Addr) (i : Nat) : Addr:=⟨p.block,p.off + i,none⟩
structure Node (w0 w : World) (p : Addr) (x : X) (A2 : Option Addr) (c2 : Nat) (A3 : Option Addr) (c3 : Nat) : Prop where
 q0 : w.cell? p = some (.int .u8 x.f0)
 q1 : w.cell? (fld p 1) = some (.string x.f1)
 q2 : w.cell? (fld p 2) = some (.slice A2 x.f2.length c2)
 q3 : w.cell? (fld p 3) = some (.slice A3 x.f3.length c3)
 l2 : x.f2.length ≤ c2
 C2 : kI.C w0 A2 x.f2.length x.f2
 l3 : x.f3.length ≤ c3
 C3 : kX.C w0 A3 x.f3.length x.f3
theorem cell_of_heap {w w1 : World} {a : Addr} {v : Value} (hb : w1.heap[a.block]? = w.heap[a.block]?) (h : w.cell? a = some v) : w1.cell? a = some v:=by
 simpa [World.cell?,hb] using h
theorem Node.keep {w0 w w1 : World} {S : Nat → Prop} {p : Addr} {x : X} {A2 : Option Addr} {c2 : Nat} {A3 : Option Addr} {c3 : Nat} (h : Node w0 w p x A2 c2 A3 c3) (hk : Kept w w1 S) (hp : ¬ S p.block) : Node w0 w1 p x A2 c2 A3 c3 :=
 ⟨dQ h.q0 hk hp,dQ h.q1 hk hp,dQ h.q2 hk hp,dQ h.q3 hk hp,h.l2,h.C2,h.l3,h.C3⟩
theorem Node.child {w0 w : World} {p : Addr} {x : X} {A2 : Option Addr} {c2 : Nat} {A3 : Option Addr} {c3 : Nat} (h : Node w0 w p x A2 c2 A3 c3) (hb : Below w0.heap.size w0 w) (i : Nat) (hi : i < x.f3.length) :
  ∃ ad B2 d2 B3 d3,A3 = some ad ∧ Node w0 w (ad.add (i * 4)) x.f3[i] B2 d2 B3 d3 ∧ (ad.add (i * 4)).block < w0.heap.size:=by
 obtain ⟨ad,B2,d2,B3,d3,e,q0,q1,q2,q3,l2,C2,l3,C3⟩:=rK h.C3 (i : Int) (by omega) (by omega)
 have er : yY x.f3 (i : Int) = x.f3[i]:=by
  unfold yY
  rw [Int.toNat_natCast,List.getD_eq_getElem?_getD,List.getElem?_eq_getElem hi]
  rfl
 rw [er] at q0 q1 q2 q3 l2 C2 l3 C3
 rw [Int.toNat_natCast] at q0 q1 q2 q3
 have hlt:=World.block_lt_of_cell? _ _ q0
 exact ⟨ad,B2,d2,B3,d3,e,⟨(hb.cell hlt).trans q0,(hb.cell (p:=⟨_,_,none⟩) hlt).trans q1,(hb.cell (p:=⟨_,_,none⟩) hlt).trans q2,(hb.cell (p:=⟨_,_,none⟩) hlt).trans q3,l2,C2,l3,C3⟩,hlt⟩
theorem Node.none {w0 w : World} {p : Addr} {x : X} {A2 : Option Addr} {c2 : Nat} {A3 : Option Addr} {c3 : Nat} (h : Node w0 w p x A2 c2 A3 c3) : x.f3.length ≤ 9223372036854775807:=Kd.C_max h.C3
structure Does (g : FuncId) (cb : Array Value) (S : Nat → Prop) (w0 : World) {σ : Type} (f : σ → X → Int → σ × Bool) (Inv : σ → World → Prop) (D : Int) (pot : σ → Nat) (L : Nat) (Z : Nat) : Prop where
 enter : ∀ args w,(callFunc g args).run Tryd.prog w = .ok (.enter g args) w
 draws : ∀ s w n,Inv s w → Inv s (w.drewN n)
 allocs : ∀ s w o,Inv s w → Inv s (w.alloc o)
 above : ∀ k,S k → w0.heap.size ≤ k
 step : ∀ s x d,pot (f s x d).1 ≤ pot s + 1
 run : ∀ s w p x d A2 c2 A3 c3,Wf x → pot s < L → Z ≤ w.heap.size → Inv s w → Below w0.heap.size w0 w → Node w0 w p x A2 c2 A3 c3 → ¬ S p.block → 1 ≤ d → d ≤ D →
  Calls Tryd.prog g (#[.pointer (some p),.int .i64 d] ++ cb) w fun e w' => e = .returned (.bool (f s x d).2) ∧ Inv (f s x d).1 w' ∧ Below w0.heap.size w0 w' ∧ Kept w w' S
def At (S : Nat → Prop) (w0 w : World) {σ : Type} (f : σ → X → Int → σ × Bool) (Inv : σ → World → Prop) (s : σ) (xs : List X) (d : Int) (k : Nat) (wr : World) : Prop :=
 (goL f s (xs.take k) d).2 = true ∧ Inv (goL f s (xs.take k) d).1 wr ∧ Below w0.heap.size w0 wr ∧ Kept w wr S
section
variable {g : FuncId} {cb : Array Value} {S : Nat → Prop} {w0 : World} {σ : Type} {f : σ → X → Int → σ × Bool} {Inv : σ → World → Prop} {D : Int} {pot : σ → Nat} {L : Nat} {Z : Nat}
end
attribute [local go_sem] tH tM tG tL tK tJ tN tI
theorem w64 {x : Int} (h0 : -9223372036854775808 ≤ x) (h1 : x ≤ 9223372036854775807) : wrap64 x = x:=by unfold wrap64; omega
def Box (b : Nat) (t : TypeId) (v : Value) (w : World) : Prop:=w.heap[b]? = some (.cells #[v] t (0,0))
theorem Box.lt {b : Nat} {t : TypeId} {v : Value} {w : World} (h : Box b t v w) : b < w.heap.size:=wT h
theorem Box.cell {b : Nat} {t : TypeId} {v : Value} {w : World} (h : Box b t v w) : w.cell? ⟨b,0,none⟩ = some v:=by
 unfold World.cell?
 unfold Box at h
 rw [h]
 rfl
theorem Box.free {b : Nat} {t : TypeId} {v : Value} {w : World} (h : Box b t v w) : w.frozen? ⟨b,0,none⟩ = false:=by
 unfold World.frozen?
 unfold Box at h
 rw [h]
 rfl
theorem Box.keep {b : Nat} {t : TypeId} {v : Value} {w w' : World} {S : Nat → Prop} (h : Box b t v w) (hk : Kept w w' S) (hn : ¬ S b) : Box b t v w':=(hk.2 b h.lt hn).trans h
theorem Box.d {b : Nat} {t : TypeId} {v : Value} {w : World} (h : Box b t v w) (n : Nat) : Box b t v (w.drewN n):=h
theorem Box.a {b : Nat} {t : TypeId} {v : Value} {w : World} (h : Box b t v w) (o : Obj) : Box b t v (w.alloc o):=h.keep ((Kept.refl w (fun _ => False)).alloc o) (fun h => h)
theorem Box.new (w : World) (t : TypeId) (v : Value) : Box w.heap.size t v (w.alloc (.cells #[v] t)):=by
 show (w.heap.push _)[w.heap.size]? = _
 simp
theorem Box.set {b : Nat} {t : TypeId} {v u : Value} {w : World} (h : Box b t v w) : Box b t u (w.setCell ⟨b,0,none⟩ u):=one_setCell h
structure Has (w : World) (x : X) (A2 : Option Addr) (c2 : Nat) (A3 : Option Addr) (c3 : Nat) : Prop where
 wf : Wf x
 l2 : x.f2.length ≤ c2
 C2 : kI.C w A2 x.f2.length x.f2
 l3 : x.f3.length ≤ c3
 C3 : kX.C w A3 x.f3.length x.f3
theorem Has.below {w w' : World} {x : X} {A2 : Option Addr} {c2 : Nat} {A3 : Option Addr} {c3 : Nat} (h : Has w x A2 c2 A3 c3) (hb : Below w.heap.size w w') : Has w' x A2 c2 A3 c3 :=
 ⟨h.wf,h.l2,Kd.C_below h.C2 hb,h.l3,Kd.C_below h.C3 hb⟩
mutual
def dep : X → Nat
 | ⟨_,_,_,xs⟩ => 1 + depL xs
def depL : List X → Nat
 | [] => 0
 | y :: ys => max (dep y) (depL ys)
end
theorem kR (x : X) : dep x = 1 + depL x.f3:=by cases x; rw [dep]
theorem eC : depL [] = 0:=by rw [depL]
theorem dM (y : X) (ys : List X) : depL (y :: ys) = max (dep y) (depL ys):=by rw [depL]
mutual
theorem dep_le : ∀ x : X,dep x ≤ cnt x
 | ⟨o,n,ns,xs⟩ => by
  rw [kR,sW]
  have:=lA xs
  show 1 + depL xs ≤ 1 + cntL xs
  omega
theorem lA : ∀ xs : List X,depL xs ≤ cntL xs
 | [] => by rw [eC,rY]; exact Nat.le_refl 0
 | y :: ys => by
  rw [dM,rL]
  have:=dep_le y
  have:=lA ys
  omega
end
end Go.Proofs.YtjeofffddbibeaaDoor.Ex
end

section
namespace Go.Proofs.YtjeofffddbibeaaDoor.Ex
open Go Go.RowKit PParseTells YtjeofffddbibeaaDoorW.PrintWords YtjeofffddbibeaaDoorW.PrintLast YtjeofffddbibeaaDoorW.PrintMore
def numsOf (o : Int) : Int:=if o = 1 ∨ o = 2 then 1 else if o = 3 ∨ o = 7 ∨ o = 9 then 2 else if o = 4 then 3 else 0
def argsOf (o : Int) : Int:=if o = 0 ∨ 12 < o then 0 else if o = 1 ∨ o = 2 ∨ o = 3 then 1 else 2
abbrev i64 (n : Int) : Value:=.int .i64 n
def table : Array Value:=#[i64 0,i64 0,i64 1,i64 1,i64 1,i64 1,i64 2,i64 1,i64 3,i64 2,i64 0,i64 2,i64 0,i64 2,i64 2,i64 2,i64 0,i64 2,i64 2,i64 2,i64 0,i64 2,i64 0,i64 2,i64 0,i64 2]
set_option maxHeartbeats 4000000 in
set_option maxRecDepth 100000 in
theorem shapes_calls (w : World) :
  Calls Tryd.prog 77 #[] w fun e w' => e = .returned (.slice (some ⟨w.heap.size,0,none⟩) 13 13) ∧ w' = w.alloc (.cells table 74):=by
 have hmk : ∀ w,(Instr.makeSlice 112 (.int .u8 13) (.int .u8 13)).run Tryd.prog w = .ok (.slice (some ⟨w.heap.size,0,none⟩) 13 13) (w.alloc (.cells #[i64 0,i64 0,i64 0,i64 0,i64 0,i64 0,i64 0,i64 0,i64 0,i64 0,i64 0,i64 0,i64 0,i64 0,i64 0,i64 0,i64 0,i64 0,i64 0,i64 0,i64 0,i64 0,i64 0,i64 0,i64 0,i64 0] 74)):=fun _ => by kernel_rfl
 go_enter Tryd.func77,Tryd.ntmps77
 go_wp2
 refine wp_loop_rounds 14 ?_
 iterate 14 (rw [rounds_succ]; go_wp2)
 go_ret
 exact ⟨rfl,rfl⟩
set_option maxHeartbeats 4000000 in
set_option maxRecDepth 100000 in
theorem of_calls (o : Int) (w : World) (h0 : 0 ≤ o) (h1 : o ≤ 255) :
  Calls Tryd.prog 49 #[.int .u8 o] w fun e w' => e = .returned (.tuple #[.agg #[i64 (numsOf o),i64 (argsOf o)],.bool (decide (o ≤ 12))]) ∧ Below w.heap.size w w':=by
 by_cases h : 12 < o
 ·
  have e1 : numsOf o = 0:=by unfold numsOf; rw [if_neg (by omega),if_neg (by omega),if_neg (by omega)]
  have e2 : argsOf o = 0:=by unfold argsOf; rw [if_pos (by omega)]
  have e3 : decide (o ≤ 12) = false:=decide_eq_false (by omega)
  rw [e1,e2,e3]
  clear e1 e2 e3
  go_enter Tryd.func49,Tryd.ntmps49
  go_wp2
  exact bodyPost_ret (v:=.tuple #[.agg #[i64 0,i64 0],.bool false]) (by simp [results,Tryd.results49,go_sem]) rfl ⟨rfl,zY (Below.refl _ _) _⟩
 ·
  rcases (show o = 0 ∨ o = 1 ∨ o = 2 ∨ o = 3 ∨ o = 4 ∨ o = 5 ∨ o = 6 ∨ o = 7 ∨ o = 8 ∨ o = 9 ∨ o = 10 ∨ o = 11 ∨ o = 12 by omega) with rfl|rfl|rfl|rfl|rfl|rfl|rfl|rfl|rfl|rfl|rfl|rfl|rfl
  all_goals clear h h0 h1
  all_goals go_enter Tryd.func49,Tryd.ntmps49
  all_goals go_wp2_with fail
  all_goals (with_reducible refine (shapes_calls _).mono ?_)
  all_goals rintro e w' ⟨rfl,rfl⟩
  all_goals unfold table
  all_goals go_wp2
  · exact bodyPost_ret (v:=.tuple #[.agg #[i64 0,i64 0],.bool true]) (by simp [results,Tryd.results49,go_sem]) rfl ⟨rfl,zY (zY (Below.refl _ _) _) _⟩
  · exact bodyPost_ret (v:=.tuple #[.agg #[i64 1,i64 1],.bool true]) (by simp [results,Tryd.results49,go_sem]) rfl ⟨rfl,zY (zY (Below.refl _ _) _) _⟩
  · exact bodyPost_ret (v:=.tuple #[.agg #[i64 1,i64 1],.bool true]) (by simp [results,Tryd.results49,go_sem]) rfl ⟨rfl,zY (zY (Below.refl _ _) _) _⟩
  · exact bodyPost_ret (v:=.tuple #[.agg #[i64 2,i64 1],.bool true]) (by simp [results,Tryd.results49,go_sem]) rfl ⟨rfl,zY (zY (Below.refl _ _) _) _⟩
  · exact bodyPost_ret (v:=.tuple #[.agg #[i64 3,i64 2],.bool true]) (by simp [results,Tryd.results49,go_sem]) rfl ⟨rfl,zY (zY (Below.refl _ _) _) _⟩
  · exact bodyPost_ret (v:=.tuple #[.agg #[i64 0,i64 2],.bool true]) (by simp [results,Tryd.results49,go_sem]) rfl ⟨rfl,zY (zY (Below.refl _ _) _) _⟩
  · exact bodyPost_ret (v:=.tuple #[.agg #[i64 0,i64 2],.bool true]) (by simp [results,Tryd.results49,go_sem]) rfl ⟨rfl,zY (zY (Below.refl _ _) _) _⟩
  · exact bodyPost_ret (v:=.tuple #[.agg #[i64 2,i64 2],.bool true]) (by simp [results,Tryd.results49,go_sem]) rfl ⟨rfl,zY (zY (Below.refl _ _) _) _⟩
  · exact bodyPost_ret (v:=.tuple #[.agg #[i64 0,i64 2],.bool true]) (by simp [results,Tryd.results49,go_sem]) rfl ⟨rfl,zY (zY (Below.refl _ _) _) _⟩
  · exact bodyPost_ret (v:=.tuple #[.agg #[i64 2,i64 2],.bool true]) (by simp [results,Tryd.results49,go_sem]) rfl ⟨rfl,zY (zY (Below.refl _ _) _) _⟩
  · exact bodyPost_ret (v:=.tuple #[.agg #[i64 0,i64 2],.bool true]) (by simp [results,Tryd.results49,go_sem]) rfl ⟨rfl,zY (zY (Below.refl _ _) _) _⟩
  · exact bodyPost_ret (v:=.tuple #[.agg #[i64 0,i64 2],.bool true]) (by simp [results,Tryd.results49,go_sem]) rfl ⟨rfl,zY (zY (Below.refl _ _) _) _⟩
  · exact bodyPost_ret (v:=.tuple #[.agg #[i64 0,i64 2],.bool true]) (by simp [results,Tryd.results49,go_sem]) rfl ⟨rfl,zY (zY (Below.refl _ _) _) _⟩
set_option maxHeartbeats 4000000 in
theorem Nums_calls (o : Int) (w : World) (h0 : 0 ≤ o) (h1 : o ≤ 255) :
  Calls Tryd.prog 19 #[.int .u8 o] w fun e w' => e = .returned (.tuple #[.int .i64 (numsOf o),.bool (decide (o ≤ 12))]) ∧ Below w.heap.size w w':=by
 have C:=zZ.mk (of_calls o w h0 h1)
 generalize numsOf o = n at *
 generalize argsOf o = m at *
 generalize decide (o ≤ 12) = b at *
 go_enter Tryd.func19,Tryd.ntmps19
 go_wp2_with fail
 (with_reducible refine C.out.mono ?_)
 rintro e w1 ⟨rfl,hb⟩
 go_wp2
 go_ret2
 exact ⟨rfl,zY hb _⟩
set_option maxHeartbeats 4000000 in
theorem Args_calls (o : Int) (w : World) (h0 : 0 ≤ o) (h1 : o ≤ 255) :
  Calls Tryd.prog 21 #[.int .u8 o] w fun e w' => e = .returned (.int .i64 (argsOf o)) ∧ Below w.heap.size w w':=by
 have C:=zZ.mk (of_calls o w h0 h1)
 generalize numsOf o = n at *
 generalize argsOf o = m at *
 generalize decide (o ≤ 12) = b at *
 go_enter Tryd.func21,Tryd.ntmps21
 go_wp2_with fail
 (with_reducible refine C.out.mono ?_)
 rintro e w1 ⟨rfl,hb⟩
 go_wp2
 go_ret
 exact ⟨rfl,zY hb _⟩
end Go.Proofs.YtjeofffddbibeaaDoor.Ex
end

section
namespace Go.Proofs.YtjeofffddbibeaaDoor.Pa
open Go Go.RowKit PParseTells Ex YtjeofffddbibeaaDoorW.PrintWords YtjeofffddbibeaaDoorW.PrintLast YtjeofffddbibeaaDoorW.PrintMore
abbrev nil8 : ByteArray:=⟨#[]⟩
abbrev zX : X:=⟨0,nil8,[],[]⟩
structure Res where
 x : X
 l : List Tok
 p : Int
 e : Int
abbrev COM : ByteArray:=⟨#[44]⟩
abbrev LPA : ByteArray:=⟨#[40]⟩
abbrev RPA : ByteArray:=⟨#[41]⟩
def itemF (rec : Int → List Tok → Res) (num : Bool) (x : X) (p : Int) (L : List Tok) : Res :=
 if num = true then ⟨⟨x.f0,x.f1,x.f2 ++ [(numF L).1.f2],x.f3⟩,(numF L).2.1,p,(numF L).2.2⟩
 else ⟨⟨x.f0,x.f1,x.f2,x.f3 ++ [(rec p L).x]⟩,(rec p L).l,(rec p L).p,(rec p L).e⟩
def stepsF (rec : Int → List Tok → Res) (nums many : Nat) : Nat → X → Int → List Tok → Res
 | 0,x,p,L => ⟨x,L,p,0⟩
 | m + 1,x,p,L =>
  if (itemF rec (decide (many - (m + 1) < nums)) x p L).e ≠ 0 then ⟨zX,(itemF rec (decide (many - (m + 1) < nums)) x p L).l,(itemF rec (decide (many - (m + 1) < nums)) x p L).p,(itemF rec (decide (many - (m + 1) < nums)) x p L).e⟩
  else if (markF (if m = 0 then RPA else COM) (itemF rec (decide (many - (m + 1) < nums)) x p L).l).2 ≠ 0 then ⟨zX,(markF (if m = 0 then RPA else COM) (itemF rec (decide (many - (m + 1) < nums)) x p L).l).1,(itemF rec (decide (many - (m + 1) < nums)) x p L).p,(markF (if m = 0 then RPA else COM) (itemF rec (decide (many - (m + 1) < nums)) x p L).l).2⟩
  else stepsF rec nums many m (itemF rec (decide (many - (m + 1) < nums)) x p L).x (itemF rec (decide (many - (m + 1) < nums)) x p L).p (markF (if m = 0 then RPA else COM) (itemF rec (decide (many - (m + 1) < nums)) x p L).l).1
def manyOf (o : Int) : Nat:=(numsOf o + argsOf o).toNat
def exprG (deep : Bool) (rec : Int → List Tok → Res) (p : Int) (L : List Tok) : Res :=
 if kindF L = 1 ∧ (deep = true ∨ 2000 ≤ p) then ⟨zX,L,p,111⟩
 else if (takeF [1] L).2.2 ≠ 0 then ⟨zX,(takeF [1] L).2.1,p + 1,(takeF [1] L).2.2⟩
 else if (opF (takeF [1] L).1.f1).2 = true ∧ isF LPA (takeF [1] L).2.1 = true then
  stepsF rec (numsOf (opF (takeF [1] L).1.f1).1).toNat (manyOf (opF (takeF [1] L).1.f1).1) (manyOf (opF (takeF [1] L).1.f1).1) ⟨(opF (takeF [1] L).1.f1).1,nil8,[],[]⟩ (p + 1) (takeF [1] L).2.1.tail
 else ⟨⟨0,(takeF [1] L).1.f1,[],[]⟩,(takeF [1] L).2.1,p + 1,0⟩
def exprF : Nat → Int → List Tok → Res
 | 0 => exprG true (fun p L => ⟨zX,L,p,111⟩)
 | d + 1 => exprG false (exprF d)
theorem pS (ks : List Int) (L : List Tok) : (∃ t r,L = t :: r ∧ takeF ks L = (t,r,0) ∧ t.f0 ∈ ks) ∨ takeF ks L = (z61,L,110):=by
 cases L with
 | nil => exact .inr rfl
 | cons t r =>
  by_cases h : t.f0 ≠ 0 ∧ t.f0 ∈ ks
  · exact .inl ⟨t,r,rfl,if_pos h,h.2⟩
  · exact .inr (if_neg h)
theorem qY (s : ByteArray) (L : List Tok) : (∃ t r,L = t :: r ∧ markF s L = (r,0) ∧ isF s L = true) ∨ (markF s L = (L,110) ∧ isF s L = false):=by
 cases hi : isF s L with
 | false => exact .inr ⟨if_neg (by rw [hi]; simp),rfl⟩
 | true =>
  cases L with
  | nil => cases hi
  | cons t r => exact .inl ⟨t,r,rfl,if_pos hi,rfl⟩
structure Good (p : Int) (L : List Tok) (r : Res) : Prop where
 e : r.e = 0 ∨ r.e = 110 ∨ r.e = 111
 l : r.l <:+ L
 p0 : p ≤ r.p
 p1 : r.p ≤ 2001
 ok : r.e = 0 → r.p ≤ 2000
theorem item_good {rec : Int → List Tok → Res} (hrec : ∀ p L,0 ≤ p → p ≤ 2000 → Good p L (rec p L)) (num : Bool) (x : X) (p : Int) (L : List Tok) (h0 : 0 ≤ p) (h1 : p ≤ 2000) : Good p L (itemF rec num x p L):=by
 unfold itemF
 cases num with
 | true =>
  rw [if_pos rfl]
  rcases pS [2,3] L with ⟨t,r,rfl,ht,_⟩|ht
  · refine ⟨.inl (by simp [ht]),by simp only [ht]; exact List.suffix_cons t r,Int.le_refl p,by show p ≤ 2001; omega,fun _ => h1⟩
  · refine ⟨.inr (.inl (by simp [ht])),by simp only [ht]; exact List.suffix_refl L,Int.le_refl p,by show p ≤ 2001; omega,fun _ => h1⟩
 | false =>
  rw [if_neg (by simp)]
  have:=hrec p L h0 h1
  exact ⟨this.e,this.l,this.p0,this.p1,this.ok⟩
theorem steps_good {rec : Int → List Tok → Res} (hrec : ∀ p L,0 ≤ p → p ≤ 2000 → Good p L (rec p L)) (nums many : Nat) : ∀ (m : Nat) (x : X) (p : Int) (L : List Tok),0 ≤ p → p ≤ 2000 → Good p L (stepsF rec nums many m x p L):=by
 intro m
 induction m with
 | zero => intro x p L h0 h1; exact ⟨.inl rfl,List.suffix_refl L,Int.le_refl p,by show p ≤ 2001; omega,fun _ => h1⟩
 | succ m ih =>
  intro x p L h0 h1
  have hI:=item_good hrec (decide (many - (m + 1) < nums)) x p L h0 h1
  rw [stepsF]
  generalize itemF rec (decide (many - (m + 1) < nums)) x p L = r at hI
  by_cases he : r.e ≠ 0
  ·
   rw [if_pos he]
   exact ⟨hI.e,hI.l,hI.p0,hI.p1,fun h => absurd h he⟩
  ·
   rw [if_neg he]
   have he' : r.e = 0:=by omega
   have hp:=hI.ok he'
   have hp0:=hI.p0
   rcases qY (if m = 0 then RPA else COM) r.l with ⟨t,r',h2,h3,_⟩|⟨h3,_⟩
   ·
    rw [h3,if_neg (by simp)]
    have hG:=ih r.x r.p r' (by omega) hp
    refine ⟨hG.e,hG.l.trans ((List.suffix_cons t r').trans (h2 ▸ hI.l)),Int.le_trans hp0 hG.p0,hG.p1,hG.ok⟩
   ·
    rw [h3,if_pos (by simp)]
    exact ⟨.inr (.inl rfl),hI.l,hI.p0,hI.p1,fun h => by cases h⟩
theorem zWZ (deep : Bool) {rec : Int → List Tok → Res} (hrec : ∀ p L,0 ≤ p → p ≤ 2000 → Good p L (rec p L)) (p : Int) (L : List Tok) (h0 : 0 ≤ p) (h1 : p ≤ 2000) : Good p L (exprG deep rec p L):=by
 unfold exprG
 by_cases hk : kindF L = 1 ∧ (deep = true ∨ 2000 ≤ p)
 ·
  rw [if_pos hk]
  exact ⟨.inr (.inr rfl),List.suffix_refl L,Int.le_refl p,by show p ≤ 2001; omega,fun h => by cases h⟩
 ·
  rw [if_neg hk]
  rcases pS [1] L with ⟨t,r,rfl,ht,hm⟩|ht
  ·
   rw [ht,if_neg (by simp)]
   have h1' : t.f0 = 1:=by simpa using hm
   have hp : p < 2000:=by
    rcases Int.lt_or_le p 2000 with h|h
    · exact h
    · exact absurd ⟨h1',.inr h⟩ hk
   by_cases ho : (opF t.f1).2 = true ∧ isF LPA r = true
   ·
    rw [if_pos ho]
    have hG:=steps_good hrec (numsOf (opF t.f1).1).toNat (manyOf (opF t.f1).1) (manyOf (opF t.f1).1) ⟨(opF t.f1).1,nil8,[],[]⟩ (p + 1) r.tail (by omega) (by omega)
    refine ⟨hG.e,hG.l.trans ((List.tail_suffix r).trans (List.suffix_cons t r)),Int.le_trans (show p ≤ p + 1 by omega) hG.p0,hG.p1,hG.ok⟩
   ·
    rw [if_neg ho]
    exact ⟨.inl rfl,List.suffix_cons t r,by show p ≤ p + 1; omega,by show p + 1 ≤ 2001; omega,fun _ => by show p + 1 ≤ 2000; omega⟩
  ·
   rw [ht,if_pos (by simp)]
   exact ⟨.inr (.inl rfl),List.suffix_refl L,by show p ≤ p + 1; omega,by show p + 1 ≤ 2001; omega,fun h => by cases h⟩
theorem eA : ∀ (d : Nat) (p : Int) (L : List Tok),0 ≤ p → p ≤ 2000 → Good p L (exprF d p L)
 | 0 => fun p L h0 h1 => zWZ true (fun p L h0 h1 => ⟨.inr (.inr rfl),List.suffix_refl L,Int.le_refl p,by show p ≤ 2001; omega,fun h => by cases h⟩) p L h0 h1
 | d + 1 => fun p L h0 h1 => zWZ false (eA d) p L h0 h1
abbrev TX : TypeId:=25
abbrev ag (x : X) (v2 v3 : Value) : Value:=.agg #[.int .u8 x.f0,.string x.f1,v2,v3]
abbrev zCells : Array Value:=#[.int .u8 0,.string nil8,.slice none 0 0,.slice none 0 0]
def Gives (w w' : World) (x : X) (v2 v3 : Value) : Prop:=kX.M w' w.heap.size (fun _ => True) x [.int .u8 x.f0,.string x.f1,v2,v3]
theorem pO (w w' : World) : Gives w w' zX (.slice none 0 0) (.slice none 0 0):=rJ _ _ _ zX (Kd.R_nil _ _ _ _ _) (Kd.R_nil _ _ _ _ _)
theorem zWG (w w' : World) (s : ByteArray) : Gives w w' ⟨0,s,[],[]⟩ (.slice none 0 0) (.slice none 0 0):=rJ _ _ _ ⟨0,s,[],[]⟩ (Kd.R_nil _ _ _ _ _) (Kd.R_nil _ _ _ _ _)
def ExprC (w0 : World) (g : Nat) (a dp : Int) (F : Int → List Tok → Res) : Prop :=
 ∀ (p : Int) (L : List Tok) (w : World),IsP w0 w g L a p → 0 ≤ p → p ≤ 2000 → Calls Tryd.prog 64 #[.pointer (some ⟨g,0,none⟩),.int .i64 dp] w fun e w' =>
  ∃ v2 v3,e = .returned (.tuple #[ag (F p L).x v2 v3,.int .i64 (F p L).e]) ∧ IsP w0 w' g (F p L).l a (F p L).p ∧ Kept w w' (At g) ∧ Gives w w' (F p L).x v2 v3
structure OpSt (w0 w W : World) (g b6 b : Nat) (a op : Int) (L : List Tok) (p : Int) (ns : List Int) (ys : List X) (v2 v3 : Value) : Prop where
 isp : IsP w0 W g L a p
 kept : Kept w W (At g)
 box : W.heap[b]? = some (.cells #[.int .u8 op,.string nil8,v2,v3] TX (0,0))
 zero : W.heap[b6]? = some (.cells zCells TX (0,0))
 nums : kI.R 2 W (b + 1) (fun _ => True) v2 ns
 args : kX.R TX W (b + 1) (fun _ => True) v3 ys
 lg : g < w.heap.size
 l6 : w.heap.size ≤ b6
 lb : b6 < b
section
variable {w0 w W W2 : World} {g b6 b : Nat} {a op : Int} {L L2 : List Tok} {p p2 : Int} {ns : List Int} {ys : List X} {v2 v3 : Value}
theorem R_at {α : Type} {d : Kd α} {e B : Nat} {v : Value} {xs : List α} (h : d.R e W B (fun _ => True) v xs) (hk : Kept W W2 (At g)) (hg : g < B) : d.R e W2 B (fun _ => True) v xs :=
 Kd.R_mono (Kd.R_kept (Kd.R_bound h) hk (fun k ho hs => by have:=ho.2.1; have : k = g:=hs; omega)) (fun _ _ => trivial)
theorem wE {α : Type} {d : Kd α} {e B : Nat} {v : Value} {xs : List α} (h : d.R e W B (fun _ => True) v xs) {k : Nat} (hk : k < B) (i : Nat) (u : Value) : d.R e (W.setCell ⟨k,i,none⟩ u) B (fun _ => True) v xs :=
 Kd.R_mono (Kd.R_far (p:=⟨k,i,none⟩) (Kd.R_bound h) (fun j ho => by have:=ho.2.1; show j ≠ k; omega) u) (fun _ _ => trivial)
theorem OpSt.at (h : OpSt w0 w W g b6 b a op L p ns ys v2 v3) (hI : IsP w0 W2 g L2 a p2) (hk : Kept W W2 (At g)) : OpSt w0 w W2 g b6 b a op L2 p2 ns ys v2 v3:=by
 have h1:=h.lg
 have h2:=h.l6
 have h3:=h.lb
 exact ⟨hI,h.kept.then_ hk (fun k hs => .inl hs),uO h.box hk (fun hs => by have : b = g:=hs; omega),uO h.zero hk (fun hs => by have : b6 = g:=hs; omega),
  R_at h.nums hk (by omega),R_at h.args hk (by omega),h1,h2,h3⟩
theorem OpSt.lt (h : OpSt w0 w W g b6 b a op L p ns ys v2 v3) : b < W.heap.size:=wT h.box
theorem OpSt.grown_isp (h : OpSt w0 w W g b6 b a op L p ns ys v2 v3) {row : Option Nat} (hg : W.grownBy W2 row) (hr : ∀ k,row = some k → b + 1 ≤ k) : IsP w0 W2 g L a p:=by
 have h1:=h.lg
 have h2:=h.l6
 have h3:=h.lb
 have h4:=h.isp.ge
 have h5:=h.lt
 exact h.isp.mv (S:=fun k => b + 1 ≤ k) (Kept.of_grown hg (Kept.refl W _) (fun k hk => .inl (hr k hk))) (h.isp.low.grown hg (by omega) (fun k hk => by have:=hr k hk; omega)) (by show ¬ (b + 1 ≤ g); omega)
theorem OpSt.num (h : OpSt w0 w W g b6 b a op L p ns [] v2 (.slice none 0 0)) {n : Int} {u : Value} (hR : kI.R 2 W2 (b + 1) (fun _ => True) u (ns ++ [n])) (hg : W.grownBy W2 v2.ownBlock) :
  OpSt w0 w (W2.setCell ⟨b,2,none⟩ u) g b6 b a op L p (ns ++ [n]) [] u (.slice none 0 0):=by
 have h1:=h.lg
 have h2:=h.l6
 have h3:=h.lb
 have h5:=h.lt
 have hr:=Kd.R_base h.nums
 have hbox : W2.heap[b]? = _:=(hg.block b h5 (fun he => by have:=hr b he.symm; omega)).trans h.box
 have hz : W2.heap[b6]? = _:=(hg.block b6 (by omega) (fun he => by have:=hr b6 he.symm; omega)).trans h.zero
 have hK : Kept w W2 (At g):=Kept.of_grown hg h.kept (fun k hk => .inr (by have:=hr k hk; omega))
 have hI:=h.grown_isp hg hr
 exact ⟨hI.mv (S:=fun k => k = b) (Kept.setCell (Kept.refl _ (fun k => k = b)) (p:=⟨b,2,none⟩) (.inl rfl) u) (zQ hI.low (by have:=h.isp.ge; show _ ≤ b; omega)) (by show ¬ (g = b); omega),yL hK 2 u (by omega),
  zF hbox 2 u rfl,wV hz (by show b ≠ b6; omega) u,wE hR (by omega) 2 u,Kd.R_nil _ _ _ _ _,h1,h2,h3⟩
theorem OpSt.arg (h : OpSt w0 w W g b6 b a op L p ns ys v2 v3) {y : X} {u : Value} (hR : kX.R TX W2 (b + 1) (fun _ => True) u (ys ++ [y])) (hg : W.grownBy W2 v3.ownBlock) :
  OpSt w0 w (W2.setCell ⟨b,3,none⟩ u) g b6 b a op L p ns (ys ++ [y]) v2 u:=by
 have h1:=h.lg
 have h2:=h.l6
 have h3:=h.lb
 have h5:=h.lt
 have hr:=Kd.R_base h.args
 have hbox : W2.heap[b]? = _:=(hg.block b h5 (fun he => by have:=hr b he.symm; omega)).trans h.box
 have hz : W2.heap[b6]? = _:=(hg.block b6 (by omega) (fun he => by have:=hr b6 he.symm; omega)).trans h.zero
 have hK : Kept w W2 (At g):=Kept.of_grown hg h.kept (fun k hk => .inr (by have:=hr k hk; omega))
 have hI:=h.grown_isp hg hr
 exact ⟨hI.mv (S:=fun k => k = b) (Kept.setCell (Kept.refl _ (fun k => k = b)) (p:=⟨b,3,none⟩) (.inl rfl) u) (zQ hI.low (by have:=h.isp.ge; show _ ≤ b; omega)) (by show ¬ (g = b); omega),yL hK 3 u (by omega),
  zF hbox 3 u rfl,wV hz (by show b ≠ b6; omega) u,wE (Kd.R_over h.nums h.args (fun q hq => by simp [Kd.E,kI,Kd.int,Kd.scalar] at hq; subst hq; decide) hg) (by omega) 3 u,wE hR (by omega) 3 u,h1,h2,h3⟩
theorem OpSt.box_grown (h : OpSt w0 w W g b6 b a op L p ns ys v2 v3) {row : Option Nat} (hg : W.grownBy W2 row) (hr : ∀ k,row = some k → b + 1 ≤ k) : W2.heap[b]? = some (.cells #[.int .u8 op,.string nil8,v2,v3] TX (0,0)) :=
 (hg.block b h.lt (fun he => by have:=hr b he.symm; omega)).trans h.box
theorem OpSt.close (h : OpSt w0 w W g b6 b a op L p ns ys v2 v3) (hk : Kept W W2 (At b6)) (hB : Below w0.heap.size w0 W2) : IsP w0 W2 g L a p ∧ Kept w W2 (At g):=by
 have h1:=h.lg
 have h2:=h.l6
 exact ⟨h.isp.mv hk hB (by show ¬ (g = b6); omega),h.kept.then_ hk (fun k hs => .inr (by have : k = b6:=hs; omega))⟩
theorem OpSt.done (h : OpSt w0 w W g b6 b a op L p ns ys v2 v3) (hk : Kept W W2 (At b6)) : Gives w W2 ⟨op,nil8,ns,ys⟩ v2 v3:=by
 have h2:=h.l6
 have h3:=h.lb
 exact rJ _ _ _ ⟨op,nil8,ns,ys⟩ (Kd.R_lower (R_at h.nums hk (by omega)) (by omega)) (Kd.R_lower (R_at h.args hk (by omega)) (by omega))
theorem Gives.slices {x : X} (h : Gives w W x v2 v3) : ∃ A2 c2 A3 c3,v2 = .slice A2 x.f2.length c2 ∧ v3 = .slice A3 x.f3.length c3:=by
 obtain ⟨u2,u3,he,h2,h3⟩:=gX h
 simp only [List.cons.injEq,true_and,and_true] at he
 obtain ⟨rfl,rfl⟩:=he
 obtain ⟨A2,c2,e2⟩:=Kd.R_slice h2
 obtain ⟨A3,c3,e3⟩:=Kd.R_slice h3
 exact ⟨A2,c2,A3,c3,e2,e3⟩
theorem Gives.part {x : X} (h : Gives w W x v2 v3) {B : Nat} (hB : B ≤ w.heap.size) : kX.M W B (fun k => w.heap.size ≤ k) x [.int .u8 x.f0,.string x.f1,v2,v3] :=
 kX.M_lower hB (kX.M_mono (fun k hk => hk.2.1) (kX.M_bound h))
theorem Gives.step {x : X} (h : Gives w W x v2 v3) (hk : Kept W W2 (fun k => k < w.heap.size)) : Gives w W2 x v2 v3 :=
 kX.M_mono (fun _ _ => trivial) (Kd.M_kept (kX.M_bound h) hk (fun k ho => by have:=ho.2.1; show ¬ k < _; omega))
end
theorem stepsF_at (rec : Int → List Tok → Res) (nums many k : Nat) (hk : k < many) (x : X) (p : Int) (L : List Tok) (r : Res) (hr : itemF rec (decide (k < nums)) x p L = r) :
  stepsF rec nums many (many - k) x p L = if r.e ≠ 0 then ⟨zX,r.l,r.p,r.e⟩ else if (markF (if k + 1 = many then RPA else COM) r.l).2 ≠ 0 then ⟨zX,(markF (if k + 1 = many then RPA else COM) r.l).1,r.p,(markF (if k + 1 = many then RPA else COM) r.l).2⟩ else stepsF rec nums many (many - (k + 1)) r.x r.p (markF (if k + 1 = many then RPA else COM) r.l).1:=by
 obtain ⟨m,hm⟩ : ∃ m,many - k = m + 1:=⟨many - k - 1,by omega⟩
 have h1 : many - (m + 1) = k:=by omega
 have h2 : many - (k + 1) = m:=by omega
 have h3 : (m = 0) = (k + 1 = many):=propext ⟨fun h => by omega,fun h => by omega⟩
 rw [hm,stepsF,h1,hr,h2]
 simp only [h3]
def OpRel (w0 w w3 wr : World) (g : Nat) (a op : Int) (nn aa : Nat) (F : Int → List Tok → Res) (R : Res) (j : Value) (k : Nat) (L : List Tok) (p : Int) (ns : List Int) (ys : List X) (v2 v3 : Value) : Prop :=
 k ≤ nn + aa ∧ j = .int .i64 k ∧ 0 ≤ p ∧ p ≤ 2000 ∧ ns.length + ys.length = k ∧ (k ≤ nn → ys = [] ∧ v3 = .slice none 0 0) ∧ stepsF F nn (nn + aa) (nn + aa - k) ⟨op,nil8,ns,ys⟩ p L = R ∧ OpSt w0 w wr g w.heap.size w3.heap.size a op L p ns ys v2 v3
theorem sG : (Tryd.prog.info? TX).map (·.size) = some 4:=by kernel_rfl
theorem info_x3 : (Tryd.prog.info? TX).map (fun i => (i.zero,i.size,i.bytes)) = some (some (.agg #[.int .u8 0,.string nil8,.slice none 0 0,.slice none 0 0]),4,72):=by kernel_rfl
theorem info_i3 : (Tryd.prog.info? 2).map (fun i => (i.zero,i.size,i.bytes)) = some (some (.int .i64 0),1,8):=by kernel_rfl
set_option maxHeartbeats 16000000 in
set_option maxRecDepth 100000 in
theorem zTX (w0 : World) (g : Nat) (a dp : Int) (d0 : 0 ≤ dp) (d1 : dp ≤ 40) (F : Int → List Tok → Res) (hF : ExprC w0 g a (dp + 1) F) (hG : ∀ p L,0 ≤ p → p ≤ 2000 → Good p L (F p L))
  (op : Int) (o0 : 1 ≤ op) (o1 : op ≤ 12) (p : Int) (L : List Tok) (w : World) (hI : IsP w0 w g L a p) (p0 : 0 ≤ p) (p1 : p ≤ 2000) (R : Res) (hR : stepsF F (numsOf op).toNat (manyOf op) (manyOf op) ⟨op,nil8,[],[]⟩ p L = R) :
  Calls Tryd.prog 85 #[.pointer (some ⟨g,0,none⟩),.int .u8 op,.int .i64 dp] w fun e w' =>
   ∃ v2 v3,e = .returned (.tuple #[ag R.x v2 v3,.int .i64 R.e]) ∧ IsP w0 w' g R.l a R.p ∧ Kept w w' (At g) ∧ Gives w w' R.x v2 v3:=by
 have hgw:=hI.lt
 have hw0 : w0.heap.size ≤ w.heap.size:=by have:=hI.ge; omega
 have CN:=fun W => zZ.mk (Nums_calls op W (by omega) (by omega))
 have CA:=fun W => zZ.mk (Args_calls op W (by omega) (by omega))
 have HF:=zZ.mk hF
 have HG:=zZ.mk hG
 obtain ⟨nn,aa,hn,ha,hm,hnn,haa,hmm⟩ : ∃ nn aa : Nat,numsOf op = nn ∧ argsOf op = aa ∧ manyOf op = nn + aa ∧ nn ≤ 3 ∧ aa ≤ 2 ∧ 1 ≤ nn + aa:=by
  refine ⟨(numsOf op).toNat,(argsOf op).toNat,?_⟩
  rcases (show op = 1 ∨ op = 2 ∨ op = 3 ∨ op = 4 ∨ op = 5 ∨ op = 6 ∨ op = 7 ∨ op = 8 ∨ op = 9 ∨ op = 10 ∨ op = 11 ∨ op = 12 by omega) with rfl|rfl|rfl|rfl|rfl|rfl|rfl|rfl|rfl|rfl|rfl|rfl <;> decide
 rw [hn,hm,Int.toNat_natCast] at hR
 rw [hn] at CN
 rw [ha] at CA
 have HR:=zZ.mk hR
 have HI:=zZ.mk hI
 have hd:=zZ.mk (show decide (op ≤ 12) = true from decide_eq_true o1)
 clear hF hG hn ha hm hR hI
 have b6:=wP w (.cells zCells TX (0,0))
 generalize decide (op ≤ 12) = dc at *
 go_enter Tryd.func85,Tryd.ntmps85
 go_wp2_with fail
 (with_reducible refine (CN _).out.mono ?_)
 rintro e w2 ⟨rfl,hb2⟩
 have K2:=zZ.mk ((Kept.refl w (At g)).alloc (.cells zCells TX (0,0)) |>.below hb2)
 go_wp2_with fail
 (with_reducible refine (CA _).out.mono ?_)
 rintro e w3 ⟨rfl,hb3⟩
 have K3:=zZ.mk (K2.out.below hb3)
 have I3:=zZ.mk (((HI.out.keep (zY (Below.refl _ _) (.cells zCells TX (0,0)))).keep hb2).keep hb3)
 have b63:=uO (uO b6 (Kept.of_below hb2 (fun _ => False)) id) (Kept.of_below hb3 (fun _ => False)) id
 have bx:=wP w3 (.cells zCells TX (0,0))
 have hl3:=zZ.mk (wT b63)
 clear hb2 hb3 b6
 have HD:=hd.out
 go_wp2_with fail
 go_loopw [31] (fun j wr => ∃ k L1 p1 ns ys v2 v3,OpRel w0 w w3 wr g a op nn aa F R j k L1 p1 ns ys v2 v3) (fun j _ => (nn + aa : Nat) - (intOf j).toNat)
 case atStart =>
  refine ⟨0,L,p,[],[],.slice none 0 0,.slice none 0 0,by omega,rfl,p0,p1,rfl,fun _ => ⟨rfl,rfl⟩,HR.out,?_⟩
  exact ⟨I3.out.keep (zY (Below.refl _ _) _),K3.out.alloc _,wP w3 _,zR b63 _,Kd.R_nil _ _ _ _ _,Kd.R_nil _ _ _ _ _,hgw,Nat.le_refl _,hl3.out⟩
 case round =>
  obtain ⟨k,L1,p2,ns,ys,v2,v3,hk,rfl,hp0,hp1,hlen,hnil,hR,hst⟩:=hrel
  have HRR:=zZ.mk hR
  have ST:=zZ.mk hst
  clear hR hst HR HI CN CA I3 K3 b63 bx
  by_cases hkk : k < nn + aa
  ·
   have hki : (k : Int) < (nn : Int) + (aa : Int):=by omega
   have hki' : decide ((k : Int) < (nn : Int) + (aa : Int)) = true:=decide_eq_true hki
   by_cases hn : k < nn
   ·
    have HN:=hnil (by omega)
    obtain ⟨rfl,rfl⟩:=HN
    have hdn : decide (k < nn) = true:=decide_eq_true hn
    have hni : (k : Int) < (nn : Int):=by omega
    have hni' : decide ((k : Int) < (nn : Int)) = true:=decide_eq_true hni
    have HE:=zZ.mk ((stepsF_at F nn (nn + aa) k hkk ⟨op,nil8,ns,[]⟩ p2 L1 _ rfl).symm.trans HRR.out)
    rw [hdn] at HE
    clear HRR
    have CU:=zZ.mk (cL g L1 a p2 w0 wr ST.out.isp)
    rcases pS [2,3] L1 with ⟨t,r,rfl,ht,_⟩|ht
    ·
     have hit : itemF F true ⟨op,nil8,ns,[]⟩ p2 (t :: r) = ⟨⟨op,nil8,ns ++ [t.f2],[]⟩,r,p2,0⟩:=by
      unfold itemF
      rw [if_pos rfl]
      show Res.mk ⟨op,nil8,ns ++ [(takeF [2,3] (t :: r)).1.f2],[]⟩ (takeF [2,3] (t :: r)).2.1 p2 (takeF [2,3] (t :: r)).2.2 = _
      rw [ht]
     rw [hit] at HE
     rw [show numF (t :: r) = (t,r,0) from ht] at CU
     rw [if_neg (show ¬ ((0 : Int) ≠ 0) by simp)] at HE
     by_cases hlast : k + 1 = nn + aa
     ·
      have hl1 : ((k : Int) == (nn : Int) + (aa : Int) - 1) = true:=beq_iff_eq.2 (by omega)
      have hl2 : (k : Int) = (nn : Int) + (aa : Int) - 1:=by omega
      have q5c : wr.cell? ⟨w3.heap.size,2,none⟩ = some v2:=(zK ST.out.box 2).trans rfl
      clear ht hit
      go_wp2_with fail
      (with_reducible refine CU.out.mono ?_)
      rintro e w5 ⟨rfl,hI5,hk5⟩
      have ST5:=zZ.mk (ST.out.at hI5 hk5)
      have q5 : w5.cell? ⟨w3.heap.size,2,none⟩ = some v2:=(zK ST5.out.box 2).trans rfl
      have hbz : w3.heap.size + 1 ≤ w5.heap.size:=ST5.out.lt
      clear hI5 hk5 CU ST q5c
      go_wp2_with (first|((with_reducible refine uX (b:=.append) (xs:=#[.tmp 47,.tmp 49]) rfl ?_); at_builtin; refine Kd.R_append kI (w0:=w5) (w3.heap.size + 1) rfl (.tmp 47) (.tmp 49) 22 2 (.int .i64 0) 8 rfl Tryd.underlying22 info_i3 rfl (by decide) (by decide) v2 ns t.f2 [.int .i64 t.f2] (fun _ => True) (fun _ => False) rfl rfl rfl (fun _ hk => hk.elim) (fun _ _ => trivial) ST5.out.nums (Below.refl _ _) hbz (by simp at hlen; omega) ?_; intro v8 w8 ho hb hg hat; obtain ⟨A8,c8,h8⟩:=Kd.R_slice ho; rw [List.length_append,List.length_singleton] at h8; subst h8; have HO:=zZ.mk ho; have HG:=zZ.mk hg; have f8:=zP (ST5.out.box_grown hg (Kd.R_base ST5.out.nums)) 2; have q8 : w8.cell? ⟨w3.heap.size,2,none⟩ = some v2:=(zK (ST5.out.box_grown hg (Kd.R_base ST5.out.nums)) 2).trans rfl; clear ho hb hg hat))
      have ST8:=zZ.mk (ST5.out.num HO.out HG.out)
      obtain ⟨LL,hLL⟩ : ∃ LL,LL = r:=⟨_,rfl⟩
      obtain ⟨pp,hpp⟩ : ∃ pp,pp = p2:=⟨_,rfl⟩
      rw [← hLL,← hpp] at ST8 HE
      clear q8
      have q0 : 0 ≤ pp:=by omega
      have q1 : pp ≤ 2000:=by omega
      clear HO HG ST5 q5 f8
      rw [if_pos hlast] at HE
      have CM:=zZ.mk (mZ g RPA LL a pp w0 _ ST8.out.isp)
      rcases qY RPA LL with ⟨t9,r9,hL9,hm9,_⟩|⟨hm9,_⟩
      ·
       rw [hm9] at CM HE
       rw [if_neg (show ¬ ((r9,(0 : Int)).2 ≠ 0) by simp)] at HE
       (with_reducible refine CM.out.mono ?_)
       rintro e w9 ⟨rfl,hI9,hk9⟩
       have ST9:=zZ.mk (ST8.out.at hI9 hk9)
       clear hI9 hk9 CM
       go_wp2_with fail
       go_roundw
       case rel => exact ⟨k + 1,r9,pp,ns ++ [t.f2],[],_,.slice none 0 0,by omega,by go_num,q0,q1,by simp at hlen ⊢; omega,fun _ => ⟨rfl,rfl⟩,HE.out,ST9.out⟩
       case measure => simp [intOf]; omega
      ·
       rw [hm9] at CM HE
       rw [if_pos (show (LL,(110 : Int)).2 ≠ 0 by simp)] at HE
       (with_reducible refine CM.out.mono ?_)
       rintro e w9 ⟨rfl,hI9,hk9⟩
       have ST9:=zZ.mk (ST8.out.at hI9 hk9)
       clear hI9 hk9 CM
       have z0:=(zK ST9.out.zero 0)
       have z1:=(zK ST9.out.zero 1)
       have z2:=(zK ST9.out.zero 2)
       have z3:=(zK ST9.out.zero 3)
       have y0:=zP ST9.out.zero 0
       have y1:=zP ST9.out.zero 1
       have y2:=zP ST9.out.zero 2
       have y3:=zP ST9.out.zero 3
       replace z0:=z0.trans (show zCells[0]? = some (Value.int .u8 0) from rfl)
       replace z1:=z1.trans (show zCells[1]? = some (Value.string nil8) from rfl)
       replace z2:=z2.trans (show zCells[2]? = some (Value.slice none 0 0) from rfl)
       replace z3:=z3.trans (show zCells[3]? = some (Value.slice none 0 0) from rfl)
       go_wp2
       refine bodyPost_ret (uT rfl _ _ _ TX _ (0,0) _ rfl (zF (zF (zF (zF ST9.out.zero 0 _ rfl) 1 _ rfl) 2 _ rfl) 3 _ rfl) Tryd.underlying25 rfl sG) rfl ?_
       have hc:=fun W2 h1 h2 => ST9.out.close (W2:=W2) h1 h2
       rw [← HE.out]
       exact ⟨.slice none 0 0,.slice none 0 0,rfl,(hc _ (by (with_reducible repeat (first|exact Kept.refl _ _|apply Kept.alloc|apply Kept.drewN|apply Kept.drew|refine xL ?_ _ _|refine yL ?_ _ _ (Nat.le_refl _)|refine yL ?_ _ _ (by first|assumption|omega)))) (by (with_reducible repeat (first|exact ST9.out.isp.low|apply zY|apply zV|apply zU|refine zQ ?_ (by first|assumption|omega))))).1,(hc _ (by (with_reducible repeat (first|exact Kept.refl _ _|apply Kept.alloc|apply Kept.drewN|apply Kept.drew|refine xL ?_ _ _|refine yL ?_ _ _ (Nat.le_refl _)|refine yL ?_ _ _ (by first|assumption|omega)))) (by (with_reducible repeat (first|exact ST9.out.isp.low|apply zY|apply zV|apply zU|refine zQ ?_ (by first|assumption|omega))))).2,pO _ _⟩
     ·
      have hl1 : ((k : Int) == (nn : Int) + (aa : Int) - 1) = false:=beq_eq_false_iff_ne.2 (by omega)
      have hl2 : ¬ ((k : Int) = (nn : Int) + (aa : Int) - 1):=by omega
      have q5c : wr.cell? ⟨w3.heap.size,2,none⟩ = some v2:=(zK ST.out.box 2).trans rfl
      clear ht hit
      go_wp2_with fail
      (with_reducible refine CU.out.mono ?_)
      rintro e w5 ⟨rfl,hI5,hk5⟩
      have ST5:=zZ.mk (ST.out.at hI5 hk5)
      have q5 : w5.cell? ⟨w3.heap.size,2,none⟩ = some v2:=(zK ST5.out.box 2).trans rfl
      have hbz : w3.heap.size + 1 ≤ w5.heap.size:=ST5.out.lt
      clear hI5 hk5 CU ST q5c
      go_wp2_with (first|((with_reducible refine uX (b:=.append) (xs:=#[.tmp 47,.tmp 49]) rfl ?_); at_builtin; refine Kd.R_append kI (w0:=w5) (w3.heap.size + 1) rfl (.tmp 47) (.tmp 49) 22 2 (.int .i64 0) 8 rfl Tryd.underlying22 info_i3 rfl (by decide) (by decide) v2 ns t.f2 [.int .i64 t.f2] (fun _ => True) (fun _ => False) rfl rfl rfl (fun _ hk => hk.elim) (fun _ _ => trivial) ST5.out.nums (Below.refl _ _) hbz (by simp at hlen; omega) ?_; intro v8 w8 ho hb hg hat; obtain ⟨A8,c8,h8⟩:=Kd.R_slice ho; rw [List.length_append,List.length_singleton] at h8; subst h8; have HO:=zZ.mk ho; have HG:=zZ.mk hg; have f8:=zP (ST5.out.box_grown hg (Kd.R_base ST5.out.nums)) 2; have q8 : w8.cell? ⟨w3.heap.size,2,none⟩ = some v2:=(zK (ST5.out.box_grown hg (Kd.R_base ST5.out.nums)) 2).trans rfl; clear ho hb hg hat))
      have ST8:=zZ.mk (ST5.out.num HO.out HG.out)
      obtain ⟨LL,hLL⟩ : ∃ LL,LL = r:=⟨_,rfl⟩
      obtain ⟨pp,hpp⟩ : ∃ pp,pp = p2:=⟨_,rfl⟩
      rw [← hLL,← hpp] at ST8 HE
      clear q8
      have q0 : 0 ≤ pp:=by omega
      have q1 : pp ≤ 2000:=by omega
      clear HO HG ST5 q5 f8
      rw [if_neg hlast] at HE
      have CM:=zZ.mk (mZ g COM LL a pp w0 _ ST8.out.isp)
      rcases qY COM LL with ⟨t9,r9,hL9,hm9,_⟩|⟨hm9,_⟩
      ·
       rw [hm9] at CM HE
       rw [if_neg (show ¬ ((r9,(0 : Int)).2 ≠ 0) by simp)] at HE
       (with_reducible refine CM.out.mono ?_)
       rintro e w9 ⟨rfl,hI9,hk9⟩
       have ST9:=zZ.mk (ST8.out.at hI9 hk9)
       clear hI9 hk9 CM
       go_wp2_with fail
       go_roundw
       case rel => exact ⟨k + 1,r9,pp,ns ++ [t.f2],[],_,.slice none 0 0,by omega,by go_num,q0,q1,by simp at hlen ⊢; omega,fun _ => ⟨rfl,rfl⟩,HE.out,ST9.out⟩
       case measure => simp [intOf]; omega
      ·
       rw [hm9] at CM HE
       rw [if_pos (show (LL,(110 : Int)).2 ≠ 0 by simp)] at HE
       (with_reducible refine CM.out.mono ?_)
       rintro e w9 ⟨rfl,hI9,hk9⟩
       have ST9:=zZ.mk (ST8.out.at hI9 hk9)
       clear hI9 hk9 CM
       have z0:=(zK ST9.out.zero 0)
       have z1:=(zK ST9.out.zero 1)
       have z2:=(zK ST9.out.zero 2)
       have z3:=(zK ST9.out.zero 3)
       have y0:=zP ST9.out.zero 0
       have y1:=zP ST9.out.zero 1
       have y2:=zP ST9.out.zero 2
       have y3:=zP ST9.out.zero 3
       replace z0:=z0.trans (show zCells[0]? = some (Value.int .u8 0) from rfl)
       replace z1:=z1.trans (show zCells[1]? = some (Value.string nil8) from rfl)
       replace z2:=z2.trans (show zCells[2]? = some (Value.slice none 0 0) from rfl)
       replace z3:=z3.trans (show zCells[3]? = some (Value.slice none 0 0) from rfl)
       go_wp2
       refine bodyPost_ret (uT rfl _ _ _ TX _ (0,0) _ rfl (zF (zF (zF (zF ST9.out.zero 0 _ rfl) 1 _ rfl) 2 _ rfl) 3 _ rfl) Tryd.underlying25 rfl sG) rfl ?_
       have hc:=fun W2 h1 h2 => ST9.out.close (W2:=W2) h1 h2
       rw [← HE.out]
       exact ⟨.slice none 0 0,.slice none 0 0,rfl,(hc _ (by (with_reducible repeat (first|exact Kept.refl _ _|apply Kept.alloc|apply Kept.drewN|apply Kept.drew|refine xL ?_ _ _|refine yL ?_ _ _ (Nat.le_refl _)|refine yL ?_ _ _ (by first|assumption|omega)))) (by (with_reducible repeat (first|exact ST9.out.isp.low|apply zY|apply zV|apply zU|refine zQ ?_ (by first|assumption|omega))))).1,(hc _ (by (with_reducible repeat (first|exact Kept.refl _ _|apply Kept.alloc|apply Kept.drewN|apply Kept.drew|refine xL ?_ _ _|refine yL ?_ _ _ (Nat.le_refl _)|refine yL ?_ _ _ (by first|assumption|omega)))) (by (with_reducible repeat (first|exact ST9.out.isp.low|apply zY|apply zV|apply zU|refine zQ ?_ (by first|assumption|omega))))).2,pO _ _⟩
    ·
     have hit : itemF F true ⟨op,nil8,ns,[]⟩ p2 L1 = ⟨⟨op,nil8,ns ++ [z61.f2],[]⟩,L1,p2,110⟩:=by
      unfold itemF
      rw [if_pos rfl]
      show Res.mk ⟨op,nil8,ns ++ [(takeF [2,3] L1).1.f2],[]⟩ (takeF [2,3] L1).2.1 p2 (takeF [2,3] L1).2.2 = _
      rw [ht]
     rw [hit] at HE
     rw [show numF L1 = (z61,L1,110) from ht] at CU
     rw [if_pos (show (110 : Int) ≠ 0 by simp)] at HE
     clear ht hit
     go_wp2_with fail
     (with_reducible refine CU.out.mono ?_)
     rintro e w5 ⟨rfl,hI5,hk5⟩
     have ST5:=zZ.mk (ST.out.at hI5 hk5)
     clear hI5 hk5 CU ST
     have z0:=(zK ST5.out.zero 0)
     have z1:=(zK ST5.out.zero 1)
     have z2:=(zK ST5.out.zero 2)
     have z3:=(zK ST5.out.zero 3)
     have y0:=zP ST5.out.zero 0
     have y1:=zP ST5.out.zero 1
     have y2:=zP ST5.out.zero 2
     have y3:=zP ST5.out.zero 3
     replace z0:=z0.trans (show zCells[0]? = some (Value.int .u8 0) from rfl)
     replace z1:=z1.trans (show zCells[1]? = some (Value.string nil8) from rfl)
     replace z2:=z2.trans (show zCells[2]? = some (Value.slice none 0 0) from rfl)
     replace z3:=z3.trans (show zCells[3]? = some (Value.slice none 0 0) from rfl)
     go_wp2
     refine bodyPost_ret (uT rfl _ _ _ TX _ (0,0) _ rfl (zF (zF (zF (zF ST5.out.zero 0 _ rfl) 1 _ rfl) 2 _ rfl) 3 _ rfl) Tryd.underlying25 rfl sG) rfl ?_
     have hc:=fun W2 h1 h2 => ST5.out.close (W2:=W2) h1 h2
     rw [← HE.out]
     exact ⟨.slice none 0 0,.slice none 0 0,rfl,(hc _ (by (with_reducible repeat (first|exact Kept.refl _ _|apply Kept.alloc|apply Kept.drewN|apply Kept.drew|refine xL ?_ _ _|refine yL ?_ _ _ (Nat.le_refl _)|refine yL ?_ _ _ (by first|assumption|omega)))) (by (with_reducible repeat (first|exact ST5.out.isp.low|apply zY|apply zV|apply zU|refine zQ ?_ (by first|assumption|omega))))).1,(hc _ (by (with_reducible repeat (first|exact Kept.refl _ _|apply Kept.alloc|apply Kept.drewN|apply Kept.drew|refine xL ?_ _ _|refine yL ?_ _ _ (Nat.le_refl _)|refine yL ?_ _ _ (by first|assumption|omega)))) (by (with_reducible repeat (first|exact ST5.out.isp.low|apply zY|apply zV|apply zU|refine zQ ?_ (by first|assumption|omega))))).2,pO _ _⟩

   ·
    have hdn : decide (k < nn) = false:=decide_eq_false hn
    have hni : ¬ ((k : Int) < (nn : Int)):=by omega
    have hni' : decide ((k : Int) < (nn : Int)) = false:=decide_eq_false hni
    have HE:=zZ.mk ((stepsF_at F nn (nn + aa) k hkk ⟨op,nil8,ns,ys⟩ p2 L1 _ rfl).symm.trans HRR.out)
    rw [hdn] at HE
    clear HRR
    have CU:=zZ.mk (HF.out p2 L1 wr ST.out.isp hp0 hp1)
    have HGG:=HG.out p2 L1 hp0 hp1
    have hit : itemF F false ⟨op,nil8,ns,ys⟩ p2 L1 = ⟨⟨op,nil8,ns,ys ++ [(F p2 L1).x]⟩,(F p2 L1).l,(F p2 L1).p,(F p2 L1).e⟩:=by
     unfold itemF
     rw [if_neg (by simp)]
    rw [hit] at HE
    clear hit
    obtain ⟨y,LL,pp,ee,hy⟩ : ∃ y LL pp ee,F p2 L1 = Res.mk y LL pp ee:=⟨_,_,_,_,rfl⟩
    rw [hy] at HE CU HGG
    dsimp only at HE CU HGG
    have hg0:=HGG.p0
    have hgp:=HGG.ok
    have q0 : 0 ≤ pp:=by dsimp only at hg0; omega
    clear hy
    by_cases hee : ee = 0
    ·
     subst hee
     rw [if_neg (show ¬ ((0 : Int) ≠ 0) by simp)] at HE
     have q1 : pp ≤ 2000:=hgp rfl
     by_cases hlast : k + 1 = nn + aa
     ·
      have hl1 : ((k : Int) == (nn : Int) + (aa : Int) - 1) = true:=beq_iff_eq.2 (by omega)
      have hl2 : (k : Int) = (nn : Int) + (aa : Int) - 1:=by omega
      go_wp2_with fail
      (with_reducible refine CU.out.mono ?_)
      rintro e w5 ⟨v5,v6,rfl,hI5,hk5,hy5⟩
      obtain ⟨A5,c5,A6,c6,rfl,rfl⟩:=hy5.slices
      have ST5:=zZ.mk (ST.out.at hI5 hk5)
      have HY:=zZ.mk (Kd.M_alloc (hy5.part (B:=w3.heap.size + 1) ST.out.lt) (.cells #[.int .u8 y.f0,.string y.f1,.slice A5 y.f2.length c5,.slice A6 y.f3.length c6] TX))
      have HV:=zZ.mk (Kd.R_lt ST.out.args)
      have ST6:=zZ.mk (ST5.out.at (ST5.out.isp.keep (zY (Below.refl _ _) _)) ((Kept.refl _ (At g)).alloc (.cells #[.int .u8 y.f0,.string y.f1,.slice A5 y.f2.length c5,.slice A6 y.f3.length c6] TX)))
      have q5 : (w5.alloc (.cells #[.int .u8 y.f0,.string y.f1,.slice A5 y.f2.length c5,.slice A6 y.f3.length c6] TX)).cell? ⟨w3.heap.size,3,none⟩ = some v3:=(zK ST6.out.box 3).trans rfl
      have q5b : w5.cell? ⟨w3.heap.size,3,none⟩ = some v3:=(zK ST5.out.box 3).trans rfl
      have q5n : w3.heap.size < w5.heap.size:=ST5.out.lt
      have q5m : ¬ (w3.heap.size = w5.heap.size):=by omega
      have hbz : w3.heap.size + 1 ≤ (w5.alloc (.cells #[.int .u8 y.f0,.string y.f1,.slice A5 y.f2.length c5,.slice A6 y.f3.length c6] TX)).heap.size:=ST6.out.lt
      have hal : ys.length ≤ 5:=by omega
      have HS:=zZ.mk (show (w5.alloc (.cells #[.int .u8 y.f0,.string y.f1,.slice A5 y.f2.length c5,.slice A6 y.f3.length c6] TX)).heap.size = w5.heap.size + 1 from Array.size_push ..)
      clear hI5 hk5 CU hgp HGG hg0 hy5 ST5
      go_wp2_with (first|((with_reducible refine uX (b:=.append) (xs:=#[.tmp 64,.tmp 66]) rfl ?_); at_builtin; refine Kd.R_append kX (w0:=w5.alloc (.cells #[.int .u8 y.f0,.string y.f1,.slice A5 y.f2.length c5,.slice A6 y.f3.length c6] TX)) (w3.heap.size + 1) rfl (.tmp 64) (.tmp 66) 23 TX (.agg #[.int .u8 0,.string nil8,.slice none 0 0,.slice none 0 0]) 72 rfl Tryd.underlying23 info_x3 rfl (show 0 < kX.sz from Nat.zero_lt_succ 3) (by decide) v3 ys y [.int .u8 y.f0,.string y.f1,.slice A5 y.f2.length c5,.slice A6 y.f3.length c6] (fun _ => True) (fun k => wr.heap.size ≤ k) rfl (by rw [HS.out]; rfl) HY.out (fun k hk => ⟨trivial,fun he => by have h1:=HV.out k he.symm; have h2 : wr.heap.size ≤ k:=hk; omega⟩) (fun _ _ => trivial) ST6.out.args (Below.refl _ _) hbz (by omega) ?_; intro v8 w8 ho hb hg hat; obtain ⟨A8,c8,h8⟩:=Kd.R_slice ho; rw [List.length_append,List.length_singleton] at h8; subst h8; have HO:=zZ.mk ho; have HG:=zZ.mk hg; have f8:=zP (ST6.out.box_grown hg (Kd.R_base ST6.out.args)) 3; have q8 : w8.cell? ⟨w3.heap.size,3,none⟩ = some v3:=(zK (ST6.out.box_grown hg (Kd.R_base ST6.out.args)) 3).trans rfl; clear ho hb hg hat))
      have ST8:=zZ.mk (ST6.out.arg HO.out HG.out)
      clear HO HG ST6 q5 q5b q5n q5m f8 q8 HY HV ST
      rw [if_pos hlast] at HE
      have CM:=zZ.mk (mZ g RPA LL a pp w0 _ ST8.out.isp)
      rcases qY RPA LL with ⟨t9,r9,hL9,hm9,_⟩|⟨hm9,_⟩
      ·
       rw [hm9] at CM HE
       rw [if_neg (show ¬ ((r9,(0 : Int)).2 ≠ 0) by simp)] at HE
       (with_reducible refine CM.out.mono ?_)
       rintro e w9 ⟨rfl,hI9,hk9⟩
       have ST9:=zZ.mk (ST8.out.at hI9 hk9)
       clear hI9 hk9 CM
       go_wp2_with fail
       go_roundw
       case rel => exact ⟨k + 1,r9,pp,ns,ys ++ [y],v2,_,by omega,by go_num,q0,q1,by simp at hlen ⊢; omega,fun h => absurd h (by omega),HE.out,ST9.out⟩
       case measure => simp [intOf]; omega
      ·
       rw [hm9] at CM HE
       rw [if_pos (show (LL,(110 : Int)).2 ≠ 0 by simp)] at HE
       (with_reducible refine CM.out.mono ?_)
       rintro e w9 ⟨rfl,hI9,hk9⟩
       have ST9:=zZ.mk (ST8.out.at hI9 hk9)
       clear hI9 hk9 CM
       have z0:=(zK ST9.out.zero 0)
       have z1:=(zK ST9.out.zero 1)
       have z2:=(zK ST9.out.zero 2)
       have z3:=(zK ST9.out.zero 3)
       have y0:=zP ST9.out.zero 0
       have y1:=zP ST9.out.zero 1
       have y2:=zP ST9.out.zero 2
       have y3:=zP ST9.out.zero 3
       replace z0:=z0.trans (show zCells[0]? = some (Value.int .u8 0) from rfl)
       replace z1:=z1.trans (show zCells[1]? = some (Value.string nil8) from rfl)
       replace z2:=z2.trans (show zCells[2]? = some (Value.slice none 0 0) from rfl)
       replace z3:=z3.trans (show zCells[3]? = some (Value.slice none 0 0) from rfl)
       go_wp2
       refine bodyPost_ret (uT rfl _ _ _ TX _ (0,0) _ rfl (zF (zF (zF (zF ST9.out.zero 0 _ rfl) 1 _ rfl) 2 _ rfl) 3 _ rfl) Tryd.underlying25 rfl sG) rfl ?_
       have hc:=fun W2 h1 h2 => ST9.out.close (W2:=W2) h1 h2
       rw [← HE.out]
       exact ⟨.slice none 0 0,.slice none 0 0,rfl,(hc _ (by (with_reducible repeat (first|exact Kept.refl _ _|apply Kept.alloc|apply Kept.drewN|apply Kept.drew|refine xL ?_ _ _|refine yL ?_ _ _ (Nat.le_refl _)|refine yL ?_ _ _ (by first|assumption|omega)))) (by (with_reducible repeat (first|exact ST9.out.isp.low|apply zY|apply zV|apply zU|refine zQ ?_ (by first|assumption|omega))))).1,(hc _ (by (with_reducible repeat (first|exact Kept.refl _ _|apply Kept.alloc|apply Kept.drewN|apply Kept.drew|refine xL ?_ _ _|refine yL ?_ _ _ (Nat.le_refl _)|refine yL ?_ _ _ (by first|assumption|omega)))) (by (with_reducible repeat (first|exact ST9.out.isp.low|apply zY|apply zV|apply zU|refine zQ ?_ (by first|assumption|omega))))).2,pO _ _⟩
     ·
      have hl1 : ((k : Int) == (nn : Int) + (aa : Int) - 1) = false:=beq_eq_false_iff_ne.2 (by omega)
      have hl2 : ¬ ((k : Int) = (nn : Int) + (aa : Int) - 1):=by omega
      go_wp2_with fail
      (with_reducible refine CU.out.mono ?_)
      rintro e w5 ⟨v5,v6,rfl,hI5,hk5,hy5⟩
      obtain ⟨A5,c5,A6,c6,rfl,rfl⟩:=hy5.slices
      have ST5:=zZ.mk (ST.out.at hI5 hk5)
      have HY:=zZ.mk (Kd.M_alloc (hy5.part (B:=w3.heap.size + 1) ST.out.lt) (.cells #[.int .u8 y.f0,.string y.f1,.slice A5 y.f2.length c5,.slice A6 y.f3.length c6] TX))
      have HV:=zZ.mk (Kd.R_lt ST.out.args)
      have ST6:=zZ.mk (ST5.out.at (ST5.out.isp.keep (zY (Below.refl _ _) _)) ((Kept.refl _ (At g)).alloc (.cells #[.int .u8 y.f0,.string y.f1,.slice A5 y.f2.length c5,.slice A6 y.f3.length c6] TX)))
      have q5 : (w5.alloc (.cells #[.int .u8 y.f0,.string y.f1,.slice A5 y.f2.length c5,.slice A6 y.f3.length c6] TX)).cell? ⟨w3.heap.size,3,none⟩ = some v3:=(zK ST6.out.box 3).trans rfl
      have q5b : w5.cell? ⟨w3.heap.size,3,none⟩ = some v3:=(zK ST5.out.box 3).trans rfl
      have q5n : w3.heap.size < w5.heap.size:=ST5.out.lt
      have q5m : ¬ (w3.heap.size = w5.heap.size):=by omega
      have hbz : w3.heap.size + 1 ≤ (w5.alloc (.cells #[.int .u8 y.f0,.string y.f1,.slice A5 y.f2.length c5,.slice A6 y.f3.length c6] TX)).heap.size:=ST6.out.lt
      have hal : ys.length ≤ 5:=by omega
      have HS:=zZ.mk (show (w5.alloc (.cells #[.int .u8 y.f0,.string y.f1,.slice A5 y.f2.length c5,.slice A6 y.f3.length c6] TX)).heap.size = w5.heap.size + 1 from Array.size_push ..)
      clear hI5 hk5 CU hgp HGG hg0 hy5 ST5
      go_wp2_with (first|((with_reducible refine uX (b:=.append) (xs:=#[.tmp 64,.tmp 66]) rfl ?_); at_builtin; refine Kd.R_append kX (w0:=w5.alloc (.cells #[.int .u8 y.f0,.string y.f1,.slice A5 y.f2.length c5,.slice A6 y.f3.length c6] TX)) (w3.heap.size + 1) rfl (.tmp 64) (.tmp 66) 23 TX (.agg #[.int .u8 0,.string nil8,.slice none 0 0,.slice none 0 0]) 72 rfl Tryd.underlying23 info_x3 rfl (show 0 < kX.sz from Nat.zero_lt_succ 3) (by decide) v3 ys y [.int .u8 y.f0,.string y.f1,.slice A5 y.f2.length c5,.slice A6 y.f3.length c6] (fun _ => True) (fun k => wr.heap.size ≤ k) rfl (by rw [HS.out]; rfl) HY.out (fun k hk => ⟨trivial,fun he => by have h1:=HV.out k he.symm; have h2 : wr.heap.size ≤ k:=hk; omega⟩) (fun _ _ => trivial) ST6.out.args (Below.refl _ _) hbz (by omega) ?_; intro v8 w8 ho hb hg hat; obtain ⟨A8,c8,h8⟩:=Kd.R_slice ho; rw [List.length_append,List.length_singleton] at h8; subst h8; have HO:=zZ.mk ho; have HG:=zZ.mk hg; have f8:=zP (ST6.out.box_grown hg (Kd.R_base ST6.out.args)) 3; have q8 : w8.cell? ⟨w3.heap.size,3,none⟩ = some v3:=(zK (ST6.out.box_grown hg (Kd.R_base ST6.out.args)) 3).trans rfl; clear ho hb hg hat))
      have ST8:=zZ.mk (ST6.out.arg HO.out HG.out)
      clear HO HG ST6 q5 q5b q5n q5m f8 q8 HY HV ST
      rw [if_neg hlast] at HE
      have CM:=zZ.mk (mZ g COM LL a pp w0 _ ST8.out.isp)
      rcases qY COM LL with ⟨t9,r9,hL9,hm9,_⟩|⟨hm9,_⟩
      ·
       rw [hm9] at CM HE
       rw [if_neg (show ¬ ((r9,(0 : Int)).2 ≠ 0) by simp)] at HE
       (with_reducible refine CM.out.mono ?_)
       rintro e w9 ⟨rfl,hI9,hk9⟩
       have ST9:=zZ.mk (ST8.out.at hI9 hk9)
       clear hI9 hk9 CM
       go_wp2_with fail
       go_roundw
       case rel => exact ⟨k + 1,r9,pp,ns,ys ++ [y],v2,_,by omega,by go_num,q0,q1,by simp at hlen ⊢; omega,fun h => absurd h (by omega),HE.out,ST9.out⟩
       case measure => simp [intOf]; omega
      ·
       rw [hm9] at CM HE
       rw [if_pos (show (LL,(110 : Int)).2 ≠ 0 by simp)] at HE
       (with_reducible refine CM.out.mono ?_)
       rintro e w9 ⟨rfl,hI9,hk9⟩
       have ST9:=zZ.mk (ST8.out.at hI9 hk9)
       clear hI9 hk9 CM
       have z0:=(zK ST9.out.zero 0)
       have z1:=(zK ST9.out.zero 1)
       have z2:=(zK ST9.out.zero 2)
       have z3:=(zK ST9.out.zero 3)
       have y0:=zP ST9.out.zero 0
       have y1:=zP ST9.out.zero 1
       have y2:=zP ST9.out.zero 2
       have y3:=zP ST9.out.zero 3
       replace z0:=z0.trans (show zCells[0]? = some (Value.int .u8 0) from rfl)
       replace z1:=z1.trans (show zCells[1]? = some (Value.string nil8) from rfl)
       replace z2:=z2.trans (show zCells[2]? = some (Value.slice none 0 0) from rfl)
       replace z3:=z3.trans (show zCells[3]? = some (Value.slice none 0 0) from rfl)
       go_wp2
       refine bodyPost_ret (uT rfl _ _ _ TX _ (0,0) _ rfl (zF (zF (zF (zF ST9.out.zero 0 _ rfl) 1 _ rfl) 2 _ rfl) 3 _ rfl) Tryd.underlying25 rfl sG) rfl ?_
       have hc:=fun W2 h1 h2 => ST9.out.close (W2:=W2) h1 h2
       rw [← HE.out]
       exact ⟨.slice none 0 0,.slice none 0 0,rfl,(hc _ (by (with_reducible repeat (first|exact Kept.refl _ _|apply Kept.alloc|apply Kept.drewN|apply Kept.drew|refine xL ?_ _ _|refine yL ?_ _ _ (Nat.le_refl _)|refine yL ?_ _ _ (by first|assumption|omega)))) (by (with_reducible repeat (first|exact ST9.out.isp.low|apply zY|apply zV|apply zU|refine zQ ?_ (by first|assumption|omega))))).1,(hc _ (by (with_reducible repeat (first|exact Kept.refl _ _|apply Kept.alloc|apply Kept.drewN|apply Kept.drew|refine xL ?_ _ _|refine yL ?_ _ _ (Nat.le_refl _)|refine yL ?_ _ _ (by first|assumption|omega)))) (by (with_reducible repeat (first|exact ST9.out.isp.low|apply zY|apply zV|apply zU|refine zQ ?_ (by first|assumption|omega))))).2,pO _ _⟩
    ·
     rw [if_pos (show ee ≠ 0 from hee)] at HE
     have hee' : (ee != 0) = true:=bne_iff_ne.2 hee
     go_wp2_with fail
     (with_reducible refine CU.out.mono ?_)
     rintro e w5 ⟨v5,v6,rfl,hI5,hk5,hy5⟩
     obtain ⟨A5,c5,A6,c6,rfl,rfl⟩:=hy5.slices
     have ST5:=zZ.mk (ST.out.at hI5 hk5)
     have ST6:=zZ.mk (ST5.out.at (ST5.out.isp.keep (zY (Below.refl _ _) _)) ((Kept.refl _ (At g)).alloc (.cells #[.int .u8 y.f0,.string y.f1,.slice A5 y.f2.length c5,.slice A6 y.f3.length c6] TX)))
     clear hI5 hk5 CU ST hgp HGG hg0 hy5 ST5
     have z0:=(zK ST6.out.zero 0)
     have z1:=(zK ST6.out.zero 1)
     have z2:=(zK ST6.out.zero 2)
     have z3:=(zK ST6.out.zero 3)
     have y0:=zP ST6.out.zero 0
     have y1:=zP ST6.out.zero 1
     have y2:=zP ST6.out.zero 2
     have y3:=zP ST6.out.zero 3
     replace z0:=z0.trans (show zCells[0]? = some (Value.int .u8 0) from rfl)
     replace z1:=z1.trans (show zCells[1]? = some (Value.string nil8) from rfl)
     replace z2:=z2.trans (show zCells[2]? = some (Value.slice none 0 0) from rfl)
     replace z3:=z3.trans (show zCells[3]? = some (Value.slice none 0 0) from rfl)
     go_wp2
     refine bodyPost_ret (uT rfl _ _ _ TX _ (0,0) _ rfl (zF (zF (zF (zF ST6.out.zero 0 _ rfl) 1 _ rfl) 2 _ rfl) 3 _ rfl) Tryd.underlying25 rfl sG) rfl ?_
     have hc:=fun W2 h1 h2 => ST6.out.close (W2:=W2) h1 h2
     rw [← HE.out]
     exact ⟨.slice none 0 0,.slice none 0 0,rfl,(hc _ (by (with_reducible repeat (first|exact Kept.refl _ _|apply Kept.alloc|apply Kept.drewN|apply Kept.drew|refine xL ?_ _ _|refine yL ?_ _ _ (Nat.le_refl _)|refine yL ?_ _ _ (by first|assumption|omega)))) (by (with_reducible repeat (first|exact ST6.out.isp.low|apply zY|apply zV|apply zU|refine zQ ?_ (by first|assumption|omega))))).1,(hc _ (by (with_reducible repeat (first|exact Kept.refl _ _|apply Kept.alloc|apply Kept.drewN|apply Kept.drew|refine xL ?_ _ _|refine yL ?_ _ _ (Nat.le_refl _)|refine yL ?_ _ _ (by first|assumption|omega)))) (by (with_reducible repeat (first|exact ST6.out.isp.low|apply zY|apply zV|apply zU|refine zQ ?_ (by first|assumption|omega))))).2,pO _ _⟩

  ·
   obtain ⟨A2,c2,rfl⟩:=Kd.R_slice ST.out.nums
   obtain ⟨A3,c3,rfl⟩:=Kd.R_slice ST.out.args
   obtain rfl : k = nn + aa:=by omega
   have hki' : decide (((nn + aa : Nat) : Int) < (nn : Int) + (aa : Int)) = false:=decide_eq_false (by omega)
   have hR:=HRR.out
   rw [Nat.sub_self,stepsF] at hR
   have HE:=zZ.mk hR
   have q0 : wr.cell? ⟨w3.heap.size,0,none⟩ = some (.int .u8 op):=(zK ST.out.box 0).trans rfl
   have q1 : wr.cell? ⟨w3.heap.size,1,none⟩ = some (.string nil8):=(zK ST.out.box 1).trans rfl
   have q2 : wr.cell? ⟨w3.heap.size,2,none⟩ = some (.slice A2 _ c2):=(zK ST.out.box 2).trans rfl
   have q3 : wr.cell? ⟨w3.heap.size,3,none⟩ = some (.slice A3 _ c3):=(zK ST.out.box 3).trans rfl
   have z0:=(zK ST.out.zero 0).trans (show zCells[0]? = some (Value.int .u8 0) from rfl)
   have z1:=(zK ST.out.zero 1).trans (show zCells[1]? = some (Value.string nil8) from rfl)
   have z2:=(zK ST.out.zero 2).trans (show zCells[2]? = some (Value.slice none 0 0) from rfl)
   have z3:=(zK ST.out.zero 3).trans (show zCells[3]? = some (Value.slice none 0 0) from rfl)
   have y0:=zP ST.out.zero 0
   have y1:=zP ST.out.zero 1
   have y2:=zP ST.out.zero 2
   have y3:=zP ST.out.zero 3
   clear hR HRR
   go_wp2
   refine bodyPost_ret (uT rfl _ _ _ TX _ (0,0) _ rfl (zF (zF (zF (zF ST.out.zero 0 _ rfl) 1 _ rfl) 2 _ rfl) 3 _ rfl) Tryd.underlying25 rfl sG) rfl ?_
   have hc:=fun W2 h1 h2 => ST.out.close (W2:=W2) h1 h2
   rw [← HE.out]
   exact ⟨_,_,rfl,(hc _ (by (with_reducible repeat (first|exact Kept.refl _ _|apply Kept.alloc|apply Kept.drewN|apply Kept.drew|refine xL ?_ _ _|refine yL ?_ _ _ (Nat.le_refl _)|refine yL ?_ _ _ (by first|assumption|omega)))) (by (with_reducible repeat (first|exact ST.out.isp.low|apply zY|apply zV|apply zU|refine zQ ?_ (by first|assumption|omega))))).1,(hc _ (by (with_reducible repeat (first|exact Kept.refl _ _|apply Kept.alloc|apply Kept.drewN|apply Kept.drew|refine xL ?_ _ _|refine yL ?_ _ _ (Nat.le_refl _)|refine yL ?_ _ _ (by first|assumption|omega)))) (by (with_reducible repeat (first|exact ST.out.isp.low|apply zY|apply zV|apply zU|refine zQ ?_ (by first|assumption|omega))))).2,ST.out.done (by (with_reducible repeat (first|exact Kept.refl _ _|apply Kept.alloc|apply Kept.drewN|apply Kept.drew|refine xL ?_ _ _|refine yL ?_ _ _ (Nat.le_refl _)|refine yL ?_ _ _ (by first|assumption|omega))))⟩
end Go.Proofs.YtjeofffddbibeaaDoor.Pa
end

section
namespace Go.Proofs
open Go.Shelf
def Tryd.lays145_ren : Go.Shelf.Ren:=⟨fun|145 => 63|220 => 81|219 => 94|217 => 105|225 => 113|224 => 114|267 => 115|266 => 121|314 => 125|n => n,fun|9 => 9|4 => 4|59 => 90|3 => 3|5 => 5|46 => 165|146 => 176|51 => 136|n => n,fun|1 => 2|n => n⟩
theorem Tryd.lays145 : Go.Proofs.Lays.n145 Tryd.prog Tryd.lays145_ren:={
 mixed:=by kernel_rfl
 f145:=Tryd.func63.trans (congrArg some (by kernel_rfl))
 f217:=Tryd.func105.trans (congrArg some (by kernel_rfl))
 f219:=Tryd.func94.trans (congrArg some (by kernel_rfl))
 f220:=Tryd.func81.trans (congrArg some (by kernel_rfl))
 f224:=Tryd.func114.trans (congrArg some (by kernel_rfl))
 f225:=Tryd.func113.trans (congrArg some (by kernel_rfl))
 f266:=Tryd.func121.trans (congrArg some (by kernel_rfl))
 f267:=Tryd.func115.trans (congrArg some (by kernel_rfl))
 f314:=Tryd.func125.trans (congrArg some (by kernel_rfl))
 t3:=Tryd.underlying3
 a3:=Tryd.isAgg3
 z3:=Tryd.sizeOf3
 v3:=Tryd.zeroValue3
 t4:=Tryd.underlying4
 a4:=Tryd.isAgg4
 z4:=Tryd.sizeOf4
 v4:=Tryd.zeroValue4
 t5:=Tryd.underlying5
 a5:=Tryd.isAgg5
 z5:=Tryd.sizeOf5
 v5:=Tryd.zeroValue5
 t9:=Tryd.underlying9
 a9:=Tryd.isAgg9
 z9:=Tryd.sizeOf9
 v9:=Tryd.zeroValue9
 t46:=Tryd.underlying165
 a46:=Tryd.isAgg165
 z46:=Tryd.sizeOf165
 v46:=Tryd.zeroValue165
 t51:=Tryd.underlying136
 a51:=Tryd.isAgg136
 z51:=Tryd.sizeOf136
 v51:=Tryd.zeroValue136
 t59:=Tryd.underlying90
 a59:=Tryd.isAgg90
 z59:=Tryd.sizeOf90
 v59:=Tryd.zeroValue90
 t146:=Tryd.underlying176
 a146:=Tryd.isAgg176
 z146:=Tryd.sizeOf176
 v146:=Tryd.zeroValue176
 g1:=by kernel_rfl }
open Go.RowKit Go.Lib in
theorem Tryd.strings_Cut (s sep : ByteArray) (m : Int) (w : World) (hs : s.size < 4294967281) (hm : w.cell? ⟨2,0,none⟩ = some (.int .i64 m)) :
  Calls Tryd.prog 63 #[.string s,.string sep] w fun e w' => e = .returned (.tuple #[.string ⟨(Lib.cut s.data.toList sep.data.toList).1.toArray⟩,.string ⟨(Lib.cut s.data.toList sep.data.toList).2.1.toArray⟩,.bool (Lib.cut s.data.toList sep.data.toList).2.2]) ∧ ∃ n,w' = w.drewN n:=Any.strings_Cut Tryd.lays145 s sep m w hs hm
def Tryd.laysM157_ren : Go.Shelf.Ren:=⟨fun|157 => 61|229 => 79|199 => 80|261 => 93|311 => 111|312 => 112|n => n,fun|9 => 9|31 => 28|3 => 3|5 => 5|4 => 4|119 => 116|0 => 0|40 => 118|152 => 133|21 => 21|154 => 135|51 => 136|141 => 138|196 => 157|193 => 154|198 => 159|49 => 59|194 => 155|201 => 162|226 => 174|46 => 165|227 => 175|n => n,fun|0 => 0|6 => 1|n => n⟩
theorem Tryd.laysM157 : Go.Proofs.LaysM.n157 Tryd.prog Tryd.laysM157_ren:={
 mixed:=by kernel_rfl
 f157:=Tryd.func61.trans (congrArg some (by kernel_rfl))
 f199:=Tryd.func80.trans (congrArg some (by kernel_rfl))
 f229:=Tryd.func79.trans (congrArg some (by kernel_rfl))
 f261:=Tryd.func93.trans (congrArg some (by kernel_rfl))
 f311:=Tryd.func111.trans (congrArg some (by kernel_rfl))
 f312:=Tryd.func112.trans (congrArg some (by kernel_rfl))
 t0:=Tryd.underlying0
 a0:=Tryd.isAgg0
 z0:=Tryd.sizeOf0
 v0:=Tryd.zeroValue0
 t3:=Tryd.underlying3
 a3:=Tryd.isAgg3
 z3:=Tryd.sizeOf3
 v3:=Tryd.zeroValue3
 t4:=Tryd.underlying4
 a4:=Tryd.isAgg4
 z4:=Tryd.sizeOf4
 v4:=Tryd.zeroValue4
 t5:=Tryd.underlying5
 a5:=Tryd.isAgg5
 z5:=Tryd.sizeOf5
 v5:=Tryd.zeroValue5
 t9:=Tryd.underlying9
 a9:=Tryd.isAgg9
 z9:=Tryd.sizeOf9
 v9:=Tryd.zeroValue9
 t21:=Tryd.underlying21
 a21:=Tryd.isAgg21
 z21:=Tryd.sizeOf21
 v21:=Tryd.zeroValue21
 t31:=Tryd.underlying28
 a31:=Tryd.isAgg28
 z31:=Tryd.sizeOf28
 v31:=Tryd.zeroValue28
 t40:=Tryd.underlying118
 a40:=Tryd.isAgg118
 z40:=Tryd.sizeOf118
 v40:=Tryd.zeroValue118
 t46:=Tryd.underlying165
 a46:=Tryd.isAgg165
 z46:=Tryd.sizeOf165
 v46:=Tryd.zeroValue165
 t49:=Tryd.underlying59
 a49:=Tryd.isAgg59
 z49:=Tryd.sizeOf59
 v49:=Tryd.zeroValue59
 t51:=Tryd.underlying136
 a51:=Tryd.isAgg136
 z51:=Tryd.sizeOf136
 v51:=Tryd.zeroValue136
 t119:=Tryd.underlying116
 a119:=Tryd.isAgg116
 z119:=Tryd.sizeOf116
 t141:=Tryd.underlying138
 a141:=Tryd.isAgg138
 z141:=Tryd.sizeOf138
 v141:=Tryd.zeroValue138
 t152:=Tryd.underlying133
 a152:=Tryd.isAgg133
 z152:=Tryd.sizeOf133
 v152:=Tryd.zeroValue133
 t154:=Tryd.underlying135
 a154:=Tryd.isAgg135
 z154:=Tryd.sizeOf135
 v154:=Tryd.zeroValue135
 t193:=Tryd.underlying154
 a193:=Tryd.isAgg154
 z193:=Tryd.sizeOf154
 v193:=Tryd.zeroValue154
 t194:=Tryd.underlying155
 a194:=Tryd.isAgg155
 z194:=Tryd.sizeOf155
 v194:=Tryd.zeroValue155
 t196:=Tryd.underlying157
 a196:=Tryd.isAgg157
 z196:=Tryd.sizeOf157
 v196:=Tryd.zeroValue157
 t198:=Tryd.underlying159
 a198:=Tryd.isAgg159
 z198:=Tryd.sizeOf159
 v198:=Tryd.zeroValue159
 t201:=Tryd.underlying162
 a201:=Tryd.isAgg162
 z201:=Tryd.sizeOf162
 v201:=Tryd.zeroValue162
 t226:=Tryd.underlying174
 a226:=Tryd.isAgg174
 z226:=Tryd.sizeOf174
 v226:=Tryd.zeroValue174
 t227:=Tryd.underlying175
 a227:=Tryd.isAgg175
 z227:=Tryd.sizeOf175
 v227:=Tryd.zeroValue175
 g0:=by kernel_rfl
 g6:=by kernel_rfl
 i0:=by kernel_rfl
 i3:=by kernel_rfl
 i4:=by kernel_rfl
 i5:=by kernel_rfl
 i9:=by kernel_rfl
 i21:=by kernel_rfl
 i31:=by kernel_rfl
 i40:=by kernel_rfl
 i46:=by kernel_rfl
 i49:=by kernel_rfl
 i51:=by kernel_rfl
 i141:=by kernel_rfl
 i152:=by kernel_rfl
 i154:=by kernel_rfl
 i193:=by kernel_rfl
 i194:=by kernel_rfl
 i196:=by kernel_rfl
 i198:=by kernel_rfl
 i201:=by kernel_rfl
 i226:=by kernel_rfl
 i227:=by kernel_rfl
 m0:=by kernel_rfl
 m6:=by kernel_rfl }
open Go.RowKit Go.Lib in
theorem Tryd.strings_Fields_laid (s : ByteArray) (w : World) (hs : s.size < 4294967281) (hascii : ∀ (j : Nat) b,s.data.toList[j]? = some b → b.toNat < 128) (htab : Lib.TabIs Tryd.prog w "strings.asciiSpace" .u8 Lib.asciiSpaceTab) :
  Calls Tryd.prog 61 #[.string s] w fun e w' =>
   e = .returned (.slice (some ⟨w.heap.size,0,none⟩) (Lib.fields s.data.toList).length (Lib.fields s.data.toList).length) ∧ w' = w.alloc (.cells ((Lib.fields s.data.toList).map fun l => Value.string ⟨l.toArray⟩).toArray 9):=Any.strings_Fields_laid Tryd.laysM157 s w hs hascii htab
def Tryd.lays109_ren : Go.Shelf.Ren:=⟨fun|109 => 60|n => n,fun|31 => 28|9 => 9|3 => 3|0 => 0|4 => 4|n => n,fun|n => n⟩
theorem Tryd.lays109 : Go.Proofs.Lays.n109 Tryd.prog Tryd.lays109_ren:={
 mixed:=by kernel_rfl
 f109:=Tryd.func60.trans (congrArg some (by kernel_rfl))
 t0:=Tryd.underlying0
 a0:=Tryd.isAgg0
 z0:=Tryd.sizeOf0
 v0:=Tryd.zeroValue0
 t3:=Tryd.underlying3
 a3:=Tryd.isAgg3
 z3:=Tryd.sizeOf3
 v3:=Tryd.zeroValue3
 t4:=Tryd.underlying4
 a4:=Tryd.isAgg4
 z4:=Tryd.sizeOf4
 v4:=Tryd.zeroValue4
 t9:=Tryd.underlying9
 a9:=Tryd.isAgg9
 z9:=Tryd.sizeOf9
 v9:=Tryd.zeroValue9
 t31:=Tryd.underlying28
 a31:=Tryd.isAgg28
 z31:=Tryd.sizeOf28
 v31:=Tryd.zeroValue28 }
open Go.Lib in
theorem Tryd.slices_Index_string (b off n c : Nat) (zs : List ByteArray) (x : ByteArray) (w : World) (hz : n ≤ zs.length) (hbig : n ≤ 9223372036854775807) (hc : ∀ j,j < zs.length → w.cell? ⟨b,off + j,none⟩ = some (.string (zs.getD j ByteArray.empty))) :
  Calls Tryd.prog 60 #[.slice (some ⟨b,off,none⟩) n c,.string x] w fun e w' => e = .returned (.int .i64 (Lib.idxOfS (zs.take n) x)) ∧ w' = w:=Any.slices_Index_string Tryd.lays109 b off n c zs x w hz hbig hc
end Go.Proofs
end

section
namespace Go.Proofs.YtjeofffddbibeaaDoor.Pa
open Go Go.RowKit PParseTells YtjeofffddbibeaaDoorW.PrintWords YtjeofffddbibeaaDoorW.PrintLast YtjeofffddbibeaaDoorW.PrintMore
set_option maxHeartbeats 4000000 in
theorem Op_calls (s : ByteArray) (w : World) (hC : Cal w) :
  Calls Tryd.prog 32 #[.string s] w fun e w' => e = .returned (.tuple #[.int .u8 (opF s).1,.bool (opF s).2]) ∧ Below w.heap.size w w':=by
 have CF : zZ (Calls Tryd.prog 61 #[.string OPS] w fun e w' => e = .returned (.slice (some ⟨w.heap.size,0,none⟩) 12 12) ∧ w' = w.alloc (.cells (opsL.map Value.string).toArray 9)):=by
  refine ⟨(Tryd.strings_Fields_laid OPS w (by decide +kernel) ops_ascii hC.space).mono ?_⟩
  rintro e w' ⟨rfl,rfl⟩
  have hf:=ops_fields
  have hl : (Lib.fields OPS.data.toList).length = 12:=by
   have:=congrArg List.length hf
   rw [List.length_map] at this
   exact this
  refine ⟨by rw [hl],?_⟩
  rw [← hf,List.map_map]
  rfl
 have CI : zZ (Calls Tryd.prog 60 #[.slice (some ⟨w.heap.size,0,none⟩) 12 12,.string s] (w.alloc (.cells (opsL.map Value.string).toArray 9)) fun e w' => e = .returned (.int .i64 (Lib.idxOfS opsL s)) ∧ w' = w.alloc (.cells (opsL.map Value.string).toArray 9)):=by
  refine ⟨Tryd.slices_Index_string w.heap.size 0 12 12 opsL s _ (by decide) (by decide) ?_⟩
  intro j hj
  refine (zK (wP w _) (0 + j)).trans ?_
  rw [Nat.zero_add]
  simp [hj]
 have hb:=zZ.mk (zY (Below.refl w.heap.size w) (.cells (opsL.map Value.string).toArray 9))
 obtain ⟨i0,i1⟩:=idx_le s
 have e0 : opF s = if Lib.idxOfS opsL s < 0 then (0,false) else (1 + Lib.idxOfS opsL s,true):=rfl
 rw [e0]
 generalize Lib.idxOfS opsL s = i at *
 clear hC e0
 by_cases hi : i < 0
 ·
  rw [if_pos hi]
  go_enter Tryd.func32,Tryd.ntmps32
  go_wp2_with fail
  (with_reducible refine CF.out.mono ?_)
  rintro e w1 ⟨rfl,rfl⟩
  go_wp2_with fail
  (with_reducible refine CI.out.mono ?_)
  rintro e w1 ⟨rfl,rfl⟩
  go_wp2
  go_ret2
  exact ⟨rfl,hb.out⟩
 ·
  rw [if_neg hi]
  go_enter Tryd.func32,Tryd.ntmps32
  go_wp2_with fail
  (with_reducible refine CF.out.mono ?_)
  rintro e w1 ⟨rfl,rfl⟩
  go_wp2_with fail
  (with_reducible refine CI.out.mono ?_)
  rintro e w1 ⟨rfl,rfl⟩
  go_wp2
  go_ret2
  exact ⟨rfl,hb.out⟩
open Go Go.RowKit PParseTells Ex YtjeofffddbibeaaDoorW.PrintWords YtjeofffddbibeaaDoorW.PrintLast YtjeofffddbibeaaDoorW.PrintMore
structure ExSt (w0 w W : World) (g : Nat) (a : Int) (L : List Tok) (p : Int) : Prop where
 isp : IsP w0 W g L a p
 kept : Kept w W (At g)
 zero : W.heap[w.heap.size]? = some (.cells zCells TX (0,0))
 lg : g < w.heap.size
section
variable {w0 w W W2 : World} {g : Nat} {a : Int} {L L2 : List Tok} {p p2 : Int}
theorem ExSt.at (h : ExSt w0 w W g a L p) (hI : IsP w0 W2 g L2 a p2) (hk : Kept W W2 (At g)) : ExSt w0 w W2 g a L2 p2:=by
 have h1:=h.lg
 exact ⟨hI,h.kept.then_ hk (fun k hs => .inl hs),uO h.zero hk (fun hs => by have : w.heap.size = g:=hs; omega),h1⟩
theorem ExSt.later (h : ExSt w0 w W g a L p) (hb : Below W.heap.size W W2) : ExSt w0 w W2 g a L p:=h.at (h.isp.keep hb) (Kept.of_below hb _)
theorem ExSt.close (h : ExSt w0 w W g a L p) (hk : Kept W W2 (At w.heap.size)) (hB : Below w0.heap.size w0 W2) : IsP w0 W2 g L a p ∧ Kept w W2 (At g):=by
 have h1:=h.lg
 exact ⟨h.isp.mv hk hB (by show ¬ (g = w.heap.size); omega),h.kept.then_ hk (fun k hs => .inr (by have : k = w.heap.size:=hs; omega))⟩
theorem ExSt.le (h : ExSt w0 w W g a L p) : w.heap.size ≤ W.heap.size:=h.kept.1
theorem ExSt.sz (h : ExSt w0 w W g a L p) : w.heap.size < W.heap.size:=wT h.zero
theorem ExSt.cal (h : ExSt w0 w W g a L p) (hC : Cal w0) : Cal W:=hC.l h.isp.low
theorem IsP.parts (h : IsP w0 W g L a p) : W.cell? ⟨g,2,none⟩ = some (.int .i64 p) ∧ W.frozen? ⟨g,2,none⟩ = false:=by
 obtain ⟨A0,c0,h1,h2,h3,h4,h5⟩:=h
 exact ⟨(zK h1 2).trans rfl,zP h1 2⟩
theorem IsP.more (h : IsP w0 W g L a p) (q : Int) : IsP w0 (W.setCell ⟨g,2,none⟩ (.int .i64 q)) g L a q:=by
 obtain ⟨A0,c0,h1,h2,h3,h4,h5⟩:=h
 exact ⟨A0,c0,zF h1 2 _ rfl,h2,h3,h4,zQ h5 h2⟩
theorem take_fail {L : List Tok} (h : takeF [1] L = (z61,L,110)) : ¬ kindF L = 1:=by
 intro hk
 cases L with
 | nil => simp [kindF] at hk
 | cons t r =>
  have hk' : t.f0 = 1:=hk
  have h2 : takeF [1] (t :: r) = (t,r,0):=if_pos ⟨by omega,by simp [hk']⟩
  rw [h2] at h
  have:=congrArg (fun x => x.2.2) h
  simp at this
end
set_option maxHeartbeats 16000000 in
set_option maxRecDepth 100000 in
theorem zWP (w0 : World) (g : Nat) (a dp : Int) (deep : Bool) (hdp : deep = decide (40 < dp)) (F : Int → List Tok → Res) (hC : Cal w0)
  (hO : deep = false → ∀ (op : Int) (o0 : 1 ≤ op) (o1 : op ≤ 12) (p : Int) (L : List Tok) (w : World) (hI : IsP w0 w g L a p) (p0 : 0 ≤ p) (p1 : p ≤ 2000) (R : Res) (hR : stepsF F (numsOf op).toNat (manyOf op) (manyOf op) ⟨op,nil8,[],[]⟩ p L = R),
   Calls Tryd.prog 85 #[.pointer (some ⟨g,0,none⟩),.int .u8 op,.int .i64 dp] w fun e w' =>
    ∃ v2 v3,e = .returned (.tuple #[ag R.x v2 v3,.int .i64 R.e]) ∧ IsP w0 w' g R.l a R.p ∧ Kept w w' (At g) ∧ Gives w w' R.x v2 v3) :
  ExprC w0 g a dp (exprG deep F):=by
 intro p L w hI p0 p1
 obtain ⟨R,hR⟩ : ∃ R,exprG deep F p L = R:=⟨_,rfl⟩
 rw [hR]
 have hgw:=hI.lt
 have hw0 : w0.heap.size ≤ w.heap.size:=by have:=hI.ge; omega
 have CK:=fun W h => zZ.mk (cA g L a p w0 W h)
 have HC:=zZ.mk hC
 have HO:=zZ.mk hO
 have HI:=zZ.mk hI
 have ST0:=zZ.mk (show ExSt w0 w (w.alloc (.cells zCells TX (0,0))) g a L p from ⟨hI.keep (zY (Below.refl _ _) _),(Kept.refl _ _).alloc _,wP w _,hgw⟩)
 clear hI hC hO
 unfold exprG at hR
 rcases pS [1] L with ⟨t,r,rfl,ht,hm⟩|ht
 ·
  have h1 : t.f0 = 1:=by simpa using hm
  have hk : kindF (t :: r) = 1:=h1
  rw [hk] at CK hR
  cases deep with
  | true =>
   have hd : (40 : Int) < dp:=by simpa using hdp.symm
   have HE:=zZ.mk ((if_pos ⟨rfl,.inl rfl⟩).symm.trans hR)
   clear hR hdp hm ht h1 hk HO
   go_enter Tryd.func64,Tryd.ntmps64
   go_wp2_with fail
   (with_reducible refine (CK _ ?i).out.mono ?_)
   case i => exact HI.out.keep (zY (Below.refl _ _) _)
   rintro e w1 ⟨rfl,hd1⟩
   have ST1:=zZ.mk (ST0.out.later hd1.below)
   have pf:=ST1.out.isp.parts
   have pf1:=pf.1
   have pf2:=pf.2
   clear pf hd1 CK ST0
   have z0:=(zK ST1.out.zero 0).trans (show zCells[0]? = some (Value.int .u8 0) from rfl)
   have z1:=(zK ST1.out.zero 1).trans (show zCells[1]? = some (Value.string nil8) from rfl)
   have z2:=(zK ST1.out.zero 2).trans (show zCells[2]? = some (Value.slice none 0 0) from rfl)
   have z3:=(zK ST1.out.zero 3).trans (show zCells[3]? = some (Value.slice none 0 0) from rfl)
   have y0:=zP ST1.out.zero 0
   have y1:=zP ST1.out.zero 1
   have y2:=zP ST1.out.zero 2
   have y3:=zP ST1.out.zero 3
   go_wp2
   refine bodyPost_ret (uT rfl _ _ _ TX _ (0,0) _ rfl (zF (zF (zF (zF ST1.out.zero 0 _ rfl) 1 _ rfl) 2 _ rfl) 3 _ rfl) Tryd.underlying25 rfl sG) rfl ?_
   have hc:=fun W2 h1 h2 => ST1.out.close (W2:=W2) h1 h2
   rw [← HE.out]
   exact ⟨_,_,rfl,(hc _ (by (with_reducible repeat (first|exact Kept.refl _ _|apply Kept.alloc|apply Kept.drewN|apply Kept.drew|refine xL ?_ _ _|refine yL ?_ _ _ (Nat.le_refl _)|refine yL ?_ _ _ (by first|assumption|omega)))) (by (with_reducible repeat (first|exact ST1.out.isp.low|apply zY|apply zV|apply zU|refine zQ ?_ (by first|assumption|omega))))).1,(hc _ (by (with_reducible repeat (first|exact Kept.refl _ _|apply Kept.alloc|apply Kept.drewN|apply Kept.drew|refine xL ?_ _ _|refine yL ?_ _ _ (Nat.le_refl _)|refine yL ?_ _ _ (by first|assumption|omega)))) (by (with_reducible repeat (first|exact ST1.out.isp.low|apply zY|apply zV|apply zU|refine zQ ?_ (by first|assumption|omega))))).2,pO _ _⟩
  | false =>
   have hd : ¬ ((40 : Int) < dp):=by simpa using hdp.symm
   have hd' : dp ≤ 40:=by omega
   by_cases hp : 2000 ≤ p
   ·
    have HE:=zZ.mk ((if_pos ⟨rfl,.inr hp⟩).symm.trans hR)
    clear hR hdp hm ht h1 hk HO
    go_enter Tryd.func64,Tryd.ntmps64
    go_wp2_with fail
    (with_reducible refine (CK _ ?i).out.mono ?_)
    case i => exact HI.out.keep (zY (Below.refl _ _) _)
    rintro e w1 ⟨rfl,hd1⟩
    have ST1:=zZ.mk (ST0.out.later hd1.below)
    have pf:=ST1.out.isp.parts
    have pf1:=pf.1
    have pf2:=pf.2
    clear pf hd1 CK ST0
    have z0:=(zK ST1.out.zero 0).trans (show zCells[0]? = some (Value.int .u8 0) from rfl)
    have z1:=(zK ST1.out.zero 1).trans (show zCells[1]? = some (Value.string nil8) from rfl)
    have z2:=(zK ST1.out.zero 2).trans (show zCells[2]? = some (Value.slice none 0 0) from rfl)
    have z3:=(zK ST1.out.zero 3).trans (show zCells[3]? = some (Value.slice none 0 0) from rfl)
    have y0:=zP ST1.out.zero 0
    have y1:=zP ST1.out.zero 1
    have y2:=zP ST1.out.zero 2
    have y3:=zP ST1.out.zero 3
    go_wp2
    refine bodyPost_ret (uT rfl _ _ _ TX _ (0,0) _ rfl (zF (zF (zF (zF ST1.out.zero 0 _ rfl) 1 _ rfl) 2 _ rfl) 3 _ rfl) Tryd.underlying25 rfl sG) rfl ?_
    have hc:=fun W2 h1 h2 => ST1.out.close (W2:=W2) h1 h2
    rw [← HE.out]
    exact ⟨_,_,rfl,(hc _ (by (with_reducible repeat (first|exact Kept.refl _ _|apply Kept.alloc|apply Kept.drewN|apply Kept.drew|refine xL ?_ _ _|refine yL ?_ _ _ (Nat.le_refl _)|refine yL ?_ _ _ (by first|assumption|omega)))) (by (with_reducible repeat (first|exact ST1.out.isp.low|apply zY|apply zV|apply zU|refine zQ ?_ (by first|assumption|omega))))).1,(hc _ (by (with_reducible repeat (first|exact Kept.refl _ _|apply Kept.alloc|apply Kept.drewN|apply Kept.drew|refine xL ?_ _ _|refine yL ?_ _ _ (Nat.le_refl _)|refine yL ?_ _ _ (by first|assumption|omega)))) (by (with_reducible repeat (first|exact ST1.out.isp.low|apply zY|apply zV|apply zU|refine zQ ?_ (by first|assumption|omega))))).2,pO _ _⟩
   ·
    rw [if_neg (by simp; omega),ht] at hR
    have hR':=(if_neg (show ¬ ((t,r,(0 : Int)).2.2 ≠ 0) by simp)).symm.trans hR
    have CT:=fun A W h hC => zZ.mk (dT g [1] asks1 A 1 1 (t :: r) a (p + 1) w0 W h rfl hC (Nat.le_refl _))
    rw [ht] at CT
    dsimp only at hR' CT
    have CO:=fun W h => zZ.mk (Op_calls t.f1 W h)
    have CM:=fun W h => zZ.mk (mZ g LPA r a (p + 1) w0 W h)
    have hp2 : p < 2000:=by omega
    clear hR hm ht h1 hk
    obtain ⟨op,io,hop⟩ : ∃ op io,opF t.f1 = (op,io):=⟨_,_,rfl⟩
    have hopr : io = true → 1 ≤ op ∧ op ≤ 12:=by
     intro h
     subst h
     have:=idx_le t.f1
     unfold opF at hop
     split at hop
     · simp at hop
     · simp at hop; omega
    rw [hop] at CO hR'
    dsimp only at CO hR'
    clear hop
    cases io with
    | false =>
     have HE:=zZ.mk ((if_neg (show ¬ (false = true ∧ isF LPA r = true) by simp)).symm.trans hR')
     clear hR' hopr HO CM hdp
     go_enter Tryd.func64,Tryd.ntmps64
     go_wp2_with fail
     (with_reducible refine (CK _ ?i).out.mono ?_)
     case i => exact HI.out.keep (zY (Below.refl _ _) _)
     rintro e w1 ⟨rfl,hd1⟩
     have ST1:=zZ.mk (ST0.out.later hd1.below)
     have pf:=ST1.out.isp.parts
     have pf1:=pf.1
     have pf2:=pf.2
     clear pf hd1 CK ST0
     go_wp2_with fail
     (with_reducible refine (CT (some ⟨w1.heap.size,0,none⟩) _ ?i ?j).out.mono ?_)
     case i => exact (ST1.out.isp.more (p + 1)).keep (zY (Below.refl _ _) _)
     case j =>
      have hk1:=kU (w1.setCell ⟨g,2,none⟩ (.int .i64 (p + 1))) [1] (by decide)
      rw [show (w1.setCell ⟨g,2,none⟩ (.int .i64 (p + 1))).heap.size = w1.heap.size from by simp [World.setCell]] at hk1
      exact hk1
     rintro e w2 ⟨rfl,hI2,hk2⟩
     have ST2:=zZ.mk (((ST1.out.at (ST1.out.isp.more (p + 1)) (xL (Kept.refl _ _) 2 _)).later (zY (Below.refl _ _) _)).at hI2 hk2)
     have ST3:=zZ.mk (ST2.out.later (zY (Below.refl _ _) (.cells #[.int .u8 t.f0,.string t.f1,.int .i64 t.f2] 61)))
     have HS:=zZ.mk (show (w2.alloc (.cells #[.int .u8 t.f0,.string t.f1,.int .i64 t.f2] 61)).heap.size = w2.heap.size + 1 from Array.size_push ..)
     clear hI2 hk2 CT pf1 pf2
     go_wp2_with fail
     (with_reducible refine (CO _ ?i).out.mono ?_)
     case i => exact ST3.out.cal HC.out
     rintro e w4 ⟨rfl,hb4⟩
     have ST4:=zZ.mk (ST3.out.later hb4)
     have b6:=uO (wP w2 (.cells #[.int .u8 t.f0,.string t.f1,.int .i64 t.f2] 61)) (Kept.of_below hb4 (fun _ => False)) id
     have q6 : w4.cell? ⟨w2.heap.size,1,none⟩ = some (.string t.f1):=(zK b6 1).trans rfl
     clear hb4 CO b6
     have z0:=(zK ST4.out.zero 0).trans (show zCells[0]? = some (Value.int .u8 0) from rfl)
     have z1:=(zK ST4.out.zero 1).trans (show zCells[1]? = some (Value.string nil8) from rfl)
     have z2:=(zK ST4.out.zero 2).trans (show zCells[2]? = some (Value.slice none 0 0) from rfl)
     have z3:=(zK ST4.out.zero 3).trans (show zCells[3]? = some (Value.slice none 0 0) from rfl)
     have y0:=zP ST4.out.zero 0
     have y1:=zP ST4.out.zero 1
     have y2:=zP ST4.out.zero 2
     have y3:=zP ST4.out.zero 3
     go_wp2
     refine bodyPost_ret (uT rfl _ _ _ TX _ (0,0) _ rfl (zF (zF (zF (zF ST4.out.zero 0 _ rfl) 1 _ rfl) 2 _ rfl) 3 _ rfl) Tryd.underlying25 rfl sG) rfl ?_
     have hc:=fun W2 h1 h2 => ST4.out.close (W2:=W2) h1 h2
     rw [← HE.out]
     exact ⟨_,_,rfl,(hc _ (by (with_reducible repeat (first|exact Kept.refl _ _|apply Kept.alloc|apply Kept.drewN|apply Kept.drew|refine xL ?_ _ _|refine yL ?_ _ _ (Nat.le_refl _)|refine yL ?_ _ _ (by first|assumption|omega)))) (by (with_reducible repeat (first|exact ST4.out.isp.low|apply zY|apply zV|apply zU|refine zQ ?_ (by first|assumption|omega))))).1,(hc _ (by (with_reducible repeat (first|exact Kept.refl _ _|apply Kept.alloc|apply Kept.drewN|apply Kept.drew|refine xL ?_ _ _|refine yL ?_ _ _ (Nat.le_refl _)|refine yL ?_ _ _ (by first|assumption|omega)))) (by (with_reducible repeat (first|exact ST4.out.isp.low|apply zY|apply zV|apply zU|refine zQ ?_ (by first|assumption|omega))))).2,zWG _ _ _⟩
    | true =>
     obtain ⟨o0,o1⟩:=hopr rfl
     clear hopr
     rcases qY LPA r with ⟨t9,r9,hL9,hm9,hi9⟩|⟨hm9,hi9⟩
     ·
      have HE:=zZ.mk ((if_pos (show true = true ∧ isF LPA r = true from ⟨rfl,hi9⟩)).symm.trans hR')
      rw [show r.tail = r9 by rw [hL9]; rfl] at HE
      have CP:=fun W h => zZ.mk (HO.out rfl op o0 o1 (p + 1) r9 W h (by omega) (by omega) R HE.out)
      rw [hm9] at CM
      dsimp only at CM
      clear hR' HO hdp hL9 hm9 hi9 HE
      go_enter Tryd.func64,Tryd.ntmps64
      go_wp2_with fail
      (with_reducible refine (CK _ ?i).out.mono ?_)
      case i => exact HI.out.keep (zY (Below.refl _ _) _)
      rintro e w1 ⟨rfl,hd1⟩
      have ST1:=zZ.mk (ST0.out.later hd1.below)
      have pf:=ST1.out.isp.parts
      have pf1:=pf.1
      have pf2:=pf.2
      clear pf hd1 CK ST0
      go_wp2_with fail
      (with_reducible refine (CT (some ⟨w1.heap.size,0,none⟩) _ ?i ?j).out.mono ?_)
      case i => exact (ST1.out.isp.more (p + 1)).keep (zY (Below.refl _ _) _)
      case j =>
       have hk1:=kU (w1.setCell ⟨g,2,none⟩ (.int .i64 (p + 1))) [1] (by decide)
       rw [show (w1.setCell ⟨g,2,none⟩ (.int .i64 (p + 1))).heap.size = w1.heap.size from by simp [World.setCell]] at hk1
       exact hk1
      rintro e w2 ⟨rfl,hI2,hk2⟩
      have ST2:=zZ.mk (((ST1.out.at (ST1.out.isp.more (p + 1)) (xL (Kept.refl _ _) 2 _)).later (zY (Below.refl _ _) _)).at hI2 hk2)
      have ST3:=zZ.mk (ST2.out.later (zY (Below.refl _ _) (.cells #[.int .u8 t.f0,.string t.f1,.int .i64 t.f2] 61)))
      have HS:=zZ.mk (show (w2.alloc (.cells #[.int .u8 t.f0,.string t.f1,.int .i64 t.f2] 61)).heap.size = w2.heap.size + 1 from Array.size_push ..)
      clear hI2 hk2 CT pf1 pf2
      go_wp2_with fail
      (with_reducible refine (CO _ ?i).out.mono ?_)
      case i => exact ST3.out.cal HC.out
      rintro e w4 ⟨rfl,hb4⟩
      have ST4:=zZ.mk (ST3.out.later hb4)
      clear hb4 CO
      go_wp2_with fail
      (with_reducible refine (CM _ ?i).out.mono ?_)
      case i => exact ST4.out.isp
      rintro e w5 ⟨rfl,hI5,hk5⟩
      have ST5:=zZ.mk (ST4.out.at hI5 hk5)
      clear hI5 hk5 CM
      go_wp2_with fail
      (with_reducible refine (CP _ ?i).out.mono ?_)
      case i => exact ST5.out.isp
      rintro e w6 ⟨v5,v6,rfl,hI6,hk6,hg6⟩
      obtain ⟨A5,c5,A6,c6,rfl,rfl⟩:=hg6.slices
      have ST6:=zZ.mk (ST5.out.at hI6 hk6)
      have HG:=zZ.mk hg6
      clear hI6 hk6 hg6 CP
      have z0:=(zK ST6.out.zero 0).trans (show zCells[0]? = some (Value.int .u8 0) from rfl)
      have z1:=(zK ST6.out.zero 1).trans (show zCells[1]? = some (Value.string nil8) from rfl)
      have z2:=(zK ST6.out.zero 2).trans (show zCells[2]? = some (Value.slice none 0 0) from rfl)
      have z3:=(zK ST6.out.zero 3).trans (show zCells[3]? = some (Value.slice none 0 0) from rfl)
      have y0:=zP ST6.out.zero 0
      have y1:=zP ST6.out.zero 1
      have y2:=zP ST6.out.zero 2
      have y3:=zP ST6.out.zero 3
      go_wp2
      refine bodyPost_ret (uT rfl _ _ _ TX _ (0,0) _ rfl (zF (zF (zF (zF ST6.out.zero 0 _ rfl) 1 _ rfl) 2 _ rfl) 3 _ rfl) Tryd.underlying25 rfl sG) rfl ?_
      have hc:=fun W2 h1 h2 => ST6.out.close (W2:=W2) h1 h2
      exact ⟨_,_,rfl,(hc _ (by (with_reducible repeat (first|exact Kept.refl _ _|apply Kept.alloc|apply Kept.drewN|apply Kept.drew|refine xL ?_ _ _|refine yL ?_ _ _ (Nat.le_refl _)|refine yL ?_ _ _ (by first|assumption|omega)))) (by (with_reducible repeat (first|exact ST6.out.isp.low|apply zY|apply zV|apply zU|refine zQ ?_ (by first|assumption|omega))))).1,(hc _ (by (with_reducible repeat (first|exact Kept.refl _ _|apply Kept.alloc|apply Kept.drewN|apply Kept.drew|refine xL ?_ _ _|refine yL ?_ _ _ (Nat.le_refl _)|refine yL ?_ _ _ (by first|assumption|omega)))) (by (with_reducible repeat (first|exact ST6.out.isp.low|apply zY|apply zV|apply zU|refine zQ ?_ (by first|assumption|omega))))).2,(kX.M_lower ST5.out.le (HG.out.step (by refine Kept.mono (S:=At w.heap.size) ?_ (fun k hk => by have h1 : k = w.heap.size:=hk; have h2:=ST5.out.sz; omega); (with_reducible repeat (first|exact Kept.refl _ _|apply Kept.alloc|apply Kept.drewN|apply Kept.drew|refine xL ?_ _ _|refine yL ?_ _ _ (Nat.le_refl _)|refine yL ?_ _ _ (by first|assumption|omega))))))⟩
     ·
      have HE:=zZ.mk ((if_neg (show ¬ (true = true ∧ isF LPA r = true) by rw [hi9]; simp)).symm.trans hR')
      rw [hm9] at CM
      dsimp only at CM
      clear hR' HO hdp hm9 hi9
      go_enter Tryd.func64,Tryd.ntmps64
      go_wp2_with fail
      (with_reducible refine (CK _ ?i).out.mono ?_)
      case i => exact HI.out.keep (zY (Below.refl _ _) _)
      rintro e w1 ⟨rfl,hd1⟩
      have ST1:=zZ.mk (ST0.out.later hd1.below)
      have pf:=ST1.out.isp.parts
      have pf1:=pf.1
      have pf2:=pf.2
      clear pf hd1 CK ST0
      go_wp2_with fail
      (with_reducible refine (CT (some ⟨w1.heap.size,0,none⟩) _ ?i ?j).out.mono ?_)
      case i => exact (ST1.out.isp.more (p + 1)).keep (zY (Below.refl _ _) _)
      case j =>
       have hk1:=kU (w1.setCell ⟨g,2,none⟩ (.int .i64 (p + 1))) [1] (by decide)
       rw [show (w1.setCell ⟨g,2,none⟩ (.int .i64 (p + 1))).heap.size = w1.heap.size from by simp [World.setCell]] at hk1
       exact hk1
      rintro e w2 ⟨rfl,hI2,hk2⟩
      have ST2:=zZ.mk (((ST1.out.at (ST1.out.isp.more (p + 1)) (xL (Kept.refl _ _) 2 _)).later (zY (Below.refl _ _) _)).at hI2 hk2)
      have ST3:=zZ.mk (ST2.out.later (zY (Below.refl _ _) (.cells #[.int .u8 t.f0,.string t.f1,.int .i64 t.f2] 61)))
      have HS:=zZ.mk (show (w2.alloc (.cells #[.int .u8 t.f0,.string t.f1,.int .i64 t.f2] 61)).heap.size = w2.heap.size + 1 from Array.size_push ..)
      clear hI2 hk2 CT pf1 pf2
      go_wp2_with fail
      (with_reducible refine (CO _ ?i).out.mono ?_)
      case i => exact ST3.out.cal HC.out
      rintro e w4 ⟨rfl,hb4⟩
      have ST4:=zZ.mk (ST3.out.later hb4)
      have b6:=uO (wP w2 (.cells #[.int .u8 t.f0,.string t.f1,.int .i64 t.f2] 61)) (Kept.of_below hb4 (fun _ => False)) id
      clear hb4 CO
      go_wp2_with fail
      (with_reducible refine (CM _ ?i).out.mono ?_)
      case i => exact ST4.out.isp
      rintro e w5 ⟨rfl,hI5,hk5⟩
      have ST5:=zZ.mk (ST4.out.at hI5 hk5)
      have hg2 : ¬ (At g) w2.heap.size:=fun h => by have h1 : w2.heap.size = g:=h; have h2:=ST2.out.le; omega
      have q6 : w5.cell? ⟨w2.heap.size,1,none⟩ = some (.string t.f1):=(zK (uO b6 hk5 hg2) 1).trans rfl
      clear hI5 hk5 CM b6 hg2
      have z0:=(zK ST5.out.zero 0).trans (show zCells[0]? = some (Value.int .u8 0) from rfl)
      have z1:=(zK ST5.out.zero 1).trans (show zCells[1]? = some (Value.string nil8) from rfl)
      have z2:=(zK ST5.out.zero 2).trans (show zCells[2]? = some (Value.slice none 0 0) from rfl)
      have z3:=(zK ST5.out.zero 3).trans (show zCells[3]? = some (Value.slice none 0 0) from rfl)
      have y0:=zP ST5.out.zero 0
      have y1:=zP ST5.out.zero 1
      have y2:=zP ST5.out.zero 2
      have y3:=zP ST5.out.zero 3
      go_wp2
      refine bodyPost_ret (uT rfl _ _ _ TX _ (0,0) _ rfl (zF (zF (zF (zF ST5.out.zero 0 _ rfl) 1 _ rfl) 2 _ rfl) 3 _ rfl) Tryd.underlying25 rfl sG) rfl ?_
      have hc:=fun W2 h1 h2 => ST5.out.close (W2:=W2) h1 h2
      rw [← HE.out]
      exact ⟨_,_,rfl,(hc _ (by (with_reducible repeat (first|exact Kept.refl _ _|apply Kept.alloc|apply Kept.drewN|apply Kept.drew|refine xL ?_ _ _|refine yL ?_ _ _ (Nat.le_refl _)|refine yL ?_ _ _ (by first|assumption|omega)))) (by (with_reducible repeat (first|exact ST5.out.isp.low|apply zY|apply zV|apply zU|refine zQ ?_ (by first|assumption|omega))))).1,(hc _ (by (with_reducible repeat (first|exact Kept.refl _ _|apply Kept.alloc|apply Kept.drewN|apply Kept.drew|refine xL ?_ _ _|refine yL ?_ _ _ (Nat.le_refl _)|refine yL ?_ _ _ (by first|assumption|omega)))) (by (with_reducible repeat (first|exact ST5.out.isp.low|apply zY|apply zV|apply zU|refine zQ ?_ (by first|assumption|omega))))).2,zWG _ _ _⟩
 ·
  have hk:=take_fail ht
  have hk' : (kindF L == 1) = false:=beq_eq_false_iff_ne.2 hk
  rw [if_neg (fun h => hk h.1),ht] at hR
  have HE:=zZ.mk ((if_pos (show (z61,L,(110 : Int)).2.2 ≠ 0 by simp)).symm.trans hR)
  have CT:=fun A W h hC => zZ.mk (dT g [1] asks1 A 1 1 L a (p + 1) w0 W h rfl hC (Nat.le_refl _))
  rw [ht] at CT
  dsimp only at HE CT
  clear hR ht hdp HO
  generalize kindF L = kk at *
  go_enter Tryd.func64,Tryd.ntmps64
  go_wp2_with fail
  (with_reducible refine (CK _ ?i).out.mono ?_)
  case i => exact HI.out.keep (zY (Below.refl _ _) _)
  rintro e w1 ⟨rfl,hd1⟩
  have ST1:=zZ.mk (ST0.out.later hd1.below)
  have pf:=ST1.out.isp.parts
  have pf1:=pf.1
  have pf2:=pf.2
  clear pf hd1 CK ST0
  go_wp2_with fail
  (with_reducible refine (CT (some ⟨w1.heap.size,0,none⟩) _ ?i ?j).out.mono ?_)
  case i => exact (ST1.out.isp.more (p + 1)).keep (zY (Below.refl _ _) _)
  case j =>
   have hk1:=kU (w1.setCell ⟨g,2,none⟩ (.int .i64 (p + 1))) [1] (by decide)
   rw [show (w1.setCell ⟨g,2,none⟩ (.int .i64 (p + 1))).heap.size = w1.heap.size from by simp [World.setCell]] at hk1
   exact hk1
  rintro e w2 ⟨rfl,hI2,hk2⟩
  have ST2:=zZ.mk (((ST1.out.at (ST1.out.isp.more (p + 1)) (xL (Kept.refl _ _) 2 _)).later (zY (Below.refl _ _) _)).at hI2 hk2)
  have ST3:=zZ.mk (ST2.out.later (zY (Below.refl _ _) (.cells #[.int .u8 z61.f0,.string z61.f1,.int .i64 z61.f2] 61)))
  have HS:=zZ.mk (show (w2.alloc (.cells #[.int .u8 z61.f0,.string z61.f1,.int .i64 z61.f2] 61)).heap.size = w2.heap.size + 1 from Array.size_push ..)
  clear hI2 hk2 CT pf1 pf2
  have z0:=(zK ST3.out.zero 0).trans (show zCells[0]? = some (Value.int .u8 0) from rfl)
  have z1:=(zK ST3.out.zero 1).trans (show zCells[1]? = some (Value.string nil8) from rfl)
  have z2:=(zK ST3.out.zero 2).trans (show zCells[2]? = some (Value.slice none 0 0) from rfl)
  have z3:=(zK ST3.out.zero 3).trans (show zCells[3]? = some (Value.slice none 0 0) from rfl)
  have y0:=zP ST3.out.zero 0
  have y1:=zP ST3.out.zero 1
  have y2:=zP ST3.out.zero 2
  have y3:=zP ST3.out.zero 3
  go_wp2
  refine bodyPost_ret (uT rfl _ _ _ TX _ (0,0) _ rfl (zF (zF (zF (zF ST3.out.zero 0 _ rfl) 1 _ rfl) 2 _ rfl) 3 _ rfl) Tryd.underlying25 rfl sG) rfl ?_
  have hc:=fun W2 h1 h2 => ST3.out.close (W2:=W2) h1 h2
  rw [← HE.out]
  exact ⟨_,_,rfl,(hc _ (by (with_reducible repeat (first|exact Kept.refl _ _|apply Kept.alloc|apply Kept.drewN|apply Kept.drew|refine xL ?_ _ _|refine yL ?_ _ _ (Nat.le_refl _)|refine yL ?_ _ _ (by first|assumption|omega)))) (by (with_reducible repeat (first|exact ST3.out.isp.low|apply zY|apply zV|apply zU|refine zQ ?_ (by first|assumption|omega))))).1,(hc _ (by (with_reducible repeat (first|exact Kept.refl _ _|apply Kept.alloc|apply Kept.drewN|apply Kept.drew|refine xL ?_ _ _|refine yL ?_ _ _ (Nat.le_refl _)|refine yL ?_ _ _ (by first|assumption|omega)))) (by (with_reducible repeat (first|exact ST3.out.isp.low|apply zY|apply zV|apply zU|refine zQ ?_ (by first|assumption|omega))))).2,pO _ _⟩
theorem cE (w0 : World) (g : Nat) (a : Int) (hC : Cal w0) : ∀ d : Nat,d ≤ 40 → ExprC w0 g a (41 - d) (exprF d)
 | 0,_ => zWP w0 g a (41 - (0 : Nat)) true (by decide) _ hC (fun h => by cases h)
 | d + 1,hd => by
  have ih:=cE w0 g a hC d (by omega)
  refine zWP w0 g a (41 - (d + 1 : Nat)) false (by simp; omega) _ hC (fun _ => ?_)
  intro op o0 o1 p L w hI p0 p1 R hR
  exact zTX w0 g a (41 - (d + 1 : Nat)) (by omega) (by omega) (exprF d) (by rw [show (41 : Int) - (d + 1 : Nat) + 1 = 41 - (d : Int) by omega]; exact ih) (eA d) op o0 o1 p L w hI p0 p1 R hR
open Go Go.RowKit PParseTells Ex YtjeofffddbibeaaDoorW.PrintWords YtjeofffddbibeaaDoorW.PrintLast YtjeofffddbibeaaDoorW.PrintMore
def placeF (a : Int) (L : List Tok) (e : Int) : Int × Int:=if e = 0 then (if L = [] then (-1,0) else (a - L.length,110)) else (a - L.length,e)
theorem IsP.row {w0 W : World} {g : Nat} {L : List Tok} {a p : Int} (h : IsP w0 W g L a p) : ∃ A0 c0,W.cell? ⟨g,0,none⟩ = some (.slice A0 L.length c0) ∧ W.cell? ⟨g,1,none⟩ = some (.int .i64 a) ∧ L.length ≤ 9223372036854775807:=by
 obtain ⟨A0,c0,h1,h2,h3,h4,h5⟩:=h
 exact ⟨A0,c0,(zK h1 0).trans rfl,(zK h1 1).trans rfl,h4.2.1⟩
set_option maxHeartbeats 8000000 in
theorem zWU (g : Nat) (L : List Tok) (a p e0 : Int) (w0 w : World) (hI : IsP w0 w g L a p) (a0 : 0 ≤ a) (a1 : a ≤ 9223372036854775807) :
  Calls Tryd.prog 65 #[.pointer (some ⟨g,0,none⟩),.int .i64 e0] w fun e w' => e = .returned (.tuple #[.int .i64 (placeF a L e0).1,.int .i64 (placeF a L e0).2]) ∧ Drawn0 w w':=by
 obtain ⟨A0,c0,q0,q1,hm⟩:=hI.row
 obtain ⟨N,hN⟩ : ∃ N,N = L.length:=⟨_,rfl⟩
 have hP : placeF a L e0 = if e0 = 0 then (if N = 0 then (-1,0) else (a - N,110)) else (a - N,e0):=by
  unfold placeF
  rw [hN]
  simp only [List.length_eq_zero_iff]
 rw [hP]
 rw [← hN] at q0 hm
 clear hP hI hN
 by_cases he : e0 = 0
 ·
  have e1 : (e0 == 0) = true:=beq_iff_eq.2 he
  have e2 : (e0 != 0) = false:=bne_eq_false_iff_eq.2 he
  rw [if_pos he]
  subst he
  by_cases hz : N = 0
  ·
   subst hz
   rw [if_pos rfl]
   go_enter Tryd.func65,Tryd.ntmps65
   go_wp2
   repeat (go_quiet (fail); try go_wp2)
   go_ret2
   exact ⟨rfl,by repeat (first|exact Drawn0.refl _|apply Drawn0.step)⟩
  ·
   rw [if_neg hz]
   have n1 : 0 < N:=by omega
   have n2 : (0 : Int) < (N : Int):=by omega
   go_enter Tryd.func65,Tryd.ntmps65
   go_wp2
   repeat (go_quiet (fail); try go_wp2)
   go_ret2
   exact ⟨rfl,by repeat (first|exact Drawn0.refl _|apply Drawn0.step)⟩
 ·
  have e1 : (e0 == 0) = false:=beq_eq_false_iff_ne.2 he
  have e2 : (e0 != 0) = true:=bne_iff_ne.2 he
  rw [if_neg he]
  go_enter Tryd.func65,Tryd.ntmps65
  go_wp2
  repeat (go_quiet (fail); try go_wp2)
  go_ret2
  exact ⟨rfl,by repeat (first|exact Drawn0.refl _|apply Drawn0.step)⟩
def topF (a : Int) (r : Res) : X × Int × Int:=if (placeF a r.l r.e).2 ≠ 0 then (zX,(placeF a r.l r.e).1,(placeF a r.l r.e).2) else (r.x,(placeF a r.l r.e).1,0)
def parseE (L : List Tok) : X × Int × Int:=topF L.length (exprF 40 0 L)
theorem Gives.later {w W W2 : World} {x : X} {v2 v3 : Value} (h : Gives w W x v2 v3) (hb : Below W.heap.size W W2) : Gives w W2 x v2 v3:=Kd.M_below h hb
set_option maxHeartbeats 16000000 in
set_option maxRecDepth 100000 in
theorem Expr_calls (L : List Tok) (A : Option Addr) (n c : Nat) (w : World) (hn : n = L.length) (hC : Kd.C k61 w A L.length L) (hc : L.length ≤ c) (hL : Cal w) :
  Calls Tryd.prog 36 #[.slice A n c] w fun e w' => ∃ v2 v3,e = .returned (.tuple #[ag (parseE L).1 v2 v3,.int .i64 (parseE L).2.1,.int .i64 (parseE L).2.2]) ∧ Gives w w' (parseE L).1 v2 v3 ∧ Below w.heap.size w w':=by
 subst hn
 have hm:=hC.2.1
 have b2:=wP w (.cells zCells TX (0,0))
 have hsz : (w.alloc (.cells zCells TX (0,0))).heap.size = w.heap.size + 1:=Array.size_push ..
 have hsz2 : ((w.alloc (.cells zCells TX (0,0))).alloc (.cells #[.slice A L.length c,.int .i64 L.length,.int .i64 0] 94)).heap.size = (w.alloc (.cells zCells TX (0,0))).heap.size + 1:=Array.size_push ..
 have HI:=zZ.mk (show IsP w ((w.alloc (.cells zCells TX (0,0))).alloc (.cells #[.slice A L.length c,.int .i64 L.length,.int .i64 0] 94)) (w.alloc (.cells zCells TX (0,0))).heap.size L L.length 0 from
  ⟨A,c,wP _ _,by omega,hc,hC,zY (zY (Below.refl _ _) _) _⟩)
 have CE:=fun W => zZ.mk (cE w (w.alloc (.cells zCells TX (0,0))).heap.size L.length hL 40 (by omega) 0 L W)
 rw [show (41 : Int) - ((40 : Nat) : Int) = 1 by decide] at CE
 rw [hsz] at CE HI
 have hG:=eA 40 0 L (by omega) (by omega)
 obtain ⟨x,L1,p1,e1,hx⟩ : ∃ x L1 p1 e1,exprF 40 0 L = Res.mk x L1 p1 e1:=⟨_,_,_,_,rfl⟩
 have hE : parseE L = topF L.length (exprF 40 0 L):=rfl
 rw [hx] at CE hG hE
 rw [hE]
 dsimp only at CE
 unfold topF
 dsimp only
 have CP:=fun W h => zZ.mk (zWU (w.heap.size + 1) L1 L.length p1 e1 w W h (by omega) (by omega))
 obtain ⟨at1,e2,hp⟩ : ∃ at1 e2,placeF L.length L1 e1 = (at1,e2):=⟨_,_,rfl⟩
 rw [hp] at CP
 rw [hp]
 dsimp only at CP ⊢
 have B2:=zZ.mk (show ((w.alloc (.cells zCells TX (0,0))).alloc (.cells #[.slice A L.length c,.int .i64 L.length,.int .i64 0] 94)).heap[w.heap.size]? = some (.cells zCells TX (0,0)) from zR b2 _)
 have HS:=zZ.mk hsz
 have HS2:=zZ.mk hsz2
 clear hC hL hE hx hp hG b2 hsz hsz2
 obtain ⟨N,hN⟩ : ∃ N,N = L.length:=⟨_,rfl⟩
 rw [← hN] at HI CE CP B2 HS2 hc hm
 rw [← hN]
 clear hN
 have hs : ∀ (W : World) o,(W.alloc o).heap.size = W.heap.size + 1:=fun W o => Array.size_push ..
 have main : ∀ K,K = (if e2 ≠ 0 then (zX,at1,e2) else (x,at1,0)) → Calls Tryd.prog 36 #[.slice A N c] w fun e w' => ∃ v2 v3,e = .returned (.tuple #[ag K.1 v2 v3,.int .i64 K.2.1,.int .i64 K.2.2]) ∧ Gives w w' K.1 v2 v3 ∧ Below w.heap.size w w':=by
  intro K hK
  by_cases he : e2 ≠ 0
  ·
   have f1 : (e2 != 0) = true:=bne_iff_ne.2 he
   have f2 : (e2 == 0) = false:=beq_eq_false_iff_ne.2 he
   rw [if_pos he] at hK
   subst hK
   go_enter Tryd.func36,Tryd.ntmps36
   go_wp2_with fail
   (with_reducible refine (CE _).out ?i1 ?i2 ?i3 |>.mono ?_)
   case i1 => exact HI.out
   case i2 => decide
   case i3 => decide
   rintro e w3 ⟨v5,v6,rfl,hI3,hk3,hg3⟩
   obtain ⟨A5,c5,A6,c6,rfl,rfl⟩:=hg3.slices
   have HG:=zZ.mk hg3
   have hI4:=hI3.keep (zY (Below.refl _ _) (.cells #[.int .u8 x.f0,.string x.f1,.slice A5 x.f2.length c5,.slice A6 x.f3.length c6] TX))
   have HI4:=zZ.mk hI4
   have z3:=uO B2.out hk3 (fun h => by have h1 : w.heap.size = w.heap.size + 1:=h; omega)
   have q60:=wP w3 (.cells #[.int .u8 x.f0,.string x.f1,.slice A5 x.f2.length c5,.slice A6 x.f3.length c6] TX)
   have lt3:=wT z3
   clear hI3 hk3 hg3 hI4 CE
   go_wp2_with fail
   (with_reducible refine (CP _ ?i4).out.mono ?_)
   case i4 => exact HI4.out
   rintro e w4 ⟨rfl,⟨m,rfl⟩⟩
   have HI2:=zZ.mk (HI4.out.keep (zV (Below.refl _ _) m))
   have ZZ:=zZ.mk (zN (zR z3 (.cells #[.int .u8 x.f0,.string x.f1,.slice A5 x.f2.length c5,.slice A6 x.f3.length c6] TX)) m)
   have HG4:=zZ.mk ((HG.out.later (zY (Below.refl _ _) (.cells #[.int .u8 x.f0,.string x.f1,.slice A5 x.f2.length c5,.slice A6 x.f3.length c6] TX))).later (zV (Below.refl _ _) m))
   clear CP HI4 q60
   have z0:=(zK ZZ.out 0).trans (show zCells[0]? = some (Value.int .u8 0) from rfl)
   have y0:=zP ZZ.out 0
   have z1:=(zK ZZ.out 1).trans (show zCells[1]? = some (Value.string nil8) from rfl)
   have y1:=zP ZZ.out 1
   have z2:=(zK ZZ.out 2).trans (show zCells[2]? = some (Value.slice none 0 0) from rfl)
   have y2:=zP ZZ.out 2
   have zz3:=(zK ZZ.out 3).trans (show zCells[3]? = some (Value.slice none 0 0) from rfl)
   have y3:=zP ZZ.out 3
   go_wp2
   refine bodyPost_ret (rZ rfl _ _ _ TX _ (0,0) _ rfl (zF (zF (zF (zF ZZ.out 0 _ rfl) 1 _ rfl) 2 _ rfl) 3 _ rfl) Tryd.underlying25 rfl sG) rfl ?_
   exact ⟨_,_,rfl,pO _ _,by (with_reducible repeat (first|exact HI2.out.low|apply zY|apply zV|apply zU|refine zQ ?_ (by first|assumption|omega)))⟩
  ·
   have f1 : (e2 != 0) = false:=bne_eq_false_iff_eq.2 (by omega)
   have f2 : (e2 == 0) = true:=beq_iff_eq.2 (by omega)
   rw [if_neg he] at hK
   subst hK
   go_enter Tryd.func36,Tryd.ntmps36
   go_wp2_with fail
   (with_reducible refine (CE _).out ?i1 ?i2 ?i3 |>.mono ?_)
   case i1 => exact HI.out
   case i2 => decide
   case i3 => decide
   rintro e w3 ⟨v5,v6,rfl,hI3,hk3,hg3⟩
   obtain ⟨A5,c5,A6,c6,rfl,rfl⟩:=hg3.slices
   have HG:=zZ.mk hg3
   have hI4:=hI3.keep (zY (Below.refl _ _) (.cells #[.int .u8 x.f0,.string x.f1,.slice A5 x.f2.length c5,.slice A6 x.f3.length c6] TX))
   have HI4:=zZ.mk hI4
   have z3:=uO B2.out hk3 (fun h => by have h1 : w.heap.size = w.heap.size + 1:=h; omega)
   have q60:=wP w3 (.cells #[.int .u8 x.f0,.string x.f1,.slice A5 x.f2.length c5,.slice A6 x.f3.length c6] TX)
   have lt3:=wT z3
   clear hI3 hk3 hg3 hI4 CE
   go_wp2_with fail
   (with_reducible refine (CP _ ?i4).out.mono ?_)
   case i4 => exact HI4.out
   rintro e w4 ⟨rfl,⟨m,rfl⟩⟩
   have HI2:=zZ.mk (HI4.out.keep (zV (Below.refl _ _) m))
   have ZZ:=zZ.mk (zN (zR z3 (.cells #[.int .u8 x.f0,.string x.f1,.slice A5 x.f2.length c5,.slice A6 x.f3.length c6] TX)) m)
   have HG4:=zZ.mk ((HG.out.later (zY (Below.refl _ _) (.cells #[.int .u8 x.f0,.string x.f1,.slice A5 x.f2.length c5,.slice A6 x.f3.length c6] TX))).later (zV (Below.refl _ _) m))
   clear CP HI4 q60
   have z0:=(zK ZZ.out 0).trans (show zCells[0]? = some (Value.int .u8 0) from rfl)
   have y0:=zP ZZ.out 0
   have z1:=(zK ZZ.out 1).trans (show zCells[1]? = some (Value.string nil8) from rfl)
   have y1:=zP ZZ.out 1
   have z2:=(zK ZZ.out 2).trans (show zCells[2]? = some (Value.slice none 0 0) from rfl)
   have y2:=zP ZZ.out 2
   have zz3:=(zK ZZ.out 3).trans (show zCells[3]? = some (Value.slice none 0 0) from rfl)
   have y3:=zP ZZ.out 3
   go_wp2
   refine bodyPost_ret (rZ rfl _ _ _ TX _ (0,0) _ rfl (zF (zF (zF (zF ZZ.out 0 _ rfl) 1 _ rfl) 2 _ rfl) 3 _ rfl) Tryd.underlying25 rfl sG) rfl ?_
   refine ⟨_,_,rfl,kX.M_lower ?_ (HG4.out.step ?_),by (with_reducible repeat (first|exact HI2.out.low|apply zY|apply zV|apply zU|refine zQ ?_ (by first|assumption|omega)))⟩
   · rw [hs,hs]; omega
   ·
    refine Kept.mono (S:=At w.heap.size) ?_ (fun k hk => by have h1 : k = w.heap.size:=hk; rw [hs,hs]; omega)
    (with_reducible repeat (first|exact Kept.refl _ _|apply Kept.alloc|apply Kept.drewN|apply Kept.drew|refine xL ?_ _ _|refine yL ?_ _ _ (Nat.le_refl _)|refine yL ?_ _ _ (by first|assumption|omega)))
 exact main _ rfl
open Go Go.RowKit PParseTells Ex YtjeofffddbibeaaDoorW.PrintWords YtjeofffddbibeaaDoorW.PrintLast YtjeofffddbibeaaDoorW.PrintMore
abbrev CLN : ByteArray:=⟨#[58]⟩
abbrev LBR : ByteArray:=⟨#[91]⟩
abbrev RBR : ByteArray:=⟨#[93]⟩
def endF (s : ByteArray) (L : List Tok) : Int × Bool × List Tok × Int :=
 if isF s L = true then (0,false,(markF s L).1,(markF s L).2)
 else if (numF L).2.2 = 0 then ((numF L).1.f2,decide ((markF s (numF L).2.1).2 = 0),(markF s (numF L).2.1).1,(markF s (numF L).2.1).2)
 else ((numF L).1.f2,false,(numF L).2.1,(numF L).2.2)
theorem end_e (s : ByteArray) (L : List Tok) : (endF s L).2.2.2 = 0 ∨ (endF s L).2.2.2 = 110:=by
 have hmk : ∀ L,(markF s L).2 = 0 ∨ (markF s L).2 = 110:=fun L => by
  rcases qY s L with ⟨t,r,_,h,_⟩|⟨h,_⟩
  · exact .inl (by rw [h])
  · exact .inr (by rw [h])
 unfold endF
 split
 · exact hmk L
 ·
  split
  · exact hmk _
  ·
   rcases pS [2,3] L with ⟨t,r,_,h,_⟩|h
   · exact .inl (by show (takeF [2,3] L).2.2 = 0; rw [h])
   · exact .inr (by show (takeF [2,3] L).2.2 = 110; rw [h])
set_option maxHeartbeats 8000000 in
theorem end_calls (g : Nat) (s : ByteArray) (L : List Tok) (a p : Int) (w0 w : World) (hI : IsP w0 w g L a p) :
  Calls Tryd.prog 97 #[.pointer (some ⟨g,0,none⟩),.string s] w fun e w' => e = .returned (.tuple #[.int .i64 (endF s L).1,.bool (endF s L).2.1,.int .i64 (endF s L).2.2.2]) ∧ IsP w0 w' g (endF s L).2.2.1 a p ∧ Kept w w' (At g):=by
 have CI:=zZ.mk (is_calls g s L a p w0 w hI)
 have CM:=fun L W h => zZ.mk (mZ g s L a p w0 W h)
 have CN:=fun W h => zZ.mk (cL g L a p w0 W h)
 have HI:=zZ.mk hI
 clear hI
 cases hi : isF s L with
 | true =>
  have he : endF s L = (0,false,(markF s L).1,(markF s L).2):=if_pos hi
  rw [he]
  rw [hi] at CI
  rcases qY s L with ⟨t,r,hL,hm,_⟩|⟨hm,hx⟩
  ·
   have CM:=CM L
   rw [hm] at CM ⊢
   dsimp only at CM ⊢
   clear he hi hm hL CN
   go_enter Tryd.func97,Tryd.ntmps97
   go_wp2_with fail
   (with_reducible refine CI.out.mono ?_)
   rintro e w1 ⟨rfl,hd1⟩
   have HI1:=zZ.mk (HI.out.drawn hd1)
   have HK:=zZ.mk ((Kept.refl w (At g)).below hd1.below)
   clear hd1 CI
   go_wp2_with fail
   (with_reducible refine (CM _ ?i).out.mono ?_)
   case i => exact HI1.out
   rintro e w2 ⟨rfl,hI2,hk2⟩
   have HI2:=zZ.mk hI2
   have HK2:=zZ.mk (HK.out.then_ hk2 (fun _ h => .inl h))
   clear hI2 hk2 CM
   go_wp2
   refine bodyPost_ret (mX (rs:=[.tmp 4,.tmp 5,.tmp 6]) rfl (by simp) (.tmp (.tmp (.tmp .nil)))) rfl ?_
   exact ⟨rfl,HI2.out,HK2.out⟩
  · rw [hi] at hx; cases hx
 | false =>
  rw [hi] at CI
  rcases pS [2,3] L with ⟨t,r,hL,ht,_⟩|ht
  ·
   have he : endF s L = (t.f2,decide ((markF s r).2 = 0),(markF s r).1,(markF s r).2):=by
    unfold endF
    rw [if_neg (by rw [hi]; simp),show numF L = (t,r,0) from ht,if_pos rfl]
   rw [he]
   rw [show numF L = (t,r,0) from ht] at CN
   dsimp only at CN
   have CM:=CM r
   rcases qY s r with ⟨t9,r9,hL9,hm,_⟩|⟨hm,_⟩
   all_goals rw [hm] at CM ⊢
   all_goals dsimp only at CM ⊢
   all_goals clear he hi hm hL ht
   all_goals go_enter Tryd.func97,Tryd.ntmps97
   all_goals go_wp2_with fail
   all_goals (with_reducible refine CI.out.mono ?_)
   all_goals rintro e w1 ⟨rfl,hd1⟩
   all_goals have HI1:=zZ.mk (HI.out.drawn hd1)
   all_goals have HK:=zZ.mk ((Kept.refl w (At g)).below hd1.below)
   all_goals clear hd1 CI
   all_goals go_wp2_with fail
   all_goals (with_reducible refine (CN _ HI1.out).out.mono ?_)
   all_goals rintro e w2 ⟨rfl,hI2,hk2⟩
   all_goals have HI2:=zZ.mk hI2
   all_goals have HK2:=zZ.mk (HK.out.then_ hk2 (fun _ h => .inl h))
   all_goals clear hI2 hk2 CN
   all_goals go_wp2_with fail
   all_goals (with_reducible refine (CM _ HI2.out).out.mono ?_)
   all_goals rintro e w3 ⟨rfl,hI3,hk3⟩
   all_goals have HI3:=zZ.mk hI3
   all_goals have HK3:=zZ.mk (HK2.out.then_ hk3 (fun _ h => .inl h))
   all_goals clear hI3 hk3 CM
   all_goals go_wp2
   all_goals refine bodyPost_ret (mX (rs:=[.tmp 4,.tmp 5,.tmp 6]) rfl (by simp) (.tmp (.tmp (.tmp .nil)))) rfl ?_
   all_goals exact ⟨rfl,HI3.out,HK3.out⟩
  ·
   have he : endF s L = (z61.f2,false,L,110):=by
    unfold endF
    rw [if_neg (by rw [hi]; simp),show numF L = (z61,L,110) from ht,if_neg (by simp)]
   rw [he]
   rw [show numF L = (z61,L,110) from ht] at CN
   dsimp only at CN ⊢
   clear he hi ht CM
   go_enter Tryd.func97,Tryd.ntmps97
   go_wp2_with fail
   (with_reducible refine CI.out.mono ?_)
   rintro e w1 ⟨rfl,hd1⟩
   have HI1:=zZ.mk (HI.out.drawn hd1)
   have HK:=zZ.mk ((Kept.refl w (At g)).below hd1.below)
   clear hd1 CI
   go_wp2_with fail
   (with_reducible refine (CN _ HI1.out).out.mono ?_)
   rintro e w2 ⟨rfl,hI2,hk2⟩
   have HI2:=zZ.mk hI2
   have HK2:=zZ.mk (HK.out.then_ hk2 (fun _ h => .inl h))
   clear hI2 hk2 CN
   go_wp2
   refine bodyPost_ret (mX (rs:=[.tmp 4,.tmp 5,.tmp 6]) rfl (by simp) (.tmp (.tmp (.tmp .nil)))) rfl ?_
   exact ⟨rfl,HI2.out,HK2.out⟩
abbrev TR : TypeId:=52
abbrev rCells (lo hi : Int) (hl hh : Bool) : Array Value:=#[.int .i64 lo,.int .i64 hi,.bool hl,.bool hh]
structure ScSt (w0 w W : World) (g : Nat) (a : Int) (L : List Tok) (p : Int) (lo hi : Int) (hl hh : Bool) : Prop where
 isp : IsP w0 W g L a p
 kept : Kept w W (At g)
 zero : W.heap[w.heap.size]? = some (.cells (rCells 0 0 false false) TR (0,0))
 box : W.heap[w.heap.size + 1]? = some (.cells (rCells lo hi hl hh) TR (0,0))
 lg : g < w.heap.size
section
variable {w0 w W W2 : World} {g : Nat} {a : Int} {L L2 : List Tok} {p p2 lo hi : Int} {hl hh : Bool}
theorem ScSt.at (h : ScSt w0 w W g a L p lo hi hl hh) (hI : IsP w0 W2 g L2 a p2) (hk : Kept W W2 (At g)) : ScSt w0 w W2 g a L2 p2 lo hi hl hh:=by
 have h1:=h.lg
 exact ⟨hI,h.kept.then_ hk (fun k hs => .inl hs),uO h.zero hk (fun hs => by have : w.heap.size = g:=hs; omega),uO h.box hk (fun hs => by have : w.heap.size + 1 = g:=hs; omega),h1⟩
theorem ScSt.low (h : ScSt w0 w W g a L p lo hi hl hh) (n : Int) (b : Bool) : ScSt w0 w ((W.setCell ⟨w.heap.size + 1,0,none⟩ (.int .i64 n)).setCell ⟨w.heap.size + 1,2,none⟩ (.bool b)) g a L p n hi b hh:=by
 have h1:=h.lg
 have h2:=h.isp.ge
 refine ⟨h.isp.mv (S:=At (w.heap.size + 1)) (by (with_reducible repeat (first|exact Kept.refl _ _|apply Kept.alloc|apply Kept.drewN|apply Kept.drew|refine xL ?_ _ _|refine yL ?_ _ _ (Nat.le_refl _)|refine yL ?_ _ _ (by first|assumption|omega)))) (by (with_reducible repeat (first|exact h.isp.low|apply zY|apply zV|apply zU|refine zQ ?_ (by first|assumption|omega)))) (by show ¬ (g = w.heap.size + 1); omega),by (with_reducible repeat (first|exact h.kept|apply Kept.alloc|apply Kept.drewN|apply Kept.drew|refine xL ?_ _ _|refine yL ?_ _ _ (by first|assumption|omega))),wV (wV h.zero (by show w.heap.size + 1 ≠ w.heap.size; omega) _) (by show w.heap.size + 1 ≠ w.heap.size; omega) _,zF (zF h.box 0 _ rfl) 2 _ rfl,h1⟩
theorem ScSt.high (h : ScSt w0 w W g a L p lo hi hl hh) (n : Int) (b : Bool) : ScSt w0 w ((W.setCell ⟨w.heap.size + 1,1,none⟩ (.int .i64 n)).setCell ⟨w.heap.size + 1,3,none⟩ (.bool b)) g a L p lo n hl b:=by
 have h1:=h.lg
 have h2:=h.isp.ge
 refine ⟨h.isp.mv (S:=At (w.heap.size + 1)) (by (with_reducible repeat (first|exact Kept.refl _ _|apply Kept.alloc|apply Kept.drewN|apply Kept.drew|refine xL ?_ _ _|refine yL ?_ _ _ (Nat.le_refl _)|refine yL ?_ _ _ (by first|assumption|omega)))) (by (with_reducible repeat (first|exact h.isp.low|apply zY|apply zV|apply zU|refine zQ ?_ (by first|assumption|omega)))) (by show ¬ (g = w.heap.size + 1); omega),by (with_reducible repeat (first|exact h.kept|apply Kept.alloc|apply Kept.drewN|apply Kept.drew|refine xL ?_ _ _|refine yL ?_ _ _ (by first|assumption|omega))),wV (wV h.zero (by show w.heap.size + 1 ≠ w.heap.size; omega) _) (by show w.heap.size + 1 ≠ w.heap.size; omega) _,zF (zF h.box 1 _ rfl) 3 _ rfl,h1⟩
theorem ScSt.close (h : ScSt w0 w W g a L p lo hi hl hh) (hk : Kept W W2 (At w.heap.size)) (hB : Below w0.heap.size w0 W2) : IsP w0 W2 g L a p ∧ Kept w W2 (At g):=by
 have h1:=h.lg
 exact ⟨h.isp.mv hk hB (by show ¬ (g = w.heap.size); omega),h.kept.then_ hk (fun k hs => .inr (by have : k = w.heap.size:=hs; omega))⟩
theorem ScSt.facts (h : ScSt w0 w W g a L p lo hi hl hh) :
  (W.cell? ⟨w.heap.size + 1,0,none⟩ = some (.int .i64 lo) ∧ W.cell? ⟨w.heap.size + 1,1,none⟩ = some (.int .i64 hi) ∧ W.cell? ⟨w.heap.size + 1,2,none⟩ = some (.bool hl) ∧ W.cell? ⟨w.heap.size + 1,3,none⟩ = some (.bool hh)) ∧
  (W.frozen? ⟨w.heap.size + 1,0,none⟩ = false ∧ W.frozen? ⟨w.heap.size + 1,1,none⟩ = false ∧ W.frozen? ⟨w.heap.size + 1,2,none⟩ = false ∧ W.frozen? ⟨w.heap.size + 1,3,none⟩ = false) ∧
  (W.cell? ⟨w.heap.size,0,none⟩ = some (.int .i64 0) ∧ W.cell? ⟨w.heap.size,1,none⟩ = some (.int .i64 0) ∧ W.cell? ⟨w.heap.size,2,none⟩ = some (.bool false) ∧ W.cell? ⟨w.heap.size,3,none⟩ = some (.bool false)) ∧
  (W.frozen? ⟨w.heap.size,0,none⟩ = false ∧ W.frozen? ⟨w.heap.size,1,none⟩ = false ∧ W.frozen? ⟨w.heap.size,2,none⟩ = false ∧ W.frozen? ⟨w.heap.size,3,none⟩ = false) :=
 ⟨⟨(zK h.box 0).trans rfl,(zK h.box 1).trans rfl,(zK h.box 2).trans rfl,(zK h.box 3).trans rfl⟩,⟨zP h.box 0,zP h.box 1,zP h.box 2,zP h.box 3⟩,
  ⟨(zK h.zero 0).trans rfl,(zK h.zero 1).trans rfl,(zK h.zero 2).trans rfl,(zK h.zero 3).trans rfl⟩,⟨zP h.zero 0,zP h.zero 1,zP h.zero 2,zP h.zero 3⟩⟩
end
structure Rng where
 lo : Int
 hi : Int
 hl : Bool
 hh : Bool
 l : List Tok
 e : Int
def scopeF (L : List Tok) : Rng :=
 if (markF LBR L).2 ≠ 0 then ⟨0,0,false,false,(markF LBR L).1,(markF LBR L).2⟩
 else if (endF CLN (markF LBR L).1).2.2.2 ≠ 0 then ⟨(endF CLN (markF LBR L).1).1,0,(endF CLN (markF LBR L).1).2.1,false,(endF CLN (markF LBR L).1).2.2.1,(endF CLN (markF LBR L).1).2.2.2⟩
 else ⟨(endF CLN (markF LBR L).1).1,(endF RBR (endF CLN (markF LBR L).1).2.2.1).1,(endF CLN (markF LBR L).1).2.1,(endF RBR (endF CLN (markF LBR L).1).2.2.1).2.1,(endF RBR (endF CLN (markF LBR L).1).2.2.1).2.2.1,(endF RBR (endF CLN (markF LBR L).1).2.2.1).2.2.2⟩
theorem info_r : (Tryd.prog.info? TR).map (·.size) = some 4:=by kernel_rfl
abbrev rV (r : Rng) : Value:=.agg (rCells r.lo r.hi r.hl r.hh)
set_option maxHeartbeats 16000000 in
theorem scope_calls (g : Nat) (L : List Tok) (a p : Int) (w0 w : World) (hI : IsP w0 w g L a p) :
  Calls Tryd.prog 89 #[.pointer (some ⟨g,0,none⟩)] w fun e w' => e = .returned (.tuple #[rV (scopeF L),.int .i64 (scopeF L).e]) ∧ IsP w0 w' g (scopeF L).l a p ∧ Kept w w' (At g):=by
 have hgw:=hI.lt
 have hw0 : w0.heap.size ≤ w.heap.size:=by have:=hI.ge; omega
 have hs : ∀ (W : World) o,(W.alloc o).heap.size = W.heap.size + 1:=fun W o => Array.size_push ..
 have CM:=fun W h => zZ.mk (mZ g LBR L a p w0 W h)
 have CE:=fun s L W h => zZ.mk (end_calls g s L a p w0 W h)
 obtain ⟨R,hR⟩ : ∃ R,scopeF L = R:=⟨_,rfl⟩
 rw [hR]
 have bz:=wP (w.alloc (.cells (rCells 0 0 false false) TR (0,0))) (.cells (rCells 0 0 false false) TR (0,0))
 rw [hs] at bz
 have ST:=zZ.mk (show ScSt w0 w ((w.alloc (.cells (rCells 0 0 false false) TR (0,0))).alloc (.cells (rCells 0 0 false false) TR (0,0))) g a L p 0 0 false false from
  ⟨hI.keep (zY (zY (Below.refl _ _) _) _),((Kept.refl _ _).alloc _).alloc _,zR (wP w _) _,bz,hgw⟩)
 unfold scopeF at hR
 clear bz hI hs
 rcases qY LBR L with ⟨t,r,hL,hm,_⟩|⟨hm,_⟩
 ·
  rw [hm] at CM hR
  rw [if_neg (show ¬ ((r,(0 : Int)).2 ≠ 0) by simp)] at hR
  dsimp only at CM hR
  have CE1:=CE CLN r
  have h1:=end_e CLN r
  obtain ⟨n1,b1,r1,e1,hx1⟩ : ∃ n1 b1 r1 e1,endF CLN r = (n1,b1,r1,e1):=⟨_,_,_,_,rfl⟩
  rw [hx1] at CE1 hR h1
  dsimp only at CE1 hR h1
  clear hm hL hx1
  rcases h1 with rfl|rfl
  ·
   rw [if_neg (by simp)] at hR
   have CE2:=CE RBR r1
   have h2:=end_e RBR r1
   obtain ⟨n2,b2,r2,e2,hx2⟩ : ∃ n2 b2 r2 e2,endF RBR r1 = (n2,b2,r2,e2):=⟨_,_,_,_,rfl⟩
   rw [hx2] at CE2 hR h2
   dsimp only at CE2 hR h2
   clear hx2 CE h2
   subst hR
   go_enter Tryd.func89,Tryd.ntmps89
   go_wp2_with fail
   (with_reducible refine (CM _ ?i1).out.mono ?_)
   case i1 => exact ST.out.isp
   rintro e w1 ⟨rfl,hI1,hk1⟩
   have ST1:=zZ.mk (ST.out.at hI1 hk1)
   clear hI1 hk1 CM ST
   go_wp2_with fail
   (with_reducible refine (CE1 _ ST1.out.isp).out.mono ?_)
   rintro e w2 ⟨rfl,hI2,hk2⟩
   have ST2:=zZ.mk (ST1.out.at hI2 hk2)
   obtain ⟨⟨x0,x1,x2,x3⟩,⟨y0,y1,y2,y3⟩,_,_⟩:=ST2.out.facts
   clear hI2 hk2 CE1 ST1
   go_wp2_with fail
   have ST3:=zZ.mk (ST2.out.low n1 b1)
   (with_reducible refine (CE2 _ ST3.out.isp).out.mono ?_)
   rintro e w3 ⟨rfl,hI3,hk3⟩
   have ST4:=zZ.mk (ST3.out.at hI3 hk3)
   clear hI3 hk3 CE2 ST2 ST3 x0 x1 x2 x3 y0 y1 y2 y3
   obtain ⟨⟨x0,x1,x2,x3⟩,⟨y0,y1,y2,y3⟩,⟨z0,z1,z2,z3⟩,⟨v0,v1,v2,v3⟩⟩:=ST4.out.facts
   have HX:=zZ.mk (ST4.out.high n2 b2)
   go_wp2
   refine bodyPost_ret (uT rfl _ _ _ TR _ (0,0) _ rfl (zF (zF (zF (zF HX.out.zero 0 _ rfl) 1 _ rfl) 2 _ rfl) 3 _ rfl) Tryd.underlying52 rfl info_r) rfl ?_
   have hc:=fun W2 h1 h2 => HX.out.close (W2:=W2) h1 h2
   exact ⟨rfl,(hc _ (by (with_reducible repeat (first|exact Kept.refl _ _|apply Kept.alloc|apply Kept.drewN|apply Kept.drew|refine xL ?_ _ _|refine yL ?_ _ _ (Nat.le_refl _)|refine yL ?_ _ _ (by first|assumption|omega)))) (by (with_reducible repeat (first|exact HX.out.isp.low|apply zY|apply zV|apply zU|refine zQ ?_ (by first|assumption|omega))))).1,(hc _ (by (with_reducible repeat (first|exact Kept.refl _ _|apply Kept.alloc|apply Kept.drewN|apply Kept.drew|refine xL ?_ _ _|refine yL ?_ _ _ (Nat.le_refl _)|refine yL ?_ _ _ (by first|assumption|omega)))) (by (with_reducible repeat (first|exact HX.out.isp.low|apply zY|apply zV|apply zU|refine zQ ?_ (by first|assumption|omega))))).2⟩
  ·
   rw [if_pos (by simp)] at hR
   clear CE
   subst hR
   go_enter Tryd.func89,Tryd.ntmps89
   go_wp2_with fail
   (with_reducible refine (CM _ ?i1).out.mono ?_)
   case i1 => exact ST.out.isp
   rintro e w1 ⟨rfl,hI1,hk1⟩
   have ST1:=zZ.mk (ST.out.at hI1 hk1)
   clear hI1 hk1 CM ST
   go_wp2_with fail
   (with_reducible refine (CE1 _ ST1.out.isp).out.mono ?_)
   rintro e w2 ⟨rfl,hI2,hk2⟩
   have ST2:=zZ.mk (ST1.out.at hI2 hk2)
   obtain ⟨⟨x0,x1,x2,x3⟩,⟨y0,y1,y2,y3⟩,⟨z0,z1,z2,z3⟩,⟨v0,v1,v2,v3⟩⟩:=ST2.out.facts
   clear hI2 hk2 CE1 ST1
   have HX:=zZ.mk (ST2.out.low n1 b1)
   go_wp2
   refine bodyPost_ret (uT rfl _ _ _ TR _ (0,0) _ rfl (zF (zF (zF (zF HX.out.zero 0 _ rfl) 1 _ rfl) 2 _ rfl) 3 _ rfl) Tryd.underlying52 rfl info_r) rfl ?_
   have hc:=fun W2 h1 h2 => HX.out.close (W2:=W2) h1 h2
   exact ⟨rfl,(hc _ (by (with_reducible repeat (first|exact Kept.refl _ _|apply Kept.alloc|apply Kept.drewN|apply Kept.drew|refine xL ?_ _ _|refine yL ?_ _ _ (Nat.le_refl _)|refine yL ?_ _ _ (by first|assumption|omega)))) (by (with_reducible repeat (first|exact HX.out.isp.low|apply zY|apply zV|apply zU|refine zQ ?_ (by first|assumption|omega))))).1,(hc _ (by (with_reducible repeat (first|exact Kept.refl _ _|apply Kept.alloc|apply Kept.drewN|apply Kept.drew|refine xL ?_ _ _|refine yL ?_ _ _ (Nat.le_refl _)|refine yL ?_ _ _ (by first|assumption|omega)))) (by (with_reducible repeat (first|exact HX.out.isp.low|apply zY|apply zV|apply zU|refine zQ ?_ (by first|assumption|omega))))).2⟩
 ·
  rw [hm] at CM hR
  rw [if_pos (show (L,(110 : Int)).2 ≠ 0 by simp)] at hR
  dsimp only at CM hR
  clear hm CE
  subst hR
  go_enter Tryd.func89,Tryd.ntmps89
  go_wp2_with fail
  (with_reducible refine (CM _ ?i1).out.mono ?_)
  case i1 => exact ST.out.isp
  rintro e w1 ⟨rfl,hI1,hk1⟩
  have HX:=zZ.mk (ST.out.at hI1 hk1)
  clear hI1 hk1 CM ST
  obtain ⟨⟨x0,x1,x2,x3⟩,⟨y0,y1,y2,y3⟩,⟨z0,z1,z2,z3⟩,⟨v0,v1,v2,v3⟩⟩:=HX.out.facts
  go_wp2
  refine bodyPost_ret (uT rfl _ _ _ TR _ (0,0) _ rfl (zF (zF (zF (zF HX.out.zero 0 _ rfl) 1 _ rfl) 2 _ rfl) 3 _ rfl) Tryd.underlying52 rfl info_r) rfl ?_
  have hc:=fun W2 h1 h2 => HX.out.close (W2:=W2) h1 h2
  exact ⟨rfl,(hc _ (by (with_reducible repeat (first|exact Kept.refl _ _|apply Kept.alloc|apply Kept.drewN|apply Kept.drew|refine xL ?_ _ _|refine yL ?_ _ _ (Nat.le_refl _)|refine yL ?_ _ _ (by first|assumption|omega)))) (by (with_reducible repeat (first|exact HX.out.isp.low|apply zY|apply zV|apply zU|refine zQ ?_ (by first|assumption|omega))))).1,(hc _ (by (with_reducible repeat (first|exact Kept.refl _ _|apply Kept.alloc|apply Kept.drewN|apply Kept.drew|refine xL ?_ _ _|refine yL ?_ _ _ (Nat.le_refl _)|refine yL ?_ _ _ (by first|assumption|omega)))) (by (with_reducible repeat (first|exact HX.out.isp.low|apply zY|apply zV|apply zU|refine zQ ?_ (by first|assumption|omega))))).2⟩
open Go Go.RowKit PParseTells Ex YtjeofffddbibeaaDoorW.PrintWords YtjeofffddbibeaaDoorW.PrintLast YtjeofffddbibeaaDoorW.PrintMore
structure Cmd where
 word : ByteArray
 names : List ByteArray
 nums : List Int
 lo : Int
 hi : Int
 hl : Bool
 hh : Bool
 x : X
abbrev TC : TypeId:=54
abbrev TS : TypeId:=9
abbrev kT : Kd ByteArray:=Kd.string
abbrev sN : Value:=.slice none 0 0
abbrev cCells (c : Cmd) (vN vM v2 v3 : Value) : Array Value:=#[.string c.word,vN,vM,.int .i64 c.lo,.int .i64 c.hi,.bool c.hl,.bool c.hh,.int .u8 c.x.f0,.string c.x.f1,v2,v3]
structure PaSt (w0 W : World) (g b B : Nat) (a : Int) (L : List Tok) (p : Int) (c : Cmd) (vN vM v2 v3 : Value) : Prop where
 isp : IsP w0 W g L a p
 box : W.heap[b]? = some (.cells (cCells c vN vM v2 v3) TC (0,0))
 names : kT.R TS W B (fun _ => True) vN c.names
 nums : kI.R 2 W B (fun _ => True) vM c.nums
 expr : kX.M W B (fun _ => True) c.x [.int .u8 c.x.f0,.string c.x.f1,v2,v3]
 gb : g < b
 bB : b < B
abbrev Pt (g b B : Nat) : Nat → Prop:=fun k => k = g ∨ k = b ∨ B ≤ k
section
variable {w0 w W W2 : World} {g b B : Nat} {a : Int} {L L2 : List Tok} {p p2 : Int} {c : Cmd} {vN vM v2 v3 : Value}
theorem M_at {x : X} {cs : List Value} (h : kX.M W B (fun _ => True) x cs) (hk : Kept W W2 (At g)) (hg : g < B) : kX.M W2 B (fun _ => True) x cs :=
 kX.M_mono (fun _ _ => trivial) (Kd.M_kept (kX.M_bound h) hk (fun k ho hs => by have:=ho.2.1; have : k = g:=hs; omega))
theorem PaSt.at (h : PaSt w0 W g b B a L p c vN vM v2 v3) (hI : IsP w0 W2 g L2 a p2) (hk : Kept W W2 (At g)) : PaSt w0 W2 g b B a L2 p2 c vN vM v2 v3:=by
 have h1:=h.gb
 have h2:=h.bB
 exact ⟨hI,uO h.box hk (fun hs => by have : b = g:=hs; omega),R_at h.names hk (by omega),R_at h.nums hk (by omega),M_at h.expr hk (by omega),h1,h2⟩
theorem PaSt.later (h : PaSt w0 W g b B a L p c vN vM v2 v3) (hb : Below W.heap.size W W2) : PaSt w0 W2 g b B a L p c vN vM v2 v3:=h.at (h.isp.keep hb) (Kept.of_below hb _)
theorem PaSt.lt (h : PaSt w0 W g b B a L p c vN vM v2 v3) : b < W.heap.size:=wT h.box
theorem PaSt.grown_isp (h : PaSt w0 W g b B a L p c vN vM v2 v3) (hB : B ≤ W.heap.size) {row : Option Nat} (hg : W.grownBy W2 row) (hr : ∀ k,row = some k → B ≤ k) : IsP w0 W2 g L a p:=by
 have h1:=h.gb
 have h2:=h.bB
 have h4:=h.isp.ge
 exact h.isp.mv (S:=fun k => B ≤ k) (Kept.of_grown hg (Kept.refl W _) (fun k hk => .inl (hr k hk))) (h.isp.low.grown hg (by omega) (fun k hk => by have:=hr k hk; omega)) (by show ¬ (B ≤ g); omega)
theorem PaSt.grown_box (h : PaSt w0 W g b B a L p c vN vM v2 v3) {row : Option Nat} (hg : W.grownBy W2 row) (hr : ∀ k,row = some k → B ≤ k) : W2.heap[b]? = some (.cells (cCells c vN vM v2 v3) TC (0,0)) :=
 (hg.block b h.lt (fun he => by have:=hr b he.symm; have:=h.bB; omega)).trans h.box
theorem PaSt.setNames (h : PaSt w0 W g b B a L p c vN vM sN sN) (hx : c.x = zX) (hB : B ≤ W.heap.size) {t : ByteArray} {u : Value} (hR : kT.R TS W2 B (fun _ => True) u (c.names ++ [t])) (hg : W.grownBy W2 vN.ownBlock) :
  PaSt w0 (W2.setCell ⟨b,1,none⟩ u) g b B a L p { c with names:=c.names ++ [t] } u vM sN sN:=by
 have h1:=h.gb
 have h2:=h.bB
 have h4:=h.isp.ge
 have hr:=Kd.R_base h.names
 have hI:=h.grown_isp hB hg hr
 exact ⟨hI.mv (S:=At b) (by (with_reducible repeat (first|exact Kept.refl _ _|apply Kept.alloc|apply Kept.drewN|apply Kept.drew|refine xL ?_ _ _|refine yL ?_ _ _ (Nat.le_refl _)|refine yL ?_ _ _ (by first|assumption|omega)))) (zQ hI.low (by show _ ≤ b; omega)) (by show ¬ (g = b); omega),zF (h.grown_box hg hr) 1 u rfl,
  wE hR h2 1 u,wE (Kd.R_over h.nums h.names (fun q hq => by simp [Kd.E,kI,Kd.int,Kd.scalar] at hq; subst hq; decide) hg) h2 1 u,by
   show kX.M _ B _ c.x [.int .u8 c.x.f0,.string c.x.f1,sN,sN]
   rw [hx]
   exact rJ _ _ _ zX (Kd.R_nil _ _ _ _ _) (Kd.R_nil _ _ _ _ _),h1,h2⟩
theorem PaSt.setNums (h : PaSt w0 W g b B a L p c vN vM sN sN) (hx : c.x = zX) (hB : B ≤ W.heap.size) {n : Int} {u : Value} (hR : kI.R 2 W2 B (fun _ => True) u (c.nums ++ [n])) (hg : W.grownBy W2 vM.ownBlock) :
  PaSt w0 (W2.setCell ⟨b,2,none⟩ u) g b B a L p { c with nums:=c.nums ++ [n] } vN u sN sN:=by
 have h1:=h.gb
 have h2:=h.bB
 have h4:=h.isp.ge
 have hr:=Kd.R_base h.nums
 have hI:=h.grown_isp hB hg hr
 exact ⟨hI.mv (S:=At b) (by (with_reducible repeat (first|exact Kept.refl _ _|apply Kept.alloc|apply Kept.drewN|apply Kept.drew|refine xL ?_ _ _|refine yL ?_ _ _ (Nat.le_refl _)|refine yL ?_ _ _ (by first|assumption|omega)))) (zQ hI.low (by show _ ≤ b; omega)) (by show ¬ (g = b); omega),zF (h.grown_box hg hr) 2 u rfl,
  wE (Kd.R_over h.names h.nums (fun q hq => by simp [Kd.E,kT,Kd.string,Kd.scalar] at hq; subst hq; decide) hg) h2 2 u,wE hR h2 2 u,by
   show kX.M _ B _ c.x [.int .u8 c.x.f0,.string c.x.f1,sN,sN]
   rw [hx]
   exact rJ _ _ _ zX (Kd.R_nil _ _ _ _ _) (Kd.R_nil _ _ _ _ _),h1,h2⟩
theorem PaSt.setRange (h : PaSt w0 W g b B a L p c vN vM sN sN) (hx : c.x = zX) (r : Rng) :
  PaSt w0 ((((W.setCell ⟨b,3,none⟩ (.int .i64 r.lo)).setCell ⟨b,4,none⟩ (.int .i64 r.hi)).setCell ⟨b,5,none⟩ (.bool r.hl)).setCell ⟨b,6,none⟩ (.bool r.hh)) g b B a L p { c with lo:=r.lo,hi:=r.hi,hl:=r.hl,hh:=r.hh } vN vM sN sN:=by
 have h1:=h.gb
 have h2:=h.bB
 have h4:=h.isp.ge
 have hw0 : w0.heap.size ≤ b:=by omega
 exact ⟨h.isp.mv (S:=At b) (by (with_reducible repeat (first|exact Kept.refl _ _|apply Kept.alloc|apply Kept.drewN|apply Kept.drew|refine xL ?_ _ _|refine yL ?_ _ _ (Nat.le_refl _)|refine yL ?_ _ _ (by first|assumption|omega)))) (by (with_reducible repeat (first|exact h.isp.low|apply zY|apply zV|apply zU|refine zQ ?_ (by first|assumption|omega)))) (by show ¬ (g = b); omega),zF (zF (zF (zF h.box 3 _ rfl) 4 _ rfl) 5 _ rfl) 6 _ rfl,
  wE (wE (wE (wE h.names h2 3 _) h2 4 _) h2 5 _) h2 6 _,wE (wE (wE (wE h.nums h2 3 _) h2 4 _) h2 5 _) h2 6 _,by
   show kX.M _ B _ c.x [.int .u8 c.x.f0,.string c.x.f1,sN,sN]
   rw [hx]
   exact rJ _ _ _ zX (Kd.R_nil _ _ _ _ _) (Kd.R_nil _ _ _ _ _),h1,h2⟩
theorem PaSt.setExpr (h : PaSt w0 W g b B a L p c vN vM v2 v3) {x : X} {u2 u3 : Value} (hx : kX.M W B (fun _ => True) x [.int .u8 x.f0,.string x.f1,u2,u3]) :
  PaSt w0 ((((W.setCell ⟨b,7,none⟩ (.int .u8 x.f0)).setCell ⟨b,8,none⟩ (.string x.f1)).setCell ⟨b,9,none⟩ u2).setCell ⟨b,10,none⟩ u3) g b B a L p { c with x:=x } vN vM u2 u3:=by
 have h1:=h.gb
 have h2:=h.bB
 have h4:=h.isp.ge
 have hw0 : w0.heap.size ≤ b:=by omega
 exact ⟨h.isp.mv (S:=At b) (by (with_reducible repeat (first|exact Kept.refl _ _|apply Kept.alloc|apply Kept.drewN|apply Kept.drew|refine xL ?_ _ _|refine yL ?_ _ _ (Nat.le_refl _)|refine yL ?_ _ _ (by first|assumption|omega)))) (by (with_reducible repeat (first|exact h.isp.low|apply zY|apply zV|apply zU|refine zQ ?_ (by first|assumption|omega)))) (by show ¬ (g = b); omega),zF (zF (zF (zF h.box 7 _ rfl) 8 _ rfl) 9 _ rfl) 10 _ rfl,
  wE (wE (wE (wE h.names h2 7 _) h2 8 _) h2 9 _) h2 10 _,wE (wE (wE (wE h.nums h2 7 _) h2 8 _) h2 9 _) h2 10 _,M_at hx (by (with_reducible repeat (first|exact Kept.refl _ _|apply Kept.alloc|apply Kept.drewN|apply Kept.drew|refine xL ?_ _ _|refine yL ?_ _ _ (Nat.le_refl _)|refine yL ?_ _ _ (by first|assumption|omega)))) h2,h1,h2⟩
end
def partF (l : Int) (c : Cmd) (L : List Tok) (p : Int) : Cmd × List Tok × Int × Int :=
 if l = 110 then ({ c with names:=c.names ++ [(takeF [1] L).1.f1] },(takeF [1] L).2.1,p,(takeF [1] L).2.2)
 else if l = 105 then ({ c with nums:=c.nums ++ [(numF L).1.f2] },(numF L).2.1,p,(numF L).2.2)
 else if l = 114 then ({ c with lo:=(scopeF L).lo,hi:=(scopeF L).hi,hl:=(scopeF L).hl,hh:=(scopeF L).hh },(scopeF L).l,p,(scopeF L).e)
 else if l = 101 then ({ c with x:=(exprF 40 p L).x },(exprF 40 p L).l,(exprF 40 p L).p,(exprF 40 p L).e)
 else (c,(markF ⟨#[61]⟩ L).1,p,(markF ⟨#[61]⟩ L).2)
def PartQ (w0 w : World) (g b B : Nat) (a : Int) (R : Cmd × List Tok × Int × Int) (e : Ending) (w' : World) : Prop :=
 ∃ vN vM v2 v3,e = .returned (.int .i64 R.2.2.2) ∧ PaSt w0 w' g b B a R.2.1 R.2.2.1 R.1 vN vM v2 v3 ∧ (R.1.x = zX → v2 = sN ∧ v3 = sN) ∧ Kept w w' (Pt g b B)
theorem info_s3 : (Tryd.prog.info? TS).map (fun i => (i.zero,i.size,i.bytes)) = some (some (.string nil8),1,16):=by kernel_rfl
theorem enc_eq : Utf8.encode 61 = (⟨#[61]⟩ : ByteArray):=by decide +kernel
set_option maxHeartbeats 8000000 in
theorem part_mark (w0 w : World) (g b B : Nat) (a : Int) (L : List Tok) (p : Int) (c : Cmd) (vN vM : Value) (h : PaSt w0 w g b B a L p c vN vM sN sN) (hx : c.x = zX) :
  Calls Tryd.prog 68 #[.pointer (some ⟨g,0,none⟩),.pointer (some ⟨b,0,none⟩),.int .i32 61] w (PartQ w0 w g b B a (partF 61 c L p)):=by
 have hP : partF 61 c L p = (c,(markF ⟨#[61]⟩ L).1,p,(markF ⟨#[61]⟩ L).2):=rfl
 rw [hP]
 have CM:=zZ.mk (mZ g ⟨#[61]⟩ L a p w0 w h.isp)
 obtain ⟨L1,e1,hm⟩ : ∃ L1 e1,markF ⟨#[61]⟩ L = (L1,e1):=⟨_,_,rfl⟩
 rw [hm] at CM ⊢
 dsimp only at CM ⊢
 have H:=zZ.mk h
 clear h hP hm
 unfold PartQ
 dsimp only
 go_enter Tryd.func68,Tryd.ntmps68
 go_wp2_with fail
 rw [enc_eq]
 (with_reducible refine CM.out.mono ?_)
 rintro e w1 ⟨rfl,hI1,hk1⟩
 have ST1:=zZ.mk (H.out.at hI1 hk1)
 have K1:=zZ.mk (hk1.mono (S':=Pt g b B) (fun k hk => .inl hk))
 clear hI1 hk1 CM
 go_wp2
 go_ret
 exact ⟨_,_,_,_,rfl,ST1.out,fun _ => ⟨rfl,rfl⟩,K1.out⟩
set_option maxHeartbeats 8000000 in
set_option maxRecDepth 100000 in
theorem part_num (w0 w : World) (g b B : Nat) (a : Int) (L : List Tok) (p : Int) (c : Cmd) (vN vM : Value) (h : PaSt w0 w g b B a L p c vN vM sN sN) (hx : c.x = zX) (hB : B ≤ w.heap.size) (hl : c.nums.length ≤ 100) :
  Calls Tryd.prog 68 #[.pointer (some ⟨g,0,none⟩),.pointer (some ⟨b,0,none⟩),.int .i32 105] w (PartQ w0 w g b B a (partF 105 c L p)):=by
 have hP : partF 105 c L p = ({ c with nums:=c.nums ++ [(numF L).1.f2] },(numF L).2.1,p,(numF L).2.2):=rfl
 rw [hP]
 have CN:=zZ.mk (cL g L a p w0 w h.isp)
 obtain ⟨t,L1,e1,hm⟩ : ∃ t L1 e1,numF L = (t,L1,e1):=⟨_,_,_,rfl⟩
 rw [hm] at CN ⊢
 dsimp only at CN ⊢
 have H:=zZ.mk h
 have HX:=zZ.mk hx
 have HB:=zZ.mk hB
 have HN:=zZ.mk h.bB
 clear h hP hm hx hB
 unfold PartQ
 dsimp only
 go_enter Tryd.func68,Tryd.ntmps68
 go_wp2_with fail
 (with_reducible refine CN.out.mono ?_)
 rintro e w1 ⟨rfl,hI1,hk1⟩
 have ST1:=zZ.mk (H.out.at hI1 hk1)
 have K1:=zZ.mk (hk1.mono (S':=Pt g b B) (fun k hk => .inl hk))
 have hbz : B ≤ w1.heap.size:=Nat.le_trans HB.out hk1.1
 have q2 : w1.cell? ⟨b,2,none⟩ = some vM:=(zK ST1.out.box 2).trans rfl
 clear hI1 hk1 CN H
 go_wp2_with (first|((with_reducible refine uX (b:=.append) (xs:=#[.tmp 48,.tmp 50]) rfl ?_); at_builtin; refine Kd.R_append kI (w0:=w1) B rfl (.tmp 48) (.tmp 50) 22 2 (.int .i64 0) 8 rfl Tryd.underlying22 info_i3 rfl (by decide) (by decide) vM c.nums t.f2 [.int .i64 t.f2] (fun _ => True) (fun _ => False) rfl rfl rfl (fun _ hk => hk.elim) (fun _ _ => trivial) ST1.out.nums (Below.refl _ _) hbz (by omega) ?_; intro v8 w8 ho hb hg hat; obtain ⟨A8,c8,h8⟩:=Kd.R_slice ho; rw [List.length_append,List.length_singleton] at h8; subst h8; have HO:=zZ.mk ho; have HG:=zZ.mk hg; have f8:=zP (ST1.out.grown_box hg (Kd.R_base ST1.out.nums)) 2; have q8 : w8.cell? ⟨b,2,none⟩ = some vM:=(zK (ST1.out.grown_box hg (Kd.R_base ST1.out.nums)) 2).trans rfl; clear ho hb hg hat))
 have ST8:=zZ.mk (ST1.out.setNums HX.out hbz HO.out HG.out)
 have K8:=zZ.mk (Kept.of_grown HG.out K1.out (fun k hk => .inl (.inr (.inr (Kd.R_base ST1.out.nums k hk)))))
 go_ret
 exact ⟨_,_,_,_,rfl,ST8.out,fun _ => ⟨rfl,rfl⟩,K8.out.setCell (p:=⟨b,2,none⟩) (.inl (.inr (.inl rfl))) _⟩
set_option maxHeartbeats 8000000 in
set_option maxRecDepth 100000 in
theorem part_range (w0 w : World) (g b B : Nat) (a : Int) (L : List Tok) (p : Int) (c : Cmd) (vN vM : Value) (h : PaSt w0 w g b B a L p c vN vM sN sN) (hx : c.x = zX) :
  Calls Tryd.prog 68 #[.pointer (some ⟨g,0,none⟩),.pointer (some ⟨b,0,none⟩),.int .i32 114] w (PartQ w0 w g b B a (partF 114 c L p)):=by
 have hP : partF 114 c L p = ({ c with lo:=(scopeF L).lo,hi:=(scopeF L).hi,hl:=(scopeF L).hl,hh:=(scopeF L).hh },(scopeF L).l,p,(scopeF L).e):=rfl
 rw [hP]
 have CN:=zZ.mk (scope_calls g L a p w0 w h.isp)
 generalize scopeF L = r at *
 have H:=zZ.mk h
 have HX:=zZ.mk hx
 clear h hP hx
 unfold PartQ
 dsimp only
 go_enter Tryd.func68,Tryd.ntmps68
 go_wp2_with fail
 (with_reducible refine CN.out.mono ?_)
 rintro e w1 ⟨rfl,hI1,hk1⟩
 have ST1:=zZ.mk (H.out.at hI1 hk1)
 have K1:=zZ.mk (hk1.mono (S':=Pt g b B) (fun k hk => .inl hk))
 have q3 : w1.cell? ⟨b,3,none⟩ = some (.int .i64 c.lo):=(zK ST1.out.box 3).trans rfl
 have q4 : w1.cell? ⟨b,4,none⟩ = some (.int .i64 c.hi):=(zK ST1.out.box 4).trans rfl
 have q5 : w1.cell? ⟨b,5,none⟩ = some (.bool c.hl):=(zK ST1.out.box 5).trans rfl
 have q6 : w1.cell? ⟨b,6,none⟩ = some (.bool c.hh):=(zK ST1.out.box 6).trans rfl
 have f3:=zP ST1.out.box 3
 have f4:=zP ST1.out.box 4
 have f5:=zP ST1.out.box 5
 have f6:=zP ST1.out.box 6
 clear hI1 hk1 CN H
 go_wp2
 have ST8:=zZ.mk (ST1.out.setRange HX.out r)
 go_ret
 exact ⟨_,_,_,_,rfl,ST8.out,fun _ => ⟨rfl,rfl⟩,(((K1.out.setCell (p:=⟨b,3,none⟩) (.inl (.inr (.inl rfl))) _).setCell (p:=⟨b,4,none⟩) (.inl (.inr (.inl rfl))) _).setCell (p:=⟨b,5,none⟩) (.inl (.inr (.inl rfl))) _).setCell (p:=⟨b,6,none⟩) (.inl (.inr (.inl rfl))) _⟩
set_option maxHeartbeats 8000000 in
set_option maxRecDepth 100000 in
theorem part_expr (w0 w : World) (hC : Cal w0) (g b B : Nat) (a : Int) (L : List Tok) (p : Int) (p0 : 0 ≤ p) (p1 : p ≤ 2000) (c : Cmd) (vN vM v2 v3 : Value) (h : PaSt w0 w g b B a L p c vN vM v2 v3) (hB : B ≤ w.heap.size) :
  Calls Tryd.prog 68 #[.pointer (some ⟨g,0,none⟩),.pointer (some ⟨b,0,none⟩),.int .i32 101] w fun e w' => ∃ vN' vM' v2' v3',e = .returned (.int .i64 (partF 101 c L p).2.2.2) ∧ PaSt w0 w' g b B a (partF 101 c L p).2.1 (partF 101 c L p).2.2.1 (partF 101 c L p).1 vN' vM' v2' v3' ∧ Kept w w' (Pt g b B):=by
 have hP : partF 101 c L p = ({ c with x:=(exprF 40 p L).x },(exprF 40 p L).l,(exprF 40 p L).p,(exprF 40 p L).e):=rfl
 rw [hP]
 have CN:=zZ.mk (cE w0 g a hC 40 (by omega) p L w h.isp p0 p1)
 rw [show (41 : Int) - ((40 : Nat) : Int) = 1 by decide] at CN
 generalize exprF 40 p L = r at *
 have H:=zZ.mk h
 have HB:=zZ.mk hB
 obtain ⟨A2,c2,A3,c3,z2,z3⟩ : ∃ A2 c2 A3 c3,v2 = .slice A2 c.x.f2.length c2 ∧ v3 = .slice A3 c.x.f3.length c3:=by
  obtain ⟨u2,u3,he,h2,h3⟩:=gX h.expr
  simp only [List.cons.injEq,true_and,and_true] at he
  obtain ⟨rfl,rfl⟩:=he
  obtain ⟨A2,c2,e2⟩:=Kd.R_slice h2
  obtain ⟨A3,c3,e3⟩:=Kd.R_slice h3
  exact ⟨A2,c2,A3,c3,e2,e3⟩
 subst z2
 subst z3
 clear h hP hB
 go_enter Tryd.func68,Tryd.ntmps68
 go_wp2_with fail
 (with_reducible refine CN.out.mono ?_)
 rintro e w1 ⟨v5,v6,rfl,hI1,hk1,hg1⟩
 obtain ⟨A5,c5,A6,c6,rfl,rfl⟩:=hg1.slices
 have ST1:=zZ.mk (H.out.at hI1 hk1)
 have HG:=zZ.mk (show kX.M w1 B (fun _ => True) r.x [.int .u8 r.x.f0,.string r.x.f1,.slice A5 r.x.f2.length c5,.slice A6 r.x.f3.length c6] from kX.M_lower HB.out hg1)
 have K1:=zZ.mk (hk1.mono (S':=Pt g b B) (fun k hk => .inl hk))
 have q3 : w1.cell? ⟨b,7,none⟩ = some (.int .u8 c.x.f0):=(zK ST1.out.box 7).trans rfl
 have q4 : w1.cell? ⟨b,8,none⟩ = some (.string c.x.f1):=(zK ST1.out.box 8).trans rfl
 have q5 : w1.cell? ⟨b,9,none⟩ = some (.slice A2 c.x.f2.length c2):=(zK ST1.out.box 9).trans rfl
 have q6 : w1.cell? ⟨b,10,none⟩ = some (.slice A3 c.x.f3.length c3):=(zK ST1.out.box 10).trans rfl
 have f3:=zP ST1.out.box 7
 have f4:=zP ST1.out.box 8
 have f5:=zP ST1.out.box 9
 have f6:=zP ST1.out.box 10
 clear hI1 hk1 CN H hg1
 go_wp2
 have ST8:=zZ.mk (ST1.out.setExpr HG.out)
 go_ret
 exact ⟨_,_,_,_,rfl,ST8.out,(((K1.out.setCell (p:=⟨b,7,none⟩) (.inl (.inr (.inl rfl))) _).setCell (p:=⟨b,8,none⟩) (.inl (.inr (.inl rfl))) _).setCell (p:=⟨b,9,none⟩) (.inl (.inr (.inl rfl))) _).setCell (p:=⟨b,10,none⟩) (.inl (.inr (.inl rfl))) _⟩
theorem zXE {w : World} (o : Obj) {a : Addr} {v : Value} (h : w.cell? a = some v) : (w.alloc o).cell? a = some v:=((zY (Below.refl w.heap.size w) o).cell (World.block_lt_of_cell? w a h)).trans h
set_option maxHeartbeats 8000000 in
set_option maxRecDepth 100000 in
theorem part_name (w0 w : World) (g b B : Nat) (a : Int) (L : List Tok) (p : Int) (c : Cmd) (vN vM : Value) (h : PaSt w0 w g b B a L p c vN vM sN sN) (hx : c.x = zX) (hB : B ≤ w.heap.size) (hl : c.names.length ≤ 100) :
  Calls Tryd.prog 68 #[.pointer (some ⟨g,0,none⟩),.pointer (some ⟨b,0,none⟩),.int .i32 110] w (PartQ w0 w g b B a (partF 110 c L p)):=by
 have hP : partF 110 c L p = ({ c with names:=c.names ++ [(takeF [1] L).1.f1] },(takeF [1] L).2.1,p,(takeF [1] L).2.2):=rfl
 rw [hP]
 have CT:=fun A W h hC => zZ.mk (dT g [1] asks1 A 1 1 L a p w0 W h rfl hC (Nat.le_refl _))
 obtain ⟨t,L1,e1,hm⟩ : ∃ t L1 e1,takeF [1] L = (t,L1,e1):=⟨_,_,_,rfl⟩
 rw [hm] at CT ⊢
 dsimp only at CT ⊢
 have H:=zZ.mk h
 have HX:=zZ.mk hx
 have HB:=zZ.mk hB
 have hs : ∀ (W : World) o,(W.alloc o).heap.size = W.heap.size + 1:=fun W o => Array.size_push ..
 have HS:=zZ.mk hs
 clear h hP hm hx hB hs
 unfold PartQ
 dsimp only
 go_enter Tryd.func68,Tryd.ntmps68
 go_wp2_with fail
 (with_reducible refine (CT (some ⟨w.heap.size,0,none⟩) _ ?i ?j).out.mono ?_)
 case i => exact H.out.isp.keep (zY (Below.refl _ _) _)
 case j => exact kU w [1] (by decide)
 rintro e w1 ⟨rfl,hI1,hk1⟩
 have ST1:=zZ.mk ((H.out.later (zY (Below.refl _ _) _)).at hI1 hk1)
 have K1:=zZ.mk (((Kept.refl w (Pt g b B)).alloc (.cells #[.int .u8 1] 5)).then_ hk1 (fun k hk => .inl (.inl hk)))
 have hz1 : w.heap.size + 1 ≤ w1.heap.size:=by have h1:=hk1.1; rw [HS.out] at h1; exact h1
 clear hI1 hk1 CT H
 go_wp2_with fail
 obtain ⟨w2,hw2⟩ : ∃ w2,w2 = w1.alloc (.cells #[.int .u8 t.f0,.string t.f1,.int .i64 t.f2] 61):=⟨_,rfl⟩
 have ST2:=zZ.mk (show PaSt w0 w2 g b B a L1 p c vN vM sN sN by rw [hw2]; exact ST1.out.later (zY (Below.refl _ _) _))
 have K2:=zZ.mk (show Kept w w2 (Pt g b B) by rw [hw2]; exact K1.out.alloc _)
 have hb6 : w2.heap[w1.heap.size]? = some (.cells #[.int .u8 t.f0,.string t.f1,.int .i64 t.f2] 61 (0,0)):=by rw [hw2]; exact wP _ _
 have q6 : w2.cell? ⟨w1.heap.size,1,none⟩ = some (.string t.f1):=(zK hb6 1).trans rfl
 have q1 : w2.cell? ⟨b,1,none⟩ = some vN:=(zK ST2.out.box 1).trans rfl
 have hbz : B ≤ w2.heap.size:=Nat.le_trans HB.out K2.out.1
 have HLT:=zZ.mk (wT hb6)
 have NE:=zZ.mk (Kd.R_ne ST2.out.names hb6 (by decide))
 rw [← hw2]
 clear hw2 hb6
 refine oK (n:=14) (S:=fun w' => w'.cell? ⟨b,1,none⟩ = some vN ∧ w'.cell? ⟨w1.heap.size,1,none⟩ = some (.string t.f1)) (ds:=[12]) #[false,false,false,false,false,false,false,false,false,false,false,false,false,false] (by kernel_rfl) rfl rfl ⟨q1,q6⟩ (fun hHeld => ?_)
 refine xO (i:=0) (N:=some 25) (v:=?_) (a':=?_) #[true,false,false,false,false,false,false,false,false,false,false,false,false,false] rfl rfl (by kernel_rfl) (fun _ _ _ h => h) (Or.inl ⟨by rfl,?_⟩) ?_ ?_
 rotate_left
 ·
  intro w'
  go_simp
  with_reducible rfl
 rotate_left
 ·
  simp only [Act.put,List.setIfInBounds_toArray,List.set_cons_zero,List.set_cons_succ,yV,yU]
  rfl
 refine xO (i:=1) (N:=some 26) (v:=?_) (a':=?_) #[true,true,false,false,false,false,false,false,false,false,false,false,false,false] rfl rfl (by kernel_rfl) (fun _ _ _ h => h) (Or.inl ⟨by rfl,?_⟩) ?_ ?_
 rotate_left
 ·
  intro w'
  go_simp
  with_reducible rfl
 rotate_left
 ·
  simp only [Act.put,List.setIfInBounds_toArray,List.set_cons_zero,List.set_cons_succ,yV,yU]
  rfl
 refine xO (i:=2) (N:=some 27) (v:=?_) (a':=?_) #[true,true,true,false,false,false,false,false,false,false,false,false,false,false] rfl rfl (by kernel_rfl) (fun _ _ _ h => h) (Or.inl ⟨by rfl,?_⟩) ?_ ?_
 rotate_left
 ·
  intro w'
  go_simp
  with_reducible rfl
 rotate_left
 ·
  simp only [Act.put,List.setIfInBounds_toArray,List.set_cons_zero,List.set_cons_succ,yV,yU]
  rfl
 refine xO (i:=3) (N:=some 28) (v:=?_) (a':=?_) #[true,true,true,true,false,false,false,false,false,false,false,false,false,false] rfl rfl (by kernel_rfl) (fun _ _ _ h => h) (Or.inl ⟨by rfl,?_⟩) ?_ ?_
 rotate_left
 ·
  intro w'
  go_simp
  with_reducible rfl
 rotate_left
 ·
  simp only [Act.put,List.setIfInBounds_toArray,List.set_cons_zero,List.set_cons_succ,yV,yU]
  rfl
 refine xO (i:=5) (N:=some 30) (v:=?_) (a':=?_) #[true,true,true,true,false,true,false,false,false,false,false,false,false,false] rfl rfl (by kernel_rfl) (fun _ _ _ h => h) (Or.inl ⟨by rfl,?_⟩) ?_ ?_
 rotate_left
 ·
  intro w'
  go_simp
  with_reducible rfl
 rotate_left
 ·
  simp only [Act.put,List.setIfInBounds_toArray,List.set_cons_zero,List.set_cons_succ,yV,yU]
  rfl
 refine xO (i:=9) (N:=some 34) (v:=?_) (a':=?_) #[true,true,true,true,false,true,false,false,false,true,false,false,false,false] rfl rfl (by kernel_rfl) (fun _ _ _ h => h) (Or.inl ⟨by rfl,?_⟩) ?_ ?_
 rotate_left
 ·
  intro w'
  go_simp
  with_reducible rfl
 rotate_left
 ·
  simp only [Act.put,List.setIfInBounds_toArray,List.set_cons_zero,List.set_cons_succ,yV,yU]
  rfl
 refine take_ (i:=4) (N:=some 29) (v:=?_) (a':=?_) #[true,true,true,true,true,true,false,false,false,true,false,false,false,false] rfl rfl (by kernel_rfl) (fun _ _ _ h => h) (Or.inl ⟨by rfl,?_⟩) hHeld ?_ ?_
 rotate_left
 ·
  rintro w' ⟨s0,s1⟩
  go_simp
  with_reducible rfl
 rotate_left
 ·
  simp only [Act.put,List.setIfInBounds_toArray,List.set_cons_zero,List.set_cons_succ,yV,yU]
  rfl
 refine take_ (i:=6) (N:=some 31) (v:=?_) (a':=?_) #[true,true,true,true,true,true,true,false,false,true,false,false,false,false] rfl rfl (by kernel_rfl) (fun _ _ _ h => h) (Or.inl ⟨by rfl,?_⟩) hHeld ?_ ?_
 rotate_left
 ·
  rintro w' ⟨s0,s1⟩
  go_simp
  with_reducible rfl
 rotate_left
 ·
  simp only [Act.put,List.setIfInBounds_toArray,List.set_cons_zero,List.set_cons_succ,yV,yU]
  rfl
 refine one_ (i:=7) (N:=some 32) #[true,true,true,true,true,true,true,true,false,true,false,false,false,false] rfl rfl (by kernel_rfl) (by decide) (fun K hK => ?_)
 refine value_ (w1:=?_) (v:=?_) (by rfl) rfl ?_ ?_
 rotate_left 2
 ·
  go_simp
  constructor
  · rfl
  · rfl
 refine hK.out _ _ ⟨(zXE _ q1),(zXE _ q6)⟩ (fun hHeld => ?_)
 clear hK K
 refine sI (a':=?_) ?_ ?_
 rotate_left
 ·
  show Act.put _ (some 32) _ = _
  simp only [Act.put,List.setIfInBounds_toArray,List.set_cons_zero,List.set_cons_succ,yV,yU]
  rfl
 refine one_ (i:=8) (N:=some 33) #[true,true,true,true,true,true,true,true,true,true,false,false,false,false] rfl rfl (by kernel_rfl) (by decide) (fun K hK => ?_)
 refine Kd.R_append_step kT (w0:=w2.drew) B (by rfl) (.tmp 29) (.tmp 32) 28 TS (.string nil8) 16 rfl Tryd.underlying28 info_s3 rfl (by decide) (by decide) vN c.names t.f1 [.string t.f1] (fun _ => True) (fun _ => False) rfl rfl rfl (fun _ hk => hk.elim) (fun _ _ => trivial) (Kd.R_drew ST2.out.names) (Below.refl _ _) hbz (by omega) ?_
 intro v8 w8 ho hb hg hat
 obtain ⟨A8,c8,h8⟩:=Kd.R_slice ho
 rw [List.length_append,List.length_singleton] at h8
 subst h8
 have HO:=zZ.mk ho
 have HG:=zZ.mk (show w2.grownBy w8 vN.ownBlock from ⟨hg.1,hg.2,hg.3,hg.4,hg.5⟩)
 have hbx:=ST2.out.grown_box HG.out (Kd.R_base ST2.out.names)
 have f8:=zP hbx 1
 have q8 : w8.cell? ⟨b,1,none⟩ = some vN:=(zK hbx 1).trans rfl
 have hne : some w1.heap.size ≠ vN.ownBlock:=NE.out
 have q9:=cell_of_heap (w:=w2) (w1:=w8) (a:=⟨w1.heap.size,1,none⟩) (HG.out.block w1.heap.size HLT.out hne) q6
 refine hK.out _ _ ⟨q8,q9⟩ (fun hHeld => ?_)
 clear hK K
 refine sI (a':=?_) ?_ ?_
 rotate_left
 ·
  show Act.put _ (some 33) _ = _
  simp only [Act.put,List.setIfInBounds_toArray,List.set_cons_zero,List.set_cons_succ,yV,yU]
  rfl
 refine xO (i:=10) (N:=some 35) (v:=?_) (a':=?_) #[true,true,true,true,true,true,true,true,true,true,true,false,false,false] rfl rfl (by kernel_rfl) (fun _ _ _ h => h) (Or.inl ⟨by rfl,?_⟩) ?_ ?_
 rotate_left
 ·
  intro w'
  go_simp
  with_reducible rfl
 rotate_left
 ·
  simp only [Act.put,List.setIfInBounds_toArray,List.set_cons_zero,List.set_cons_succ,yV,yU]
  rfl
 refine xO (i:=11) (N:=some 36) (v:=?_) (a':=?_) #[true,true,true,true,true,true,true,true,true,true,true,true,false,false] rfl rfl (by kernel_rfl) (fun _ _ _ h => h) (Or.inl ⟨by rfl,?_⟩) ?_ ?_
 rotate_left
 ·
  intro w'
  go_simp
  with_reducible rfl
 rotate_left
 ·
  simp only [Act.put,List.setIfInBounds_toArray,List.set_cons_zero,List.set_cons_succ,yV,yU]
  rfl
 refine last_ (i:=12) (N:=none) #[true,true,true,true,true,true,true,true,true,true,true,true,true,false] rfl rfl (by kernel_rfl) (by decide) (fun K hK => ?_)
 refine skip_ (w1:=?_) (by rfl) rfl ?_ ?_
 rotate_left
 ·
  go_simp
  rfl
 refine hK.out _ _ ?_
 clear hK K
 refine xO (i:=13) (N:=some 7) (v:=?_) (a':=?_) #[true,true,true,true,true,true,true,true,true,true,true,true,true,true] rfl rfl (by kernel_rfl) (fun _ _ _ h => h) (Or.inl ⟨by rfl,?_⟩) ?_ ?_
 rotate_left
 ·
  intro w'
  go_simp
  with_reducible rfl
 rotate_left
 ·
  simp only [Act.put,List.setIfInBounds_toArray,List.set_cons_zero,List.set_cons_succ,yV,yU]
  rfl
 refine done_ (by kernel_rfl) ?_

 have ST8:=zZ.mk (ST2.out.setNames HX.out hbz HO.out HG.out)
 have K8:=zZ.mk (Kept.of_grown HG.out K2.out (fun k hk => .inl (.inr (.inr (Kd.R_base ST2.out.names k hk)))))
 go_wp2
 go_ret
 exact ⟨_,_,_,_,rfl,ST8.out,fun _ => ⟨rfl,rfl⟩,K8.out.setCell (p:=⟨b,1,none⟩) (.inl (.inr (.inl rfl))) _⟩
open Go Go.RowKit PParseTells Ex YtjeofffddbibeaaDoorW.PrintWords YtjeofffddbibeaaDoorW.PrintLast YtjeofffddbibeaaDoorW.PrintMore
def rawL : List ByteArray:=(Lib.fields SHAPES.data.toList).map fun l => ⟨l.toArray⟩
theorem dX : rawL.length = 18:=by decide +kernel
theorem dZ : shapeL.length = 18:=by decide +kernel
theorem shapeL_map : shapeL = rawL.map fun q => ((⟨(Lib.cut q.data.toList [58]).1.toArray⟩ : ByteArray),(⟨(Lib.cut q.data.toList [58]).2.1.toArray⟩ : ByteArray)):=by
 unfold shapeL rawL
 rw [List.map_map]
 rfl
theorem shapeL_at (k : Nat) (h : k < rawL.length) (h' : k < shapeL.length) : shapeL[k] = (⟨(Lib.cut (rawL[k]).data.toList [58]).1.toArray⟩,⟨(Lib.cut (rawL[k]).data.toList [58]).2.1.toArray⟩):=by
 rw [List.getElem_of_eq shapeL_map h',List.getElem_map]
 try rfl
theorem raw_small : ∀ q ∈ rawL,q.size < 4294967281:=by decide +kernel
def shF : List (ByteArray × ByteArray) → ByteArray → ByteArray × Bool
 | [],_ => ((⟨#[]⟩ : ByteArray),false)
 | q :: r,s => if (q.2.toList == s.toList) = true then (q.1,true) else shF r s
def shapeF (s : ByteArray) : ByteArray × Bool:=shF shapeL s
theorem shF_at (s : ByteArray) (k : Nat) (h : k < shapeL.length) : shF (shapeL.drop k) s = if ((shapeL[k]).2.toList == s.toList) = true then ((shapeL[k]).1,true) else shF (shapeL.drop (k + 1)) s:=by
 rw [List.drop_eq_getElem_cons h,shF]
theorem shF_end (s : ByteArray) : shF (shapeL.drop 18) s = ((⟨#[]⟩ : ByteArray),false):=by
 rw [List.drop_of_length_le (by rw [dZ]; exact Nat.le_refl 18),shF]
set_option maxHeartbeats 8000000 in
set_option maxRecDepth 100000 in
theorem Shape_calls (s : ByteArray) (w : World) (hC : Cal w) :
  Calls Tryd.prog 34 #[.string s] w fun e w' => e = .returned (.tuple #[.string (shapeF s).1,.bool (shapeF s).2]) ∧ Below w.heap.size w w':=by
 have CF : zZ (Calls Tryd.prog 61 #[.string SHAPES] w fun e w' => e = .returned (.slice (some ⟨w.heap.size,0,none⟩) 18 18) ∧ w' = w.alloc (.cells (rawL.map Value.string).toArray 9)):=by
  refine ⟨(Tryd.strings_Fields_laid SHAPES w (by decide +kernel) shapes_ascii hC.space).mono ?_⟩
  rintro e w' ⟨rfl,rfl⟩
  have hl : (Lib.fields SHAPES.data.toList).length = 18:=by
   have:=dX
   unfold rawL at this
   rw [List.length_map] at this
   exact this
  refine ⟨by rw [hl],?_⟩
  unfold rawL
  rw [List.map_map]
  rfl
 obtain ⟨m,hm⟩:=hC.maxl
 have hb0:=zY (Below.refl w.heap.size w) (.cells (rawL.map Value.string).toArray 9)
 have CC : ∀ (k : Nat) (hk : k < rawL.length) (W : World),Below w.heap.size w W → zZ (Calls Tryd.prog 63 #[.string rawL[k],.string ⟨#[58]⟩] W fun e w' => e = .returned (.tuple #[.string (shapeL[k]'(by rw [dZ]; rw [dX] at hk; exact hk)).1,.string (shapeL[k]'(by rw [dZ]; rw [dX] at hk; exact hk)).2,.bool (Lib.cut (rawL[k]).data.toList [58]).2.2]) ∧ Drawn0 W w'):=by
  intro k hk W hb
  refine ⟨(Tryd.strings_Cut rawL[k] ⟨#[58]⟩ m W (raw_small _ (List.getElem_mem hk)) ((hb.cell (World.block_lt_of_cell? w _ hm)).trans hm)).mono ?_⟩
  rintro e w' ⟨rfl,hd⟩
  rw [shapeL_at k hk]
  obtain ⟨n,rfl⟩:=hd
  exact ⟨rfl,n,rfl⟩
 have HB0:=zZ.mk hb0
 have HCC:=zZ.mk CC
 have b1:=zZ.mk (wP w (.cells (rawL.map Value.string).toArray 9))
 have h0 : shF (shapeL.drop 0) s = shapeF s:=rfl
 have H0:=zZ.mk h0
 clear hm hC hb0 CC h0
 obtain ⟨R,hR⟩ : ∃ R,shapeF s = R:=⟨_,rfl⟩
 rw [hR] at H0 ⊢
 clear hR
 go_enter Tryd.func34,Tryd.ntmps34
 go_wp2_with fail
 (with_reducible refine CF.out.mono ?_)
 rintro e w1 ⟨rfl,rfl⟩
 clear CF
 go_wp2_with fail
 go_loopw [11] (fun j wr => ∃ k n : Nat,k ≤ 18 ∧ j = .int .i64 k ∧ shF (shapeL.drop k) s = R ∧ wr = (w.alloc (.cells (rawL.map Value.string).toArray 9)).drewN n) (fun j _ => 18 - (intOf j).toNat)
 case atStart => exact ⟨0,0,by omega,rfl,H0.out,rfl⟩
 case round =>
  obtain ⟨k,n,hk,rfl,hR,rfl⟩:=hrel
  by_cases hkn : k < 18
  ·
   have hki : (k : Int) < 18:=by omega
   have hki' : decide ((k : Int) < 18) = true:=decide_eq_true hki
   have hk1 : k < rawL.length:=by rw [dX]; exact hkn
   have hk2 : k < shapeL.length:=by rw [dZ]; exact hkn
   have q : ((w.alloc (.cells (rawL.map Value.string).toArray 9)).drewN n).cell? ⟨w.heap.size,k,none⟩ = some (.string rawL[k]):=by
    refine (zK (zN b1.out n) k).trans ?_
    simp [hk1]
    try rfl
   have hBW:=zV HB0.out n
   have CK:=HCC.out k hk1 _ hBW
   have HR:=zZ.mk ((shF_at s k hk2).symm.trans hR)
   clear hR hBW
   generalize hsq : shapeL[k] = sq at *
   generalize rawL[k] = rq at *
   generalize (Lib.cut rq.data.toList [58]).2.2 = bq at *
   obtain ⟨s1,s2⟩:=sq
   dsimp only at CK HR
   clear hsq
   go_wp2_with fail
   (with_reducible refine CK.out.mono ?_)
   rintro e w2 ⟨rfl,⟨m2,rfl⟩⟩
   clear CK q
   cases hq : (s2.toList == s.toList)
   ·
    go_wp2_with fail
    go_roundw
    case rel => exact ⟨k + 1,n + m2,by omega,by go_num,by have:=HR.out; rw [hq,if_neg (by simp)] at this; exact this,rfl⟩
    case measure => simp [intOf]; omega
   ·
    have hF:=HR.out
    rw [hq,if_pos rfl] at hF
    subst hF
    go_wp2
    go_ret2
    exact ⟨rfl,zV HB0.out (n + m2)⟩
  ·
   obtain rfl : k = 18:=by omega
   have hF:=hR
   rw [shF_end] at hF
   subst hF
   clear hR
   go_wp2
   go_ret2
   exact ⟨rfl,zV HB0.out n⟩
end Go.Proofs.YtjeofffddbibeaaDoor.Pa
end
