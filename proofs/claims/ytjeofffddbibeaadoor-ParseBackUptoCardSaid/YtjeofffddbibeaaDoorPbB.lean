/-
  Part 2 of what the row stands on, put together by a program: PParseTellsx0, PPar, Par1, Par2, Par3, ParT, ExprN, ExprV, ExprC, ExprO, ParM, ParE, Shelf, ParA, ParF, ParG, NameM, ExprR, Bkp.
-/
import Derived.ArgAppend
import Derived.Below
import Derived.BigQuiet
import Derived.Deep.AppendLies
import Derived.Deep.CutBlock
import Derived.Deep.DeepCutAuto
import Derived.Deep.Draws
import Derived.Deep.LoopGhost
import Derived.Deep.OwnRows
import Derived.Deep.QuietTactic
import Derived.Deep.RegionHeld3
import Derived.Ground.SlgnProg
import Derived.KernelRfl
import Derived.Laws.BitsLemmas
import Derived.Laws.BytesArg
import Derived.Laws.EntriesVeiled
import Derived.Laws.IdiomCopy
import Derived.Laws.MakeOwn
import Derived.Laws.OwnMore
import Derived.Laws.Rows
import Derived.Laws.Slices
import Derived.Lib.AppendStr
import Derived.Lib.Bytealg
import Derived.Lib.ConvBytes
import Derived.Lib.Fields
import Derived.Lib.IndexMore
import Derived.Lib.LaidTab
import Derived.Lib.SlicesS
import Derived.Lib.Space
import Derived.LoopN
import Derived.Maps.AppendAt
import Derived.OneCell
import Derived.OrdersHeld
import Derived.Outline
import Derived.OwnWalk
import Derived.RowKit
import Derived.RowKit3
import Derived.Shelf.LaysM
import Derived.Shelf.Slices.Turned
import Derived.Shelf.SlicesE.Clone
import Derived.Shelf.Small.Strs
import Derived.Shelf.Small.Utf8
import Derived.Shelf.Strings.AsciiSet
import Derived.Shelf.Strings.Cut
import Derived.Shelf.Strings.Fields
import Derived.Shelf.Strings.FieldsAny
import Derived.Shelf.Strings.FieldsFuncAny
import Derived.Shelf.Strings.Runes
import Derived.Shelf.Strings.Search1
import Derived.Shelf.Strings.Search2
import Derived.Shelf.Strings.Shaped
import Derived.Shelf.Strings.SlTrimAscii
import Derived.Shelf.Strings.SplitShaped
import Derived.Shelf.Strings.Trim
import Derived.Shelf.Unicode.Decode
import Derived.Shelf.Unicode.DecodeAny
import Derived.Shelf.Unicode.DecodeLast
import Derived.Shelf.Unicode.DecodeSlow
import Derived.Shelf.Unicode.ExclAny
import Derived.Shelf.Unicode.Is16Any
import Derived.Shelf.Unicode.Is16White
import Derived.Shelf.Unicode.Is16WhiteD
import Derived.Shelf.Unicode.Is32Any
import Derived.Shelf.Unicode.IsSpaceAny
import Derived.Shelf.Unicode.IsSpaceAnyD
import Derived.Shelf.Unicode.Latin
import Derived.ShutString
import Derived.StillTailTactics
import Derived.Tactics
import Derived.Test.YtjeofffddbibeaaDoorProg
import Derived.WalkKit
import Derived.WalkSmall
import Derived.WalkSpells
import Derived.WideLaws
import Derived.Test.YtjeofffddbibeaaDoorPbA
section
namespace Go.Proofs.YtjeofffddbibeaaDoor.PParseTells
open Go.RowKit Go.Proofs.YtjeofffddbibeaaDoorW.PrintWords Go.Proofs.YtjeofffddbibeaaDoorW.PrintLast Go.Proofs.YtjeofffddbibeaaDoorW.PrintMore
attribute [local go_sem] max2_int min2_int max_two min_two max_three min_three max_four min_four   -- for this text's walks alone
set_option linter.unusedVariables false
set_option linter.unusedSimpArgs false
def errW : Option Int → Value
  | none => .nilIface
  | some c => .iface 0 (.int .i64 c)
theorem errW_none : errW none = .nilIface := rfl
theorem errW_some (c : Int) : errW (some c) = .iface 0 (.int .i64 c) := rfl
theorem info9 : (Tryd.prog.info? 9).map (fun i => (i.zero, i.size, i.bytes)) = some (some (.string ⟨#[]⟩), 1, 16) := by kernel_rfl
theorem info61 : (Tryd.prog.info? 61).map (fun i => (i.zero, i.size, i.bytes)) = some (some (.agg #[(.int .u8 0), (.string ⟨#[]⟩), (.int .i64 0)]), 3, 32) := by kernel_rfl
structure S25 where
  f0 : Int
  f1 : ByteArray
  f2 : (List Int)
  f3 : (List S25)
def z25 : S25 := ⟨(0 : Int), (⟨#[]⟩ : ByteArray), ([] : List Int), ([] : List S25)⟩
def F25 (d : Kd S25) : Kd S25 := Kd.iso (Kd.pair (Kd.int .u8) (Kd.pair Kd.string (Kd.pair (Kd.slice 2 (Kd.int .i64)) (Kd.slice 25 d)))) (fun x : S25 => (x.f0, x.f1, x.f2, x.f3))
theorem mono25 : Kd.Mono F25 := Kd.mono_iso _ (Kd.mono_pair (Kd.mono_const _) (Kd.mono_pair (Kd.mono_const _) (Kd.mono_pair (Kd.mono_const _) (Kd.mono_slice 25 Kd.mono_id))))
theorem sub25 : Kd.Sub F25 [2, 25] := Kd.sub_iso _ (Kd.sub_pair (Kd.sub_const _ (by decide)) (Kd.sub_pair (Kd.sub_const _ (by decide)) (Kd.sub_pair (Kd.sub_const _ (by decide)) (Kd.sub_slice 25 (by decide) Kd.sub_id))))
theorem sz25 : ∀ n, (Kd.upto F25 4 [2, 25] n).sz = 4 := Kd.upto_sz (fun _ => rfl)
def k25 : Kd S25 := Kd.fix F25 4 [2, 25] sz25 (Kd.upto_E sub25)
theorem k25_open {w : World} {x : S25} {cs : List Value} (h : k25.K w x cs) : ∃ A2 c2 A3 c3, cs = [.int .u8 x.f0, .string x.f1, .slice A2 x.f2.length c2, .slice A3 x.f3.length c3] ∧ x.f2.length ≤ c2 ∧ (Kd.int .i64).C w A2 x.f2.length x.f2 ∧ x.f3.length ≤ c3 ∧ k25.C w A3 x.f3.length x.f3 := by
  obtain ⟨n, h⟩ := h
  cases n with
  | zero => exact h.elim
  | succ n =>
    obtain ⟨_, _, rfl, rfl, ⟨_, _, rfl, rfl, ⟨_, _, rfl, ⟨A2, c2, rfl, l2, g2⟩, ⟨A3, c3, rfl, l3, g3⟩⟩⟩⟩ := h
    exact ⟨A2, c2, A3, c3, rfl, l2, g2, l3, Kd.fix_C g3⟩
theorem k25_openM {w : World} {base : Nat} {ok : Nat → Prop} {x : S25} {cs : List Value} (h : k25.M w base ok x cs) : ∃ v2 v3, cs = [.int .u8 x.f0, .string x.f1, v2, v3] ∧ (Kd.int .i64).R 2 w base ok v2 x.f2 ∧ k25.R 25 w base ok v3 x.f3 := by
  obtain ⟨n, h⟩ := h
  cases n with
  | zero => exact h.elim
  | succ n =>
    obtain ⟨_, _, rfl, rfl, ⟨_, _, rfl, rfl, ⟨_, _, rfl, ⟨v2, rfl, g2⟩, ⟨v3, rfl, g3⟩⟩⟩⟩ := h
    exact ⟨v2, v3, rfl, g2, Kd.fix_R g3⟩
theorem k25_mk (w : World) (x : S25) {A2 : Option Addr} {c2 : Nat} (l2 : x.f2.length ≤ c2) (g2 : (Kd.int .i64).C w A2 x.f2.length x.f2) {A3 : Option Addr} {c3 : Nat} (l3 : x.f3.length ≤ c3) (g3 : k25.C w A3 x.f3.length x.f3) : k25.K w x [.int .u8 x.f0, .string x.f1, .slice A2 x.f2.length c2, .slice A3 x.f3.length c3] := by
  obtain ⟨n3, q3⟩ := Kd.fix_C_back mono25 g3
  have r3 := Kd.upto_C_le mono25 sz25 (show n3 ≤ n3 by omega) q3
  exact ⟨n3 + 1, ⟨[.int .u8 x.f0], [.string x.f1, .slice A2 x.f2.length c2, .slice A3 x.f3.length c3], rfl, rfl, ⟨[.string x.f1], [.slice A2 x.f2.length c2, .slice A3 x.f3.length c3], rfl, rfl, ⟨[.slice A2 x.f2.length c2], [.slice A3 x.f3.length c3], rfl, ⟨A2, c2, rfl, l2, g2⟩, ⟨A3, c3, rfl, l3, r3⟩⟩⟩⟩⟩
theorem k25_mkM (w : World) (base : Nat) (ok : Nat → Prop) (x : S25) {v2 : Value} (g2 : (Kd.int .i64).R 2 w base ok v2 x.f2) {v3 : Value} (g3 : k25.R 25 w base ok v3 x.f3) : k25.M w base ok x [.int .u8 x.f0, .string x.f1, v2, v3] := by
  obtain ⟨n3, q3⟩ := Kd.fix_R_back mono25 g3
  have r3 := Kd.upto_R_le mono25 sz25 (show n3 ≤ n3 by omega) q3
  exact ⟨n3 + 1, ⟨[.int .u8 x.f0], [.string x.f1, v2, v3], rfl, rfl, ⟨[.string x.f1], [v2, v3], rfl, rfl, ⟨[v2], [v3], rfl, ⟨v2, rfl, g2⟩, ⟨v3, rfl, r3⟩⟩⟩⟩⟩
def rd_T25 (xs : List S25) (i : Int) : S25 := xs.getD i.toNat z25
theorem at_T25 {w : World} {A : Option Addr} {n : Nat} {xs : List S25} (h : Kd.C k25 w A n xs) (i : Int) (h0 : 0 ≤ i) (h1 : i < n) : ∃ ad A2 c2 A3 c3, A = some ad ∧ w.cell? (ad.add (i.toNat * 4)) = some (.int .u8 (rd_T25 xs i).f0) ∧ w.cell? ⟨(ad.add (i.toNat * 4)).block, (ad.add (i.toNat * 4)).off + 1, none⟩ = some (.string (rd_T25 xs i).f1) ∧ w.cell? ⟨(ad.add (i.toNat * 4)).block, (ad.add (i.toNat * 4)).off + 2, none⟩ = some (.slice A2 (rd_T25 xs i).f2.length c2) ∧ w.cell? ⟨(ad.add (i.toNat * 4)).block, (ad.add (i.toNat * 4)).off + 3, none⟩ = some (.slice A3 (rd_T25 xs i).f3.length c3) ∧ (rd_T25 xs i).f2.length ≤ c2 ∧ (Kd.int .i64).C w A2 (rd_T25 xs i).f2.length (rd_T25 xs i).f2 ∧ (rd_T25 xs i).f3.length ≤ c3 ∧ k25.C w A3 (rd_T25 xs i).f3.length (rd_T25 xs i).f3 := by
  obtain ⟨ad, c, e, _, hK, hc0⟩ := Kd.C_get h z25 i h0 h1
  have hc : ∀ j u, c[j]? = some u → w.cell? (ad.add (i.toNat * 4 + j)) = some u := hc0
  obtain ⟨A2, c2, A3, c3, rfl, l2, g2, l3, g3⟩ := k25_open hK
  exact ⟨ad, A2, c2, A3, c3, e, hc 0 _ rfl, by rw [← add_field _ _ 1 (by omega)]; exact hc 1 _ rfl, by rw [← add_field _ _ 2 (by omega)]; exact hc 2 _ rfl, by rw [← add_field _ _ 3 (by omega)]; exact hc 3 _ rfl, l2, g2, l3, g3⟩
structure S159 where
  f0 : Int
  f1 : Int
  f2 : Int
structure S162 where
  f0 : Int
  f1 : Int
  f2 : Int
structure S61 where
  f0 : Int
  f1 : ByteArray
  f2 : Int
def z61 : S61 := ⟨(0 : Int), (⟨#[]⟩ : ByteArray), (0 : Int)⟩
def k61 : Kd S61 := Kd.iso (Kd.pair (Kd.int .u8) (Kd.pair Kd.string (Kd.int .i64))) (fun x : S61 => (x.f0, x.f1, x.f2))
theorem k61_open {w : World} {x : S61} {cs : List Value} (h : k61.K w x cs) : cs = [.int .u8 x.f0, .string x.f1, .int .i64 x.f2] := by
  obtain ⟨_, _, rfl, rfl, ⟨_, _, rfl, rfl, rfl⟩⟩ := h
  exact rfl
theorem k61_mk (w : World) (x : S61)  : k61.K w x [.int .u8 x.f0, .string x.f1, .int .i64 x.f2] := ⟨[.int .u8 x.f0], [.string x.f1, .int .i64 x.f2], rfl, rfl, ⟨[.string x.f1], [.int .i64 x.f2], rfl, rfl, rfl⟩⟩
theorem k61_mkM (w : World) (base : Nat) (ok : Nat → Prop) (x : S61)  : k61.M w base ok x [.int .u8 x.f0, .string x.f1, .int .i64 x.f2] := ⟨[.int .u8 x.f0], [.string x.f1, .int .i64 x.f2], rfl, rfl, ⟨[.string x.f1], [.int .i64 x.f2], rfl, rfl, rfl⟩⟩
def rd_T61 (xs : List S61) (i : Int) : S61 := xs.getD i.toNat z61
theorem at_T61 {w : World} {A : Option Addr} {n : Nat} {xs : List S61} (h : Kd.C k61 w A n xs) (i : Int) (h0 : 0 ≤ i) (h1 : i < n) : ∃ ad , A = some ad ∧ w.cell? (ad.add (i.toNat * 3)) = some (.int .u8 (rd_T61 xs i).f0) ∧ w.cell? ⟨(ad.add (i.toNat * 3)).block, (ad.add (i.toNat * 3)).off + 1, none⟩ = some (.string (rd_T61 xs i).f1) ∧ w.cell? ⟨(ad.add (i.toNat * 3)).block, (ad.add (i.toNat * 3)).off + 2, none⟩ = some (.int .i64 (rd_T61 xs i).f2) := by
  obtain ⟨ad, c, e, _, hK, hc0⟩ := Kd.C_get h z61 i h0 h1
  have hc : ∀ j u, c[j]? = some u → w.cell? (ad.add (i.toNat * 3 + j)) = some u := hc0
  obtain rfl := k61_open hK
  exact ⟨ad, e, hc 0 _ rfl, by rw [← add_field _ _ 1 (by omega)]; exact hc 1 _ rfl, by rw [← add_field _ _ 2 (by omega)]; exact hc 2 _ rfl⟩
end Go.Proofs.YtjeofffddbibeaaDoor.PParseTells
end

section
namespace Go.Proofs.YtjeofffddbibeaaDoor.PParseTells
open Go.RowKit Go.Proofs.YtjeofffddbibeaaDoorW.PrintWords Go.Proofs.YtjeofffddbibeaaDoorW.PrintLast Go.Proofs.YtjeofffddbibeaaDoorW.PrintMore
attribute [local go_sem] max2_int min2_int max_two min_two max_three min_three max_four min_four   -- for this text's walks alone
set_option linter.unusedVariables false
set_option linter.unusedSimpArgs false
def epactlaw09_Texts.l0 : Nat → List ByteArray → List ByteArray → Int → Int → Option (Bool)
  | 0, _, _, _, _ => none
  | k + 1, x0, x1, x12, x13 => if x13 < x12 then (if 0 ≤ x13 then (if x13 < (x0.length : Int) then (if x13 < (x1.length : Int) then (if (rdOf ByteArray.empty x0 x13).toList = (rdOf ByteArray.empty x1 x13).toList then (epactlaw09_Texts.l0 k x0 x1 x12 (wrap64 (x13 + 1))) else (some false)) else (none)) else (none)) else (none)) else (some true)
def epactlaw09_Texts.f (k : Nat) (l0 : List ByteArray) (l1 : List ByteArray) : Option (Bool) := if (l0.length : Int) = (l1.length : Int) then (epactlaw09_Texts.l0 k l0 l1 (l0.length : Int) 0) else (some false)
set_option maxHeartbeats 8000000 in
set_option maxRecDepth 100000 in
theorem epactlaw09_Texts.calls (k : Nat) (A0 : Option Addr) (c0 : Nat) (l0 : List ByteArray) (A1 : Option Addr) (c1 : Nat) (l1 : List ByteArray) (r : Bool) (w : World) (hr0 : Kd.C Kd.string w A0 l0.length l0) (hc0 : l0.length ≤ c0) (hr1 : Kd.C Kd.string w A1 l1.length l1) (hc1 : l1.length ≤ c1) (h : epactlaw09_Texts.f k l0 l1 = some r) :
    Calls Tryd.prog 15 #[.slice A0 l0.length c0, .slice A1 l1.length c1] w fun e w' => e = .returned (.bool r) ∧ Drawn0 w w' := by
  have HR0 := Aside0.mk hr0
  have HC0 := Aside0.mk hc0
  clear hr0 hc0
  have HR1 := Aside0.mk hr1
  have HC1 := Aside0.mk hc1
  clear hr1 hc1
  have H : (if (l0.length : Int) = (l1.length : Int) then (epactlaw09_Texts.l0 k l0 l1 (l0.length : Int) 0) else (some false)) = some r := h
  clear h
  by_cases c3 : (l0.length : Int) = (l1.length : Int)
  · rw [if_pos c3] at H
    have c3b0 : ((l0.length : Int) == (l1.length : Int)) = true := beq_iff_eq.mpr c3
    have c3b1 : ((l0.length : Int) != (l1.length : Int)) = false := bne_eq_false_iff_eq.mpr c3
    have c3b2 : (l0.length == l1.length) = true := by first | simpa using c3 | (simp at c3 ⊢; omega)
    clear c3
    have H' := Aside0.mk H
    clear H
    go_enter Tryd.func15, Tryd.ntmps15
    go_wp2
    repeat (go_quiet (fail); try go_wp2)
    go_loopg [13] k (fun kq v13 w' => ∃ (x13_1 : Int), v13 = .int .i64 x13_1 ∧ Aside0 (epactlaw09_Texts.l0 kq l0 l1 (l0.length : Int) x13_1 = some r) ∧ Aside0 (kq ≤ k) ∧ Drawn0 w w')
    case atStart => exact ⟨(0), (by first | rfl | (simp; done) | (simp [*]; done)), H', ⟨Nat.le_refl _⟩, by repeat (first | exact Drawn0.refl _ | apply Drawn0.step)⟩
    case round =>
      clear H'
      try clear c1
      try clear p2
      try clear c3
      try clear c3b0
      try clear c3b1
      try clear c3b2
      obtain ⟨x13_1, rfl, HA, HK1, ⟨m1, rfl⟩⟩ := hrel
      cases gk with
      | zero => exact absurd HA.out (by simp [epactlaw09_Texts.l0])
      | succ k1 =>
        have H := HA.out
        clear HA
        simp only [epactlaw09_Texts.l0] at H
        by_cases c4 : x13_1 < (l0.length : Int)
        · rw [if_pos c4] at H
          have c4b0 : decide (x13_1 < (l0.length : Int)) = true := decide_eq_true c4
          clear c4
          by_cases c5 : 0 ≤ x13_1
          · rw [if_pos c5] at H
            have c5b0 : decide (0 ≤ x13_1) = true := decide_eq_true c5
            clear c5
            by_cases c6 : x13_1 < (l0.length : Int)
            · rw [if_pos c6] at H
              have c6b0 : decide (x13_1 < (l0.length : Int)) = true := decide_eq_true c6
              clear c6
              by_cases c7 : x13_1 < (l1.length : Int)
              · rw [if_pos c7] at H
                have c7b0 : decide (x13_1 < (l1.length : Int)) = true := decide_eq_true c7
                clear c7
                by_cases c8 : (rdOf ByteArray.empty l0 x13_1).toList = (rdOf ByteArray.empty l1 x13_1).toList
                · rw [if_pos c8] at H
                  have c8b0 : ((rdOf ByteArray.empty l0 x13_1).toList == (rdOf ByteArray.empty l1 x13_1).toList) = true := beq_iff_eq.mpr c8
                  have c8b1 : ((rdOf ByteArray.empty l0 x13_1).toList != (rdOf ByteArray.empty l1 x13_1).toList) = false := bne_eq_false_iff_eq.mpr c8
                  clear c8
                  have H' := Aside0.mk H
                  clear H
                  have p109 : 0 ≤ (x13_1 : Int) := of_decide_eq_true (by first | (with_reducible assumption) | assumption)
                  have q109 : x13_1 < (l0.length : Int) := of_decide_eq_true (by first | (with_reducible assumption) | assumption)
                  obtain ⟨ad109, e109, hx109_0⟩ := Kd.at_string HR0.out x13_1 p109 q109
                  cases e109
                  replace p109 := eq_true p109
                  replace q109 := eq_true q109
                  have p110 : 0 ≤ (x13_1 : Int) := of_decide_eq_true (by first | (with_reducible assumption) | assumption)
                  have q110 : x13_1 < (l1.length : Int) := of_decide_eq_true (by first | (with_reducible assumption) | assumption)
                  obtain ⟨ad110, e110, hx110_0⟩ := Kd.at_string HR1.out x13_1 p110 q110
                  cases e110
                  replace p110 := eq_true p110
                  replace q110 := eq_true q110
                  go_wp2
                  repeat (go_quiet (fail); try go_wp2)
                  go_roundg k1
                  case measure => have := HK1.out; omega
                  case rel => exact ⟨(wrap64 (x13_1 + 1)), (by first | rfl | (simp; done) | (simp [*]; done)), H', ⟨by have := HK1.out; omega⟩, by repeat (first | exact Drawn0.refl _ | apply Drawn0.step)⟩
                · rw [if_neg c8] at H
                  have c8b0 : ((rdOf ByteArray.empty l0 x13_1).toList == (rdOf ByteArray.empty l1 x13_1).toList) = false := beq_eq_false_iff_ne.mpr c8
                  have c8b1 : ((rdOf ByteArray.empty l0 x13_1).toList != (rdOf ByteArray.empty l1 x13_1).toList) = true := bne_iff_ne.mpr c8
                  obtain rfl := Option.some.inj H
                  have p109 : 0 ≤ (x13_1 : Int) := of_decide_eq_true (by first | (with_reducible assumption) | assumption)
                  have q109 : x13_1 < (l0.length : Int) := of_decide_eq_true (by first | (with_reducible assumption) | assumption)
                  obtain ⟨ad109, e109, hx109_0⟩ := Kd.at_string HR0.out x13_1 p109 q109
                  cases e109
                  replace p109 := eq_true p109
                  replace q109 := eq_true q109
                  have p110 : 0 ≤ (x13_1 : Int) := of_decide_eq_true (by first | (with_reducible assumption) | assumption)
                  have q110 : x13_1 < (l1.length : Int) := of_decide_eq_true (by first | (with_reducible assumption) | assumption)
                  obtain ⟨ad110, e110, hx110_0⟩ := Kd.at_string HR1.out x13_1 p110 q110
                  cases e110
                  replace p110 := eq_true p110
                  replace q110 := eq_true q110
                  go_wp2
                  repeat (go_quiet (fail); try go_wp2)
                  go_ret
                  exact ⟨by first | rfl | (simp; done) | (simp [*]; done), by repeat (first | exact Drawn0.refl _ | apply Drawn0.step)⟩
              · rw [if_neg c7] at H
                exact absurd H (by simp)
            · rw [if_neg c6] at H
              exact absurd H (by simp)
          · rw [if_neg c5] at H
            exact absurd H (by simp)
        · rw [if_neg c4] at H
          have c4b0 : decide (x13_1 < (l0.length : Int)) = false := decide_eq_false c4
          clear c4
          obtain rfl := Option.some.inj H
          go_wp2
          repeat (go_quiet (fail); try go_wp2)
          go_ret
          exact ⟨by first | rfl | (simp; done) | (simp [*]; done), by repeat (first | exact Drawn0.refl _ | apply Drawn0.step)⟩
  · rw [if_neg c3] at H
    have c3b0 : ((l0.length : Int) == (l1.length : Int)) = false := beq_eq_false_iff_ne.mpr c3
    have c3b1 : ((l0.length : Int) != (l1.length : Int)) = true := bne_iff_ne.mpr c3
    have c3b2 : (l0.length == l1.length) = false := by first | simpa using c3 | (simp at c3 ⊢; omega)
    obtain rfl := Option.some.inj H
    go_enter Tryd.func15, Tryd.ntmps15
    go_wp2
    repeat (go_quiet (fail); try go_wp2)
    go_ret
    exact ⟨by first | rfl | (simp; done) | (simp [*]; done), by repeat (first | exact Drawn0.refl _ | apply Drawn0.step)⟩
/-- A state of type 94 at block g of W; what its slices lead to came in by w0. -/
def IsS94 (w0 W : World) (g : Nat) (f0 : List (S61)) (f1 : Int) (f2 : Int) : Prop := ∃ A0 c0, W.heap[g]? = some (.cells #[.slice A0 f0.length c0, .int .i64 f1, .int .i64 f2] 94 (0, 0)) ∧ w0.heap.size ≤ g ∧ Kd.C k61 w0 A0 f0.length f0
theorem IsS94.grown {w0 W : World} {g : Nat} {f0 : List (S61)} {f1 : Int} {f2 : Int} {W1 : World} {row : Option Nat} (h : IsS94 w0 W g f0 f1 f2) (hw : W.grownBy W1 row) (hne : some g ≠ row) : IsS94 w0 W1 g f0 f1 f2 := by
  obtain ⟨A0, c0, hb, hg, hr0⟩ := h
  exact ⟨A0, c0, blk_grown hb hw hne, hg, hr0⟩
theorem IsS94.kept {w0 W : World} {g : Nat} {f0 : List (S61)} {f1 : Int} {f2 : Int} {W1 : World} {S : Nat → Prop} (h : IsS94 w0 W g f0 f1 f2) (hk : Kept W W1 S) (hne : ¬ S g) : IsS94 w0 W1 g f0 f1 f2 := by
  obtain ⟨A0, c0, hb, hg, hr0⟩ := h
  exact ⟨A0, c0, blk_kept hb hk hne, hg, hr0⟩
theorem IsS94.below {w0 W : World} {g : Nat} {f0 : List (S61)} {f1 : Int} {f2 : Int} {W1 : World} (h : IsS94 w0 W g f0 f1 f2) (hw : Below W.heap.size W W1) : IsS94 w0 W1 g f0 f1 f2 := h.grown (grown_of_below hw none) (by simp)
theorem IsS94.alloc {w0 W : World} {g : Nat} {f0 : List (S61)} {f1 : Int} {f2 : Int} (h : IsS94 w0 W g f0 f1 f2) (o : Obj) : IsS94 w0 (W.alloc o) g f0 f1 f2 := h.below (below_alloc (Below.refl _ _) o)
theorem IsS94.drewN {w0 W : World} {g : Nat} {f0 : List (S61)} {f1 : Int} {f2 : Int} (h : IsS94 w0 W g f0 f1 f2) (m : Nat) : IsS94 w0 (W.drewN m) g f0 f1 f2 := h
theorem IsS94.drew {w0 W : World} {g : Nat} {f0 : List (S61)} {f1 : Int} {f2 : Int} (h : IsS94 w0 W g f0 f1 f2) : IsS94 w0 W.drew g f0 f1 f2 := h
theorem IsS94.at_ {w0 W : World} {g : Nat} {f0 : List (S61)} {f1 : Int} {f2 : Int} {w' : World} {m : Nat} (hq : W.drewN m = w') (h : IsS94 w0 W g f0 f1 f2) : IsS94 w0 w' g f0 f1 f2 := by subst hq; exact IsS94.drewN h m
theorem IsS94.apart {w0 W : World} {g : Nat} {f0 : List (S61)} {f1 : Int} {f2 : Int} {α : Type} {d : Kd α} {e : Nat} {base : Nat} {ok : Nat → Prop} {v : Value} {xs : List α} (h : IsS94 w0 W g f0 f1 f2) (ho : d.R e W base ok v xs) (ht : ∀ q, q ∈ e :: d.E → q ≠ 94) : d.R e W base (fun k => ok k ∧ k ≠ g) v xs := by
  obtain ⟨A0, c0, hb, hg, hr0⟩ := h
  exact Kd.R_types ho hb ht
theorem IsS94.own_ne {w0 W : World} {g : Nat} {f0 : List (S61)} {f1 : Int} {f2 : Int} {α : Type} {d : Kd α} {e : Nat} {base : Nat} {ok : Nat → Prop} {v : Value} {xs : List α} (h : IsS94 w0 W g f0 f1 f2) (ho : d.R e W base ok v xs) (ht : e ≠ 94) : some g ≠ v.ownBlock := by
  obtain ⟨A0, c0, hb, hg, hr0⟩ := h
  exact Kd.R_ne ho hb ht
theorem IsS94.lt {w0 W : World} {g : Nat} {f0 : List (S61)} {f1 : Int} {f2 : Int} (h : IsS94 w0 W g f0 f1 f2) : g < W.heap.size := by
  obtain ⟨A0, c0, hb, hg, hr0⟩ := h
  exact blk_lt hb
theorem IsS94.ge {w0 W : World} {g : Nat} {f0 : List (S61)} {f1 : Int} {f2 : Int} (h : IsS94 w0 W g f0 f1 f2) : w0.heap.size ≤ g := by
  obtain ⟨A0, c0, hb, hg, hr0⟩ := h
  exact hg
theorem IsS94.far {w0 W : World} {g : Nat} {f0 : List (S61)} {f1 : Int} {f2 : Int} {p : Addr} (h : IsS94 w0 W g f0 f1 f2) (hne : g ≠ p.block) (u : Value) : IsS94 w0 (W.setCell p u) g f0 f1 f2 := by
  obtain ⟨A0, c0, hb, hg, hr0⟩ := h
  exact ⟨A0, c0, blk_far hb hne u, hg, hr0⟩
theorem IsS94.new (w0 W : World) (A0 : Option Addr) (c0 : Nat) (f0 : List (S61)) (f1 : Int) (f2 : Int) (hB : Below w0.heap.size w0 W) (hr0 : Kd.C k61 w0 A0 f0.length f0) : IsS94 w0 (W.alloc (.cells #[.slice A0 f0.length c0, .int .i64 f1, .int .i64 f2] 94)) W.heap.size f0 f1 f2 := ⟨A0, c0, by simpa using heap_alloc_new W _, hB.size, hr0⟩
def slices_Index_uint8_uint8.l0 : Nat → List Int → Int → Int → Int → Option (Int)
  | 0, _, _, _, _ => none
  | k + 1, x0, x1, x7, x8 => if x8 < x7 then (if 0 ≤ x8 then (if x8 < (x0.length : Int) then (if x1 = (rd x0 x8) then (some x8) else (slices_Index_uint8_uint8.l0 k x0 x1 x7 (wrap64 (x8 + 1)))) else (none)) else (none)) else (some (-1))
def slices_Index_uint8_uint8.f (k : Nat) (l0 : List Int) (a1 : Int) : Option (Int) := slices_Index_uint8_uint8.l0 k l0 a1 (l0.length : Int) 0
set_option maxHeartbeats 8000000 in
set_option maxRecDepth 100000 in
theorem slices_Index_uint8_uint8.calls (k : Nat) (A0 : Option Addr) (c0 : Nat) (l0 : List Int) (a1 : Int) (r : Int) (w : World) (hr0 : Kd.C (Kd.int .u8) w A0 l0.length l0) (hc0 : l0.length ≤ c0) (h : slices_Index_uint8_uint8.f k l0 a1 = some r) :
    Calls Tryd.prog 116 #[.slice A0 l0.length c0, .int .u8 a1] w fun e w' => e = .returned (.int .i64 r) ∧ Drawn0 w w' := by
  have HR0 := Aside0.mk hr0
  have HC0 := Aside0.mk hc0
  clear hr0 hc0
  have H : (slices_Index_uint8_uint8.l0 k l0 a1 (l0.length : Int) 0) = some r := h
  clear h
  have H' := Aside0.mk H
  clear H
  go_enter Tryd.func116, Tryd.ntmps116
  go_wp2
  go_loopg [8] k (fun kq v8 w' => ∃ (x8_1 : Int), v8 = .int .i64 x8_1 ∧ Aside0 (slices_Index_uint8_uint8.l0 kq l0 a1 (l0.length : Int) x8_1 = some r) ∧ Aside0 (kq ≤ k) ∧ Drawn0 w w')
  case atStart => exact ⟨(0), (by first | rfl | (simp; done) | (simp [*]; done)), H', ⟨Nat.le_refl _⟩, by repeat (first | exact Drawn0.refl _ | apply Drawn0.step)⟩
  case round =>
    clear H'
    try clear c1
    try clear p2
    obtain ⟨x8_1, rfl, HA, HK1, ⟨m1, rfl⟩⟩ := hrel
    cases gk with
    | zero => exact absurd HA.out (by simp [slices_Index_uint8_uint8.l0])
    | succ k1 =>
      have H := HA.out
      clear HA
      simp only [slices_Index_uint8_uint8.l0] at H
      by_cases c3 : x8_1 < (l0.length : Int)
      · rw [if_pos c3] at H
        have c3b0 : decide (x8_1 < (l0.length : Int)) = true := decide_eq_true c3
        clear c3
        by_cases c4 : 0 ≤ x8_1
        · rw [if_pos c4] at H
          have c4b0 : decide (0 ≤ x8_1) = true := decide_eq_true c4
          clear c4
          by_cases c5 : x8_1 < (l0.length : Int)
          · rw [if_pos c5] at H
            have c5b0 : decide (x8_1 < (l0.length : Int)) = true := decide_eq_true c5
            clear c5
            by_cases c6 : a1 = (rd l0 x8_1)
            · rw [if_pos c6] at H
              have c6b0 : (a1 == (rd l0 x8_1)) = true := beq_iff_eq.mpr c6
              have c6b1 : (a1 != (rd l0 x8_1)) = false := bne_eq_false_iff_eq.mpr c6
              clear c6
              obtain rfl := Option.some.inj H
              have p117 : 0 ≤ (x8_1 : Int) := of_decide_eq_true (by first | (with_reducible assumption) | assumption)
              have q117 : x8_1 < (l0.length : Int) := of_decide_eq_true (by first | (with_reducible assumption) | assumption)
              obtain ⟨ad117, e117, hx117_0⟩ := Kd.at_int HR0.out x8_1 p117 q117
              cases e117
              replace p117 := eq_true p117
              replace q117 := eq_true q117
              go_wp2
              go_ret
              exact ⟨by first | rfl | (simp; done) | (simp [*]; done), by repeat (first | exact Drawn0.refl _ | apply Drawn0.step)⟩
            · rw [if_neg c6] at H
              have c6b0 : (a1 == (rd l0 x8_1)) = false := beq_eq_false_iff_ne.mpr c6
              have c6b1 : (a1 != (rd l0 x8_1)) = true := bne_iff_ne.mpr c6
              have H' := Aside0.mk H
              clear H
              have p117 : 0 ≤ (x8_1 : Int) := of_decide_eq_true (by first | (with_reducible assumption) | assumption)
              have q117 : x8_1 < (l0.length : Int) := of_decide_eq_true (by first | (with_reducible assumption) | assumption)
              obtain ⟨ad117, e117, hx117_0⟩ := Kd.at_int HR0.out x8_1 p117 q117
              cases e117
              replace p117 := eq_true p117
              replace q117 := eq_true q117
              go_wp2
              go_roundg k1
              case measure => have := HK1.out; omega
              case rel => exact ⟨(wrap64 (x8_1 + 1)), (by first | rfl | (simp; done) | (simp [*]; done)), H', ⟨by have := HK1.out; omega⟩, by repeat (first | exact Drawn0.refl _ | apply Drawn0.step)⟩
          · rw [if_neg c5] at H
            exact absurd H (by simp)
        · rw [if_neg c4] at H
          exact absurd H (by simp)
      · rw [if_neg c3] at H
        have c3b0 : decide (x8_1 < (l0.length : Int)) = false := decide_eq_false c3
        clear c3
        obtain rfl := Option.some.inj H
        go_wp2
        go_ret
        exact ⟨by first | rfl | (simp; done) | (simp [*]; done), by repeat (first | exact Drawn0.refl _ | apply Drawn0.step)⟩
def slices_Contains_uint8_uint8.f (k : Nat) (l0 : List Int) (a1 : Int) : Option (Bool) := (slices_Index_uint8_uint8.f k l0 a1).bind fun t118 => (some (decide (t118 ≥ 0)))
set_option maxHeartbeats 8000000 in
set_option maxRecDepth 100000 in
theorem slices_Contains_uint8_uint8.calls (k : Nat) (A0 : Option Addr) (c0 : Nat) (l0 : List Int) (a1 : Int) (r : Bool) (w : World) (hr0 : Kd.C (Kd.int .u8) w A0 l0.length l0) (hc0 : l0.length ≤ c0) (h : slices_Contains_uint8_uint8.f k l0 a1 = some r) :
    Calls Tryd.prog 95 #[.slice A0 l0.length c0, .int .u8 a1] w fun e w' => e = .returned (.bool r) ∧ Drawn0 w w' := by
  have HR0 := Aside0.mk hr0
  have HC0 := Aside0.mk hc0
  clear hr0 hc0
  have H : ((slices_Index_uint8_uint8.f k l0 a1).bind fun t118 => (some (decide (t118 ≥ 0)))) = some r := h
  clear h
  replace H := Option.bind_eq_some_iff.mp H
  obtain ⟨t118, A30, H⟩ := H
  replace H : (some (decide (t118 ≥ 0))) = some r := H
  have A3 := Aside0.mk A30
  clear A30
  obtain rfl := Option.some.inj H
  go_enter Tryd.func95, Tryd.ntmps95
  go_wp2_with (first | ((with_reducible refine gate_callee (f := 116) rfl ?_); refine goesL_ (some 7) rfl rfl Tryd.func116 (by kernel_rfl) rfl #[.slice A0 l0.length c0, .int .u8 a1] rfl (by (try simp only [List.map_toArray, List.map_cons, List.map_nil]); first | done | rfl | (simp only [List.length_drop, List.length_take]; rfl)) ?_; (with_reducible refine (slices_Index_uint8_uint8.calls k _ _ l0 a1 t118 _ ?side1 ?side2 A3.out).mono ?_); (case side1 => repeat (first | exact HR0.out | (with_reducible refine Kd.C_alloc ?_ _) | (with_reducible refine Kd.C_drewN ?_ _) | (with_reducible refine Kd.C_drew ?_))); (case side2 => exact HC0.out); rintro e w' ⟨rfl, ⟨nd, rfl⟩⟩; refine ⟨_, rfl, ?_⟩))
  go_ret
  exact ⟨by first | rfl | (simp; done) | (simp [*]; done), by repeat (first | exact Drawn0.refl _ | apply Drawn0.step)⟩
end Go.Proofs.YtjeofffddbibeaaDoor.PParseTells
end

section
namespace Go.Proofs.YtjeofffddbibeaaDoor.Pa
open Go Go.RowKit Go.Proofs.YtjeofffddbibeaaDoor.PParseTells Go.Proofs.YtjeofffddbibeaaDoorW.PrintWords Go.Proofs.YtjeofffddbibeaaDoorW.PrintLast Go.Proofs.YtjeofffddbibeaaDoorW.PrintMore
set_option linter.unusedVariables false
set_option linter.unusedSimpArgs false
abbrev Tok := S61
abbrev tokV (t : Tok) : Value := .agg #[.int .u8 t.f0, .string t.f1, .int .i64 t.f2]
/-- The parser lies at g: the words that are left, how many there were, how many parts there are; nothing that was there before has changed. -/
def IsP (w0 W : World) (g : Nat) (L : List Tok) (a p : Int) : Prop :=
  ∃ A0 c0, W.heap[g]? = some (.cells #[.slice A0 L.length c0, .int .i64 a, .int .i64 p] 94 (0, 0)) ∧ w0.heap.size ≤ g ∧ L.length ≤ c0 ∧ Kd.C k61 w0 A0 L.length L ∧ Below w0.heap.size w0 W
theorem IsP.keep {w0 W W1 : World} {g : Nat} {L : List Tok} {a p : Int} (h : IsP w0 W g L a p) (hk : Below W.heap.size W W1) : IsP w0 W1 g L a p := by
  obtain ⟨A0, c0, h1, h2, h3, h4, h5⟩ := h
  exact ⟨A0, c0, (hk.block g (blk_lt h1)).trans h1, h2, h3, h4, below_then h5 h5.size hk⟩
theorem IsP.lt {w0 W : World} {g : Nat} {L : List Tok} {a p : Int} (h : IsP w0 W g L a p) : g < W.heap.size := by
  obtain ⟨A0, c0, h1, _⟩ := h
  exact blk_lt h1
/-- The next word's cells. -/
theorem IsP.head {w0 W : World} {g : Nat} {t : Tok} {r : List Tok} {a p : Int} (h : IsP w0 W g (t :: r) a p) :
    ∃ ad c0, W.heap[g]? = some (.cells #[.slice (some ad) (r.length + 1) c0, .int .i64 a, .int .i64 p] 94 (0, 0)) ∧ r.length + 1 ≤ c0 ∧ W.cell? ad = some (.int .u8 t.f0) ∧ W.cell? ⟨ad.block, ad.off + 1, none⟩ = some (.string t.f1) ∧ W.cell? ⟨ad.block, ad.off + 2, none⟩ = some (.int .i64 t.f2) ∧ r.length + 1 ≤ 9223372036854775807 := by
  obtain ⟨A0, c0, h1, h2, h3, h4, h5⟩ := h
  have hC := Kd.C_below h4 h5
  obtain ⟨ad, rfl, c1, c2, c3⟩ := at_T61 hC 0 (by omega) (by simp)
  have e : ad.add ((0 : Int).toNat * 3) = ad := by show ad.add 0 = ad; exact Addr.add_zero' ad
  rw [e] at c1 c2 c3
  exact ⟨ad, c0, h1, h3, c1, c2, c3, hC.2.1⟩
def kindF : List Tok → Int
  | [] => 0
  | t :: _ => t.f0
def isF (s : ByteArray) : List Tok → Bool
  | [] => false
  | t :: _ => decide (t.f0 = 4) && (t.f1.toList == s.toList)
set_option maxHeartbeats 4000000 in
theorem kind_calls (g : Nat) (L : List Tok) (a p : Int) (w0 w : World) (hI : IsP w0 w g L a p) :
    Calls Tryd.prog 82 #[.pointer (some ⟨g, 0, none⟩)] w fun e w' => e = .returned (.int .u8 (kindF L)) ∧ Drawn0 w w' := by
  cases L with
  | nil =>
    obtain ⟨A0, c0, h1, h2, h3, h4, h5⟩ := hI
    have q0 : w.cell? ⟨g, 0, none⟩ = some (.slice A0 0 c0) := (blk_cell h1 0).trans rfl
    have hk : kindF [] = 0 := rfl
    rw [hk]
    clear h1 h2 h3 h4 h5 hk
    go_enter Tryd.func82, Tryd.ntmps82
    go_wp2
    go_ret
    exact ⟨rfl, by repeat (first | exact Drawn0.refl _ | apply Drawn0.step)⟩
  | cons t r =>
    obtain ⟨ad, c0, h1, h3, c1, c2, c3, hm⟩ := hI.head
    have q0 : w.cell? ⟨g, 0, none⟩ = some (.slice (some ad) (r.length + 1) c0) := (blk_cell h1 0).trans rfl
    have hk : kindF (t :: r) = t.f0 := rfl
    rw [hk]
    obtain ⟨N, hN⟩ : ∃ N, N = r.length + 1 := ⟨_, rfl⟩
    rw [← hN] at q0
    have n1 : ((N : Int) == 0) = false := beq_eq_false_iff_ne.2 (by omega)
    have n2 : (0 : Int) < (N : Int) := by omega
    have n3 : ¬ (N = 0) := by omega
    have n4 : 0 < N := by omega
    clear h1 h3 hk hN hI hm
    go_enter Tryd.func82, Tryd.ntmps82
    go_wp2
    go_ret
    exact ⟨rfl, by repeat (first | exact Drawn0.refl _ | apply Drawn0.step)⟩
theorem IsP.drawn {w0 W W1 : World} {g : Nat} {L : List Tok} {a p : Int} (h : IsP w0 W g L a p) (hk : Drawn0 W W1) : IsP w0 W1 g L a p := h.keep hk.below
set_option maxHeartbeats 4000000 in
theorem is_calls (g : Nat) (s : ByteArray) (L : List Tok) (a p : Int) (w0 w : World) (hI : IsP w0 w g L a p) :
    Calls Tryd.prog 96 #[.pointer (some ⟨g, 0, none⟩), .string s] w fun e w' => e = .returned (.bool (isF s L)) ∧ Drawn0 w w' := by
  have CK := Aside0.mk (kind_calls g L a p w0 w hI)
  cases L with
  | nil =>
    have hk : kindF [] = 0 := rfl
    have hi : isF s [] = false := rfl
    rw [hk] at CK
    rw [hi]
    clear hk hi hI
    go_enter Tryd.func96, Tryd.ntmps96
    go_wp2_with fail
    (with_reducible refine CK.out.mono ?_)
    rintro e w1 ⟨rfl, hd1⟩
    have HD := Aside0.mk hd1
    clear hd1
    go_wp2
    go_ret
    exact ⟨rfl, by repeat (first | exact HD.out | exact Drawn0.refl _ | apply Drawn0.step)⟩
  | cons t r =>
    have hk : kindF (t :: r) = t.f0 := rfl
    have hi : isF s (t :: r) = (decide (t.f0 = 4) && (t.f1.toList == s.toList)) := rfl
    rw [hk] at CK
    rw [hi]
    have HI := Aside0.mk hI
    clear hk hi hI
    by_cases h4 : t.f0 = 4
    · have e4 : (t.f0 == 4) = true := beq_iff_eq.2 h4
      rw [decide_eq_true h4, Bool.true_and]
      go_enter Tryd.func96, Tryd.ntmps96
      go_wp2_with fail
      (with_reducible refine CK.out.mono ?_)
      rintro e w1 ⟨rfl, hd1⟩
      obtain ⟨ad, c0, h1, h3, c1, c2, c3, hm⟩ := (HI.out.drawn hd1).head
      have q0 : w1.cell? ⟨g, 0, none⟩ = some (.slice (some ad) (r.length + 1) c0) := (blk_cell h1 0).trans rfl
      have HD := Aside0.mk hd1
      have n2 : (0 : Int) < ((r.length : Int) + 1) := by omega
      clear hd1 h1 h3 hm h4
      go_wp2
      go_ret
      exact ⟨rfl, by repeat (first | exact HD.out | exact Drawn0.refl _ | apply Drawn0.step)⟩
    · have e4 : (t.f0 == 4) = false := beq_eq_false_iff_ne.2 h4
      rw [decide_eq_false h4, Bool.false_and]
      go_enter Tryd.func96, Tryd.ntmps96
      go_wp2_with fail
      (with_reducible refine CK.out.mono ?_)
      rintro e w1 ⟨rfl, hd1⟩
      have HD := Aside0.mk hd1
      clear hd1 h4
      go_wp2
      go_ret
      exact ⟨rfl, by repeat (first | exact HD.out | exact Drawn0.refl _ | apply Drawn0.step)⟩
end Go.Proofs.YtjeofffddbibeaaDoor.Pa
end

section
namespace Go.Proofs.YtjeofffddbibeaaDoor.Pa
open Go Go.RowKit Go.Proofs.YtjeofffddbibeaaDoor.PParseTells Go.Proofs.YtjeofffddbibeaaDoorW.PrintWords Go.Proofs.YtjeofffddbibeaaDoorW.PrintLast Go.Proofs.YtjeofffddbibeaaDoorW.PrintMore
set_option linter.unusedVariables false
set_option linter.unusedSimpArgs false
/-- Nothing but the parser has changed. -/
abbrev At (g : Nat) : Nat → Prop := fun k => k = g
theorem blk_far {w : World} {g : Nat} {o : Obj} (h : w.heap[g]? = some o) {p : Addr} (hp : p.block ≠ g) (u : Value) : (w.setCell p u).heap[g]? = some o := (Below.heap_setCell w p u g (Ne.symm hp)).trans h
theorem IsP.mv {w0 W W1 : World} {g : Nat} {L : List Tok} {a p : Int} (h : IsP w0 W g L a p) {S : Nat → Prop} (hk : Kept W W1 S) (hB : Below w0.heap.size w0 W1) (hg : ¬ S g) : IsP w0 W1 g L a p := by
  obtain ⟨A0, c0, h1, h2, h3, h4, h5⟩ := h
  exact ⟨A0, c0, (hk.2 g (blk_lt h1) hg).trans h1, h2, h3, h4, hB⟩
theorem IsP.low {w0 W : World} {g : Nat} {L : List Tok} {a p : Int} (h : IsP w0 W g L a p) : Below w0.heap.size w0 W := by
  obtain ⟨A0, c0, h1, h2, h3, h4, h5⟩ := h
  exact h5
theorem IsP.ge {w0 W : World} {g : Nat} {L : List Tok} {a p : Int} (h : IsP w0 W g L a p) : w0.heap.size ≤ g := by
  obtain ⟨A0, c0, h1, h2, _⟩ := h
  exact h2
/-- What is behind the first word. -/
theorem IsP.tail {w0 W : World} {g : Nat} {t : Tok} {r : List Tok} {a p : Int} (h : IsP w0 W g (t :: r) a p) :
    ∃ ad c0, W.heap[g]? = some (.cells #[.slice (some ad) (r.length + 1) c0, .int .i64 a, .int .i64 p] 94 (0, 0)) ∧ r.length + 1 ≤ c0 ∧ W.cell? ad = some (.int .u8 t.f0) ∧ W.cell? ⟨ad.block, ad.off + 1, none⟩ = some (.string t.f1) ∧ W.cell? ⟨ad.block, ad.off + 2, none⟩ = some (.int .i64 t.f2) ∧ r.length + 1 ≤ 9223372036854775807 ∧ 
      ∀ W1, W1.heap[g]? = some (.cells #[.slice (if c0 = 1 then some ad else some (ad.add 3)) r.length (c0 - 1), .int .i64 a, .int .i64 p] 94 (0, 0)) → Below w0.heap.size w0 W1 → IsP w0 W1 g r a p := by
  obtain ⟨ad, c0, h1, h3, c1, c2, c3, hm⟩ := h.head
  obtain ⟨A0, c0', e1, e2, e3, e4, e5⟩ := h
  rw [h1] at e1
  simp only [Option.some.injEq, Obj.cells.injEq] at e1
  have e6 := e1.1
  simp only [Array.mk.injEq, List.cons.injEq, Value.slice.injEq] at e6
  obtain ⟨⟨rfl, _, rfl⟩, _⟩ := e6
  refine ⟨ad, c0, h1, h3, c1, c2, c3, hm, ?_⟩
  intro W1 b1 b2
  have hd := Kd.C_drop (m := 1) (c := c0) e4 (by simp) e3
  rw [show (if c0 = 1 then some ad else (some ad).map (·.add (1 * k61.sz))) = (if c0 = 1 then some ad else some (ad.add 3)) from rfl] at hd
  exact ⟨_, c0 - 1, b1, e2, by omega, hd, b2⟩
theorem IsP.fin {w0 w W1 : World} {g : Nat} {L : List Tok} {a p : Int} (h : IsP w0 w g L a p) (hk : Kept w W1 (fun _ => False)) (hB : Below w0.heap.size w0 W1) : IsP w0 W1 g L a p ∧ Kept w W1 (At g) := ⟨h.mv hk hB (fun h => h), hk.mono (fun _ h => h.elim)⟩
theorem kept_at {w W : World} {g : Nat} (h : Kept w W (At g)) (i : Nat) (u : Value) : Kept w (W.setCell ⟨g, i, none⟩ u) (At g) := h.setCell (p := ⟨g, i, none⟩) (.inl rfl) u
theorem kept_new {w W : World} {S : Nat → Prop} {b : Nat} (h : Kept w W S) (i : Nat) (u : Value) (hb : w.heap.size ≤ b) : Kept w (W.setCell ⟨b, i, none⟩ u) S := h.setCell (p := ⟨b, i, none⟩) (.inr hb) u
/-- What has changed by then: the parser alone. -/
theorem kinds_C (w : World) (ks : List Int) (hl : ks.length ≤ 9223372036854775807) : (Kd.int .u8).C (w.alloc (.cells (ks.map (Value.int .u8)).toArray 5)) (some ⟨w.heap.size, 0, none⟩) ks.length ks := by
  refine ⟨rfl, hl, fun _ => ⟨_, rfl, fun j p hj => ⟨[.int .u8 p], rfl, rfl, fun i u hu => ?_⟩⟩⟩
  cases i with
  | succ i => simp at hu
  | zero =>
    have hu' : Value.int .u8 p = u := by simpa using hu
    subst hu'
    have he : (⟨w.heap.size, 0, none⟩ : Addr).add (j * (Kd.int .u8).sz + 0) = ⟨w.heap.size, j, none⟩ := by
      show (⟨w.heap.size, 0, none⟩ : Addr).add (j * 1 + 0) = _
      unfold Addr.add
      split
      · rename_i h0
        have : j = 0 := by omega
        subst this
        rfl
      · simp
    refine (congrArg (fun x => World.cell? (w.alloc (.cells (ks.map (Value.int .u8)).toArray 5)) x) he).trans ?_
    refine (blk_cell (blk_new w _) j).trans ?_
    simp [hj]
def takeF (ks : List Int) : List Tok → Tok × List Tok × Int
  | [] => (z61, [], 110)
  | t :: r => if t.f0 ≠ 0 ∧ t.f0 ∈ ks then (t, r, 0) else (z61, t :: r, 110)
def Asks (ks : List Int) : Prop := ∀ x : Int, ∃ k, slices_Contains_uint8_uint8.f k ks x = some (decide (x ∈ ks))
theorem asks1 : Asks [1] := by
  intro x
  refine ⟨3, ?_⟩
  by_cases h : x = 1
  · subst h; rfl
  · simp [slices_Contains_uint8_uint8.f, slices_Index_uint8_uint8.f, slices_Index_uint8_uint8.l0, rd, h, wrap64]
theorem asks23 : Asks [2, 3] := by
  intro x
  refine ⟨4, ?_⟩
  by_cases h : x = 2
  · subst h; rfl
  by_cases h' : x = 3
  · subst h'; decide +kernel
  · simp [slices_Contains_uint8_uint8.f, slices_Index_uint8_uint8.f, slices_Index_uint8_uint8.l0, rd, h, h', wrap64]
theorem info_tok : (Tryd.prog.info? 61).map (·.size) = some 3 := by kernel_rfl
set_option maxHeartbeats 8000000 in
theorem take_calls (g : Nat) (ks : List Int) (hct : Asks ks) (A : Option Addr) (n c : Nat) (L : List Tok) (a p : Int) (w0 w : World) (hI : IsP w0 w g L a p) (hn : n = ks.length) (hK : (Kd.int .u8).C w A ks.length ks) (hc : ks.length ≤ c) :
    Calls Tryd.prog 83 #[.pointer (some ⟨g, 0, none⟩), .slice A n c] w fun e w' => e = .returned (.tuple #[tokV (takeF ks L).1, .int .i64 (takeF ks L).2.2]) ∧ IsP w0 w' g (takeF ks L).2.1 a p ∧ Kept w w' (At g) := by
  subst hn
  have hg := hI.ge
  have hlt := hI.lt
  have hsz : w0.heap.size ≤ w.heap.size := by omega
  have CK := fun W h => Aside0.mk (kind_calls g L a p w0 W h)
  have CC : ∀ x W, Below w.heap.size w W → Aside0 (Calls Tryd.prog 95 #[.slice A ks.length c, .int .u8 x] W fun e w' => e = .returned (.bool (decide (x ∈ ks))) ∧ Drawn0 W w') := by
    intro x W hb
    obtain ⟨k, hk⟩ := hct x
    exact ⟨slices_Contains_uint8_uint8.calls k A c ks x _ W (Kd.C_below hK hb) hc hk⟩
  cases L with
  | nil =>
    have HI := Aside0.mk hI
    have hk : kindF [] = 0 := rfl
    rw [hk] at CK
    have e0 : takeF ks [] = (z61, [], 110) := rfl
    rw [e0]
    clear hI hk e0
    go_enter Tryd.func83, Tryd.ntmps83
    go_wp2_with fail
    (with_reducible refine (CK _ ?i).out.mono ?_)
    case i => exact HI.out.keep (below_alloc (Below.refl _ _) _)
    rintro e w1 ⟨rfl, ⟨m, rfl⟩⟩
    go_wp2
    have b1 := blk_new w (.cells #[.int .u8 0, .string { data := #[] }, .int .i64 0] 61)
    refine bodyPost_ret (results_ct rfl _ _ _ 61 _ (0, 0) _ rfl (blk_put (blk_put (blk_put (blk_drewN b1 m) 0 _ rfl) 1 _ rfl) 2 _ rfl) Tryd.underlying61 rfl info_tok) rfl ?_
    exact ⟨rfl, HI.out.fin (by (repeat (first | (with_reducible exact Kept.refl _ _) | (with_reducible apply Kept.alloc) | (with_reducible apply Kept.drewN) | (with_reducible apply Kept.drew) | (with_reducible refine kept_at ?_ _ _) | (with_reducible refine kept_new ?_ _ _ (Nat.le_refl _)) | (with_reducible refine kept_new ?_ _ _ (by first | assumption | omega))))) (by (repeat (first | (with_reducible exact HI.out.low) | (with_reducible apply below_alloc) | (with_reducible apply pw_below_drewN) | (with_reducible apply below_drew1) | (with_reducible refine below_set ?_ (by first | assumption | omega)))))⟩
  | cons t r =>
    have HI := Aside0.mk hI
    have hk : kindF (t :: r) = t.f0 := rfl
    rw [hk] at CK
    have e0 : takeF ks (t :: r) = if t.f0 ≠ 0 ∧ t.f0 ∈ ks then (t, r, 0) else (z61, t :: r, 110) := rfl
    rw [e0]
    obtain ⟨ad, c0, h1, h3, c1, c2, c3, hm, hT⟩ := hI.tail
    have h1d : ∀ o m, ((w.alloc o).drewN m).heap[g]? = _ := fun o m => blk_drewN (blk_alloc h1 o) m
    have b1 := blk_new w (.cells #[.int .u8 0, .string { data := #[] }, .int .i64 0] 61)
    clear hI hk e0
    by_cases hz : t.f0 = 0
    · have ez : (t.f0 == 0) = true := beq_iff_eq.2 hz
      rw [if_neg (fun h => h.1 hz)]
      clear h1 h3 c1 c2 c3 hm hT h1d
      go_enter Tryd.func83, Tryd.ntmps83
      go_wp2_with fail
      (with_reducible refine (CK _ ?i).out.mono ?_)
      case i => exact HI.out.keep (below_alloc (Below.refl _ _) _)
      rintro e w1 ⟨rfl, ⟨m, rfl⟩⟩
      go_wp2
      refine bodyPost_ret (results_ct rfl _ _ _ 61 _ (0, 0) _ rfl (blk_put (blk_put (blk_put (blk_drewN b1 m) 0 _ rfl) 1 _ rfl) 2 _ rfl) Tryd.underlying61 rfl info_tok) rfl ?_
      exact ⟨rfl, HI.out.fin (by (repeat (first | (with_reducible exact Kept.refl _ _) | (with_reducible apply Kept.alloc) | (with_reducible apply Kept.drewN) | (with_reducible apply Kept.drew) | (with_reducible refine kept_at ?_ _ _) | (with_reducible refine kept_new ?_ _ _ (Nat.le_refl _)) | (with_reducible refine kept_new ?_ _ _ (by first | assumption | omega))))) (by (repeat (first | (with_reducible exact HI.out.low) | (with_reducible apply below_alloc) | (with_reducible apply pw_below_drewN) | (with_reducible apply below_drew1) | (with_reducible refine below_set ?_ (by first | assumption | omega)))))⟩
    have ez : (t.f0 == 0) = false := beq_eq_false_iff_ne.2 hz
    by_cases hi : t.f0 ∈ ks
    · have ei : decide (t.f0 ∈ ks) = true := decide_eq_true hi
      rw [if_pos ⟨hz, hi⟩]
      have n1 : (0 : Int) < (r.length : Int) + 1 := by omega
      have n2 : 0 < r.length + 1 := by omega
      have n3 : 1 ≤ r.length + 1 := by omega
      have n5 : r.length + 1 - 1 = r.length := by omega
      have q0 : w.cell? ⟨g, 0, none⟩ = some (.slice (some ad) (r.length + 1) c0) := (blk_cell h1 0).trans rfl
      have had := World.block_lt_of_cell? _ _ c1
      have f0 := blk_frozen h1 0
      clear hi hz
      go_enter Tryd.func83, Tryd.ntmps83
      go_wp2_with fail
      (with_reducible refine (CK _ ?i).out.mono ?_)
      case i => exact HI.out.keep (below_alloc (Below.refl _ _) _)
      rintro e w1 ⟨rfl, ⟨m, rfl⟩⟩
      go_wp2_with fail
      (with_reducible refine (CC _ _ ?i).out.mono ?_)
      case i => (repeat (first | (with_reducible exact (Below.refl w.heap.size w)) | (with_reducible apply below_alloc) | (with_reducible apply pw_below_drewN) | (with_reducible apply below_drew1) | (with_reducible refine below_set ?_ (by first | assumption | omega))))
      rintro e w1 ⟨rfl, ⟨m2, rfl⟩⟩
      rw [ei]
      have hne : g ≠ w.heap.size := by omega
      by_cases hc1 : c0 = 1
      · subst hc1
        rw [if_pos rfl] at hT
        go_wp2
        all_goals refine bodyPost_ret (results_ct rfl _ _ _ 61 _ (0, 0) _ rfl (blk_alloc (blk_put (blk_put (blk_put (blk_far (blk_drewN b1 _) hne _) 0 _ rfl) 1 _ rfl) 2 _ rfl) _) Tryd.underlying61 rfl info_tok) rfl ?_
        all_goals refine ⟨rfl, hT _ ?_ ?_, ?_⟩
        · exact blk_alloc (blk_far (blk_far (blk_far (blk_put (blk_drewN (blk_alloc h1 _) _) 0 _ rfl) hne.symm _) hne.symm _) hne.symm _) _
        · (repeat (first | (with_reducible exact HI.out.low) | (with_reducible apply below_alloc) | (with_reducible apply pw_below_drewN) | (with_reducible apply below_drew1) | (with_reducible refine below_set ?_ (by first | assumption | omega))))
        · (repeat (first | (with_reducible exact Kept.refl _ _) | (with_reducible apply Kept.alloc) | (with_reducible apply Kept.drewN) | (with_reducible apply Kept.drew) | (with_reducible refine kept_at ?_ _ _) | (with_reducible refine kept_new ?_ _ _ (Nat.le_refl _)) | (with_reducible refine kept_new ?_ _ _ (by first | assumption | omega))))
      · rw [if_neg hc1] at hT
        go_wp2
        all_goals refine bodyPost_ret (results_ct rfl _ _ _ 61 _ (0, 0) _ rfl (blk_alloc (blk_put (blk_put (blk_put (blk_far (blk_drewN b1 _) hne _) 0 _ rfl) 1 _ rfl) 2 _ rfl) _) Tryd.underlying61 rfl info_tok) rfl ?_
        all_goals refine ⟨rfl, hT _ ?_ ?_, ?_⟩
        · exact blk_alloc (blk_far (blk_far (blk_far (blk_put (blk_drewN (blk_alloc h1 _) _) 0 _ rfl) hne.symm _) hne.symm _) hne.symm _) _
        · (repeat (first | (with_reducible exact HI.out.low) | (with_reducible apply below_alloc) | (with_reducible apply pw_below_drewN) | (with_reducible apply below_drew1) | (with_reducible refine below_set ?_ (by first | assumption | omega))))
        · (repeat (first | (with_reducible exact Kept.refl _ _) | (with_reducible apply Kept.alloc) | (with_reducible apply Kept.drewN) | (with_reducible apply Kept.drew) | (with_reducible refine kept_at ?_ _ _) | (with_reducible refine kept_new ?_ _ _ (Nat.le_refl _)) | (with_reducible refine kept_new ?_ _ _ (by first | assumption | omega))))
    · have ei : decide (t.f0 ∈ ks) = false := decide_eq_false hi
      rw [if_neg (fun h => hi h.2)]
      clear h1 h3 c1 c2 c3 hm hT h1d hi hz
      go_enter Tryd.func83, Tryd.ntmps83
      go_wp2_with fail
      (with_reducible refine (CK _ ?i).out.mono ?_)
      case i => exact HI.out.keep (below_alloc (Below.refl _ _) _)
      rintro e w1 ⟨rfl, ⟨m, rfl⟩⟩
      go_wp2_with fail
      (with_reducible refine (CC _ _ ?i).out.mono ?_)
      case i => (repeat (first | (with_reducible exact (Below.refl w.heap.size w)) | (with_reducible apply below_alloc) | (with_reducible apply pw_below_drewN) | (with_reducible apply below_drew1) | (with_reducible refine below_set ?_ (by first | assumption | omega))))
      rintro e w1 ⟨rfl, ⟨m2, rfl⟩⟩
      rw [ei]
      go_wp2
      refine bodyPost_ret (results_ct rfl _ _ _ 61 _ (0, 0) _ rfl (blk_put (blk_put (blk_put (blk_drewN (blk_drewN b1 m) m2) 0 _ rfl) 1 _ rfl) 2 _ rfl) Tryd.underlying61 rfl info_tok) rfl ?_
      exact ⟨rfl, HI.out.fin (by (repeat (first | (with_reducible exact Kept.refl _ _) | (with_reducible apply Kept.alloc) | (with_reducible apply Kept.drewN) | (with_reducible apply Kept.drew) | (with_reducible refine kept_at ?_ _ _) | (with_reducible refine kept_new ?_ _ _ (Nat.le_refl _)) | (with_reducible refine kept_new ?_ _ _ (by first | assumption | omega))))) (by (repeat (first | (with_reducible exact HI.out.low) | (with_reducible apply below_alloc) | (with_reducible apply pw_below_drewN) | (with_reducible apply below_drew1) | (with_reducible refine below_set ?_ (by first | assumption | omega)))))⟩
end Go.Proofs.YtjeofffddbibeaaDoor.Pa
end

section
namespace Go.Proofs.YtjeofffddbibeaaDoor.Pa
open Go Go.RowKit Go.Proofs.YtjeofffddbibeaaDoor.PParseTells Go.Proofs.YtjeofffddbibeaaDoorW.PrintWords Go.Proofs.YtjeofffddbibeaaDoorW.PrintLast Go.Proofs.YtjeofffddbibeaaDoorW.PrintMore
set_option linter.unusedVariables false
set_option linter.unusedSimpArgs false
def markF (s : ByteArray) (L : List Tok) : List Tok × Int := if isF s L = true then (L.tail, 0) else (L, 110)
set_option maxHeartbeats 8000000 in
theorem mark_calls (g : Nat) (s : ByteArray) (L : List Tok) (a p : Int) (w0 w : World) (hI : IsP w0 w g L a p) :
    Calls Tryd.prog 84 #[.pointer (some ⟨g, 0, none⟩), .string s] w fun e w' => e = .returned (.int .i64 (markF s L).2) ∧ IsP w0 w' g (markF s L).1 a p ∧ Kept w w' (At g) := by
  have hg := hI.ge
  have hlt := hI.lt
  have hsz : w0.heap.size ≤ w.heap.size := by omega
  have CI := Aside0.mk (is_calls g s L a p w0 w hI)
  have HI := Aside0.mk hI
  cases hi : isF s L with
  | false =>
    have e0 : markF s L = (L, 110) := if_neg (by rw [hi]; simp)
    rw [e0]
    rw [hi] at CI
    clear hI e0 hi
    go_enter Tryd.func84, Tryd.ntmps84
    go_wp2_with fail
    (with_reducible refine CI.out.mono ?_)
    rintro e w1 ⟨rfl, ⟨m, rfl⟩⟩
    go_wp2
    go_ret
    exact ⟨rfl, HI.out.fin (by (repeat (first | (with_reducible exact Kept.refl _ _) | (with_reducible apply Kept.alloc) | (with_reducible apply Kept.drewN) | (with_reducible apply Kept.drew) | (with_reducible refine kept_at ?_ _ _) | (with_reducible refine kept_new ?_ _ _ (Nat.le_refl _)) | (with_reducible refine kept_new ?_ _ _ (by first | assumption | omega))))) (by (repeat (first | (with_reducible exact HI.out.low) | (with_reducible apply below_alloc) | (with_reducible apply pw_below_drewN) | (with_reducible apply below_drew1) | (with_reducible refine below_set ?_ (by first | assumption | omega)))))⟩
  | true =>
    cases L with
    | nil => cases hi
    | cons t r =>
    have e0 : markF s (t :: r) = (r, 0) := if_pos hi
    rw [e0]
    rw [hi] at CI
    obtain ⟨ad, c0, h1, h3, c1, c2, c3, hm, hT⟩ := hI.tail
    have n1 : (0 : Int) < (r.length : Int) + 1 := by omega
    have n2 : 0 < r.length + 1 := by omega
    have n3 : 1 ≤ r.length + 1 := by omega
    have n5 : r.length + 1 - 1 = r.length := by omega
    have q0 : w.cell? ⟨g, 0, none⟩ = some (.slice (some ad) (r.length + 1) c0) := (blk_cell h1 0).trans rfl
    have f0 := blk_frozen h1 0
    clear hI hi e0 c1 c2 c3
    go_enter Tryd.func84, Tryd.ntmps84
    go_wp2_with fail
    (with_reducible refine CI.out.mono ?_)
    rintro e w1 ⟨rfl, ⟨m, rfl⟩⟩
    by_cases hc1 : c0 = 1
    · subst hc1
      rw [if_pos rfl] at hT
      go_wp2
      go_ret
      refine ⟨rfl, hT _ ?_ ?_, ?_⟩
      · exact blk_put (blk_drewN h1 _) 0 _ rfl
      · (repeat (first | (with_reducible exact HI.out.low) | (with_reducible apply below_alloc) | (with_reducible apply pw_below_drewN) | (with_reducible apply below_drew1) | (with_reducible refine below_set ?_ (by first | assumption | omega))))
      · (repeat (first | (with_reducible exact Kept.refl _ _) | (with_reducible apply Kept.alloc) | (with_reducible apply Kept.drewN) | (with_reducible apply Kept.drew) | (with_reducible refine kept_at ?_ _ _) | (with_reducible refine kept_new ?_ _ _ (Nat.le_refl _)) | (with_reducible refine kept_new ?_ _ _ (by first | assumption | omega))))
    · rw [if_neg hc1] at hT
      go_wp2
      go_ret
      refine ⟨rfl, hT _ ?_ ?_, ?_⟩
      · exact blk_put (blk_drewN h1 _) 0 _ rfl
      · (repeat (first | (with_reducible exact HI.out.low) | (with_reducible apply below_alloc) | (with_reducible apply pw_below_drewN) | (with_reducible apply below_drew1) | (with_reducible refine below_set ?_ (by first | assumption | omega))))
      · (repeat (first | (with_reducible exact Kept.refl _ _) | (with_reducible apply Kept.alloc) | (with_reducible apply Kept.drewN) | (with_reducible apply Kept.drew) | (with_reducible refine kept_at ?_ _ _) | (with_reducible refine kept_new ?_ _ _ (Nat.le_refl _)) | (with_reducible refine kept_new ?_ _ _ (by first | assumption | omega))))
/-- A number's words. -/
abbrev numF (L : List Tok) : Tok × List Tok × Int := takeF [2, 3] L
set_option maxHeartbeats 8000000 in
theorem number_calls (g : Nat) (L : List Tok) (a p : Int) (w0 w : World) (hI : IsP w0 w g L a p) :
    Calls Tryd.prog 88 #[.pointer (some ⟨g, 0, none⟩)] w fun e w' => e = .returned (.tuple #[.int .i64 (numF L).1.f2, .int .i64 (numF L).2.2]) ∧ IsP w0 w' g (numF L).2.1 a p ∧ Kept w w' (At g) := by
  have hg := hI.ge
  have hlt := hI.lt
  have hsz : w0.heap.size ≤ w.heap.size := by omega
  have CT := fun A W h hC => Aside0.mk (take_calls g [2, 3] asks23 A 2 2 L a p w0 W h rfl hC (Nat.le_refl _))
  have HI := Aside0.mk hI
  have HT : ∃ t L1 e, takeF [2, 3] L = (t, L1, e) := ⟨_, _, _, rfl⟩
  obtain ⟨t, L1, e1, HT⟩ := HT
  have HT' : numF L = (t, L1, e1) := HT
  rw [HT'] 
  rw [HT] at CT
  clear hI HT HT'
  go_enter Tryd.func88, Tryd.ntmps88
  go_wp2_with fail
  (with_reducible refine (CT (some ⟨w.heap.size, 0, none⟩) _ ?i ?j).out.mono ?_)
  case i => exact HI.out.keep (below_alloc (Below.refl _ _) _)
  case j => exact kinds_C w [2, 3] (by decide)
  rintro e w1 ⟨rfl, hI1, hk⟩
  have hk1 := Aside0.mk (((Kept.refl w (At g)).alloc (.cells #[.int .u8 2, .int .u8 3] 5)).then_ hk (fun _ h => .inl h))
  have HI1 := Aside0.mk hI1
  have hs1 := hk1.out.1
  clear hk hI1
  go_wp2
  go_ret2
  exact ⟨rfl, HI1.out.mv (S := fun _ => False) (by (repeat (first | (with_reducible exact Kept.refl _ _) | (with_reducible apply Kept.alloc) | (with_reducible apply Kept.drewN) | (with_reducible apply Kept.drew) | (with_reducible refine kept_at ?_ _ _) | (with_reducible refine kept_new ?_ _ _ (Nat.le_refl _)) | (with_reducible refine kept_new ?_ _ _ (by first | assumption | omega))))) (by (repeat (first | (with_reducible exact HI1.out.low) | (with_reducible apply below_alloc) | (with_reducible apply pw_below_drewN) | (with_reducible apply below_drew1) | (with_reducible refine below_set ?_ (by first | assumption | omega))))) (fun h => h), by (repeat (first | (with_reducible exact hk1.out) | (with_reducible apply Kept.alloc) | (with_reducible apply Kept.drewN) | (with_reducible apply Kept.drew) | (with_reducible refine kept_at ?_ _ _) | (with_reducible refine kept_new ?_ _ _ (by first | assumption | omega))))⟩
end Go.Proofs.YtjeofffddbibeaaDoor.Pa
end

section
namespace Go.Proofs.YtjeofffddbibeaaDoor.Pa
open Go Go.RowKit Go.Proofs.YtjeofffddbibeaaDoor.PParseTells Go.Proofs.YtjeofffddbibeaaDoorW.PrintWords Go.Proofs.YtjeofffddbibeaaDoorW.PrintLast Go.Proofs.YtjeofffddbibeaaDoorW.PrintMore
set_option linter.unusedVariables false
set_option linter.unusedSimpArgs false
/-- What the parser wants of the library's variables. -/
structure Cal (w : World) : Prop where
  space : Lib.TabIs Tryd.prog w "strings.asciiSpace" .u8 Lib.asciiSpaceTab
  maxl : ∃ m, w.cell? ⟨2, 0, none⟩ = some (.int .i64 m)
theorem gSpace : Tryd.prog.globalNamed "strings.asciiSpace" = some 0 := by kernel_rfl
theorem Cal.l {w w' : World} (h : Cal w) (k : Below w.heap.size w w') : Cal w' := by
  obtain ⟨m, hm⟩ := h.maxl
  refine ⟨?_, m, (k.cell (World.block_lt_of_cell? w _ hm)).trans hm⟩
  have hp := h.space
  have h0 : w.cell? ⟨0, 0, none⟩ = some (.int .u8 (Lib.asciiSpaceTab.getD 0 0)) := hp.cell gSpace 0 (by decide +kernel)
  exact var?_below k gSpace (World.block_lt_of_cell? w _ h0) hp
abbrev OPS : ByteArray := ⟨#[103, 114, 111, 117, 112, 32, 115, 104, 105, 102, 116, 32, 115, 117, 98, 115, 101, 116, 32, 97, 108, 116, 101, 114, 32, 99, 111, 109, 98, 105, 110, 101, 32, 97, 110, 99, 104, 111, 114, 32, 100, 111, 119, 110, 32, 117, 112, 32, 109, 101, 101, 116, 32, 117, 110, 105, 111, 110, 32, 99, 117, 116, 32, 108, 101, 115, 115]⟩
def opsL : List ByteArray := [⟨#[103, 114, 111, 117, 112]⟩, ⟨#[115, 104, 105, 102, 116]⟩, ⟨#[115, 117, 98, 115, 101, 116]⟩, ⟨#[97, 108, 116, 101, 114]⟩, ⟨#[99, 111, 109, 98, 105, 110, 101]⟩, ⟨#[97, 110, 99, 104, 111, 114]⟩, ⟨#[100, 111, 119, 110]⟩, ⟨#[117, 112]⟩, ⟨#[109, 101, 101, 116]⟩, ⟨#[117, 110, 105, 111, 110]⟩, ⟨#[99, 117, 116]⟩, ⟨#[108, 101, 115, 115]⟩]
theorem ops_fields : (Lib.fields OPS.data.toList).map (fun l => (⟨l.toArray⟩ : ByteArray)) = opsL := by decide +kernel
theorem ops_ascii : ∀ (j : Nat) b, OPS.data.toList[j]? = some b → b.toNat < 128 := by
  intro j b hb
  have h : ∀ b ∈ OPS.data.toList, b.toNat < 128 := by decide +kernel
  exact h b (List.mem_of_getElem? hb)
abbrev SHAPES : ByteArray := ⟨#[110, 61, 101, 58, 100, 101, 102, 105, 110, 101, 32, 110, 58, 100, 114, 111, 112, 32, 110, 58, 115, 104, 111, 119, 32, 110, 58, 102, 111, 114, 109, 32, 110, 58, 118, 97, 114, 32, 110, 105, 58, 101, 120, 116, 101, 110, 116, 32, 110, 105, 58, 103, 114, 97, 110, 117, 108, 101, 32, 110, 105, 58, 110, 101, 120, 116, 32, 110, 105, 58, 112, 114, 101, 118, 32, 110, 105, 58, 115, 112, 97, 110, 32, 110, 110, 58, 114, 101, 108, 32, 110, 110, 105, 58, 99, 111, 118, 101, 114, 32, 110, 110, 110, 114, 58, 98, 111, 117, 110, 100, 32, 105, 58, 100, 97, 116, 101, 32, 105, 105, 105, 58, 115, 111, 108, 118, 101, 32, 58, 110, 101, 116, 32, 58, 105, 110, 102, 101, 114, 32, 58, 114, 101, 115, 101, 116]⟩
/-- The commands' words, each behind its shape. -/
def shapeL : List (ByteArray × ByteArray) := (Lib.fields SHAPES.data.toList).map fun l => (⟨(Lib.cut l [58]).1.toArray⟩, ⟨(Lib.cut l [58]).2.1.toArray⟩)
theorem shapes_ascii : ∀ (j : Nat) b, SHAPES.data.toList[j]? = some b → b.toNat < 128 := by
  intro j b hb
  have h : ∀ b ∈ SHAPES.data.toList, b.toNat < 128 := by decide +kernel
  exact h b (List.mem_of_getElem? hb)
def opF (s : ByteArray) : Int × Bool := if Lib.idxOfS opsL s < 0 then (0, false) else (1 + Lib.idxOfS opsL s, true)
theorem idx_from (s : ByteArray) : ∀ (zs : List ByteArray) (i : Nat), Lib.idxFromS zs s i < (i + zs.length : Nat) ∧ -1 ≤ Lib.idxFromS zs s i ∨ zs = []
  | [], i => .inr rfl
  | z :: zs, i => by
    left
    rw [Lib.idxFromS]
    split
    · rw [List.length_cons]; omega
    · rcases idx_from s zs (i + 1) with h | h
      · rw [List.length_cons]; omega
      · subst h
        rw [Lib.idxFromS, List.length_cons]
        omega
theorem idx_le (s : ByteArray) : Lib.idxOfS opsL s < 12 ∧ -1 ≤ Lib.idxOfS opsL s := by
  rcases idx_from s opsL 0 with h | h
  · exact h
  · cases h
end Go.Proofs.YtjeofffddbibeaaDoor.Pa
end

section
namespace Go.Proofs.YtjeofffddbibeaaDoor.Ex
open Go Go.RowKit Go.Proofs.YtjeofffddbibeaaDoor.PParseTells Go.Proofs.YtjeofffddbibeaaDoorW.PrintWords Go.Proofs.YtjeofffddbibeaaDoorW.PrintLast Go.Proofs.YtjeofffddbibeaaDoorW.PrintMore
set_option linter.unusedVariables false
set_option linter.unusedSimpArgs false
/-- An expression, as the printed texts have it: f0 the operator, f1 the name, f2 the numbers, f3 the arguments. -/
abbrev X := S25
abbrev kX : Kd X := k25
abbrev kI : Kd Int := Kd.int .i64
/-- The value of an expression whose slices lie at A2, A3. -/
abbrev agg (x : X) (A2 : Option Addr) (c2 : Nat) (A3 : Option Addr) (c3 : Nat) : Value := .agg #[.int .u8 x.f0, .string x.f1, .slice A2 x.f2.length c2, .slice A3 x.f3.length c3]
section
variable {σ : Type} (f : σ → X → Int → σ × Bool)
mutual
def goX : σ → X → Int → σ × Bool
  | s, ⟨o, n, ns, xs⟩, d => if (f s ⟨o, n, ns, xs⟩ d).2 = true then goL (f s ⟨o, n, ns, xs⟩ d).1 xs (d + 1) else ((f s ⟨o, n, ns, xs⟩ d).1, false)
def goL : σ → List X → Int → σ × Bool
  | s, [], _ => (s, true)
  | s, y :: ys, d => if (goX s y d).2 = true then goL (goX s y d).1 ys d else ((goX s y d).1, false)
end
end
mutual
def cnt : X → Nat
  | ⟨_, _, _, xs⟩ => 1 + cntL xs
def cntL : List X → Nat
  | [] => 0
  | y :: ys => cnt y + cntL ys
end
theorem cnt_eq (x : X) : cnt x = 1 + cntL x.f3 := by cases x; rw [cnt]
theorem cntL_nil : cntL [] = 0 := by rw [cntL]
theorem cntL_cons (y : X) (ys : List X) : cntL (y :: ys) = cnt y + cntL ys := by rw [cntL]
theorem cntL_append (xs ys : List X) : cntL (xs ++ ys) = cntL xs + cntL ys := by
  induction xs with
  | nil => simp [cntL_nil]
  | cons y xs ih => rw [List.cons_append, cntL_cons, cntL_cons, ih]; omega
theorem cnt_mem {y : X} {xs : List X} (h : y ∈ xs) : cnt y ≤ cntL xs := by
  induction xs with
  | nil => cases h
  | cons z xs ih =>
    rw [cntL_cons]
    rcases List.mem_cons.1 h with rfl | h
    · omega
    · have := ih h; omega
theorem cnt_pos (x : X) : 0 < cnt x := by rw [cnt_eq]; omega
theorem cnt_child {x y : X} (h : y ∈ x.f3) : cnt y < cnt x := by
  have := cnt_mem h
  rw [cnt_eq x]
  omega
theorem len_cntL (xs : List X) : xs.length ≤ cntL xs := by
  induction xs with
  | nil => simp
  | cons y ys ih => rw [cntL_cons, List.length_cons]; have := cnt_pos y; omega
mutual
def Wf : X → Prop
  | ⟨o, n, ns, xs⟩ => (0 ≤ o ∧ o ≤ 255) ∧ n.size ≤ 140737488351232 ∧ (∀ k ∈ ns, -9223372036854775808 ≤ k ∧ k ≤ 9223372036854775807) ∧ WfL xs
def WfL : List X → Prop
  | [] => True
  | y :: ys => Wf y ∧ WfL ys
end
theorem Wf_eq (x : X) : Wf x ↔ (0 ≤ x.f0 ∧ x.f0 ≤ 255) ∧ x.f1.size ≤ 140737488351232 ∧ (∀ k ∈ x.f2, -9223372036854775808 ≤ k ∧ k ≤ 9223372036854775807) ∧ WfL x.f3 := by cases x; rw [Wf]
theorem WfL_mem {xs : List X} (h : WfL xs) {y : X} (hy : y ∈ xs) : Wf y := by
  induction xs with
  | nil => cases hy
  | cons z xs ih =>
    rw [WfL] at h
    rcases List.mem_cons.1 hy with rfl | hy
    · exact h.1
    · exact ih h.2 hy
theorem WfL_of {xs : List X} (h : ∀ y ∈ xs, Wf y) : WfL xs := by
  induction xs with
  | nil => rw [WfL]; trivial
  | cons z xs ih => rw [WfL]; exact ⟨h z (by simp), ih fun y hy => h y (by simp [hy])⟩
theorem Wf.child {x y : X} (h : Wf x) (hy : y ∈ x.f3) : Wf y := WfL_mem ((Wf_eq x).1 h).2.2.2 hy
theorem Wf.op {x : X} (h : Wf x) : 0 ≤ x.f0 ∧ x.f0 ≤ 255 := ((Wf_eq x).1 h).1
theorem Wf.name {x : X} (h : Wf x) : x.f1.size ≤ 140737488351232 := ((Wf_eq x).1 h).2.1
theorem Wf.nums {x : X} (h : Wf x) : ∀ k ∈ x.f2, -9223372036854775808 ≤ k ∧ k ≤ 9223372036854775807 := ((Wf_eq x).1 h).2.2.1
def fld (p : Addr) (i : Nat) : Addr := ⟨p.block, p.off + i, none⟩
structure Node (w0 w : World) (p : Addr) (x : X) (A2 : Option Addr) (c2 : Nat) (A3 : Option Addr) (c3 : Nat) : Prop where
  q0 : w.cell? p = some (.int .u8 x.f0)
  q1 : w.cell? (fld p 1) = some (.string x.f1)
  q2 : w.cell? (fld p 2) = some (.slice A2 x.f2.length c2)
  q3 : w.cell? (fld p 3) = some (.slice A3 x.f3.length c3)
  l2 : x.f2.length ≤ c2
  C2 : kI.C w0 A2 x.f2.length x.f2
  l3 : x.f3.length ≤ c3
  C3 : kX.C w0 A3 x.f3.length x.f3
theorem cell_of_heap {w w1 : World} {a : Addr} {v : Value} (hb : w1.heap[a.block]? = w.heap[a.block]?) (h : w.cell? a = some v) : w1.cell? a = some v := by
  simpa [World.cell?, hb] using h
theorem Node.keep {w0 w w1 : World} {S : Nat → Prop} {p : Addr} {x : X} {A2 : Option Addr} {c2 : Nat} {A3 : Option Addr} {c3 : Nat} (h : Node w0 w p x A2 c2 A3 c3) (hk : Kept w w1 S) (hp : ¬ S p.block) : Node w0 w1 p x A2 c2 A3 c3 :=
  ⟨cell_kept h.q0 hk hp, cell_kept h.q1 hk hp, cell_kept h.q2 hk hp, cell_kept h.q3 hk hp, h.l2, h.C2, h.l3, h.C3⟩
/-- The part that is argument i. -/
theorem Node.child {w0 w : World} {p : Addr} {x : X} {A2 : Option Addr} {c2 : Nat} {A3 : Option Addr} {c3 : Nat} (h : Node w0 w p x A2 c2 A3 c3) (hb : Below w0.heap.size w0 w) (i : Nat) (hi : i < x.f3.length) :
    ∃ ad B2 d2 B3 d3, A3 = some ad ∧ Node w0 w (ad.add (i * 4)) x.f3[i] B2 d2 B3 d3 ∧ (ad.add (i * 4)).block < w0.heap.size := by
  obtain ⟨ad, B2, d2, B3, d3, e, q0, q1, q2, q3, l2, C2, l3, C3⟩ := at_T25 h.C3 (i : Int) (by omega) (by omega)
  have er : rd_T25 x.f3 (i : Int) = x.f3[i] := by
    unfold rd_T25
    rw [Int.toNat_natCast, List.getD_eq_getElem?_getD, List.getElem?_eq_getElem hi]
    rfl
  rw [er] at q0 q1 q2 q3 l2 C2 l3 C3
  rw [Int.toNat_natCast] at q0 q1 q2 q3
  have hlt := World.block_lt_of_cell? _ _ q0
  exact ⟨ad, B2, d2, B3, d3, e, ⟨(hb.cell hlt).trans q0, (hb.cell (p := ⟨_, _, none⟩) hlt).trans q1, (hb.cell (p := ⟨_, _, none⟩) hlt).trans q2, (hb.cell (p := ⟨_, _, none⟩) hlt).trans q3, l2, C2, l3, C3⟩, hlt⟩
theorem Node.none {w0 w : World} {p : Addr} {x : X} {A2 : Option Addr} {c2 : Nat} {A3 : Option Addr} {c3 : Nat} (h : Node w0 w p x A2 c2 A3 c3) : x.f3.length ≤ 9223372036854775807 := Kd.C_max h.C3
end Go.Proofs.YtjeofffddbibeaaDoor.Ex
end

section
namespace Go.Proofs.YtjeofffddbibeaaDoor.Ex
open Go Go.RowKit Go.Proofs.YtjeofffddbibeaaDoor.PParseTells Go.Proofs.YtjeofffddbibeaaDoorW.PrintWords Go.Proofs.YtjeofffddbibeaaDoorW.PrintLast Go.Proofs.YtjeofffddbibeaaDoorW.PrintMore
set_option linter.unusedVariables false
set_option linter.unusedSimpArgs false
/-- What is handed to 'each': function g with what it captured; S: the blocks that it writes; 'Inv': what these hold. -/
structure Does (g : FuncId) (cb : Array Value) (S : Nat → Prop) (w0 : World) {σ : Type} (f : σ → X → Int → σ × Bool) (Inv : σ → World → Prop) (D : Int) (pot : σ → Nat) (L : Nat) (Z : Nat) : Prop where
  enter : ∀ args w, (callFunc g args).run Tryd.prog w = .ok (.enter g args) w
  draws : ∀ s w n, Inv s w → Inv s (w.drewN n)
  allocs : ∀ s w o, Inv s w → Inv s (w.alloc o)
  above : ∀ k, S k → w0.heap.size ≤ k
  step : ∀ s x d, pot (f s x d).1 ≤ pot s + 1
  run : ∀ s w p x d A2 c2 A3 c3, Wf x → pot s < L → Z ≤ w.heap.size → Inv s w → Below w0.heap.size w0 w → Node w0 w p x A2 c2 A3 c3 → ¬ S p.block → 1 ≤ d → d ≤ D →
    Calls Tryd.prog g (#[.pointer (some p), .int .i64 d] ++ cb) w fun e w' => e = .returned (.bool (f s x d).2) ∧ Inv (f s x d).1 w' ∧ Below w0.heap.size w0 w' ∧ Kept w w' S
/-- At the head of the arguments' loop: k of them are behind. -/
def At (S : Nat → Prop) (w0 w : World) {σ : Type} (f : σ → X → Int → σ × Bool) (Inv : σ → World → Prop) (s : σ) (xs : List X) (d : Int) (k : Nat) (wr : World) : Prop :=
  (goL f s (xs.take k) d).2 = true ∧ Inv (goL f s (xs.take k) d).1 wr ∧ Below w0.heap.size w0 wr ∧ Kept w wr S
section
variable {g : FuncId} {cb : Array Value} {S : Nat → Prop} {w0 : World} {σ : Type} {f : σ → X → Int → σ × Bool} {Inv : σ → World → Prop} {D : Int} {pot : σ → Nat} {L : Nat} {Z : Nat}
end
end Go.Proofs.YtjeofffddbibeaaDoor.Ex
end

section
namespace Go.Proofs.YtjeofffddbibeaaDoor.Ex
open Go Go.RowKit Go.Proofs.YtjeofffddbibeaaDoor.PParseTells Go.Proofs.YtjeofffddbibeaaDoorW.PrintWords Go.Proofs.YtjeofffddbibeaaDoorW.PrintLast Go.Proofs.YtjeofffddbibeaaDoorW.PrintMore
attribute [local go_sem] max2_int min2_int max_two min_two max_three min_three max_four min_four   -- for this text's walks alone
set_option linter.unusedVariables false
set_option linter.unusedSimpArgs false
theorem w64 {x : Int} (h0 : -9223372036854775808 ≤ x) (h1 : x ≤ 9223372036854775807) : wrap64 x = x := by unfold wrap64; omega
/-- A box of one whole number. -/
def Box (b : Nat) (t : TypeId) (v : Value) (w : World) : Prop := w.heap[b]? = some (.cells #[v] t (0, 0))
theorem Box.lt {b : Nat} {t : TypeId} {v : Value} {w : World} (h : Box b t v w) : b < w.heap.size := blk_lt h
theorem Box.cell {b : Nat} {t : TypeId} {v : Value} {w : World} (h : Box b t v w) : w.cell? ⟨b, 0, none⟩ = some v := by
  unfold World.cell?
  unfold Box at h
  rw [h]
  rfl
theorem Box.free {b : Nat} {t : TypeId} {v : Value} {w : World} (h : Box b t v w) : w.frozen? ⟨b, 0, none⟩ = false := by
  unfold World.frozen?
  unfold Box at h
  rw [h]
  rfl
theorem Box.keep {b : Nat} {t : TypeId} {v : Value} {w w' : World} {S : Nat → Prop} (h : Box b t v w) (hk : Kept w w' S) (hn : ¬ S b) : Box b t v w' := (hk.2 b h.lt hn).trans h
theorem Box.d {b : Nat} {t : TypeId} {v : Value} {w : World} (h : Box b t v w) (n : Nat) : Box b t v (w.drewN n) := h
theorem Box.a {b : Nat} {t : TypeId} {v : Value} {w : World} (h : Box b t v w) (o : Obj) : Box b t v (w.alloc o) := h.keep ((Kept.refl w (fun _ => False)).alloc o) (fun h => h)
theorem Box.new (w : World) (t : TypeId) (v : Value) : Box w.heap.size t v (w.alloc (.cells #[v] t)) := by
  show (w.heap.push _)[w.heap.size]? = _
  simp
theorem Box.set {b : Nat} {t : TypeId} {v u : Value} {w : World} (h : Box b t v w) : Box b t u (w.setCell ⟨b, 0, none⟩ u) := one_setCell h
/-- An expression that came in: its value's slices are rows of w. -/
structure Has (w : World) (x : X) (A2 : Option Addr) (c2 : Nat) (A3 : Option Addr) (c3 : Nat) : Prop where
  wf : Wf x
  l2 : x.f2.length ≤ c2
  C2 : kI.C w A2 x.f2.length x.f2
  l3 : x.f3.length ≤ c3
  C3 : kX.C w A3 x.f3.length x.f3
theorem Has.below {w w' : World} {x : X} {A2 : Option Addr} {c2 : Nat} {A3 : Option Addr} {c3 : Nat} (h : Has w x A2 c2 A3 c3) (hb : Below w.heap.size w w') : Has w' x A2 c2 A3 c3 :=
  ⟨h.wf, h.l2, Kd.C_below h.C2 hb, h.l3, Kd.C_below h.C3 hb⟩
mutual
def dep : X → Nat
  | ⟨_, _, _, xs⟩ => 1 + depL xs
def depL : List X → Nat
  | [] => 0
  | y :: ys => max (dep y) (depL ys)
end
theorem dep_eq (x : X) : dep x = 1 + depL x.f3 := by cases x; rw [dep]
theorem depL_nil : depL [] = 0 := by rw [depL]
theorem depL_cons (y : X) (ys : List X) : depL (y :: ys) = max (dep y) (depL ys) := by rw [depL]
mutual
theorem dep_le : ∀ x : X, dep x ≤ cnt x
  | ⟨o, n, ns, xs⟩ => by
    rw [dep_eq, cnt_eq]
    have := depL_le xs
    show 1 + depL xs ≤ 1 + cntL xs
    omega
theorem depL_le : ∀ xs : List X, depL xs ≤ cntL xs
  | [] => by rw [depL_nil, cntL_nil]; exact Nat.le_refl 0
  | y :: ys => by
    rw [depL_cons, cntL_cons]
    have := dep_le y
    have := depL_le ys
    omega
end
end Go.Proofs.YtjeofffddbibeaaDoor.Ex
end

section
namespace Go.Proofs.YtjeofffddbibeaaDoor.Ex
open Go Go.RowKit Go.Proofs.YtjeofffddbibeaaDoor.PParseTells Go.Proofs.YtjeofffddbibeaaDoorW.PrintWords Go.Proofs.YtjeofffddbibeaaDoorW.PrintLast Go.Proofs.YtjeofffddbibeaaDoorW.PrintMore
set_option linter.unusedVariables false
set_option linter.unusedSimpArgs false
/-- How many numbers and arguments an operator has. -/
def numsOf (o : Int) : Int := if o = 1 ∨ o = 2 then 1 else if o = 3 ∨ o = 7 ∨ o = 9 then 2 else if o = 4 then 3 else 0
def argsOf (o : Int) : Int := if o = 0 ∨ 12 < o then 0 else if o = 1 ∨ o = 2 ∨ o = 3 then 1 else 2
abbrev i64 (n : Int) : Value := .int .i64 n
/-- The table's cells. -/
def table : Array Value := #[i64 0, i64 0, i64 1, i64 1, i64 1, i64 1, i64 2, i64 1, i64 3, i64 2, i64 0, i64 2, i64 0, i64 2, i64 2, i64 2, i64 0, i64 2, i64 2, i64 2, i64 0, i64 2, i64 0, i64 2, i64 0, i64 2]
set_option maxHeartbeats 4000000 in
set_option maxRecDepth 100000 in
theorem shapes_calls (w : World) :
    Calls Tryd.prog 77 #[] w fun e w' => e = .returned (.slice (some ⟨w.heap.size, 0, none⟩) 13 13) ∧ w' = w.alloc (.cells table 74) := by
  have hmk : ∀ w, (Instr.makeSlice 112 (.int .u8 13) (.int .u8 13)).run Tryd.prog w = .ok (.slice (some ⟨w.heap.size, 0, none⟩) 13 13) (w.alloc (.cells #[i64 0, i64 0, i64 0, i64 0, i64 0, i64 0, i64 0, i64 0, i64 0, i64 0, i64 0, i64 0, i64 0, i64 0, i64 0, i64 0, i64 0, i64 0, i64 0, i64 0, i64 0, i64 0, i64 0, i64 0, i64 0, i64 0] 74)) := fun _ => by kernel_rfl
  go_enter Tryd.func77, Tryd.ntmps77
  go_wp2
  refine wp_loop_rounds 14 ?_
  iterate 14 (rw [rounds_succ]; go_wp2)
  go_ret
  exact ⟨rfl, rfl⟩
set_option maxHeartbeats 4000000 in
set_option maxRecDepth 100000 in
theorem of_calls (o : Int) (w : World) (h0 : 0 ≤ o) (h1 : o ≤ 255) :
    Calls Tryd.prog 49 #[.int .u8 o] w fun e w' => e = .returned (.tuple #[.agg #[i64 (numsOf o), i64 (argsOf o)], .bool (decide (o ≤ 12))]) ∧ Below w.heap.size w w' := by
  by_cases h : 12 < o
  · have e1 : numsOf o = 0 := by unfold numsOf; rw [if_neg (by omega), if_neg (by omega), if_neg (by omega)]
    have e2 : argsOf o = 0 := by unfold argsOf; rw [if_pos (by omega)]
    have e3 : decide (o ≤ 12) = false := decide_eq_false (by omega)
    rw [e1, e2, e3]
    clear e1 e2 e3
    go_enter Tryd.func49, Tryd.ntmps49
    go_wp2
    exact bodyPost_ret (v := .tuple #[.agg #[i64 0, i64 0], .bool false]) (by simp [results, Tryd.results49, go_sem]) rfl ⟨rfl, below_alloc (Below.refl _ _) _⟩
  · rcases (show o = 0 ∨ o = 1 ∨ o = 2 ∨ o = 3 ∨ o = 4 ∨ o = 5 ∨ o = 6 ∨ o = 7 ∨ o = 8 ∨ o = 9 ∨ o = 10 ∨ o = 11 ∨ o = 12 by omega) with rfl | rfl | rfl | rfl | rfl | rfl | rfl | rfl | rfl | rfl | rfl | rfl | rfl
    all_goals clear h h0 h1
    all_goals go_enter Tryd.func49, Tryd.ntmps49
    all_goals go_wp2_with fail
    all_goals (with_reducible refine (shapes_calls _).mono ?_)
    all_goals rintro e w' ⟨rfl, rfl⟩
    all_goals unfold table
    all_goals go_wp2
    · exact bodyPost_ret (v := .tuple #[.agg #[i64 0, i64 0], .bool true]) (by simp [results, Tryd.results49, go_sem]) rfl ⟨rfl, below_alloc (below_alloc (Below.refl _ _) _) _⟩
    · exact bodyPost_ret (v := .tuple #[.agg #[i64 1, i64 1], .bool true]) (by simp [results, Tryd.results49, go_sem]) rfl ⟨rfl, below_alloc (below_alloc (Below.refl _ _) _) _⟩
    · exact bodyPost_ret (v := .tuple #[.agg #[i64 1, i64 1], .bool true]) (by simp [results, Tryd.results49, go_sem]) rfl ⟨rfl, below_alloc (below_alloc (Below.refl _ _) _) _⟩
    · exact bodyPost_ret (v := .tuple #[.agg #[i64 2, i64 1], .bool true]) (by simp [results, Tryd.results49, go_sem]) rfl ⟨rfl, below_alloc (below_alloc (Below.refl _ _) _) _⟩
    · exact bodyPost_ret (v := .tuple #[.agg #[i64 3, i64 2], .bool true]) (by simp [results, Tryd.results49, go_sem]) rfl ⟨rfl, below_alloc (below_alloc (Below.refl _ _) _) _⟩
    · exact bodyPost_ret (v := .tuple #[.agg #[i64 0, i64 2], .bool true]) (by simp [results, Tryd.results49, go_sem]) rfl ⟨rfl, below_alloc (below_alloc (Below.refl _ _) _) _⟩
    · exact bodyPost_ret (v := .tuple #[.agg #[i64 0, i64 2], .bool true]) (by simp [results, Tryd.results49, go_sem]) rfl ⟨rfl, below_alloc (below_alloc (Below.refl _ _) _) _⟩
    · exact bodyPost_ret (v := .tuple #[.agg #[i64 2, i64 2], .bool true]) (by simp [results, Tryd.results49, go_sem]) rfl ⟨rfl, below_alloc (below_alloc (Below.refl _ _) _) _⟩
    · exact bodyPost_ret (v := .tuple #[.agg #[i64 0, i64 2], .bool true]) (by simp [results, Tryd.results49, go_sem]) rfl ⟨rfl, below_alloc (below_alloc (Below.refl _ _) _) _⟩
    · exact bodyPost_ret (v := .tuple #[.agg #[i64 2, i64 2], .bool true]) (by simp [results, Tryd.results49, go_sem]) rfl ⟨rfl, below_alloc (below_alloc (Below.refl _ _) _) _⟩
    · exact bodyPost_ret (v := .tuple #[.agg #[i64 0, i64 2], .bool true]) (by simp [results, Tryd.results49, go_sem]) rfl ⟨rfl, below_alloc (below_alloc (Below.refl _ _) _) _⟩
    · exact bodyPost_ret (v := .tuple #[.agg #[i64 0, i64 2], .bool true]) (by simp [results, Tryd.results49, go_sem]) rfl ⟨rfl, below_alloc (below_alloc (Below.refl _ _) _) _⟩
    · exact bodyPost_ret (v := .tuple #[.agg #[i64 0, i64 2], .bool true]) (by simp [results, Tryd.results49, go_sem]) rfl ⟨rfl, below_alloc (below_alloc (Below.refl _ _) _) _⟩
set_option maxHeartbeats 4000000 in
theorem Nums_calls (o : Int) (w : World) (h0 : 0 ≤ o) (h1 : o ≤ 255) :
    Calls Tryd.prog 19 #[.int .u8 o] w fun e w' => e = .returned (.tuple #[.int .i64 (numsOf o), .bool (decide (o ≤ 12))]) ∧ Below w.heap.size w w' := by
  have C := Aside0.mk (of_calls o w h0 h1)
  generalize numsOf o = n at *
  generalize argsOf o = m at *
  generalize decide (o ≤ 12) = b at *
  go_enter Tryd.func19, Tryd.ntmps19
  go_wp2_with fail
  (with_reducible refine C.out.mono ?_)
  rintro e w1 ⟨rfl, hb⟩
  go_wp2
  go_ret2
  exact ⟨rfl, below_alloc hb _⟩
set_option maxHeartbeats 4000000 in
theorem Args_calls (o : Int) (w : World) (h0 : 0 ≤ o) (h1 : o ≤ 255) :
    Calls Tryd.prog 21 #[.int .u8 o] w fun e w' => e = .returned (.int .i64 (argsOf o)) ∧ Below w.heap.size w w' := by
  have C := Aside0.mk (of_calls o w h0 h1)
  generalize numsOf o = n at *
  generalize argsOf o = m at *
  generalize decide (o ≤ 12) = b at *
  go_enter Tryd.func21, Tryd.ntmps21
  go_wp2_with fail
  (with_reducible refine C.out.mono ?_)
  rintro e w1 ⟨rfl, hb⟩
  go_wp2
  go_ret
  exact ⟨rfl, below_alloc hb _⟩
end Go.Proofs.YtjeofffddbibeaaDoor.Ex
end

section
namespace Go.Proofs.YtjeofffddbibeaaDoor.Pa
open Go Go.RowKit Go.Proofs.YtjeofffddbibeaaDoor.PParseTells Go.Proofs.YtjeofffddbibeaaDoor.Ex Go.Proofs.YtjeofffddbibeaaDoorW.PrintWords Go.Proofs.YtjeofffddbibeaaDoorW.PrintLast Go.Proofs.YtjeofffddbibeaaDoorW.PrintMore
set_option linter.unusedVariables false
set_option linter.unusedSimpArgs false
abbrev nil8 : ByteArray := ⟨#[]⟩
abbrev zX : X := ⟨0, nil8, [], []⟩
/-- An expression, the words that are left, how many parts there were, the error. -/
structure Res where
  x : X
  l : List Tok
  p : Int
  e : Int
abbrev COM : ByteArray := ⟨#[44]⟩
abbrev LPA : ByteArray := ⟨#[40]⟩
abbrev RPA : ByteArray := ⟨#[41]⟩
def itemF (rec : Int → List Tok → Res) (num : Bool) (x : X) (p : Int) (L : List Tok) : Res :=
  if num = true then ⟨⟨x.f0, x.f1, x.f2 ++ [(numF L).1.f2], x.f3⟩, (numF L).2.1, p, (numF L).2.2⟩
  else ⟨⟨x.f0, x.f1, x.f2, x.f3 ++ [(rec p L).x]⟩, (rec p L).l, (rec p L).p, (rec p L).e⟩
def stepsF (rec : Int → List Tok → Res) (nums many : Nat) : Nat → X → Int → List Tok → Res
  | 0, x, p, L => ⟨x, L, p, 0⟩
  | m + 1, x, p, L =>
    if (itemF rec (decide (many - (m + 1) < nums)) x p L).e ≠ 0 then ⟨zX, (itemF rec (decide (many - (m + 1) < nums)) x p L).l, (itemF rec (decide (many - (m + 1) < nums)) x p L).p, (itemF rec (decide (many - (m + 1) < nums)) x p L).e⟩
    else if (markF (if m = 0 then RPA else COM) (itemF rec (decide (many - (m + 1) < nums)) x p L).l).2 ≠ 0 then ⟨zX, (markF (if m = 0 then RPA else COM) (itemF rec (decide (many - (m + 1) < nums)) x p L).l).1, (itemF rec (decide (many - (m + 1) < nums)) x p L).p, (markF (if m = 0 then RPA else COM) (itemF rec (decide (many - (m + 1) < nums)) x p L).l).2⟩
    else stepsF rec nums many m (itemF rec (decide (many - (m + 1) < nums)) x p L).x (itemF rec (decide (many - (m + 1) < nums)) x p L).p (markF (if m = 0 then RPA else COM) (itemF rec (decide (many - (m + 1) < nums)) x p L).l).1
def manyOf (o : Int) : Nat := (numsOf o + argsOf o).toNat
def exprG (deep : Bool) (rec : Int → List Tok → Res) (p : Int) (L : List Tok) : Res :=
  if kindF L = 1 ∧ (deep = true ∨ 2000 ≤ p) then ⟨zX, L, p, 111⟩
  else if (takeF [1] L).2.2 ≠ 0 then ⟨zX, (takeF [1] L).2.1, p + 1, (takeF [1] L).2.2⟩
  else if (opF (takeF [1] L).1.f1).2 = true ∧ isF LPA (takeF [1] L).2.1 = true then
    stepsF rec (numsOf (opF (takeF [1] L).1.f1).1).toNat (manyOf (opF (takeF [1] L).1.f1).1) (manyOf (opF (takeF [1] L).1.f1).1) ⟨(opF (takeF [1] L).1.f1).1, nil8, [], []⟩ (p + 1) (takeF [1] L).2.1.tail
  else ⟨⟨0, (takeF [1] L).1.f1, [], []⟩, (takeF [1] L).2.1, p + 1, 0⟩
/-- An expression, when it may be so many deep. -/
def exprF : Nat → Int → List Tok → Res
  | 0 => exprG true (fun p L => ⟨zX, L, p, 111⟩)
  | d + 1 => exprG false (exprF d)
theorem take_cases (ks : List Int) (L : List Tok) : (∃ t r, L = t :: r ∧ takeF ks L = (t, r, 0) ∧ t.f0 ∈ ks) ∨ takeF ks L = (z61, L, 110) := by
  cases L with
  | nil => exact .inr rfl
  | cons t r =>
    by_cases h : t.f0 ≠ 0 ∧ t.f0 ∈ ks
    · exact .inl ⟨t, r, rfl, if_pos h, h.2⟩
    · exact .inr (if_neg h)
theorem mark_cases (s : ByteArray) (L : List Tok) : (∃ t r, L = t :: r ∧ markF s L = (r, 0) ∧ isF s L = true) ∨ (markF s L = (L, 110) ∧ isF s L = false) := by
  cases hi : isF s L with
  | false => exact .inr ⟨if_neg (by rw [hi]; simp), rfl⟩
  | true =>
    cases L with
    | nil => cases hi
    | cons t r => exact .inl ⟨t, r, rfl, if_pos hi, rfl⟩
/-- What an expression leaves. -/
structure Good (p : Int) (L : List Tok) (r : Res) : Prop where
  e : r.e = 0 ∨ r.e = 110 ∨ r.e = 111
  l : r.l <:+ L
  p0 : p ≤ r.p
  p1 : r.p ≤ 2001
  ok : r.e = 0 → r.p ≤ 2000
theorem item_good {rec : Int → List Tok → Res} (hrec : ∀ p L, 0 ≤ p → p ≤ 2000 → Good p L (rec p L)) (num : Bool) (x : X) (p : Int) (L : List Tok) (h0 : 0 ≤ p) (h1 : p ≤ 2000) : Good p L (itemF rec num x p L) := by
  unfold itemF
  cases num with
  | true =>
    rw [if_pos rfl]
    rcases take_cases [2, 3] L with ⟨t, r, rfl, ht, _⟩ | ht
    · refine ⟨.inl (by simp [ht]), by simp only [ht]; exact List.suffix_cons t r, Int.le_refl p, by show p ≤ 2001; omega, fun _ => h1⟩
    · refine ⟨.inr (.inl (by simp [ht])), by simp only [ht]; exact List.suffix_refl L, Int.le_refl p, by show p ≤ 2001; omega, fun _ => h1⟩
  | false =>
    rw [if_neg (by simp)]
    have := hrec p L h0 h1
    exact ⟨this.e, this.l, this.p0, this.p1, this.ok⟩
theorem steps_good {rec : Int → List Tok → Res} (hrec : ∀ p L, 0 ≤ p → p ≤ 2000 → Good p L (rec p L)) (nums many : Nat) : ∀ (m : Nat) (x : X) (p : Int) (L : List Tok), 0 ≤ p → p ≤ 2000 → Good p L (stepsF rec nums many m x p L) := by
  intro m
  induction m with
  | zero => intro x p L h0 h1; exact ⟨.inl rfl, List.suffix_refl L, Int.le_refl p, by show p ≤ 2001; omega, fun _ => h1⟩
  | succ m ih =>
    intro x p L h0 h1
    have hI := item_good hrec (decide (many - (m + 1) < nums)) x p L h0 h1
    rw [stepsF]
    generalize itemF rec (decide (many - (m + 1) < nums)) x p L = r at hI
    by_cases he : r.e ≠ 0
    · rw [if_pos he]
      exact ⟨hI.e, hI.l, hI.p0, hI.p1, fun h => absurd h he⟩
    · rw [if_neg he]
      have he' : r.e = 0 := by omega
      have hp := hI.ok he'
      have hp0 := hI.p0
      rcases mark_cases (if m = 0 then RPA else COM) r.l with ⟨t, r', h2, h3, _⟩ | ⟨h3, _⟩
      · rw [h3, if_neg (by simp)]
        have hG := ih r.x r.p r' (by omega) hp
        refine ⟨hG.e, hG.l.trans ((List.suffix_cons t r').trans (h2 ▸ hI.l)), Int.le_trans hp0 hG.p0, hG.p1, hG.ok⟩
      · rw [h3, if_pos (by simp)]
        exact ⟨.inr (.inl rfl), hI.l, hI.p0, hI.p1, fun h => by cases h⟩
theorem exprG_good (deep : Bool) {rec : Int → List Tok → Res} (hrec : ∀ p L, 0 ≤ p → p ≤ 2000 → Good p L (rec p L)) (p : Int) (L : List Tok) (h0 : 0 ≤ p) (h1 : p ≤ 2000) : Good p L (exprG deep rec p L) := by
  unfold exprG
  by_cases hk : kindF L = 1 ∧ (deep = true ∨ 2000 ≤ p)
  · rw [if_pos hk]
    exact ⟨.inr (.inr rfl), List.suffix_refl L, Int.le_refl p, by show p ≤ 2001; omega, fun h => by cases h⟩
  · rw [if_neg hk]
    rcases take_cases [1] L with ⟨t, r, rfl, ht, hm⟩ | ht
    · rw [ht, if_neg (by simp)]
      have h1' : t.f0 = 1 := by simpa using hm
      have hp : p < 2000 := by
        rcases Int.lt_or_le p 2000 with h | h
        · exact h
        · exact absurd ⟨h1', .inr h⟩ hk
      by_cases ho : (opF t.f1).2 = true ∧ isF LPA r = true
      · rw [if_pos ho]
        have hG := steps_good hrec (numsOf (opF t.f1).1).toNat (manyOf (opF t.f1).1) (manyOf (opF t.f1).1) ⟨(opF t.f1).1, nil8, [], []⟩ (p + 1) r.tail (by omega) (by omega)
        refine ⟨hG.e, hG.l.trans ((List.tail_suffix r).trans (List.suffix_cons t r)), Int.le_trans (show p ≤ p + 1 by omega) hG.p0, hG.p1, hG.ok⟩
      · rw [if_neg ho]
        exact ⟨.inl rfl, List.suffix_cons t r, by show p ≤ p + 1; omega, by show p + 1 ≤ 2001; omega, fun _ => by show p + 1 ≤ 2000; omega⟩
    · rw [ht, if_pos (by simp)]
      exact ⟨.inr (.inl rfl), List.suffix_refl L, by show p ≤ p + 1; omega, by show p + 1 ≤ 2001; omega, fun h => by cases h⟩
theorem expr_good : ∀ (d : Nat) (p : Int) (L : List Tok), 0 ≤ p → p ≤ 2000 → Good p L (exprF d p L)
  | 0 => fun p L h0 h1 => exprG_good true (fun p L h0 h1 => ⟨.inr (.inr rfl), List.suffix_refl L, Int.le_refl p, by show p ≤ 2001; omega, fun h => by cases h⟩) p L h0 h1
  | d + 1 => fun p L h0 h1 => exprG_good false (expr_good d) p L h0 h1
end Go.Proofs.YtjeofffddbibeaaDoor.Pa
end

section
namespace Go.Proofs.YtjeofffddbibeaaDoor.Pa
open Go Go.RowKit Go.Proofs.YtjeofffddbibeaaDoor.PParseTells Go.Proofs.YtjeofffddbibeaaDoor.Ex Go.Proofs.YtjeofffddbibeaaDoorW.PrintWords Go.Proofs.YtjeofffddbibeaaDoorW.PrintLast Go.Proofs.YtjeofffddbibeaaDoorW.PrintMore
set_option linter.unusedVariables false
set_option linter.unusedSimpArgs false
abbrev TX : TypeId := 25
abbrev ag (x : X) (v2 v3 : Value) : Value := .agg #[.int .u8 x.f0, .string x.f1, v2, v3]
abbrev zCells : Array Value := #[.int .u8 0, .string nil8, .slice none 0 0, .slice none 0 0]
/-- What is answered: an expression in memory made since w, and an error. -/
def Gives (w w' : World) (x : X) (v2 v3 : Value) : Prop := kX.M w' w.heap.size (fun _ => True) x [.int .u8 x.f0, .string x.f1, v2, v3]
theorem gives_zero (w w' : World) : Gives w w' zX (.slice none 0 0) (.slice none 0 0) := k25_mkM _ _ _ zX (Kd.R_nil _ _ _ _ _) (Kd.R_nil _ _ _ _ _)
theorem gives_name (w w' : World) (s : ByteArray) : Gives w w' ⟨0, s, [], []⟩ (.slice none 0 0) (.slice none 0 0) := k25_mkM _ _ _ ⟨0, s, [], []⟩ (Kd.R_nil _ _ _ _ _) (Kd.R_nil _ _ _ _ _)
def ExprC (w0 : World) (g : Nat) (a dp : Int) (F : Int → List Tok → Res) : Prop :=
  ∀ (p : Int) (L : List Tok) (w : World), IsP w0 w g L a p → 0 ≤ p → p ≤ 2000 → Calls Tryd.prog 64 #[.pointer (some ⟨g, 0, none⟩), .int .i64 dp] w fun e w' =>
    ∃ v2 v3, e = .returned (.tuple #[ag (F p L).x v2 v3, .int .i64 (F p L).e]) ∧ IsP w0 w' g (F p L).l a (F p L).p ∧ Kept w w' (At g) ∧ Gives w w' (F p L).x v2 v3
/-- Within the loop over the operands: the parser, the box of the expression, the box that is answered, the rows so far. -/
structure OpSt (w0 w W : World) (g b6 b : Nat) (a op : Int) (L : List Tok) (p : Int) (ns : List Int) (ys : List X) (v2 v3 : Value) : Prop where
  isp : IsP w0 W g L a p
  kept : Kept w W (At g)
  box : W.heap[b]? = some (.cells #[.int .u8 op, .string nil8, v2, v3] TX (0, 0))
  zero : W.heap[b6]? = some (.cells zCells TX (0, 0))
  nums : kI.R 2 W (b + 1) (fun _ => True) v2 ns
  args : kX.R TX W (b + 1) (fun _ => True) v3 ys
  lg : g < w.heap.size
  l6 : w.heap.size ≤ b6
  lb : b6 < b
section
variable {w0 w W W2 : World} {g b6 b : Nat} {a op : Int} {L L2 : List Tok} {p p2 : Int} {ns : List Int} {ys : List X} {v2 v3 : Value}
theorem R_at {α : Type} {d : Kd α} {e B : Nat} {v : Value} {xs : List α} (h : d.R e W B (fun _ => True) v xs) (hk : Kept W W2 (At g)) (hg : g < B) : d.R e W2 B (fun _ => True) v xs :=
  Kd.R_mono (Kd.R_kept (Kd.R_bound h) hk (fun k ho hs => by have := ho.2.1; have : k = g := hs; omega)) (fun _ _ => trivial)
theorem R_put {α : Type} {d : Kd α} {e B : Nat} {v : Value} {xs : List α} (h : d.R e W B (fun _ => True) v xs) {k : Nat} (hk : k < B) (i : Nat) (u : Value) : d.R e (W.setCell ⟨k, i, none⟩ u) B (fun _ => True) v xs :=
  Kd.R_mono (Kd.R_far (p := ⟨k, i, none⟩) (Kd.R_bound h) (fun j ho => by have := ho.2.1; show j ≠ k; omega) u) (fun _ _ => trivial)
theorem OpSt.at (h : OpSt w0 w W g b6 b a op L p ns ys v2 v3) (hI : IsP w0 W2 g L2 a p2) (hk : Kept W W2 (At g)) : OpSt w0 w W2 g b6 b a op L2 p2 ns ys v2 v3 := by
  have h1 := h.lg
  have h2 := h.l6
  have h3 := h.lb
  exact ⟨hI, h.kept.then_ hk (fun k hs => .inl hs), blk_kept h.box hk (fun hs => by have : b = g := hs; omega), blk_kept h.zero hk (fun hs => by have : b6 = g := hs; omega),
    R_at h.nums hk (by omega), R_at h.args hk (by omega), h1, h2, h3⟩
theorem OpSt.lt (h : OpSt w0 w W g b6 b a op L p ns ys v2 v3) : b < W.heap.size := blk_lt h.box
theorem OpSt.grown_isp (h : OpSt w0 w W g b6 b a op L p ns ys v2 v3) {row : Option Nat} (hg : W.grownBy W2 row) (hr : ∀ k, row = some k → b + 1 ≤ k) : IsP w0 W2 g L a p := by
  have h1 := h.lg
  have h2 := h.l6
  have h3 := h.lb
  have h4 := h.isp.ge
  have h5 := h.lt
  exact h.isp.mv (S := fun k => b + 1 ≤ k) (Kept.of_grown hg (Kept.refl W _) (fun k hk => .inl (hr k hk))) (h.isp.low.grown hg (by omega) (fun k hk => by have := hr k hk; omega)) (by show ¬ (b + 1 ≤ g); omega)
theorem OpSt.num (h : OpSt w0 w W g b6 b a op L p ns [] v2 (.slice none 0 0)) {n : Int} {u : Value} (hR : kI.R 2 W2 (b + 1) (fun _ => True) u (ns ++ [n])) (hg : W.grownBy W2 v2.ownBlock) :
    OpSt w0 w (W2.setCell ⟨b, 2, none⟩ u) g b6 b a op L p (ns ++ [n]) [] u (.slice none 0 0) := by
  have h1 := h.lg
  have h2 := h.l6
  have h3 := h.lb
  have h5 := h.lt
  have hr := Kd.R_base h.nums
  have hbox : W2.heap[b]? = _ := (hg.block b h5 (fun he => by have := hr b he.symm; omega)).trans h.box
  have hz : W2.heap[b6]? = _ := (hg.block b6 (by omega) (fun he => by have := hr b6 he.symm; omega)).trans h.zero
  have hK : Kept w W2 (At g) := Kept.of_grown hg h.kept (fun k hk => .inr (by have := hr k hk; omega))
  have hI := h.grown_isp hg hr
  exact ⟨hI.mv (S := fun k => k = b) (Kept.setCell (Kept.refl _ (fun k => k = b)) (p := ⟨b, 2, none⟩) (.inl rfl) u) (below_set hI.low (by have := h.isp.ge; show _ ≤ b; omega)) (by show ¬ (g = b); omega), kept_new hK 2 u (by omega),
    blk_put hbox 2 u rfl, blk_far hz (by show b ≠ b6; omega) u, R_put hR (by omega) 2 u, Kd.R_nil _ _ _ _ _, h1, h2, h3⟩
theorem OpSt.arg (h : OpSt w0 w W g b6 b a op L p ns ys v2 v3) {y : X} {u : Value} (hR : kX.R TX W2 (b + 1) (fun _ => True) u (ys ++ [y])) (hg : W.grownBy W2 v3.ownBlock) :
    OpSt w0 w (W2.setCell ⟨b, 3, none⟩ u) g b6 b a op L p ns (ys ++ [y]) v2 u := by
  have h1 := h.lg
  have h2 := h.l6
  have h3 := h.lb
  have h5 := h.lt
  have hr := Kd.R_base h.args
  have hbox : W2.heap[b]? = _ := (hg.block b h5 (fun he => by have := hr b he.symm; omega)).trans h.box
  have hz : W2.heap[b6]? = _ := (hg.block b6 (by omega) (fun he => by have := hr b6 he.symm; omega)).trans h.zero
  have hK : Kept w W2 (At g) := Kept.of_grown hg h.kept (fun k hk => .inr (by have := hr k hk; omega))
  have hI := h.grown_isp hg hr
  exact ⟨hI.mv (S := fun k => k = b) (Kept.setCell (Kept.refl _ (fun k => k = b)) (p := ⟨b, 3, none⟩) (.inl rfl) u) (below_set hI.low (by have := h.isp.ge; show _ ≤ b; omega)) (by show ¬ (g = b); omega), kept_new hK 3 u (by omega),
    blk_put hbox 3 u rfl, blk_far hz (by show b ≠ b6; omega) u, R_put (Kd.R_over h.nums h.args (fun q hq => by simp [Kd.E, kI, Kd.int, Kd.scalar] at hq; subst hq; decide) hg) (by omega) 3 u, R_put hR (by omega) 3 u, h1, h2, h3⟩
/-- What is answered at the end. -/
theorem OpSt.gives (h : OpSt w0 w W g b6 b a op L p ns ys v2 v3) : Gives w W ⟨op, nil8, ns, ys⟩ v2 v3 := by
  have h2 := h.l6
  have h3 := h.lb
  exact k25_mkM _ _ _ ⟨op, nil8, ns, ys⟩ (Kd.R_lower h.nums (by omega)) (Kd.R_lower h.args (by omega))
theorem OpSt.box_grown (h : OpSt w0 w W g b6 b a op L p ns ys v2 v3) {row : Option Nat} (hg : W.grownBy W2 row) (hr : ∀ k, row = some k → b + 1 ≤ k) : W2.heap[b]? = some (.cells #[.int .u8 op, .string nil8, v2, v3] TX (0, 0)) :=
  (hg.block b h.lt (fun he => by have := hr b he.symm; omega)).trans h.box
theorem OpSt.close (h : OpSt w0 w W g b6 b a op L p ns ys v2 v3) (hk : Kept W W2 (At b6)) (hB : Below w0.heap.size w0 W2) : IsP w0 W2 g L a p ∧ Kept w W2 (At g) := by
  have h1 := h.lg
  have h2 := h.l6
  exact ⟨h.isp.mv hk hB (by show ¬ (g = b6); omega), h.kept.then_ hk (fun k hs => .inr (by have : k = b6 := hs; omega))⟩
theorem OpSt.done (h : OpSt w0 w W g b6 b a op L p ns ys v2 v3) (hk : Kept W W2 (At b6)) : Gives w W2 ⟨op, nil8, ns, ys⟩ v2 v3 := by
  have h2 := h.l6
  have h3 := h.lb
  exact k25_mkM _ _ _ ⟨op, nil8, ns, ys⟩ (Kd.R_lower (R_at h.nums hk (by omega)) (by omega)) (Kd.R_lower (R_at h.args hk (by omega)) (by omega))
theorem Gives.slices {x : X} (h : Gives w W x v2 v3) : ∃ A2 c2 A3 c3, v2 = .slice A2 x.f2.length c2 ∧ v3 = .slice A3 x.f3.length c3 := by
  obtain ⟨u2, u3, he, h2, h3⟩ := k25_openM h
  simp only [List.cons.injEq, true_and, and_true] at he
  obtain ⟨rfl, rfl⟩ := he
  obtain ⟨A2, c2, e2⟩ := Kd.R_slice h2
  obtain ⟨A3, c3, e3⟩ := Kd.R_slice h3
  exact ⟨A2, c2, A3, c3, e2, e3⟩
theorem Gives.part {x : X} (h : Gives w W x v2 v3) {B : Nat} (hB : B ≤ w.heap.size) : kX.M W B (fun k => w.heap.size ≤ k) x [.int .u8 x.f0, .string x.f1, v2, v3] :=
  kX.M_lower hB (kX.M_mono (fun k hk => hk.2.1) (kX.M_bound h))
theorem Gives.step {x : X} (h : Gives w W x v2 v3) (hk : Kept W W2 (fun k => k < w.heap.size)) : Gives w W2 x v2 v3 :=
  kX.M_mono (fun _ _ => trivial) (Kd.M_kept (kX.M_bound h) hk (fun k ho => by have := ho.2.1; show ¬ k < _; omega))
end
theorem stepsF_at (rec : Int → List Tok → Res) (nums many k : Nat) (hk : k < many) (x : X) (p : Int) (L : List Tok) (r : Res) (hr : itemF rec (decide (k < nums)) x p L = r) :
    stepsF rec nums many (many - k) x p L = if r.e ≠ 0 then ⟨zX, r.l, r.p, r.e⟩ else if (markF (if k + 1 = many then RPA else COM) r.l).2 ≠ 0 then ⟨zX, (markF (if k + 1 = many then RPA else COM) r.l).1, r.p, (markF (if k + 1 = many then RPA else COM) r.l).2⟩ else stepsF rec nums many (many - (k + 1)) r.x r.p (markF (if k + 1 = many then RPA else COM) r.l).1 := by
  obtain ⟨m, hm⟩ : ∃ m, many - k = m + 1 := ⟨many - k - 1, by omega⟩
  have h1 : many - (m + 1) = k := by omega
  have h2 : many - (k + 1) = m := by omega
  have h3 : (m = 0) = (k + 1 = many) := propext ⟨fun h => by omega, fun h => by omega⟩
  rw [hm, stepsF, h1, hr, h2]
  simp only [h3]
def OpRel (w0 w w3 wr : World) (g : Nat) (a op : Int) (nn aa : Nat) (F : Int → List Tok → Res) (R : Res) (j : Value) (k : Nat) (L : List Tok) (p : Int) (ns : List Int) (ys : List X) (v2 v3 : Value) : Prop :=
  k ≤ nn + aa ∧ j = .int .i64 k ∧ 0 ≤ p ∧ p ≤ 2000 ∧ ns.length + ys.length = k ∧ (k ≤ nn → ys = [] ∧ v3 = .slice none 0 0) ∧ stepsF F nn (nn + aa) (nn + aa - k) ⟨op, nil8, ns, ys⟩ p L = R ∧ OpSt w0 w wr g w.heap.size w3.heap.size a op L p ns ys v2 v3
theorem info_x : (Tryd.prog.info? TX).map (·.size) = some 4 := by kernel_rfl
theorem info_x3 : (Tryd.prog.info? TX).map (fun i => (i.zero, i.size, i.bytes)) = some (some (.agg #[.int .u8 0, .string nil8, .slice none 0 0, .slice none 0 0]), 4, 72) := by kernel_rfl
theorem info_i3 : (Tryd.prog.info? 2).map (fun i => (i.zero, i.size, i.bytes)) = some (some (.int .i64 0), 1, 8) := by kernel_rfl
set_option maxHeartbeats 16000000 in
set_option maxRecDepth 100000 in
theorem operands_calls (w0 : World) (g : Nat) (a dp : Int) (d0 : 0 ≤ dp) (d1 : dp ≤ 40) (F : Int → List Tok → Res) (hF : ExprC w0 g a (dp + 1) F) (hG : ∀ p L, 0 ≤ p → p ≤ 2000 → Good p L (F p L))
    (op : Int) (o0 : 1 ≤ op) (o1 : op ≤ 12) (p : Int) (L : List Tok) (w : World) (hI : IsP w0 w g L a p) (p0 : 0 ≤ p) (p1 : p ≤ 2000) (R : Res) (hR : stepsF F (numsOf op).toNat (manyOf op) (manyOf op) ⟨op, nil8, [], []⟩ p L = R) :
    Calls Tryd.prog 85 #[.pointer (some ⟨g, 0, none⟩), .int .u8 op, .int .i64 dp] w fun e w' =>
      ∃ v2 v3, e = .returned (.tuple #[ag R.x v2 v3, .int .i64 R.e]) ∧ IsP w0 w' g R.l a R.p ∧ Kept w w' (At g) ∧ Gives w w' R.x v2 v3 := by
  have hgw := hI.lt
  have hw0 : w0.heap.size ≤ w.heap.size := by have := hI.ge; omega
  have CN := fun W => Aside0.mk (Nums_calls op W (by omega) (by omega))
  have CA := fun W => Aside0.mk (Args_calls op W (by omega) (by omega))
  have HF := Aside0.mk hF
  have HG := Aside0.mk hG
  obtain ⟨nn, aa, hn, ha, hm, hnn, haa, hmm⟩ : ∃ nn aa : Nat, numsOf op = nn ∧ argsOf op = aa ∧ manyOf op = nn + aa ∧ nn ≤ 3 ∧ aa ≤ 2 ∧ 1 ≤ nn + aa := by
    refine ⟨(numsOf op).toNat, (argsOf op).toNat, ?_⟩
    rcases (show op = 1 ∨ op = 2 ∨ op = 3 ∨ op = 4 ∨ op = 5 ∨ op = 6 ∨ op = 7 ∨ op = 8 ∨ op = 9 ∨ op = 10 ∨ op = 11 ∨ op = 12 by omega) with rfl | rfl | rfl | rfl | rfl | rfl | rfl | rfl | rfl | rfl | rfl | rfl <;> decide
  rw [hn, hm, Int.toNat_natCast] at hR
  rw [hn] at CN
  rw [ha] at CA
  have HR := Aside0.mk hR
  have HI := Aside0.mk hI
  have hd := Aside0.mk (show decide (op ≤ 12) = true from decide_eq_true o1)
  clear hF hG hn ha hm hR hI
  have b6 := blk_new w (.cells zCells TX (0, 0))
  generalize decide (op ≤ 12) = dc at *
  go_enter Tryd.func85, Tryd.ntmps85
  go_wp2_with fail
  (with_reducible refine (CN _).out.mono ?_)
  rintro e w2 ⟨rfl, hb2⟩
  have K2 := Aside0.mk ((Kept.refl w (At g)).alloc (.cells zCells TX (0, 0)) |>.below hb2)
  go_wp2_with fail
  (with_reducible refine (CA _).out.mono ?_)
  rintro e w3 ⟨rfl, hb3⟩
  have K3 := Aside0.mk (K2.out.below hb3)
  have I3 := Aside0.mk (((HI.out.keep (below_alloc (Below.refl _ _) (.cells zCells TX (0, 0)))).keep hb2).keep hb3)
  have b63 := blk_kept (blk_kept b6 (Kept.of_below hb2 (fun _ => False)) id) (Kept.of_below hb3 (fun _ => False)) id
  have bx := blk_new w3 (.cells zCells TX (0, 0))
  have hl3 := Aside0.mk (blk_lt b63)
  clear hb2 hb3 b6
  have HD := hd.out
  go_wp2_with fail
  go_loopw [31] (fun j wr => ∃ k L1 p1 ns ys v2 v3, OpRel w0 w w3 wr g a op nn aa F R j k L1 p1 ns ys v2 v3) (fun j _ => (nn + aa : Nat) - (intOf j).toNat)
  case atStart =>
    refine ⟨0, L, p, [], [], .slice none 0 0, .slice none 0 0, by omega, rfl, p0, p1, rfl, fun _ => ⟨rfl, rfl⟩, HR.out, ?_⟩
    exact ⟨I3.out.keep (below_alloc (Below.refl _ _) _), K3.out.alloc _, blk_new w3 _, blk_alloc b63 _, Kd.R_nil _ _ _ _ _, Kd.R_nil _ _ _ _ _, hgw, Nat.le_refl _, hl3.out⟩
  case round =>
    obtain ⟨k, L1, p2, ns, ys, v2, v3, hk, rfl, hp0, hp1, hlen, hnil, hR, hst⟩ := hrel
    have HRR := Aside0.mk hR
    have ST := Aside0.mk hst
    clear hR hst HR HI CN CA I3 K3 b63 bx
    by_cases hkk : k < nn + aa
    · have hki : (k : Int) < (nn : Int) + (aa : Int) := by omega
      have hki' : decide ((k : Int) < (nn : Int) + (aa : Int)) = true := decide_eq_true hki
      by_cases hn : k < nn
      · have HN := hnil (by omega)
        obtain ⟨rfl, rfl⟩ := HN
        have hdn : decide (k < nn) = true := decide_eq_true hn
        have hni : (k : Int) < (nn : Int) := by omega
        have hni' : decide ((k : Int) < (nn : Int)) = true := decide_eq_true hni
        have HE := Aside0.mk ((stepsF_at F nn (nn + aa) k hkk ⟨op, nil8, ns, []⟩ p2 L1 _ rfl).symm.trans HRR.out)
        rw [hdn] at HE
        clear HRR
        have CU := Aside0.mk (number_calls g L1 a p2 w0 wr ST.out.isp)
        rcases take_cases [2, 3] L1 with ⟨t, r, rfl, ht, _⟩ | ht
        · have hit : itemF F true ⟨op, nil8, ns, []⟩ p2 (t :: r) = ⟨⟨op, nil8, ns ++ [t.f2], []⟩, r, p2, 0⟩ := by
            unfold itemF
            rw [if_pos rfl]
            show Res.mk ⟨op, nil8, ns ++ [(takeF [2, 3] (t :: r)).1.f2], []⟩ (takeF [2, 3] (t :: r)).2.1 p2 (takeF [2, 3] (t :: r)).2.2 = _
            rw [ht]
          rw [hit] at HE
          rw [show numF (t :: r) = (t, r, 0) from ht] at CU
          rw [if_neg (show ¬ ((0 : Int) ≠ 0) by simp)] at HE
          by_cases hlast : k + 1 = nn + aa
          · have hl1 : ((k : Int) == (nn : Int) + (aa : Int) - 1) = true := beq_iff_eq.2 (by omega)
            have hl2 : (k : Int) = (nn : Int) + (aa : Int) - 1 := by omega
            have q5c : wr.cell? ⟨w3.heap.size, 2, none⟩ = some v2 := (blk_cell ST.out.box 2).trans rfl
            clear ht hit
            go_wp2_with fail
            (with_reducible refine CU.out.mono ?_)
            rintro e w5 ⟨rfl, hI5, hk5⟩
            have ST5 := Aside0.mk (ST.out.at hI5 hk5)
            have q5 : w5.cell? ⟨w3.heap.size, 2, none⟩ = some v2 := (blk_cell ST5.out.box 2).trans rfl
            have hbz : w3.heap.size + 1 ≤ w5.heap.size := ST5.out.lt
            clear hI5 hk5 CU ST q5c
            go_wp2_with (first | ((with_reducible refine gate_builtin (b := .append) (xs := #[.tmp 47, .tmp 49]) rfl ?_); at_builtin; refine Kd.R_append kI (w0 := w5) (w3.heap.size + 1) rfl (.tmp 47) (.tmp 49) 22 2 (.int .i64 0) 8 rfl Tryd.underlying22 info_i3 rfl (by decide) (by decide) v2 ns t.f2 [.int .i64 t.f2] (fun _ => True) (fun _ => False) rfl rfl rfl (fun _ hk => hk.elim) (fun _ _ => trivial) ST5.out.nums (Below.refl _ _) hbz (by simp at hlen; omega) ?_; intro v8 w8 ho hb hg hat; obtain ⟨A8, c8, h8⟩ := Kd.R_slice ho; rw [List.length_append, List.length_singleton] at h8; subst h8; have HO := Aside0.mk ho; have HG := Aside0.mk hg; have f8 := blk_frozen (ST5.out.box_grown hg (Kd.R_base ST5.out.nums)) 2; have q8 : w8.cell? ⟨w3.heap.size, 2, none⟩ = some v2 := (blk_cell (ST5.out.box_grown hg (Kd.R_base ST5.out.nums)) 2).trans rfl; clear ho hb hg hat))
            have ST8 := Aside0.mk (ST5.out.num HO.out HG.out)
            obtain ⟨LL, hLL⟩ : ∃ LL, LL = r := ⟨_, rfl⟩
            obtain ⟨pp, hpp⟩ : ∃ pp, pp = p2 := ⟨_, rfl⟩
            rw [← hLL, ← hpp] at ST8 HE
            clear q8
            have q0 : 0 ≤ pp := by omega
            have q1 : pp ≤ 2000 := by omega
            clear HO HG ST5 q5 f8
            rw [if_pos hlast] at HE
            have CM := Aside0.mk (mark_calls g RPA LL a pp w0 _ ST8.out.isp)
            rcases mark_cases RPA LL with ⟨t9, r9, hL9, hm9, _⟩ | ⟨hm9, _⟩
            · rw [hm9] at CM HE
              rw [if_neg (show ¬ ((r9, (0 : Int)).2 ≠ 0) by simp)] at HE
              (with_reducible refine CM.out.mono ?_)
              rintro e w9 ⟨rfl, hI9, hk9⟩
              have ST9 := Aside0.mk (ST8.out.at hI9 hk9)
              clear hI9 hk9 CM
              go_wp2_with fail
              go_roundw
              case rel => exact ⟨k + 1, r9, pp, ns ++ [t.f2], [], _, .slice none 0 0, by omega, by go_num, q0, q1, by simp at hlen ⊢; omega, fun _ => ⟨rfl, rfl⟩, HE.out, ST9.out⟩
              case measure => simp [intOf]; omega
            · rw [hm9] at CM HE
              rw [if_pos (show (LL, (110 : Int)).2 ≠ 0 by simp)] at HE
              (with_reducible refine CM.out.mono ?_)
              rintro e w9 ⟨rfl, hI9, hk9⟩
              have ST9 := Aside0.mk (ST8.out.at hI9 hk9)
              clear hI9 hk9 CM
              have z0 := (blk_cell ST9.out.zero 0)
              have z1 := (blk_cell ST9.out.zero 1)
              have z2 := (blk_cell ST9.out.zero 2)
              have z3 := (blk_cell ST9.out.zero 3)
              have y0 := blk_frozen ST9.out.zero 0
              have y1 := blk_frozen ST9.out.zero 1
              have y2 := blk_frozen ST9.out.zero 2
              have y3 := blk_frozen ST9.out.zero 3
              replace z0 := z0.trans (show zCells[0]? = some (Value.int .u8 0) from rfl)
              replace z1 := z1.trans (show zCells[1]? = some (Value.string nil8) from rfl)
              replace z2 := z2.trans (show zCells[2]? = some (Value.slice none 0 0) from rfl)
              replace z3 := z3.trans (show zCells[3]? = some (Value.slice none 0 0) from rfl)
              go_wp2
              refine bodyPost_ret (results_ct rfl _ _ _ TX _ (0, 0) _ rfl (blk_put (blk_put (blk_put (blk_put ST9.out.zero 0 _ rfl) 1 _ rfl) 2 _ rfl) 3 _ rfl) Tryd.underlying25 rfl info_x) rfl ?_
              have hc := fun W2 h1 h2 => ST9.out.close (W2 := W2) h1 h2
              rw [← HE.out]
              exact ⟨.slice none 0 0, .slice none 0 0, rfl, (hc _ (by (repeat (first | (with_reducible exact Kept.refl _ _) | (with_reducible apply Kept.alloc) | (with_reducible apply Kept.drewN) | (with_reducible apply Kept.drew) | (with_reducible refine kept_at ?_ _ _) | (with_reducible refine kept_new ?_ _ _ (Nat.le_refl _)) | (with_reducible refine kept_new ?_ _ _ (by first | assumption | omega))))) (by (repeat (first | (with_reducible exact ST9.out.isp.low) | (with_reducible apply below_alloc) | (with_reducible apply pw_below_drewN) | (with_reducible apply below_drew1) | (with_reducible refine below_set ?_ (by first | assumption | omega)))))).1, (hc _ (by (repeat (first | (with_reducible exact Kept.refl _ _) | (with_reducible apply Kept.alloc) | (with_reducible apply Kept.drewN) | (with_reducible apply Kept.drew) | (with_reducible refine kept_at ?_ _ _) | (with_reducible refine kept_new ?_ _ _ (Nat.le_refl _)) | (with_reducible refine kept_new ?_ _ _ (by first | assumption | omega))))) (by (repeat (first | (with_reducible exact ST9.out.isp.low) | (with_reducible apply below_alloc) | (with_reducible apply pw_below_drewN) | (with_reducible apply below_drew1) | (with_reducible refine below_set ?_ (by first | assumption | omega)))))).2, gives_zero _ _⟩
          · have hl1 : ((k : Int) == (nn : Int) + (aa : Int) - 1) = false := beq_eq_false_iff_ne.2 (by omega)
            have hl2 : ¬ ((k : Int) = (nn : Int) + (aa : Int) - 1) := by omega
            have q5c : wr.cell? ⟨w3.heap.size, 2, none⟩ = some v2 := (blk_cell ST.out.box 2).trans rfl
            clear ht hit
            go_wp2_with fail
            (with_reducible refine CU.out.mono ?_)
            rintro e w5 ⟨rfl, hI5, hk5⟩
            have ST5 := Aside0.mk (ST.out.at hI5 hk5)
            have q5 : w5.cell? ⟨w3.heap.size, 2, none⟩ = some v2 := (blk_cell ST5.out.box 2).trans rfl
            have hbz : w3.heap.size + 1 ≤ w5.heap.size := ST5.out.lt
            clear hI5 hk5 CU ST q5c
            go_wp2_with (first | ((with_reducible refine gate_builtin (b := .append) (xs := #[.tmp 47, .tmp 49]) rfl ?_); at_builtin; refine Kd.R_append kI (w0 := w5) (w3.heap.size + 1) rfl (.tmp 47) (.tmp 49) 22 2 (.int .i64 0) 8 rfl Tryd.underlying22 info_i3 rfl (by decide) (by decide) v2 ns t.f2 [.int .i64 t.f2] (fun _ => True) (fun _ => False) rfl rfl rfl (fun _ hk => hk.elim) (fun _ _ => trivial) ST5.out.nums (Below.refl _ _) hbz (by simp at hlen; omega) ?_; intro v8 w8 ho hb hg hat; obtain ⟨A8, c8, h8⟩ := Kd.R_slice ho; rw [List.length_append, List.length_singleton] at h8; subst h8; have HO := Aside0.mk ho; have HG := Aside0.mk hg; have f8 := blk_frozen (ST5.out.box_grown hg (Kd.R_base ST5.out.nums)) 2; have q8 : w8.cell? ⟨w3.heap.size, 2, none⟩ = some v2 := (blk_cell (ST5.out.box_grown hg (Kd.R_base ST5.out.nums)) 2).trans rfl; clear ho hb hg hat))
            have ST8 := Aside0.mk (ST5.out.num HO.out HG.out)
            obtain ⟨LL, hLL⟩ : ∃ LL, LL = r := ⟨_, rfl⟩
            obtain ⟨pp, hpp⟩ : ∃ pp, pp = p2 := ⟨_, rfl⟩
            rw [← hLL, ← hpp] at ST8 HE
            clear q8
            have q0 : 0 ≤ pp := by omega
            have q1 : pp ≤ 2000 := by omega
            clear HO HG ST5 q5 f8
            rw [if_neg hlast] at HE
            have CM := Aside0.mk (mark_calls g COM LL a pp w0 _ ST8.out.isp)
            rcases mark_cases COM LL with ⟨t9, r9, hL9, hm9, _⟩ | ⟨hm9, _⟩
            · rw [hm9] at CM HE
              rw [if_neg (show ¬ ((r9, (0 : Int)).2 ≠ 0) by simp)] at HE
              (with_reducible refine CM.out.mono ?_)
              rintro e w9 ⟨rfl, hI9, hk9⟩
              have ST9 := Aside0.mk (ST8.out.at hI9 hk9)
              clear hI9 hk9 CM
              go_wp2_with fail
              go_roundw
              case rel => exact ⟨k + 1, r9, pp, ns ++ [t.f2], [], _, .slice none 0 0, by omega, by go_num, q0, q1, by simp at hlen ⊢; omega, fun _ => ⟨rfl, rfl⟩, HE.out, ST9.out⟩
              case measure => simp [intOf]; omega
            · rw [hm9] at CM HE
              rw [if_pos (show (LL, (110 : Int)).2 ≠ 0 by simp)] at HE
              (with_reducible refine CM.out.mono ?_)
              rintro e w9 ⟨rfl, hI9, hk9⟩
              have ST9 := Aside0.mk (ST8.out.at hI9 hk9)
              clear hI9 hk9 CM
              have z0 := (blk_cell ST9.out.zero 0)
              have z1 := (blk_cell ST9.out.zero 1)
              have z2 := (blk_cell ST9.out.zero 2)
              have z3 := (blk_cell ST9.out.zero 3)
              have y0 := blk_frozen ST9.out.zero 0
              have y1 := blk_frozen ST9.out.zero 1
              have y2 := blk_frozen ST9.out.zero 2
              have y3 := blk_frozen ST9.out.zero 3
              replace z0 := z0.trans (show zCells[0]? = some (Value.int .u8 0) from rfl)
              replace z1 := z1.trans (show zCells[1]? = some (Value.string nil8) from rfl)
              replace z2 := z2.trans (show zCells[2]? = some (Value.slice none 0 0) from rfl)
              replace z3 := z3.trans (show zCells[3]? = some (Value.slice none 0 0) from rfl)
              go_wp2
              refine bodyPost_ret (results_ct rfl _ _ _ TX _ (0, 0) _ rfl (blk_put (blk_put (blk_put (blk_put ST9.out.zero 0 _ rfl) 1 _ rfl) 2 _ rfl) 3 _ rfl) Tryd.underlying25 rfl info_x) rfl ?_
              have hc := fun W2 h1 h2 => ST9.out.close (W2 := W2) h1 h2
              rw [← HE.out]
              exact ⟨.slice none 0 0, .slice none 0 0, rfl, (hc _ (by (repeat (first | (with_reducible exact Kept.refl _ _) | (with_reducible apply Kept.alloc) | (with_reducible apply Kept.drewN) | (with_reducible apply Kept.drew) | (with_reducible refine kept_at ?_ _ _) | (with_reducible refine kept_new ?_ _ _ (Nat.le_refl _)) | (with_reducible refine kept_new ?_ _ _ (by first | assumption | omega))))) (by (repeat (first | (with_reducible exact ST9.out.isp.low) | (with_reducible apply below_alloc) | (with_reducible apply pw_below_drewN) | (with_reducible apply below_drew1) | (with_reducible refine below_set ?_ (by first | assumption | omega)))))).1, (hc _ (by (repeat (first | (with_reducible exact Kept.refl _ _) | (with_reducible apply Kept.alloc) | (with_reducible apply Kept.drewN) | (with_reducible apply Kept.drew) | (with_reducible refine kept_at ?_ _ _) | (with_reducible refine kept_new ?_ _ _ (Nat.le_refl _)) | (with_reducible refine kept_new ?_ _ _ (by first | assumption | omega))))) (by (repeat (first | (with_reducible exact ST9.out.isp.low) | (with_reducible apply below_alloc) | (with_reducible apply pw_below_drewN) | (with_reducible apply below_drew1) | (with_reducible refine below_set ?_ (by first | assumption | omega)))))).2, gives_zero _ _⟩
        · have hit : itemF F true ⟨op, nil8, ns, []⟩ p2 L1 = ⟨⟨op, nil8, ns ++ [z61.f2], []⟩, L1, p2, 110⟩ := by
            unfold itemF
            rw [if_pos rfl]
            show Res.mk ⟨op, nil8, ns ++ [(takeF [2, 3] L1).1.f2], []⟩ (takeF [2, 3] L1).2.1 p2 (takeF [2, 3] L1).2.2 = _
            rw [ht]
          rw [hit] at HE
          rw [show numF L1 = (z61, L1, 110) from ht] at CU
          rw [if_pos (show (110 : Int) ≠ 0 by simp)] at HE
          clear ht hit
          go_wp2_with fail
          (with_reducible refine CU.out.mono ?_)
          rintro e w5 ⟨rfl, hI5, hk5⟩
          have ST5 := Aside0.mk (ST.out.at hI5 hk5)
          clear hI5 hk5 CU ST
          have z0 := (blk_cell ST5.out.zero 0)
          have z1 := (blk_cell ST5.out.zero 1)
          have z2 := (blk_cell ST5.out.zero 2)
          have z3 := (blk_cell ST5.out.zero 3)
          have y0 := blk_frozen ST5.out.zero 0
          have y1 := blk_frozen ST5.out.zero 1
          have y2 := blk_frozen ST5.out.zero 2
          have y3 := blk_frozen ST5.out.zero 3
          replace z0 := z0.trans (show zCells[0]? = some (Value.int .u8 0) from rfl)
          replace z1 := z1.trans (show zCells[1]? = some (Value.string nil8) from rfl)
          replace z2 := z2.trans (show zCells[2]? = some (Value.slice none 0 0) from rfl)
          replace z3 := z3.trans (show zCells[3]? = some (Value.slice none 0 0) from rfl)
          go_wp2
          refine bodyPost_ret (results_ct rfl _ _ _ TX _ (0, 0) _ rfl (blk_put (blk_put (blk_put (blk_put ST5.out.zero 0 _ rfl) 1 _ rfl) 2 _ rfl) 3 _ rfl) Tryd.underlying25 rfl info_x) rfl ?_
          have hc := fun W2 h1 h2 => ST5.out.close (W2 := W2) h1 h2
          rw [← HE.out]
          exact ⟨.slice none 0 0, .slice none 0 0, rfl, (hc _ (by (repeat (first | (with_reducible exact Kept.refl _ _) | (with_reducible apply Kept.alloc) | (with_reducible apply Kept.drewN) | (with_reducible apply Kept.drew) | (with_reducible refine kept_at ?_ _ _) | (with_reducible refine kept_new ?_ _ _ (Nat.le_refl _)) | (with_reducible refine kept_new ?_ _ _ (by first | assumption | omega))))) (by (repeat (first | (with_reducible exact ST5.out.isp.low) | (with_reducible apply below_alloc) | (with_reducible apply pw_below_drewN) | (with_reducible apply below_drew1) | (with_reducible refine below_set ?_ (by first | assumption | omega)))))).1, (hc _ (by (repeat (first | (with_reducible exact Kept.refl _ _) | (with_reducible apply Kept.alloc) | (with_reducible apply Kept.drewN) | (with_reducible apply Kept.drew) | (with_reducible refine kept_at ?_ _ _) | (with_reducible refine kept_new ?_ _ _ (Nat.le_refl _)) | (with_reducible refine kept_new ?_ _ _ (by first | assumption | omega))))) (by (repeat (first | (with_reducible exact ST5.out.isp.low) | (with_reducible apply below_alloc) | (with_reducible apply pw_below_drewN) | (with_reducible apply below_drew1) | (with_reducible refine below_set ?_ (by first | assumption | omega)))))).2, gives_zero _ _⟩

      · have hdn : decide (k < nn) = false := decide_eq_false hn
        have hni : ¬ ((k : Int) < (nn : Int)) := by omega
        have hni' : decide ((k : Int) < (nn : Int)) = false := decide_eq_false hni
        have HE := Aside0.mk ((stepsF_at F nn (nn + aa) k hkk ⟨op, nil8, ns, ys⟩ p2 L1 _ rfl).symm.trans HRR.out)
        rw [hdn] at HE
        clear HRR
        have CU := Aside0.mk (HF.out p2 L1 wr ST.out.isp hp0 hp1)
        have HGG := HG.out p2 L1 hp0 hp1
        have hit : itemF F false ⟨op, nil8, ns, ys⟩ p2 L1 = ⟨⟨op, nil8, ns, ys ++ [(F p2 L1).x]⟩, (F p2 L1).l, (F p2 L1).p, (F p2 L1).e⟩ := by
          unfold itemF
          rw [if_neg (by simp)]
        rw [hit] at HE
        clear hit
        obtain ⟨y, LL, pp, ee, hy⟩ : ∃ y LL pp ee, F p2 L1 = Res.mk y LL pp ee := ⟨_, _, _, _, rfl⟩
        rw [hy] at HE CU HGG
        dsimp only at HE CU HGG
        have hg0 := HGG.p0
        have hgp := HGG.ok
        have q0 : 0 ≤ pp := by dsimp only at hg0; omega
        clear hy
        by_cases hee : ee = 0
        · subst hee
          rw [if_neg (show ¬ ((0 : Int) ≠ 0) by simp)] at HE
          have q1 : pp ≤ 2000 := hgp rfl
          by_cases hlast : k + 1 = nn + aa
          · have hl1 : ((k : Int) == (nn : Int) + (aa : Int) - 1) = true := beq_iff_eq.2 (by omega)
            have hl2 : (k : Int) = (nn : Int) + (aa : Int) - 1 := by omega
            go_wp2_with fail
            (with_reducible refine CU.out.mono ?_)
            rintro e w5 ⟨v5, v6, rfl, hI5, hk5, hy5⟩
            obtain ⟨A5, c5, A6, c6, rfl, rfl⟩ := hy5.slices
            have ST5 := Aside0.mk (ST.out.at hI5 hk5)
            have HY := Aside0.mk (Kd.M_alloc (hy5.part (B := w3.heap.size + 1) ST.out.lt) (.cells #[.int .u8 y.f0, .string y.f1, .slice A5 y.f2.length c5, .slice A6 y.f3.length c6] TX))
            have HV := Aside0.mk (Kd.R_lt ST.out.args)
            have ST6 := Aside0.mk (ST5.out.at (ST5.out.isp.keep (below_alloc (Below.refl _ _) _)) ((Kept.refl _ (At g)).alloc (.cells #[.int .u8 y.f0, .string y.f1, .slice A5 y.f2.length c5, .slice A6 y.f3.length c6] TX)))
            have q5 : (w5.alloc (.cells #[.int .u8 y.f0, .string y.f1, .slice A5 y.f2.length c5, .slice A6 y.f3.length c6] TX)).cell? ⟨w3.heap.size, 3, none⟩ = some v3 := (blk_cell ST6.out.box 3).trans rfl
            have q5b : w5.cell? ⟨w3.heap.size, 3, none⟩ = some v3 := (blk_cell ST5.out.box 3).trans rfl
            have q5n : w3.heap.size < w5.heap.size := ST5.out.lt
            have q5m : ¬ (w3.heap.size = w5.heap.size) := by omega
            have hbz : w3.heap.size + 1 ≤ (w5.alloc (.cells #[.int .u8 y.f0, .string y.f1, .slice A5 y.f2.length c5, .slice A6 y.f3.length c6] TX)).heap.size := ST6.out.lt
            have hal : ys.length ≤ 5 := by omega
            have HS := Aside0.mk (show (w5.alloc (.cells #[.int .u8 y.f0, .string y.f1, .slice A5 y.f2.length c5, .slice A6 y.f3.length c6] TX)).heap.size = w5.heap.size + 1 from Array.size_push ..)
            clear hI5 hk5 CU hgp HGG hg0 hy5 ST5
            go_wp2_with (first | ((with_reducible refine gate_builtin (b := .append) (xs := #[.tmp 64, .tmp 66]) rfl ?_); at_builtin; refine Kd.R_append kX (w0 := w5.alloc (.cells #[.int .u8 y.f0, .string y.f1, .slice A5 y.f2.length c5, .slice A6 y.f3.length c6] TX)) (w3.heap.size + 1) rfl (.tmp 64) (.tmp 66) 23 TX (.agg #[.int .u8 0, .string nil8, .slice none 0 0, .slice none 0 0]) 72 rfl Tryd.underlying23 info_x3 rfl (show 0 < kX.sz from Nat.zero_lt_succ 3) (by decide) v3 ys y [.int .u8 y.f0, .string y.f1, .slice A5 y.f2.length c5, .slice A6 y.f3.length c6] (fun _ => True) (fun k => wr.heap.size ≤ k) rfl (by rw [HS.out]; rfl) HY.out (fun k hk => ⟨trivial, fun he => by have h1 := HV.out k he.symm; have h2 : wr.heap.size ≤ k := hk; omega⟩) (fun _ _ => trivial) ST6.out.args (Below.refl _ _) hbz (by omega) ?_; intro v8 w8 ho hb hg hat; obtain ⟨A8, c8, h8⟩ := Kd.R_slice ho; rw [List.length_append, List.length_singleton] at h8; subst h8; have HO := Aside0.mk ho; have HG := Aside0.mk hg; have f8 := blk_frozen (ST6.out.box_grown hg (Kd.R_base ST6.out.args)) 3; have q8 : w8.cell? ⟨w3.heap.size, 3, none⟩ = some v3 := (blk_cell (ST6.out.box_grown hg (Kd.R_base ST6.out.args)) 3).trans rfl; clear ho hb hg hat))
            have ST8 := Aside0.mk (ST6.out.arg HO.out HG.out)
            clear HO HG ST6 q5 q5b q5n q5m f8 q8 HY HV ST
            rw [if_pos hlast] at HE
            have CM := Aside0.mk (mark_calls g RPA LL a pp w0 _ ST8.out.isp)
            rcases mark_cases RPA LL with ⟨t9, r9, hL9, hm9, _⟩ | ⟨hm9, _⟩
            · rw [hm9] at CM HE
              rw [if_neg (show ¬ ((r9, (0 : Int)).2 ≠ 0) by simp)] at HE
              (with_reducible refine CM.out.mono ?_)
              rintro e w9 ⟨rfl, hI9, hk9⟩
              have ST9 := Aside0.mk (ST8.out.at hI9 hk9)
              clear hI9 hk9 CM
              go_wp2_with fail
              go_roundw
              case rel => exact ⟨k + 1, r9, pp, ns, ys ++ [y], v2, _, by omega, by go_num, q0, q1, by simp at hlen ⊢; omega, fun h => absurd h (by omega), HE.out, ST9.out⟩
              case measure => simp [intOf]; omega
            · rw [hm9] at CM HE
              rw [if_pos (show (LL, (110 : Int)).2 ≠ 0 by simp)] at HE
              (with_reducible refine CM.out.mono ?_)
              rintro e w9 ⟨rfl, hI9, hk9⟩
              have ST9 := Aside0.mk (ST8.out.at hI9 hk9)
              clear hI9 hk9 CM
              have z0 := (blk_cell ST9.out.zero 0)
              have z1 := (blk_cell ST9.out.zero 1)
              have z2 := (blk_cell ST9.out.zero 2)
              have z3 := (blk_cell ST9.out.zero 3)
              have y0 := blk_frozen ST9.out.zero 0
              have y1 := blk_frozen ST9.out.zero 1
              have y2 := blk_frozen ST9.out.zero 2
              have y3 := blk_frozen ST9.out.zero 3
              replace z0 := z0.trans (show zCells[0]? = some (Value.int .u8 0) from rfl)
              replace z1 := z1.trans (show zCells[1]? = some (Value.string nil8) from rfl)
              replace z2 := z2.trans (show zCells[2]? = some (Value.slice none 0 0) from rfl)
              replace z3 := z3.trans (show zCells[3]? = some (Value.slice none 0 0) from rfl)
              go_wp2
              refine bodyPost_ret (results_ct rfl _ _ _ TX _ (0, 0) _ rfl (blk_put (blk_put (blk_put (blk_put ST9.out.zero 0 _ rfl) 1 _ rfl) 2 _ rfl) 3 _ rfl) Tryd.underlying25 rfl info_x) rfl ?_
              have hc := fun W2 h1 h2 => ST9.out.close (W2 := W2) h1 h2
              rw [← HE.out]
              exact ⟨.slice none 0 0, .slice none 0 0, rfl, (hc _ (by (repeat (first | (with_reducible exact Kept.refl _ _) | (with_reducible apply Kept.alloc) | (with_reducible apply Kept.drewN) | (with_reducible apply Kept.drew) | (with_reducible refine kept_at ?_ _ _) | (with_reducible refine kept_new ?_ _ _ (Nat.le_refl _)) | (with_reducible refine kept_new ?_ _ _ (by first | assumption | omega))))) (by (repeat (first | (with_reducible exact ST9.out.isp.low) | (with_reducible apply below_alloc) | (with_reducible apply pw_below_drewN) | (with_reducible apply below_drew1) | (with_reducible refine below_set ?_ (by first | assumption | omega)))))).1, (hc _ (by (repeat (first | (with_reducible exact Kept.refl _ _) | (with_reducible apply Kept.alloc) | (with_reducible apply Kept.drewN) | (with_reducible apply Kept.drew) | (with_reducible refine kept_at ?_ _ _) | (with_reducible refine kept_new ?_ _ _ (Nat.le_refl _)) | (with_reducible refine kept_new ?_ _ _ (by first | assumption | omega))))) (by (repeat (first | (with_reducible exact ST9.out.isp.low) | (with_reducible apply below_alloc) | (with_reducible apply pw_below_drewN) | (with_reducible apply below_drew1) | (with_reducible refine below_set ?_ (by first | assumption | omega)))))).2, gives_zero _ _⟩
          · have hl1 : ((k : Int) == (nn : Int) + (aa : Int) - 1) = false := beq_eq_false_iff_ne.2 (by omega)
            have hl2 : ¬ ((k : Int) = (nn : Int) + (aa : Int) - 1) := by omega
            go_wp2_with fail
            (with_reducible refine CU.out.mono ?_)
            rintro e w5 ⟨v5, v6, rfl, hI5, hk5, hy5⟩
            obtain ⟨A5, c5, A6, c6, rfl, rfl⟩ := hy5.slices
            have ST5 := Aside0.mk (ST.out.at hI5 hk5)
            have HY := Aside0.mk (Kd.M_alloc (hy5.part (B := w3.heap.size + 1) ST.out.lt) (.cells #[.int .u8 y.f0, .string y.f1, .slice A5 y.f2.length c5, .slice A6 y.f3.length c6] TX))
            have HV := Aside0.mk (Kd.R_lt ST.out.args)
            have ST6 := Aside0.mk (ST5.out.at (ST5.out.isp.keep (below_alloc (Below.refl _ _) _)) ((Kept.refl _ (At g)).alloc (.cells #[.int .u8 y.f0, .string y.f1, .slice A5 y.f2.length c5, .slice A6 y.f3.length c6] TX)))
            have q5 : (w5.alloc (.cells #[.int .u8 y.f0, .string y.f1, .slice A5 y.f2.length c5, .slice A6 y.f3.length c6] TX)).cell? ⟨w3.heap.size, 3, none⟩ = some v3 := (blk_cell ST6.out.box 3).trans rfl
            have q5b : w5.cell? ⟨w3.heap.size, 3, none⟩ = some v3 := (blk_cell ST5.out.box 3).trans rfl
            have q5n : w3.heap.size < w5.heap.size := ST5.out.lt
            have q5m : ¬ (w3.heap.size = w5.heap.size) := by omega
            have hbz : w3.heap.size + 1 ≤ (w5.alloc (.cells #[.int .u8 y.f0, .string y.f1, .slice A5 y.f2.length c5, .slice A6 y.f3.length c6] TX)).heap.size := ST6.out.lt
            have hal : ys.length ≤ 5 := by omega
            have HS := Aside0.mk (show (w5.alloc (.cells #[.int .u8 y.f0, .string y.f1, .slice A5 y.f2.length c5, .slice A6 y.f3.length c6] TX)).heap.size = w5.heap.size + 1 from Array.size_push ..)
            clear hI5 hk5 CU hgp HGG hg0 hy5 ST5
            go_wp2_with (first | ((with_reducible refine gate_builtin (b := .append) (xs := #[.tmp 64, .tmp 66]) rfl ?_); at_builtin; refine Kd.R_append kX (w0 := w5.alloc (.cells #[.int .u8 y.f0, .string y.f1, .slice A5 y.f2.length c5, .slice A6 y.f3.length c6] TX)) (w3.heap.size + 1) rfl (.tmp 64) (.tmp 66) 23 TX (.agg #[.int .u8 0, .string nil8, .slice none 0 0, .slice none 0 0]) 72 rfl Tryd.underlying23 info_x3 rfl (show 0 < kX.sz from Nat.zero_lt_succ 3) (by decide) v3 ys y [.int .u8 y.f0, .string y.f1, .slice A5 y.f2.length c5, .slice A6 y.f3.length c6] (fun _ => True) (fun k => wr.heap.size ≤ k) rfl (by rw [HS.out]; rfl) HY.out (fun k hk => ⟨trivial, fun he => by have h1 := HV.out k he.symm; have h2 : wr.heap.size ≤ k := hk; omega⟩) (fun _ _ => trivial) ST6.out.args (Below.refl _ _) hbz (by omega) ?_; intro v8 w8 ho hb hg hat; obtain ⟨A8, c8, h8⟩ := Kd.R_slice ho; rw [List.length_append, List.length_singleton] at h8; subst h8; have HO := Aside0.mk ho; have HG := Aside0.mk hg; have f8 := blk_frozen (ST6.out.box_grown hg (Kd.R_base ST6.out.args)) 3; have q8 : w8.cell? ⟨w3.heap.size, 3, none⟩ = some v3 := (blk_cell (ST6.out.box_grown hg (Kd.R_base ST6.out.args)) 3).trans rfl; clear ho hb hg hat))
            have ST8 := Aside0.mk (ST6.out.arg HO.out HG.out)
            clear HO HG ST6 q5 q5b q5n q5m f8 q8 HY HV ST
            rw [if_neg hlast] at HE
            have CM := Aside0.mk (mark_calls g COM LL a pp w0 _ ST8.out.isp)
            rcases mark_cases COM LL with ⟨t9, r9, hL9, hm9, _⟩ | ⟨hm9, _⟩
            · rw [hm9] at CM HE
              rw [if_neg (show ¬ ((r9, (0 : Int)).2 ≠ 0) by simp)] at HE
              (with_reducible refine CM.out.mono ?_)
              rintro e w9 ⟨rfl, hI9, hk9⟩
              have ST9 := Aside0.mk (ST8.out.at hI9 hk9)
              clear hI9 hk9 CM
              go_wp2_with fail
              go_roundw
              case rel => exact ⟨k + 1, r9, pp, ns, ys ++ [y], v2, _, by omega, by go_num, q0, q1, by simp at hlen ⊢; omega, fun h => absurd h (by omega), HE.out, ST9.out⟩
              case measure => simp [intOf]; omega
            · rw [hm9] at CM HE
              rw [if_pos (show (LL, (110 : Int)).2 ≠ 0 by simp)] at HE
              (with_reducible refine CM.out.mono ?_)
              rintro e w9 ⟨rfl, hI9, hk9⟩
              have ST9 := Aside0.mk (ST8.out.at hI9 hk9)
              clear hI9 hk9 CM
              have z0 := (blk_cell ST9.out.zero 0)
              have z1 := (blk_cell ST9.out.zero 1)
              have z2 := (blk_cell ST9.out.zero 2)
              have z3 := (blk_cell ST9.out.zero 3)
              have y0 := blk_frozen ST9.out.zero 0
              have y1 := blk_frozen ST9.out.zero 1
              have y2 := blk_frozen ST9.out.zero 2
              have y3 := blk_frozen ST9.out.zero 3
              replace z0 := z0.trans (show zCells[0]? = some (Value.int .u8 0) from rfl)
              replace z1 := z1.trans (show zCells[1]? = some (Value.string nil8) from rfl)
              replace z2 := z2.trans (show zCells[2]? = some (Value.slice none 0 0) from rfl)
              replace z3 := z3.trans (show zCells[3]? = some (Value.slice none 0 0) from rfl)
              go_wp2
              refine bodyPost_ret (results_ct rfl _ _ _ TX _ (0, 0) _ rfl (blk_put (blk_put (blk_put (blk_put ST9.out.zero 0 _ rfl) 1 _ rfl) 2 _ rfl) 3 _ rfl) Tryd.underlying25 rfl info_x) rfl ?_
              have hc := fun W2 h1 h2 => ST9.out.close (W2 := W2) h1 h2
              rw [← HE.out]
              exact ⟨.slice none 0 0, .slice none 0 0, rfl, (hc _ (by (repeat (first | (with_reducible exact Kept.refl _ _) | (with_reducible apply Kept.alloc) | (with_reducible apply Kept.drewN) | (with_reducible apply Kept.drew) | (with_reducible refine kept_at ?_ _ _) | (with_reducible refine kept_new ?_ _ _ (Nat.le_refl _)) | (with_reducible refine kept_new ?_ _ _ (by first | assumption | omega))))) (by (repeat (first | (with_reducible exact ST9.out.isp.low) | (with_reducible apply below_alloc) | (with_reducible apply pw_below_drewN) | (with_reducible apply below_drew1) | (with_reducible refine below_set ?_ (by first | assumption | omega)))))).1, (hc _ (by (repeat (first | (with_reducible exact Kept.refl _ _) | (with_reducible apply Kept.alloc) | (with_reducible apply Kept.drewN) | (with_reducible apply Kept.drew) | (with_reducible refine kept_at ?_ _ _) | (with_reducible refine kept_new ?_ _ _ (Nat.le_refl _)) | (with_reducible refine kept_new ?_ _ _ (by first | assumption | omega))))) (by (repeat (first | (with_reducible exact ST9.out.isp.low) | (with_reducible apply below_alloc) | (with_reducible apply pw_below_drewN) | (with_reducible apply below_drew1) | (with_reducible refine below_set ?_ (by first | assumption | omega)))))).2, gives_zero _ _⟩
        · rw [if_pos (show ee ≠ 0 from hee)] at HE
          have hee' : (ee != 0) = true := bne_iff_ne.2 hee
          go_wp2_with fail
          (with_reducible refine CU.out.mono ?_)
          rintro e w5 ⟨v5, v6, rfl, hI5, hk5, hy5⟩
          obtain ⟨A5, c5, A6, c6, rfl, rfl⟩ := hy5.slices
          have ST5 := Aside0.mk (ST.out.at hI5 hk5)
          have ST6 := Aside0.mk (ST5.out.at (ST5.out.isp.keep (below_alloc (Below.refl _ _) _)) ((Kept.refl _ (At g)).alloc (.cells #[.int .u8 y.f0, .string y.f1, .slice A5 y.f2.length c5, .slice A6 y.f3.length c6] TX)))
          clear hI5 hk5 CU ST hgp HGG hg0 hy5 ST5
          have z0 := (blk_cell ST6.out.zero 0)
          have z1 := (blk_cell ST6.out.zero 1)
          have z2 := (blk_cell ST6.out.zero 2)
          have z3 := (blk_cell ST6.out.zero 3)
          have y0 := blk_frozen ST6.out.zero 0
          have y1 := blk_frozen ST6.out.zero 1
          have y2 := blk_frozen ST6.out.zero 2
          have y3 := blk_frozen ST6.out.zero 3
          replace z0 := z0.trans (show zCells[0]? = some (Value.int .u8 0) from rfl)
          replace z1 := z1.trans (show zCells[1]? = some (Value.string nil8) from rfl)
          replace z2 := z2.trans (show zCells[2]? = some (Value.slice none 0 0) from rfl)
          replace z3 := z3.trans (show zCells[3]? = some (Value.slice none 0 0) from rfl)
          go_wp2
          refine bodyPost_ret (results_ct rfl _ _ _ TX _ (0, 0) _ rfl (blk_put (blk_put (blk_put (blk_put ST6.out.zero 0 _ rfl) 1 _ rfl) 2 _ rfl) 3 _ rfl) Tryd.underlying25 rfl info_x) rfl ?_
          have hc := fun W2 h1 h2 => ST6.out.close (W2 := W2) h1 h2
          rw [← HE.out]
          exact ⟨.slice none 0 0, .slice none 0 0, rfl, (hc _ (by (repeat (first | (with_reducible exact Kept.refl _ _) | (with_reducible apply Kept.alloc) | (with_reducible apply Kept.drewN) | (with_reducible apply Kept.drew) | (with_reducible refine kept_at ?_ _ _) | (with_reducible refine kept_new ?_ _ _ (Nat.le_refl _)) | (with_reducible refine kept_new ?_ _ _ (by first | assumption | omega))))) (by (repeat (first | (with_reducible exact ST6.out.isp.low) | (with_reducible apply below_alloc) | (with_reducible apply pw_below_drewN) | (with_reducible apply below_drew1) | (with_reducible refine below_set ?_ (by first | assumption | omega)))))).1, (hc _ (by (repeat (first | (with_reducible exact Kept.refl _ _) | (with_reducible apply Kept.alloc) | (with_reducible apply Kept.drewN) | (with_reducible apply Kept.drew) | (with_reducible refine kept_at ?_ _ _) | (with_reducible refine kept_new ?_ _ _ (Nat.le_refl _)) | (with_reducible refine kept_new ?_ _ _ (by first | assumption | omega))))) (by (repeat (first | (with_reducible exact ST6.out.isp.low) | (with_reducible apply below_alloc) | (with_reducible apply pw_below_drewN) | (with_reducible apply below_drew1) | (with_reducible refine below_set ?_ (by first | assumption | omega)))))).2, gives_zero _ _⟩

    · obtain ⟨A2, c2, rfl⟩ := Kd.R_slice ST.out.nums
      obtain ⟨A3, c3, rfl⟩ := Kd.R_slice ST.out.args
      obtain rfl : k = nn + aa := by omega
      have hki' : decide (((nn + aa : Nat) : Int) < (nn : Int) + (aa : Int)) = false := decide_eq_false (by omega)
      have hR := HRR.out
      rw [Nat.sub_self, stepsF] at hR
      have HE := Aside0.mk hR
      have q0 : wr.cell? ⟨w3.heap.size, 0, none⟩ = some (.int .u8 op) := (blk_cell ST.out.box 0).trans rfl
      have q1 : wr.cell? ⟨w3.heap.size, 1, none⟩ = some (.string nil8) := (blk_cell ST.out.box 1).trans rfl
      have q2 : wr.cell? ⟨w3.heap.size, 2, none⟩ = some (.slice A2 _ c2) := (blk_cell ST.out.box 2).trans rfl
      have q3 : wr.cell? ⟨w3.heap.size, 3, none⟩ = some (.slice A3 _ c3) := (blk_cell ST.out.box 3).trans rfl
      have z0 := (blk_cell ST.out.zero 0).trans (show zCells[0]? = some (Value.int .u8 0) from rfl)
      have z1 := (blk_cell ST.out.zero 1).trans (show zCells[1]? = some (Value.string nil8) from rfl)
      have z2 := (blk_cell ST.out.zero 2).trans (show zCells[2]? = some (Value.slice none 0 0) from rfl)
      have z3 := (blk_cell ST.out.zero 3).trans (show zCells[3]? = some (Value.slice none 0 0) from rfl)
      have y0 := blk_frozen ST.out.zero 0
      have y1 := blk_frozen ST.out.zero 1
      have y2 := blk_frozen ST.out.zero 2
      have y3 := blk_frozen ST.out.zero 3
      clear hR HRR
      go_wp2
      refine bodyPost_ret (results_ct rfl _ _ _ TX _ (0, 0) _ rfl (blk_put (blk_put (blk_put (blk_put ST.out.zero 0 _ rfl) 1 _ rfl) 2 _ rfl) 3 _ rfl) Tryd.underlying25 rfl info_x) rfl ?_
      have hc := fun W2 h1 h2 => ST.out.close (W2 := W2) h1 h2
      rw [← HE.out]
      exact ⟨_, _, rfl, (hc _ (by (repeat (first | (with_reducible exact Kept.refl _ _) | (with_reducible apply Kept.alloc) | (with_reducible apply Kept.drewN) | (with_reducible apply Kept.drew) | (with_reducible refine kept_at ?_ _ _) | (with_reducible refine kept_new ?_ _ _ (Nat.le_refl _)) | (with_reducible refine kept_new ?_ _ _ (by first | assumption | omega))))) (by (repeat (first | (with_reducible exact ST.out.isp.low) | (with_reducible apply below_alloc) | (with_reducible apply pw_below_drewN) | (with_reducible apply below_drew1) | (with_reducible refine below_set ?_ (by first | assumption | omega)))))).1, (hc _ (by (repeat (first | (with_reducible exact Kept.refl _ _) | (with_reducible apply Kept.alloc) | (with_reducible apply Kept.drewN) | (with_reducible apply Kept.drew) | (with_reducible refine kept_at ?_ _ _) | (with_reducible refine kept_new ?_ _ _ (Nat.le_refl _)) | (with_reducible refine kept_new ?_ _ _ (by first | assumption | omega))))) (by (repeat (first | (with_reducible exact ST.out.isp.low) | (with_reducible apply below_alloc) | (with_reducible apply pw_below_drewN) | (with_reducible apply below_drew1) | (with_reducible refine below_set ?_ (by first | assumption | omega)))))).2, ST.out.done (by (repeat (first | (with_reducible exact Kept.refl _ _) | (with_reducible apply Kept.alloc) | (with_reducible apply Kept.drewN) | (with_reducible apply Kept.drew) | (with_reducible refine kept_at ?_ _ _) | (with_reducible refine kept_new ?_ _ _ (Nat.le_refl _)) | (with_reducible refine kept_new ?_ _ _ (by first | assumption | omega)))))⟩
end Go.Proofs.YtjeofffddbibeaaDoor.Pa
end

section
namespace Go.Proofs
open Go.Shelf
def Tryd.lays145_ren : Go.Shelf.Ren := ⟨fun | 145 => 63 | 220 => 81 | 219 => 94 | 217 => 105 | 225 => 113 | 224 => 114 | 267 => 115 | 266 => 121 | 314 => 125 | n => n, fun | 9 => 9 | 4 => 4 | 59 => 90 | 3 => 3 | 5 => 5 | 46 => 165 | 146 => 176 | 51 => 136 | n => n, fun | 1 => 2 | n => n⟩
theorem Tryd.lays145 : Go.Proofs.Lays.n145 Tryd.prog Tryd.lays145_ren := {
  mixed := by kernel_rfl
  f145 := Tryd.func63.trans (congrArg some (by kernel_rfl))
  f217 := Tryd.func105.trans (congrArg some (by kernel_rfl))
  f219 := Tryd.func94.trans (congrArg some (by kernel_rfl))
  f220 := Tryd.func81.trans (congrArg some (by kernel_rfl))
  f224 := Tryd.func114.trans (congrArg some (by kernel_rfl))
  f225 := Tryd.func113.trans (congrArg some (by kernel_rfl))
  f266 := Tryd.func121.trans (congrArg some (by kernel_rfl))
  f267 := Tryd.func115.trans (congrArg some (by kernel_rfl))
  f314 := Tryd.func125.trans (congrArg some (by kernel_rfl))
  t3 := Tryd.underlying3
  a3 := Tryd.isAgg3
  z3 := Tryd.sizeOf3
  v3 := Tryd.zeroValue3
  t4 := Tryd.underlying4
  a4 := Tryd.isAgg4
  z4 := Tryd.sizeOf4
  v4 := Tryd.zeroValue4
  t5 := Tryd.underlying5
  a5 := Tryd.isAgg5
  z5 := Tryd.sizeOf5
  v5 := Tryd.zeroValue5
  t9 := Tryd.underlying9
  a9 := Tryd.isAgg9
  z9 := Tryd.sizeOf9
  v9 := Tryd.zeroValue9
  t46 := Tryd.underlying165
  a46 := Tryd.isAgg165
  z46 := Tryd.sizeOf165
  v46 := Tryd.zeroValue165
  t51 := Tryd.underlying136
  a51 := Tryd.isAgg136
  z51 := Tryd.sizeOf136
  v51 := Tryd.zeroValue136
  t59 := Tryd.underlying90
  a59 := Tryd.isAgg90
  z59 := Tryd.sizeOf90
  v59 := Tryd.zeroValue90
  t146 := Tryd.underlying176
  a146 := Tryd.isAgg176
  z146 := Tryd.sizeOf176
  v146 := Tryd.zeroValue176
  g1 := by kernel_rfl }
open Go.RowKit Go.Lib in
/-- strings.Cut: "Cut slices s around the first instance of sep, returning the text before and after sep. The found result reports whether sep appears in s. If sep does not appear in s, cut returns s, "", false.": IT RETURNS 'Lib.cut s sep'; the world is as it was but for the count of draws. (LAID: no walk: one application.) -/
theorem Tryd.strings_Cut (s sep : ByteArray) (m : Int) (w : World) (hs : s.size < 4294967281) (hm : w.cell? ⟨2, 0, none⟩ = some (.int .i64 m)) :
    Calls Tryd.prog 63 #[.string s, .string sep] w fun e w' => e = .returned (.tuple #[.string ⟨(Lib.cut s.data.toList sep.data.toList).1.toArray⟩, .string ⟨(Lib.cut s.data.toList sep.data.toList).2.1.toArray⟩, .bool (Lib.cut s.data.toList sep.data.toList).2.2]) ∧ ∃ n, w' = w.drewN n := Any.strings_Cut Tryd.lays145 s sep m w hs hm
def Tryd.laysM157_ren : Go.Shelf.Ren := ⟨fun | 157 => 61 | 229 => 79 | 199 => 80 | 261 => 93 | 311 => 111 | 312 => 112 | n => n, fun | 9 => 9 | 31 => 28 | 3 => 3 | 5 => 5 | 4 => 4 | 119 => 116 | 0 => 0 | 40 => 118 | 152 => 133 | 21 => 21 | 154 => 135 | 51 => 136 | 141 => 138 | 196 => 157 | 193 => 154 | 198 => 159 | 49 => 59 | 194 => 155 | 201 => 162 | 226 => 174 | 46 => 165 | 227 => 175 | n => n, fun | 0 => 0 | 6 => 1 | n => n⟩
theorem Tryd.laysM157 : Go.Proofs.LaysM.n157 Tryd.prog Tryd.laysM157_ren := {
  mixed := by kernel_rfl
  f157 := Tryd.func61.trans (congrArg some (by kernel_rfl))
  f199 := Tryd.func80.trans (congrArg some (by kernel_rfl))
  f229 := Tryd.func79.trans (congrArg some (by kernel_rfl))
  f261 := Tryd.func93.trans (congrArg some (by kernel_rfl))
  f311 := Tryd.func111.trans (congrArg some (by kernel_rfl))
  f312 := Tryd.func112.trans (congrArg some (by kernel_rfl))
  t0 := Tryd.underlying0
  a0 := Tryd.isAgg0
  z0 := Tryd.sizeOf0
  v0 := Tryd.zeroValue0
  t3 := Tryd.underlying3
  a3 := Tryd.isAgg3
  z3 := Tryd.sizeOf3
  v3 := Tryd.zeroValue3
  t4 := Tryd.underlying4
  a4 := Tryd.isAgg4
  z4 := Tryd.sizeOf4
  v4 := Tryd.zeroValue4
  t5 := Tryd.underlying5
  a5 := Tryd.isAgg5
  z5 := Tryd.sizeOf5
  v5 := Tryd.zeroValue5
  t9 := Tryd.underlying9
  a9 := Tryd.isAgg9
  z9 := Tryd.sizeOf9
  v9 := Tryd.zeroValue9
  t21 := Tryd.underlying21
  a21 := Tryd.isAgg21
  z21 := Tryd.sizeOf21
  v21 := Tryd.zeroValue21
  t31 := Tryd.underlying28
  a31 := Tryd.isAgg28
  z31 := Tryd.sizeOf28
  v31 := Tryd.zeroValue28
  t40 := Tryd.underlying118
  a40 := Tryd.isAgg118
  z40 := Tryd.sizeOf118
  v40 := Tryd.zeroValue118
  t46 := Tryd.underlying165
  a46 := Tryd.isAgg165
  z46 := Tryd.sizeOf165
  v46 := Tryd.zeroValue165
  t49 := Tryd.underlying59
  a49 := Tryd.isAgg59
  z49 := Tryd.sizeOf59
  v49 := Tryd.zeroValue59
  t51 := Tryd.underlying136
  a51 := Tryd.isAgg136
  z51 := Tryd.sizeOf136
  v51 := Tryd.zeroValue136
  t119 := Tryd.underlying116
  a119 := Tryd.isAgg116
  z119 := Tryd.sizeOf116
  t141 := Tryd.underlying138
  a141 := Tryd.isAgg138
  z141 := Tryd.sizeOf138
  v141 := Tryd.zeroValue138
  t152 := Tryd.underlying133
  a152 := Tryd.isAgg133
  z152 := Tryd.sizeOf133
  v152 := Tryd.zeroValue133
  t154 := Tryd.underlying135
  a154 := Tryd.isAgg135
  z154 := Tryd.sizeOf135
  v154 := Tryd.zeroValue135
  t193 := Tryd.underlying154
  a193 := Tryd.isAgg154
  z193 := Tryd.sizeOf154
  v193 := Tryd.zeroValue154
  t194 := Tryd.underlying155
  a194 := Tryd.isAgg155
  z194 := Tryd.sizeOf155
  v194 := Tryd.zeroValue155
  t196 := Tryd.underlying157
  a196 := Tryd.isAgg157
  z196 := Tryd.sizeOf157
  v196 := Tryd.zeroValue157
  t198 := Tryd.underlying159
  a198 := Tryd.isAgg159
  z198 := Tryd.sizeOf159
  v198 := Tryd.zeroValue159
  t201 := Tryd.underlying162
  a201 := Tryd.isAgg162
  z201 := Tryd.sizeOf162
  v201 := Tryd.zeroValue162
  t226 := Tryd.underlying174
  a226 := Tryd.isAgg174
  z226 := Tryd.sizeOf174
  v226 := Tryd.zeroValue174
  t227 := Tryd.underlying175
  a227 := Tryd.isAgg175
  z227 := Tryd.sizeOf175
  v227 := Tryd.zeroValue175
  g0 := by kernel_rfl
  g6 := by kernel_rfl
  i0 := by kernel_rfl
  i3 := by kernel_rfl
  i4 := by kernel_rfl
  i5 := by kernel_rfl
  i9 := by kernel_rfl
  i21 := by kernel_rfl
  i31 := by kernel_rfl
  i40 := by kernel_rfl
  i46 := by kernel_rfl
  i49 := by kernel_rfl
  i51 := by kernel_rfl
  i141 := by kernel_rfl
  i152 := by kernel_rfl
  i154 := by kernel_rfl
  i193 := by kernel_rfl
  i194 := by kernel_rfl
  i196 := by kernel_rfl
  i198 := by kernel_rfl
  i201 := by kernel_rfl
  i226 := by kernel_rfl
  i227 := by kernel_rfl
  m0 := by kernel_rfl
  m6 := by kernel_rfl }
open Go.RowKit Go.Lib in
/-- strings.Fields on ASCII bytes. (The table: 'Lib.TabIs', as strings.TrimSpace's contract asks it.) (LAID: no walk: one application.) -/
theorem Tryd.strings_Fields_laid (s : ByteArray) (w : World) (hs : s.size < 4294967281) (hascii : ∀ (j : Nat) b, s.data.toList[j]? = some b → b.toNat < 128) (htab : Lib.TabIs Tryd.prog w "strings.asciiSpace" .u8 Lib.asciiSpaceTab) :
    Calls Tryd.prog 61 #[.string s] w fun e w' =>
      e = .returned (.slice (some ⟨w.heap.size, 0, none⟩) (Lib.fields s.data.toList).length (Lib.fields s.data.toList).length) ∧ w' = w.alloc (.cells ((Lib.fields s.data.toList).map fun l => Value.string ⟨l.toArray⟩).toArray 9) := Any.strings_Fields_laid Tryd.laysM157 s w hs hascii htab
def Tryd.lays109_ren : Go.Shelf.Ren := ⟨fun | 109 => 60 | n => n, fun | 31 => 28 | 9 => 9 | 3 => 3 | 0 => 0 | 4 => 4 | n => n, fun | n => n⟩
theorem Tryd.lays109 : Go.Proofs.Lays.n109 Tryd.prog Tryd.lays109_ren := {
  mixed := by kernel_rfl
  f109 := Tryd.func60.trans (congrArg some (by kernel_rfl))
  t0 := Tryd.underlying0
  a0 := Tryd.isAgg0
  z0 := Tryd.sizeOf0
  v0 := Tryd.zeroValue0
  t3 := Tryd.underlying3
  a3 := Tryd.isAgg3
  z3 := Tryd.sizeOf3
  v3 := Tryd.zeroValue3
  t4 := Tryd.underlying4
  a4 := Tryd.isAgg4
  z4 := Tryd.sizeOf4
  v4 := Tryd.zeroValue4
  t9 := Tryd.underlying9
  a9 := Tryd.isAgg9
  z9 := Tryd.sizeOf9
  v9 := Tryd.zeroValue9
  t31 := Tryd.underlying28
  a31 := Tryd.isAgg28
  z31 := Tryd.sizeOf28
  v31 := Tryd.zeroValue28 }
open Go.Lib in
/-- slices.Index at []string: "Index returns the index of the first occurrence of v in s, or -1 if not present.": IT RETURNS 'Lib.idxOfS (the elements) v'; the world is as it was. 'zs': what the cells behind the slice's address hold (its spare capacity too, if you have it); 'zs.take n': its elements. (LAID: no walk: one application.) -/
theorem Tryd.slices_Index_string (b off n c : Nat) (zs : List ByteArray) (x : ByteArray) (w : World) (hz : n ≤ zs.length) (hbig : n ≤ 9223372036854775807) (hc : ∀ j, j < zs.length → w.cell? ⟨b, off + j, none⟩ = some (.string (zs.getD j ByteArray.empty))) :
    Calls Tryd.prog 60 #[.slice (some ⟨b, off, none⟩) n c, .string x] w fun e w' => e = .returned (.int .i64 (Lib.idxOfS (zs.take n) x)) ∧ w' = w := Any.slices_Index_string Tryd.lays109 b off n c zs x w hz hbig hc
end Go.Proofs
end

section
namespace Go.Proofs.YtjeofffddbibeaaDoor.Pa
open Go Go.RowKit Go.Proofs.YtjeofffddbibeaaDoor.PParseTells Go.Proofs.YtjeofffddbibeaaDoorW.PrintWords Go.Proofs.YtjeofffddbibeaaDoorW.PrintLast Go.Proofs.YtjeofffddbibeaaDoorW.PrintMore
set_option linter.unusedVariables false
set_option linter.unusedSimpArgs false
set_option maxHeartbeats 4000000 in
theorem Op_calls (s : ByteArray) (w : World) (hC : Cal w) :
    Calls Tryd.prog 32 #[.string s] w fun e w' => e = .returned (.tuple #[.int .u8 (opF s).1, .bool (opF s).2]) ∧ Below w.heap.size w w' := by
  have CF : Aside0 (Calls Tryd.prog 61 #[.string OPS] w fun e w' => e = .returned (.slice (some ⟨w.heap.size, 0, none⟩) 12 12) ∧ w' = w.alloc (.cells (opsL.map Value.string).toArray 9)) := by
    refine ⟨(Tryd.strings_Fields_laid OPS w (by decide +kernel) ops_ascii hC.space).mono ?_⟩
    rintro e w' ⟨rfl, rfl⟩
    have hf := ops_fields
    have hl : (Lib.fields OPS.data.toList).length = 12 := by
      have := congrArg List.length hf
      rw [List.length_map] at this
      exact this
    refine ⟨by rw [hl], ?_⟩
    rw [← hf, List.map_map]
    rfl
  have CI : Aside0 (Calls Tryd.prog 60 #[.slice (some ⟨w.heap.size, 0, none⟩) 12 12, .string s] (w.alloc (.cells (opsL.map Value.string).toArray 9)) fun e w' => e = .returned (.int .i64 (Lib.idxOfS opsL s)) ∧ w' = w.alloc (.cells (opsL.map Value.string).toArray 9)) := by
    refine ⟨Tryd.slices_Index_string w.heap.size 0 12 12 opsL s _ (by decide) (by decide) ?_⟩
    intro j hj
    refine (blk_cell (blk_new w _) (0 + j)).trans ?_
    rw [Nat.zero_add]
    simp [hj]
  have hb := Aside0.mk (below_alloc (Below.refl w.heap.size w) (.cells (opsL.map Value.string).toArray 9))
  obtain ⟨i0, i1⟩ := idx_le s
  have e0 : opF s = if Lib.idxOfS opsL s < 0 then (0, false) else (1 + Lib.idxOfS opsL s, true) := rfl
  rw [e0]
  generalize Lib.idxOfS opsL s = i at *
  clear hC e0
  by_cases hi : i < 0
  · rw [if_pos hi]
    go_enter Tryd.func32, Tryd.ntmps32
    go_wp2_with fail
    (with_reducible refine CF.out.mono ?_)
    rintro e w1 ⟨rfl, rfl⟩
    go_wp2_with fail
    (with_reducible refine CI.out.mono ?_)
    rintro e w1 ⟨rfl, rfl⟩
    go_wp2
    go_ret2
    exact ⟨rfl, hb.out⟩
  · rw [if_neg hi]
    go_enter Tryd.func32, Tryd.ntmps32
    go_wp2_with fail
    (with_reducible refine CF.out.mono ?_)
    rintro e w1 ⟨rfl, rfl⟩
    go_wp2_with fail
    (with_reducible refine CI.out.mono ?_)
    rintro e w1 ⟨rfl, rfl⟩
    go_wp2
    go_ret2
    exact ⟨rfl, hb.out⟩
end Go.Proofs.YtjeofffddbibeaaDoor.Pa
end

section
namespace Go.Proofs.YtjeofffddbibeaaDoor.Pa
open Go Go.RowKit Go.Proofs.YtjeofffddbibeaaDoor.PParseTells Go.Proofs.YtjeofffddbibeaaDoor.Ex Go.Proofs.YtjeofffddbibeaaDoorW.PrintWords Go.Proofs.YtjeofffddbibeaaDoorW.PrintLast Go.Proofs.YtjeofffddbibeaaDoorW.PrintMore
set_option linter.unusedVariables false
set_option linter.unusedSimpArgs false
/-- Within a call that answers in a box: the parser, and the box, still empty. -/
structure ExSt (w0 w W : World) (g : Nat) (a : Int) (L : List Tok) (p : Int) : Prop where
  isp : IsP w0 W g L a p
  kept : Kept w W (At g)
  zero : W.heap[w.heap.size]? = some (.cells zCells TX (0, 0))
  lg : g < w.heap.size
section
variable {w0 w W W2 : World} {g : Nat} {a : Int} {L L2 : List Tok} {p p2 : Int}
theorem ExSt.at (h : ExSt w0 w W g a L p) (hI : IsP w0 W2 g L2 a p2) (hk : Kept W W2 (At g)) : ExSt w0 w W2 g a L2 p2 := by
  have h1 := h.lg
  exact ⟨hI, h.kept.then_ hk (fun k hs => .inl hs), blk_kept h.zero hk (fun hs => by have : w.heap.size = g := hs; omega), h1⟩
theorem ExSt.later (h : ExSt w0 w W g a L p) (hb : Below W.heap.size W W2) : ExSt w0 w W2 g a L p := h.at (h.isp.keep hb) (Kept.of_below hb _)
theorem ExSt.close (h : ExSt w0 w W g a L p) (hk : Kept W W2 (At w.heap.size)) (hB : Below w0.heap.size w0 W2) : IsP w0 W2 g L a p ∧ Kept w W2 (At g) := by
  have h1 := h.lg
  exact ⟨h.isp.mv hk hB (by show ¬ (g = w.heap.size); omega), h.kept.then_ hk (fun k hs => .inr (by have : k = w.heap.size := hs; omega))⟩
theorem ExSt.le (h : ExSt w0 w W g a L p) : w.heap.size ≤ W.heap.size := h.kept.1
theorem ExSt.sz (h : ExSt w0 w W g a L p) : w.heap.size < W.heap.size := blk_lt h.zero
theorem ExSt.cal (h : ExSt w0 w W g a L p) (hC : Cal w0) : Cal W := hC.l h.isp.low
theorem IsP.parts (h : IsP w0 W g L a p) : W.cell? ⟨g, 2, none⟩ = some (.int .i64 p) ∧ W.frozen? ⟨g, 2, none⟩ = false := by
  obtain ⟨A0, c0, h1, h2, h3, h4, h5⟩ := h
  exact ⟨(blk_cell h1 2).trans rfl, blk_frozen h1 2⟩
theorem IsP.more (h : IsP w0 W g L a p) (q : Int) : IsP w0 (W.setCell ⟨g, 2, none⟩ (.int .i64 q)) g L a q := by
  obtain ⟨A0, c0, h1, h2, h3, h4, h5⟩ := h
  exact ⟨A0, c0, blk_put h1 2 _ rfl, h2, h3, h4, below_set h5 h2⟩
theorem take_fail {L : List Tok} (h : takeF [1] L = (z61, L, 110)) : ¬ kindF L = 1 := by
  intro hk
  cases L with
  | nil => simp [kindF] at hk
  | cons t r =>
    have hk' : t.f0 = 1 := hk
    have h2 : takeF [1] (t :: r) = (t, r, 0) := if_pos ⟨by omega, by simp [hk']⟩
    rw [h2] at h
    have := congrArg (fun x => x.2.2) h
    simp at this
end
set_option maxHeartbeats 16000000 in
set_option maxRecDepth 100000 in
theorem exprG_calls (w0 : World) (g : Nat) (a dp : Int) (deep : Bool) (hdp : deep = decide (40 < dp)) (F : Int → List Tok → Res) (hC : Cal w0)
    (hO : deep = false → ∀ (op : Int) (o0 : 1 ≤ op) (o1 : op ≤ 12) (p : Int) (L : List Tok) (w : World) (hI : IsP w0 w g L a p) (p0 : 0 ≤ p) (p1 : p ≤ 2000) (R : Res) (hR : stepsF F (numsOf op).toNat (manyOf op) (manyOf op) ⟨op, nil8, [], []⟩ p L = R),
      Calls Tryd.prog 85 #[.pointer (some ⟨g, 0, none⟩), .int .u8 op, .int .i64 dp] w fun e w' =>
        ∃ v2 v3, e = .returned (.tuple #[ag R.x v2 v3, .int .i64 R.e]) ∧ IsP w0 w' g R.l a R.p ∧ Kept w w' (At g) ∧ Gives w w' R.x v2 v3) :
    ExprC w0 g a dp (exprG deep F) := by
  intro p L w hI p0 p1
  obtain ⟨R, hR⟩ : ∃ R, exprG deep F p L = R := ⟨_, rfl⟩
  rw [hR]
  have hgw := hI.lt
  have hw0 : w0.heap.size ≤ w.heap.size := by have := hI.ge; omega
  have CK := fun W h => Aside0.mk (kind_calls g L a p w0 W h)
  have HC := Aside0.mk hC
  have HO := Aside0.mk hO
  have HI := Aside0.mk hI
  have ST0 := Aside0.mk (show ExSt w0 w (w.alloc (.cells zCells TX (0, 0))) g a L p from ⟨hI.keep (below_alloc (Below.refl _ _) _), (Kept.refl _ _).alloc _, blk_new w _, hgw⟩)
  clear hI hC hO
  unfold exprG at hR
  rcases take_cases [1] L with ⟨t, r, rfl, ht, hm⟩ | ht
  · have h1 : t.f0 = 1 := by simpa using hm
    have hk : kindF (t :: r) = 1 := h1
    rw [hk] at CK hR
    cases deep with
    | true =>
      have hd : (40 : Int) < dp := by simpa using hdp.symm
      have HE := Aside0.mk ((if_pos ⟨rfl, .inl rfl⟩).symm.trans hR)
      clear hR hdp hm ht h1 hk HO
      go_enter Tryd.func64, Tryd.ntmps64
      go_wp2_with fail
      (with_reducible refine (CK _ ?i).out.mono ?_)
      case i => exact HI.out.keep (below_alloc (Below.refl _ _) _)
      rintro e w1 ⟨rfl, hd1⟩
      have ST1 := Aside0.mk (ST0.out.later hd1.below)
      have pf := ST1.out.isp.parts
      have pf1 := pf.1
      have pf2 := pf.2
      clear pf hd1 CK ST0
      have z0 := (blk_cell ST1.out.zero 0).trans (show zCells[0]? = some (Value.int .u8 0) from rfl)
      have z1 := (blk_cell ST1.out.zero 1).trans (show zCells[1]? = some (Value.string nil8) from rfl)
      have z2 := (blk_cell ST1.out.zero 2).trans (show zCells[2]? = some (Value.slice none 0 0) from rfl)
      have z3 := (blk_cell ST1.out.zero 3).trans (show zCells[3]? = some (Value.slice none 0 0) from rfl)
      have y0 := blk_frozen ST1.out.zero 0
      have y1 := blk_frozen ST1.out.zero 1
      have y2 := blk_frozen ST1.out.zero 2
      have y3 := blk_frozen ST1.out.zero 3
      go_wp2
      refine bodyPost_ret (results_ct rfl _ _ _ TX _ (0, 0) _ rfl (blk_put (blk_put (blk_put (blk_put ST1.out.zero 0 _ rfl) 1 _ rfl) 2 _ rfl) 3 _ rfl) Tryd.underlying25 rfl info_x) rfl ?_
      have hc := fun W2 h1 h2 => ST1.out.close (W2 := W2) h1 h2
      rw [← HE.out]
      exact ⟨_, _, rfl, (hc _ (by (repeat (first | (with_reducible exact Kept.refl _ _) | (with_reducible apply Kept.alloc) | (with_reducible apply Kept.drewN) | (with_reducible apply Kept.drew) | (with_reducible refine kept_at ?_ _ _) | (with_reducible refine kept_new ?_ _ _ (Nat.le_refl _)) | (with_reducible refine kept_new ?_ _ _ (by first | assumption | omega))))) (by (repeat (first | (with_reducible exact ST1.out.isp.low) | (with_reducible apply below_alloc) | (with_reducible apply pw_below_drewN) | (with_reducible apply below_drew1) | (with_reducible refine below_set ?_ (by first | assumption | omega)))))).1, (hc _ (by (repeat (first | (with_reducible exact Kept.refl _ _) | (with_reducible apply Kept.alloc) | (with_reducible apply Kept.drewN) | (with_reducible apply Kept.drew) | (with_reducible refine kept_at ?_ _ _) | (with_reducible refine kept_new ?_ _ _ (Nat.le_refl _)) | (with_reducible refine kept_new ?_ _ _ (by first | assumption | omega))))) (by (repeat (first | (with_reducible exact ST1.out.isp.low) | (with_reducible apply below_alloc) | (with_reducible apply pw_below_drewN) | (with_reducible apply below_drew1) | (with_reducible refine below_set ?_ (by first | assumption | omega)))))).2, gives_zero _ _⟩
    | false =>
      have hd : ¬ ((40 : Int) < dp) := by simpa using hdp.symm
      have hd' : dp ≤ 40 := by omega
      by_cases hp : 2000 ≤ p
      · have HE := Aside0.mk ((if_pos ⟨rfl, .inr hp⟩).symm.trans hR)
        clear hR hdp hm ht h1 hk HO
        go_enter Tryd.func64, Tryd.ntmps64
        go_wp2_with fail
        (with_reducible refine (CK _ ?i).out.mono ?_)
        case i => exact HI.out.keep (below_alloc (Below.refl _ _) _)
        rintro e w1 ⟨rfl, hd1⟩
        have ST1 := Aside0.mk (ST0.out.later hd1.below)
        have pf := ST1.out.isp.parts
        have pf1 := pf.1
        have pf2 := pf.2
        clear pf hd1 CK ST0
        have z0 := (blk_cell ST1.out.zero 0).trans (show zCells[0]? = some (Value.int .u8 0) from rfl)
        have z1 := (blk_cell ST1.out.zero 1).trans (show zCells[1]? = some (Value.string nil8) from rfl)
        have z2 := (blk_cell ST1.out.zero 2).trans (show zCells[2]? = some (Value.slice none 0 0) from rfl)
        have z3 := (blk_cell ST1.out.zero 3).trans (show zCells[3]? = some (Value.slice none 0 0) from rfl)
        have y0 := blk_frozen ST1.out.zero 0
        have y1 := blk_frozen ST1.out.zero 1
        have y2 := blk_frozen ST1.out.zero 2
        have y3 := blk_frozen ST1.out.zero 3
        go_wp2
        refine bodyPost_ret (results_ct rfl _ _ _ TX _ (0, 0) _ rfl (blk_put (blk_put (blk_put (blk_put ST1.out.zero 0 _ rfl) 1 _ rfl) 2 _ rfl) 3 _ rfl) Tryd.underlying25 rfl info_x) rfl ?_
        have hc := fun W2 h1 h2 => ST1.out.close (W2 := W2) h1 h2
        rw [← HE.out]
        exact ⟨_, _, rfl, (hc _ (by (repeat (first | (with_reducible exact Kept.refl _ _) | (with_reducible apply Kept.alloc) | (with_reducible apply Kept.drewN) | (with_reducible apply Kept.drew) | (with_reducible refine kept_at ?_ _ _) | (with_reducible refine kept_new ?_ _ _ (Nat.le_refl _)) | (with_reducible refine kept_new ?_ _ _ (by first | assumption | omega))))) (by (repeat (first | (with_reducible exact ST1.out.isp.low) | (with_reducible apply below_alloc) | (with_reducible apply pw_below_drewN) | (with_reducible apply below_drew1) | (with_reducible refine below_set ?_ (by first | assumption | omega)))))).1, (hc _ (by (repeat (first | (with_reducible exact Kept.refl _ _) | (with_reducible apply Kept.alloc) | (with_reducible apply Kept.drewN) | (with_reducible apply Kept.drew) | (with_reducible refine kept_at ?_ _ _) | (with_reducible refine kept_new ?_ _ _ (Nat.le_refl _)) | (with_reducible refine kept_new ?_ _ _ (by first | assumption | omega))))) (by (repeat (first | (with_reducible exact ST1.out.isp.low) | (with_reducible apply below_alloc) | (with_reducible apply pw_below_drewN) | (with_reducible apply below_drew1) | (with_reducible refine below_set ?_ (by first | assumption | omega)))))).2, gives_zero _ _⟩
      · rw [if_neg (by simp; omega), ht] at hR
        have hR' := (if_neg (show ¬ ((t, r, (0 : Int)).2.2 ≠ 0) by simp)).symm.trans hR
        have CT := fun A W h hC => Aside0.mk (take_calls g [1] asks1 A 1 1 (t :: r) a (p + 1) w0 W h rfl hC (Nat.le_refl _))
        rw [ht] at CT
        dsimp only at hR' CT
        have CO := fun W h => Aside0.mk (Op_calls t.f1 W h)
        have CM := fun W h => Aside0.mk (mark_calls g LPA r a (p + 1) w0 W h)
        have hp2 : p < 2000 := by omega
        clear hR hm ht h1 hk
        obtain ⟨op, io, hop⟩ : ∃ op io, opF t.f1 = (op, io) := ⟨_, _, rfl⟩
        have hopr : io = true → 1 ≤ op ∧ op ≤ 12 := by
          intro h
          subst h
          have := idx_le t.f1
          unfold opF at hop
          split at hop
          · simp at hop
          · simp at hop; omega
        rw [hop] at CO hR'
        dsimp only at CO hR'
        clear hop
        cases io with
        | false =>
          have HE := Aside0.mk ((if_neg (show ¬ (false = true ∧ isF LPA r = true) by simp)).symm.trans hR')
          clear hR' hopr HO CM hdp
          go_enter Tryd.func64, Tryd.ntmps64
          go_wp2_with fail
          (with_reducible refine (CK _ ?i).out.mono ?_)
          case i => exact HI.out.keep (below_alloc (Below.refl _ _) _)
          rintro e w1 ⟨rfl, hd1⟩
          have ST1 := Aside0.mk (ST0.out.later hd1.below)
          have pf := ST1.out.isp.parts
          have pf1 := pf.1
          have pf2 := pf.2
          clear pf hd1 CK ST0
          go_wp2_with fail
          (with_reducible refine (CT (some ⟨w1.heap.size, 0, none⟩) _ ?i ?j).out.mono ?_)
          case i => exact (ST1.out.isp.more (p + 1)).keep (below_alloc (Below.refl _ _) _)
          case j =>
            have hk1 := kinds_C (w1.setCell ⟨g, 2, none⟩ (.int .i64 (p + 1))) [1] (by decide)
            rw [show (w1.setCell ⟨g, 2, none⟩ (.int .i64 (p + 1))).heap.size = w1.heap.size from by simp [World.setCell]] at hk1
            exact hk1
          rintro e w2 ⟨rfl, hI2, hk2⟩
          have ST2 := Aside0.mk (((ST1.out.at (ST1.out.isp.more (p + 1)) (kept_at (Kept.refl _ _) 2 _)).later (below_alloc (Below.refl _ _) _)).at hI2 hk2)
          have ST3 := Aside0.mk (ST2.out.later (below_alloc (Below.refl _ _) (.cells #[.int .u8 t.f0, .string t.f1, .int .i64 t.f2] 61)))
          have HS := Aside0.mk (show (w2.alloc (.cells #[.int .u8 t.f0, .string t.f1, .int .i64 t.f2] 61)).heap.size = w2.heap.size + 1 from Array.size_push ..)
          clear hI2 hk2 CT pf1 pf2
          go_wp2_with fail
          (with_reducible refine (CO _ ?i).out.mono ?_)
          case i => exact ST3.out.cal HC.out
          rintro e w4 ⟨rfl, hb4⟩
          have ST4 := Aside0.mk (ST3.out.later hb4)
          have b6 := blk_kept (blk_new w2 (.cells #[.int .u8 t.f0, .string t.f1, .int .i64 t.f2] 61)) (Kept.of_below hb4 (fun _ => False)) id
          have q6 : w4.cell? ⟨w2.heap.size, 1, none⟩ = some (.string t.f1) := (blk_cell b6 1).trans rfl
          clear hb4 CO b6
          have z0 := (blk_cell ST4.out.zero 0).trans (show zCells[0]? = some (Value.int .u8 0) from rfl)
          have z1 := (blk_cell ST4.out.zero 1).trans (show zCells[1]? = some (Value.string nil8) from rfl)
          have z2 := (blk_cell ST4.out.zero 2).trans (show zCells[2]? = some (Value.slice none 0 0) from rfl)
          have z3 := (blk_cell ST4.out.zero 3).trans (show zCells[3]? = some (Value.slice none 0 0) from rfl)
          have y0 := blk_frozen ST4.out.zero 0
          have y1 := blk_frozen ST4.out.zero 1
          have y2 := blk_frozen ST4.out.zero 2
          have y3 := blk_frozen ST4.out.zero 3
          go_wp2
          refine bodyPost_ret (results_ct rfl _ _ _ TX _ (0, 0) _ rfl (blk_put (blk_put (blk_put (blk_put ST4.out.zero 0 _ rfl) 1 _ rfl) 2 _ rfl) 3 _ rfl) Tryd.underlying25 rfl info_x) rfl ?_
          have hc := fun W2 h1 h2 => ST4.out.close (W2 := W2) h1 h2
          rw [← HE.out]
          exact ⟨_, _, rfl, (hc _ (by (repeat (first | (with_reducible exact Kept.refl _ _) | (with_reducible apply Kept.alloc) | (with_reducible apply Kept.drewN) | (with_reducible apply Kept.drew) | (with_reducible refine kept_at ?_ _ _) | (with_reducible refine kept_new ?_ _ _ (Nat.le_refl _)) | (with_reducible refine kept_new ?_ _ _ (by first | assumption | omega))))) (by (repeat (first | (with_reducible exact ST4.out.isp.low) | (with_reducible apply below_alloc) | (with_reducible apply pw_below_drewN) | (with_reducible apply below_drew1) | (with_reducible refine below_set ?_ (by first | assumption | omega)))))).1, (hc _ (by (repeat (first | (with_reducible exact Kept.refl _ _) | (with_reducible apply Kept.alloc) | (with_reducible apply Kept.drewN) | (with_reducible apply Kept.drew) | (with_reducible refine kept_at ?_ _ _) | (with_reducible refine kept_new ?_ _ _ (Nat.le_refl _)) | (with_reducible refine kept_new ?_ _ _ (by first | assumption | omega))))) (by (repeat (first | (with_reducible exact ST4.out.isp.low) | (with_reducible apply below_alloc) | (with_reducible apply pw_below_drewN) | (with_reducible apply below_drew1) | (with_reducible refine below_set ?_ (by first | assumption | omega)))))).2, gives_name _ _ _⟩
        | true =>
          obtain ⟨o0, o1⟩ := hopr rfl
          clear hopr
          rcases mark_cases LPA r with ⟨t9, r9, hL9, hm9, hi9⟩ | ⟨hm9, hi9⟩
          · have HE := Aside0.mk ((if_pos (show true = true ∧ isF LPA r = true from ⟨rfl, hi9⟩)).symm.trans hR')
            rw [show r.tail = r9 by rw [hL9]; rfl] at HE
            have CP := fun W h => Aside0.mk (HO.out rfl op o0 o1 (p + 1) r9 W h (by omega) (by omega) R HE.out)
            rw [hm9] at CM
            dsimp only at CM
            clear hR' HO hdp hL9 hm9 hi9 HE
            go_enter Tryd.func64, Tryd.ntmps64
            go_wp2_with fail
            (with_reducible refine (CK _ ?i).out.mono ?_)
            case i => exact HI.out.keep (below_alloc (Below.refl _ _) _)
            rintro e w1 ⟨rfl, hd1⟩
            have ST1 := Aside0.mk (ST0.out.later hd1.below)
            have pf := ST1.out.isp.parts
            have pf1 := pf.1
            have pf2 := pf.2
            clear pf hd1 CK ST0
            go_wp2_with fail
            (with_reducible refine (CT (some ⟨w1.heap.size, 0, none⟩) _ ?i ?j).out.mono ?_)
            case i => exact (ST1.out.isp.more (p + 1)).keep (below_alloc (Below.refl _ _) _)
            case j =>
              have hk1 := kinds_C (w1.setCell ⟨g, 2, none⟩ (.int .i64 (p + 1))) [1] (by decide)
              rw [show (w1.setCell ⟨g, 2, none⟩ (.int .i64 (p + 1))).heap.size = w1.heap.size from by simp [World.setCell]] at hk1
              exact hk1
            rintro e w2 ⟨rfl, hI2, hk2⟩
            have ST2 := Aside0.mk (((ST1.out.at (ST1.out.isp.more (p + 1)) (kept_at (Kept.refl _ _) 2 _)).later (below_alloc (Below.refl _ _) _)).at hI2 hk2)
            have ST3 := Aside0.mk (ST2.out.later (below_alloc (Below.refl _ _) (.cells #[.int .u8 t.f0, .string t.f1, .int .i64 t.f2] 61)))
            have HS := Aside0.mk (show (w2.alloc (.cells #[.int .u8 t.f0, .string t.f1, .int .i64 t.f2] 61)).heap.size = w2.heap.size + 1 from Array.size_push ..)
            clear hI2 hk2 CT pf1 pf2
            go_wp2_with fail
            (with_reducible refine (CO _ ?i).out.mono ?_)
            case i => exact ST3.out.cal HC.out
            rintro e w4 ⟨rfl, hb4⟩
            have ST4 := Aside0.mk (ST3.out.later hb4)
            clear hb4 CO
            go_wp2_with fail
            (with_reducible refine (CM _ ?i).out.mono ?_)
            case i => exact ST4.out.isp
            rintro e w5 ⟨rfl, hI5, hk5⟩
            have ST5 := Aside0.mk (ST4.out.at hI5 hk5)
            clear hI5 hk5 CM
            go_wp2_with fail
            (with_reducible refine (CP _ ?i).out.mono ?_)
            case i => exact ST5.out.isp
            rintro e w6 ⟨v5, v6, rfl, hI6, hk6, hg6⟩
            obtain ⟨A5, c5, A6, c6, rfl, rfl⟩ := hg6.slices
            have ST6 := Aside0.mk (ST5.out.at hI6 hk6)
            have HG := Aside0.mk hg6
            clear hI6 hk6 hg6 CP
            have z0 := (blk_cell ST6.out.zero 0).trans (show zCells[0]? = some (Value.int .u8 0) from rfl)
            have z1 := (blk_cell ST6.out.zero 1).trans (show zCells[1]? = some (Value.string nil8) from rfl)
            have z2 := (blk_cell ST6.out.zero 2).trans (show zCells[2]? = some (Value.slice none 0 0) from rfl)
            have z3 := (blk_cell ST6.out.zero 3).trans (show zCells[3]? = some (Value.slice none 0 0) from rfl)
            have y0 := blk_frozen ST6.out.zero 0
            have y1 := blk_frozen ST6.out.zero 1
            have y2 := blk_frozen ST6.out.zero 2
            have y3 := blk_frozen ST6.out.zero 3
            go_wp2
            refine bodyPost_ret (results_ct rfl _ _ _ TX _ (0, 0) _ rfl (blk_put (blk_put (blk_put (blk_put ST6.out.zero 0 _ rfl) 1 _ rfl) 2 _ rfl) 3 _ rfl) Tryd.underlying25 rfl info_x) rfl ?_
            have hc := fun W2 h1 h2 => ST6.out.close (W2 := W2) h1 h2
            exact ⟨_, _, rfl, (hc _ (by (repeat (first | (with_reducible exact Kept.refl _ _) | (with_reducible apply Kept.alloc) | (with_reducible apply Kept.drewN) | (with_reducible apply Kept.drew) | (with_reducible refine kept_at ?_ _ _) | (with_reducible refine kept_new ?_ _ _ (Nat.le_refl _)) | (with_reducible refine kept_new ?_ _ _ (by first | assumption | omega))))) (by (repeat (first | (with_reducible exact ST6.out.isp.low) | (with_reducible apply below_alloc) | (with_reducible apply pw_below_drewN) | (with_reducible apply below_drew1) | (with_reducible refine below_set ?_ (by first | assumption | omega)))))).1, (hc _ (by (repeat (first | (with_reducible exact Kept.refl _ _) | (with_reducible apply Kept.alloc) | (with_reducible apply Kept.drewN) | (with_reducible apply Kept.drew) | (with_reducible refine kept_at ?_ _ _) | (with_reducible refine kept_new ?_ _ _ (Nat.le_refl _)) | (with_reducible refine kept_new ?_ _ _ (by first | assumption | omega))))) (by (repeat (first | (with_reducible exact ST6.out.isp.low) | (with_reducible apply below_alloc) | (with_reducible apply pw_below_drewN) | (with_reducible apply below_drew1) | (with_reducible refine below_set ?_ (by first | assumption | omega)))))).2, (kX.M_lower ST5.out.le (HG.out.step (by refine Kept.mono (S := At w.heap.size) ?_ (fun k hk => by have h1 : k = w.heap.size := hk; have h2 := ST5.out.sz; omega); (repeat (first | (with_reducible exact Kept.refl _ _) | (with_reducible apply Kept.alloc) | (with_reducible apply Kept.drewN) | (with_reducible apply Kept.drew) | (with_reducible refine kept_at ?_ _ _) | (with_reducible refine kept_new ?_ _ _ (Nat.le_refl _)) | (with_reducible refine kept_new ?_ _ _ (by first | assumption | omega)))))))⟩
          · have HE := Aside0.mk ((if_neg (show ¬ (true = true ∧ isF LPA r = true) by rw [hi9]; simp)).symm.trans hR')
            rw [hm9] at CM
            dsimp only at CM
            clear hR' HO hdp hm9 hi9
            go_enter Tryd.func64, Tryd.ntmps64
            go_wp2_with fail
            (with_reducible refine (CK _ ?i).out.mono ?_)
            case i => exact HI.out.keep (below_alloc (Below.refl _ _) _)
            rintro e w1 ⟨rfl, hd1⟩
            have ST1 := Aside0.mk (ST0.out.later hd1.below)
            have pf := ST1.out.isp.parts
            have pf1 := pf.1
            have pf2 := pf.2
            clear pf hd1 CK ST0
            go_wp2_with fail
            (with_reducible refine (CT (some ⟨w1.heap.size, 0, none⟩) _ ?i ?j).out.mono ?_)
            case i => exact (ST1.out.isp.more (p + 1)).keep (below_alloc (Below.refl _ _) _)
            case j =>
              have hk1 := kinds_C (w1.setCell ⟨g, 2, none⟩ (.int .i64 (p + 1))) [1] (by decide)
              rw [show (w1.setCell ⟨g, 2, none⟩ (.int .i64 (p + 1))).heap.size = w1.heap.size from by simp [World.setCell]] at hk1
              exact hk1
            rintro e w2 ⟨rfl, hI2, hk2⟩
            have ST2 := Aside0.mk (((ST1.out.at (ST1.out.isp.more (p + 1)) (kept_at (Kept.refl _ _) 2 _)).later (below_alloc (Below.refl _ _) _)).at hI2 hk2)
            have ST3 := Aside0.mk (ST2.out.later (below_alloc (Below.refl _ _) (.cells #[.int .u8 t.f0, .string t.f1, .int .i64 t.f2] 61)))
            have HS := Aside0.mk (show (w2.alloc (.cells #[.int .u8 t.f0, .string t.f1, .int .i64 t.f2] 61)).heap.size = w2.heap.size + 1 from Array.size_push ..)
            clear hI2 hk2 CT pf1 pf2
            go_wp2_with fail
            (with_reducible refine (CO _ ?i).out.mono ?_)
            case i => exact ST3.out.cal HC.out
            rintro e w4 ⟨rfl, hb4⟩
            have ST4 := Aside0.mk (ST3.out.later hb4)
            have b6 := blk_kept (blk_new w2 (.cells #[.int .u8 t.f0, .string t.f1, .int .i64 t.f2] 61)) (Kept.of_below hb4 (fun _ => False)) id
            clear hb4 CO
            go_wp2_with fail
            (with_reducible refine (CM _ ?i).out.mono ?_)
            case i => exact ST4.out.isp
            rintro e w5 ⟨rfl, hI5, hk5⟩
            have ST5 := Aside0.mk (ST4.out.at hI5 hk5)
            have hg2 : ¬ (At g) w2.heap.size := fun h => by have h1 : w2.heap.size = g := h; have h2 := ST2.out.le; omega
            have q6 : w5.cell? ⟨w2.heap.size, 1, none⟩ = some (.string t.f1) := (blk_cell (blk_kept b6 hk5 hg2) 1).trans rfl
            clear hI5 hk5 CM b6 hg2
            have z0 := (blk_cell ST5.out.zero 0).trans (show zCells[0]? = some (Value.int .u8 0) from rfl)
            have z1 := (blk_cell ST5.out.zero 1).trans (show zCells[1]? = some (Value.string nil8) from rfl)
            have z2 := (blk_cell ST5.out.zero 2).trans (show zCells[2]? = some (Value.slice none 0 0) from rfl)
            have z3 := (blk_cell ST5.out.zero 3).trans (show zCells[3]? = some (Value.slice none 0 0) from rfl)
            have y0 := blk_frozen ST5.out.zero 0
            have y1 := blk_frozen ST5.out.zero 1
            have y2 := blk_frozen ST5.out.zero 2
            have y3 := blk_frozen ST5.out.zero 3
            go_wp2
            refine bodyPost_ret (results_ct rfl _ _ _ TX _ (0, 0) _ rfl (blk_put (blk_put (blk_put (blk_put ST5.out.zero 0 _ rfl) 1 _ rfl) 2 _ rfl) 3 _ rfl) Tryd.underlying25 rfl info_x) rfl ?_
            have hc := fun W2 h1 h2 => ST5.out.close (W2 := W2) h1 h2
            rw [← HE.out]
            exact ⟨_, _, rfl, (hc _ (by (repeat (first | (with_reducible exact Kept.refl _ _) | (with_reducible apply Kept.alloc) | (with_reducible apply Kept.drewN) | (with_reducible apply Kept.drew) | (with_reducible refine kept_at ?_ _ _) | (with_reducible refine kept_new ?_ _ _ (Nat.le_refl _)) | (with_reducible refine kept_new ?_ _ _ (by first | assumption | omega))))) (by (repeat (first | (with_reducible exact ST5.out.isp.low) | (with_reducible apply below_alloc) | (with_reducible apply pw_below_drewN) | (with_reducible apply below_drew1) | (with_reducible refine below_set ?_ (by first | assumption | omega)))))).1, (hc _ (by (repeat (first | (with_reducible exact Kept.refl _ _) | (with_reducible apply Kept.alloc) | (with_reducible apply Kept.drewN) | (with_reducible apply Kept.drew) | (with_reducible refine kept_at ?_ _ _) | (with_reducible refine kept_new ?_ _ _ (Nat.le_refl _)) | (with_reducible refine kept_new ?_ _ _ (by first | assumption | omega))))) (by (repeat (first | (with_reducible exact ST5.out.isp.low) | (with_reducible apply below_alloc) | (with_reducible apply pw_below_drewN) | (with_reducible apply below_drew1) | (with_reducible refine below_set ?_ (by first | assumption | omega)))))).2, gives_name _ _ _⟩
  · have hk := take_fail ht
    have hk' : (kindF L == 1) = false := beq_eq_false_iff_ne.2 hk
    rw [if_neg (fun h => hk h.1), ht] at hR
    have HE := Aside0.mk ((if_pos (show (z61, L, (110 : Int)).2.2 ≠ 0 by simp)).symm.trans hR)
    have CT := fun A W h hC => Aside0.mk (take_calls g [1] asks1 A 1 1 L a (p + 1) w0 W h rfl hC (Nat.le_refl _))
    rw [ht] at CT
    dsimp only at HE CT
    clear hR ht hdp HO
    generalize kindF L = kk at *
    go_enter Tryd.func64, Tryd.ntmps64
    go_wp2_with fail
    (with_reducible refine (CK _ ?i).out.mono ?_)
    case i => exact HI.out.keep (below_alloc (Below.refl _ _) _)
    rintro e w1 ⟨rfl, hd1⟩
    have ST1 := Aside0.mk (ST0.out.later hd1.below)
    have pf := ST1.out.isp.parts
    have pf1 := pf.1
    have pf2 := pf.2
    clear pf hd1 CK ST0
    go_wp2_with fail
    (with_reducible refine (CT (some ⟨w1.heap.size, 0, none⟩) _ ?i ?j).out.mono ?_)
    case i => exact (ST1.out.isp.more (p + 1)).keep (below_alloc (Below.refl _ _) _)
    case j =>
      have hk1 := kinds_C (w1.setCell ⟨g, 2, none⟩ (.int .i64 (p + 1))) [1] (by decide)
      rw [show (w1.setCell ⟨g, 2, none⟩ (.int .i64 (p + 1))).heap.size = w1.heap.size from by simp [World.setCell]] at hk1
      exact hk1
    rintro e w2 ⟨rfl, hI2, hk2⟩
    have ST2 := Aside0.mk (((ST1.out.at (ST1.out.isp.more (p + 1)) (kept_at (Kept.refl _ _) 2 _)).later (below_alloc (Below.refl _ _) _)).at hI2 hk2)
    have ST3 := Aside0.mk (ST2.out.later (below_alloc (Below.refl _ _) (.cells #[.int .u8 z61.f0, .string z61.f1, .int .i64 z61.f2] 61)))
    have HS := Aside0.mk (show (w2.alloc (.cells #[.int .u8 z61.f0, .string z61.f1, .int .i64 z61.f2] 61)).heap.size = w2.heap.size + 1 from Array.size_push ..)
    clear hI2 hk2 CT pf1 pf2
    have z0 := (blk_cell ST3.out.zero 0).trans (show zCells[0]? = some (Value.int .u8 0) from rfl)
    have z1 := (blk_cell ST3.out.zero 1).trans (show zCells[1]? = some (Value.string nil8) from rfl)
    have z2 := (blk_cell ST3.out.zero 2).trans (show zCells[2]? = some (Value.slice none 0 0) from rfl)
    have z3 := (blk_cell ST3.out.zero 3).trans (show zCells[3]? = some (Value.slice none 0 0) from rfl)
    have y0 := blk_frozen ST3.out.zero 0
    have y1 := blk_frozen ST3.out.zero 1
    have y2 := blk_frozen ST3.out.zero 2
    have y3 := blk_frozen ST3.out.zero 3
    go_wp2
    refine bodyPost_ret (results_ct rfl _ _ _ TX _ (0, 0) _ rfl (blk_put (blk_put (blk_put (blk_put ST3.out.zero 0 _ rfl) 1 _ rfl) 2 _ rfl) 3 _ rfl) Tryd.underlying25 rfl info_x) rfl ?_
    have hc := fun W2 h1 h2 => ST3.out.close (W2 := W2) h1 h2
    rw [← HE.out]
    exact ⟨_, _, rfl, (hc _ (by (repeat (first | (with_reducible exact Kept.refl _ _) | (with_reducible apply Kept.alloc) | (with_reducible apply Kept.drewN) | (with_reducible apply Kept.drew) | (with_reducible refine kept_at ?_ _ _) | (with_reducible refine kept_new ?_ _ _ (Nat.le_refl _)) | (with_reducible refine kept_new ?_ _ _ (by first | assumption | omega))))) (by (repeat (first | (with_reducible exact ST3.out.isp.low) | (with_reducible apply below_alloc) | (with_reducible apply pw_below_drewN) | (with_reducible apply below_drew1) | (with_reducible refine below_set ?_ (by first | assumption | omega)))))).1, (hc _ (by (repeat (first | (with_reducible exact Kept.refl _ _) | (with_reducible apply Kept.alloc) | (with_reducible apply Kept.drewN) | (with_reducible apply Kept.drew) | (with_reducible refine kept_at ?_ _ _) | (with_reducible refine kept_new ?_ _ _ (Nat.le_refl _)) | (with_reducible refine kept_new ?_ _ _ (by first | assumption | omega))))) (by (repeat (first | (with_reducible exact ST3.out.isp.low) | (with_reducible apply below_alloc) | (with_reducible apply pw_below_drewN) | (with_reducible apply below_drew1) | (with_reducible refine below_set ?_ (by first | assumption | omega)))))).2, gives_zero _ _⟩
/-- An expression, when it may be so many deep. -/
theorem expr_calls (w0 : World) (g : Nat) (a : Int) (hC : Cal w0) : ∀ d : Nat, d ≤ 40 → ExprC w0 g a (41 - d) (exprF d)
  | 0, _ => exprG_calls w0 g a (41 - (0 : Nat)) true (by decide) _ hC (fun h => by cases h)
  | d + 1, hd => by
    have ih := expr_calls w0 g a hC d (by omega)
    refine exprG_calls w0 g a (41 - (d + 1 : Nat)) false (by simp; omega) _ hC (fun _ => ?_)
    intro op o0 o1 p L w hI p0 p1 R hR
    exact operands_calls w0 g a (41 - (d + 1 : Nat)) (by omega) (by omega) (exprF d) (by rw [show (41 : Int) - (d + 1 : Nat) + 1 = 41 - (d : Int) by omega]; exact ih) (expr_good d) op o0 o1 p L w hI p0 p1 R hR
end Go.Proofs.YtjeofffddbibeaaDoor.Pa
end

section
namespace Go.Proofs.YtjeofffddbibeaaDoor.Pa
open Go Go.RowKit Go.Proofs.YtjeofffddbibeaaDoor.PParseTells Go.Proofs.YtjeofffddbibeaaDoor.Ex Go.Proofs.YtjeofffddbibeaaDoorW.PrintWords Go.Proofs.YtjeofffddbibeaaDoorW.PrintLast Go.Proofs.YtjeofffddbibeaaDoorW.PrintMore
set_option linter.unusedVariables false
set_option linter.unusedSimpArgs false
/-- Where an error is, if there is one, and which. -/
def placeF (a : Int) (L : List Tok) (e : Int) : Int × Int := if e = 0 then (if L = [] then (-1, 0) else (a - L.length, 110)) else (a - L.length, e)
theorem IsP.row {w0 W : World} {g : Nat} {L : List Tok} {a p : Int} (h : IsP w0 W g L a p) : ∃ A0 c0, W.cell? ⟨g, 0, none⟩ = some (.slice A0 L.length c0) ∧ W.cell? ⟨g, 1, none⟩ = some (.int .i64 a) ∧ L.length ≤ 9223372036854775807 := by
  obtain ⟨A0, c0, h1, h2, h3, h4, h5⟩ := h
  exact ⟨A0, c0, (blk_cell h1 0).trans rfl, (blk_cell h1 1).trans rfl, h4.2.1⟩
set_option maxHeartbeats 8000000 in
theorem place_calls (g : Nat) (L : List Tok) (a p e0 : Int) (w0 w : World) (hI : IsP w0 w g L a p) (a0 : 0 ≤ a) (a1 : a ≤ 9223372036854775807) :
    Calls Tryd.prog 65 #[.pointer (some ⟨g, 0, none⟩), .int .i64 e0] w fun e w' => e = .returned (.tuple #[.int .i64 (placeF a L e0).1, .int .i64 (placeF a L e0).2]) ∧ Drawn0 w w' := by
  obtain ⟨A0, c0, q0, q1, hm⟩ := hI.row
  obtain ⟨N, hN⟩ : ∃ N, N = L.length := ⟨_, rfl⟩
  have hP : placeF a L e0 = if e0 = 0 then (if N = 0 then (-1, 0) else (a - N, 110)) else (a - N, e0) := by
    unfold placeF
    rw [hN]
    simp only [List.length_eq_zero_iff]
  rw [hP]
  rw [← hN] at q0 hm
  clear hP hI hN
  by_cases he : e0 = 0
  · have e1 : (e0 == 0) = true := beq_iff_eq.2 he
    have e2 : (e0 != 0) = false := bne_eq_false_iff_eq.2 he
    rw [if_pos he]
    subst he
    by_cases hz : N = 0
    · subst hz
      rw [if_pos rfl]
      go_enter Tryd.func65, Tryd.ntmps65
      go_wp2
      repeat (go_quiet (fail); try go_wp2)
      go_ret2
      exact ⟨rfl, by repeat (first | exact Drawn0.refl _ | apply Drawn0.step)⟩
    · rw [if_neg hz]
      have n1 : 0 < N := by omega
      have n2 : (0 : Int) < (N : Int) := by omega
      go_enter Tryd.func65, Tryd.ntmps65
      go_wp2
      repeat (go_quiet (fail); try go_wp2)
      go_ret2
      exact ⟨rfl, by repeat (first | exact Drawn0.refl _ | apply Drawn0.step)⟩
  · have e1 : (e0 == 0) = false := beq_eq_false_iff_ne.2 he
    have e2 : (e0 != 0) = true := bne_iff_ne.2 he
    rw [if_neg he]
    go_enter Tryd.func65, Tryd.ntmps65
    go_wp2
    repeat (go_quiet (fail); try go_wp2)
    go_ret2
    exact ⟨rfl, by repeat (first | exact Drawn0.refl _ | apply Drawn0.step)⟩
/-- A whole expression: it, where an error is, and which. -/
def topF (a : Int) (r : Res) : X × Int × Int := if (placeF a r.l r.e).2 ≠ 0 then (zX, (placeF a r.l r.e).1, (placeF a r.l r.e).2) else (r.x, (placeF a r.l r.e).1, 0)
def parseE (L : List Tok) : X × Int × Int := topF L.length (exprF 40 0 L)
theorem Gives.later {w W W2 : World} {x : X} {v2 v3 : Value} (h : Gives w W x v2 v3) (hb : Below W.heap.size W W2) : Gives w W2 x v2 v3 := Kd.M_below h hb
set_option maxHeartbeats 16000000 in
set_option maxRecDepth 100000 in
theorem Expr_calls (L : List Tok) (A : Option Addr) (n c : Nat) (w : World) (hn : n = L.length) (hC : Kd.C k61 w A L.length L) (hc : L.length ≤ c) (hL : Cal w) :
    Calls Tryd.prog 36 #[.slice A n c] w fun e w' => ∃ v2 v3, e = .returned (.tuple #[ag (parseE L).1 v2 v3, .int .i64 (parseE L).2.1, .int .i64 (parseE L).2.2]) ∧ Gives w w' (parseE L).1 v2 v3 ∧ Below w.heap.size w w' := by
  subst hn
  have hm := hC.2.1
  have b2 := blk_new w (.cells zCells TX (0, 0))
  have hsz : (w.alloc (.cells zCells TX (0, 0))).heap.size = w.heap.size + 1 := Array.size_push ..
  have hsz2 : ((w.alloc (.cells zCells TX (0, 0))).alloc (.cells #[.slice A L.length c, .int .i64 L.length, .int .i64 0] 94)).heap.size = (w.alloc (.cells zCells TX (0, 0))).heap.size + 1 := Array.size_push ..
  have HI := Aside0.mk (show IsP w ((w.alloc (.cells zCells TX (0, 0))).alloc (.cells #[.slice A L.length c, .int .i64 L.length, .int .i64 0] 94)) (w.alloc (.cells zCells TX (0, 0))).heap.size L L.length 0 from
    ⟨A, c, blk_new _ _, by omega, hc, hC, below_alloc (below_alloc (Below.refl _ _) _) _⟩)
  have CE := fun W => Aside0.mk (expr_calls w (w.alloc (.cells zCells TX (0, 0))).heap.size L.length hL 40 (by omega) 0 L W)
  rw [show (41 : Int) - ((40 : Nat) : Int) = 1 by decide] at CE
  rw [hsz] at CE HI
  have hG := expr_good 40 0 L (by omega) (by omega)
  obtain ⟨x, L1, p1, e1, hx⟩ : ∃ x L1 p1 e1, exprF 40 0 L = Res.mk x L1 p1 e1 := ⟨_, _, _, _, rfl⟩
  have hE : parseE L = topF L.length (exprF 40 0 L) := rfl
  rw [hx] at CE hG hE
  rw [hE]
  dsimp only at CE
  unfold topF
  dsimp only
  have CP := fun W h => Aside0.mk (place_calls (w.heap.size + 1) L1 L.length p1 e1 w W h (by omega) (by omega))
  obtain ⟨at1, e2, hp⟩ : ∃ at1 e2, placeF L.length L1 e1 = (at1, e2) := ⟨_, _, rfl⟩
  rw [hp] at CP
  rw [hp]
  dsimp only at CP ⊢
  have B2 := Aside0.mk (show ((w.alloc (.cells zCells TX (0, 0))).alloc (.cells #[.slice A L.length c, .int .i64 L.length, .int .i64 0] 94)).heap[w.heap.size]? = some (.cells zCells TX (0, 0)) from blk_alloc b2 _)
  have HS := Aside0.mk hsz
  have HS2 := Aside0.mk hsz2
  clear hC hL hE hx hp hG b2 hsz hsz2
  obtain ⟨N, hN⟩ : ∃ N, N = L.length := ⟨_, rfl⟩
  rw [← hN] at HI CE CP B2 HS2 hc hm
  rw [← hN]
  clear hN
  have hs : ∀ (W : World) o, (W.alloc o).heap.size = W.heap.size + 1 := fun W o => Array.size_push ..
  have main : ∀ K, K = (if e2 ≠ 0 then (zX, at1, e2) else (x, at1, 0)) → Calls Tryd.prog 36 #[.slice A N c] w fun e w' => ∃ v2 v3, e = .returned (.tuple #[ag K.1 v2 v3, .int .i64 K.2.1, .int .i64 K.2.2]) ∧ Gives w w' K.1 v2 v3 ∧ Below w.heap.size w w' := by
    intro K hK
    by_cases he : e2 ≠ 0
    · have f1 : (e2 != 0) = true := bne_iff_ne.2 he
      have f2 : (e2 == 0) = false := beq_eq_false_iff_ne.2 he
      rw [if_pos he] at hK
      subst hK
      go_enter Tryd.func36, Tryd.ntmps36
      go_wp2_with fail
      (with_reducible refine (CE _).out ?i1 ?i2 ?i3 |>.mono ?_)
      case i1 => exact HI.out
      case i2 => decide
      case i3 => decide
      rintro e w3 ⟨v5, v6, rfl, hI3, hk3, hg3⟩
      obtain ⟨A5, c5, A6, c6, rfl, rfl⟩ := hg3.slices
      have HG := Aside0.mk hg3
      have hI4 := hI3.keep (below_alloc (Below.refl _ _) (.cells #[.int .u8 x.f0, .string x.f1, .slice A5 x.f2.length c5, .slice A6 x.f3.length c6] TX))
      have HI4 := Aside0.mk hI4
      have z3 := blk_kept B2.out hk3 (fun h => by have h1 : w.heap.size = w.heap.size + 1 := h; omega)
      have q60 := blk_new w3 (.cells #[.int .u8 x.f0, .string x.f1, .slice A5 x.f2.length c5, .slice A6 x.f3.length c6] TX)
      have lt3 := blk_lt z3
      clear hI3 hk3 hg3 hI4 CE
      go_wp2_with fail
      (with_reducible refine (CP _ ?i4).out.mono ?_)
      case i4 => exact HI4.out
      rintro e w4 ⟨rfl, ⟨m, rfl⟩⟩
      have HI2 := Aside0.mk (HI4.out.keep (pw_below_drewN (Below.refl _ _) m))
      have ZZ := Aside0.mk (blk_drewN (blk_alloc z3 (.cells #[.int .u8 x.f0, .string x.f1, .slice A5 x.f2.length c5, .slice A6 x.f3.length c6] TX)) m)
      have HG4 := Aside0.mk ((HG.out.later (below_alloc (Below.refl _ _) (.cells #[.int .u8 x.f0, .string x.f1, .slice A5 x.f2.length c5, .slice A6 x.f3.length c6] TX))).later (pw_below_drewN (Below.refl _ _) m))
      clear CP HI4 q60
      have z0 := (blk_cell ZZ.out 0).trans (show zCells[0]? = some (Value.int .u8 0) from rfl)
      have y0 := blk_frozen ZZ.out 0
      have z1 := (blk_cell ZZ.out 1).trans (show zCells[1]? = some (Value.string nil8) from rfl)
      have y1 := blk_frozen ZZ.out 1
      have z2 := (blk_cell ZZ.out 2).trans (show zCells[2]? = some (Value.slice none 0 0) from rfl)
      have y2 := blk_frozen ZZ.out 2
      have zz3 := (blk_cell ZZ.out 3).trans (show zCells[3]? = some (Value.slice none 0 0) from rfl)
      have y3 := blk_frozen ZZ.out 3
      go_wp2
      refine bodyPost_ret (results_ctt rfl _ _ _ TX _ (0, 0) _ rfl (blk_put (blk_put (blk_put (blk_put ZZ.out 0 _ rfl) 1 _ rfl) 2 _ rfl) 3 _ rfl) Tryd.underlying25 rfl info_x) rfl ?_
      exact ⟨_, _, rfl, gives_zero _ _, by (repeat (first | (with_reducible exact HI2.out.low) | (with_reducible apply below_alloc) | (with_reducible apply pw_below_drewN) | (with_reducible apply below_drew1) | (with_reducible refine below_set ?_ (by first | assumption | omega))))⟩
    · have f1 : (e2 != 0) = false := bne_eq_false_iff_eq.2 (by omega)
      have f2 : (e2 == 0) = true := beq_iff_eq.2 (by omega)
      rw [if_neg he] at hK
      subst hK
      go_enter Tryd.func36, Tryd.ntmps36
      go_wp2_with fail
      (with_reducible refine (CE _).out ?i1 ?i2 ?i3 |>.mono ?_)
      case i1 => exact HI.out
      case i2 => decide
      case i3 => decide
      rintro e w3 ⟨v5, v6, rfl, hI3, hk3, hg3⟩
      obtain ⟨A5, c5, A6, c6, rfl, rfl⟩ := hg3.slices
      have HG := Aside0.mk hg3
      have hI4 := hI3.keep (below_alloc (Below.refl _ _) (.cells #[.int .u8 x.f0, .string x.f1, .slice A5 x.f2.length c5, .slice A6 x.f3.length c6] TX))
      have HI4 := Aside0.mk hI4
      have z3 := blk_kept B2.out hk3 (fun h => by have h1 : w.heap.size = w.heap.size + 1 := h; omega)
      have q60 := blk_new w3 (.cells #[.int .u8 x.f0, .string x.f1, .slice A5 x.f2.length c5, .slice A6 x.f3.length c6] TX)
      have lt3 := blk_lt z3
      clear hI3 hk3 hg3 hI4 CE
      go_wp2_with fail
      (with_reducible refine (CP _ ?i4).out.mono ?_)
      case i4 => exact HI4.out
      rintro e w4 ⟨rfl, ⟨m, rfl⟩⟩
      have HI2 := Aside0.mk (HI4.out.keep (pw_below_drewN (Below.refl _ _) m))
      have ZZ := Aside0.mk (blk_drewN (blk_alloc z3 (.cells #[.int .u8 x.f0, .string x.f1, .slice A5 x.f2.length c5, .slice A6 x.f3.length c6] TX)) m)
      have HG4 := Aside0.mk ((HG.out.later (below_alloc (Below.refl _ _) (.cells #[.int .u8 x.f0, .string x.f1, .slice A5 x.f2.length c5, .slice A6 x.f3.length c6] TX))).later (pw_below_drewN (Below.refl _ _) m))
      clear CP HI4 q60
      have z0 := (blk_cell ZZ.out 0).trans (show zCells[0]? = some (Value.int .u8 0) from rfl)
      have y0 := blk_frozen ZZ.out 0
      have z1 := (blk_cell ZZ.out 1).trans (show zCells[1]? = some (Value.string nil8) from rfl)
      have y1 := blk_frozen ZZ.out 1
      have z2 := (blk_cell ZZ.out 2).trans (show zCells[2]? = some (Value.slice none 0 0) from rfl)
      have y2 := blk_frozen ZZ.out 2
      have zz3 := (blk_cell ZZ.out 3).trans (show zCells[3]? = some (Value.slice none 0 0) from rfl)
      have y3 := blk_frozen ZZ.out 3
      go_wp2
      refine bodyPost_ret (results_ctt rfl _ _ _ TX _ (0, 0) _ rfl (blk_put (blk_put (blk_put (blk_put ZZ.out 0 _ rfl) 1 _ rfl) 2 _ rfl) 3 _ rfl) Tryd.underlying25 rfl info_x) rfl ?_
      refine ⟨_, _, rfl, kX.M_lower ?_ (HG4.out.step ?_), by (repeat (first | (with_reducible exact HI2.out.low) | (with_reducible apply below_alloc) | (with_reducible apply pw_below_drewN) | (with_reducible apply below_drew1) | (with_reducible refine below_set ?_ (by first | assumption | omega))))⟩
      · rw [hs, hs]; omega
      · refine Kept.mono (S := At w.heap.size) ?_ (fun k hk => by have h1 : k = w.heap.size := hk; rw [hs, hs]; omega)
        (repeat (first | (with_reducible exact Kept.refl _ _) | (with_reducible apply Kept.alloc) | (with_reducible apply Kept.drewN) | (with_reducible apply Kept.drew) | (with_reducible refine kept_at ?_ _ _) | (with_reducible refine kept_new ?_ _ _ (Nat.le_refl _)) | (with_reducible refine kept_new ?_ _ _ (by first | assumption | omega))))
  exact main _ rfl
end Go.Proofs.YtjeofffddbibeaaDoor.Pa
end

section
namespace Go.Proofs.YtjeofffddbibeaaDoor.Ex
open Go
def digitB (b : UInt8) : Bool := decide (48 ≤ b.toNat) && decide (b.toNat ≤ 57)
def alphaB (b : UInt8) : Bool := decide (b.toNat = 95) || (decide (97 ≤ b.toNat) && decide (b.toNat ≤ 122)) || (decide (65 ≤ b.toNat) && decide (b.toNat ≤ 90))
def letterB (b : UInt8) : Bool := alphaB b || digitB b
/-- A right name. -/
def nameL : List UInt8 → Bool
  | [] => false
  | b :: l => decide (l.length < 30) && alphaB b && l.all letterB
def nameB (s : ByteArray) : Bool := nameL s.data.toList
end Go.Proofs.YtjeofffddbibeaaDoor.Ex
end

section
namespace Go.Proofs.YtjeofffddbibeaaDoor.Ex
open Go Go.RowKit Go.Proofs.YtjeofffddbibeaaDoor.PParseTells Go.Proofs.YtjeofffddbibeaaDoorW.PrintWords Go.Proofs.YtjeofffddbibeaaDoorW.PrintLast Go.Proofs.YtjeofffddbibeaaDoorW.PrintMore
set_option linter.unusedVariables false
set_option linter.unusedSimpArgs false
theorem toList_data (s : ByteArray) : s.toList = s.data.toList := Lib.toList_data s
theorem empty_iff (s : ByteArray) : s.toList.isEmpty = true ↔ s.data.toList = [] := by
  rw [toList_data, List.isEmpty_iff]
def rightB (x : X) : Bool :=
  decide (x.f0 ≤ 12) && decide ((x.f2.length : Int) = numsOf x.f0) && decide ((x.f3.length : Int) = argsOf x.f0) && (if x.f0 = 0 then nameB x.f1 else x.f1.toList.isEmpty)
mutual
def allR : X → Bool
  | ⟨o, n, ns, xs⟩ => rightB ⟨o, n, ns, xs⟩ && allRL xs
def allRL : List X → Bool
  | [] => true
  | y :: ys => allR y && allRL ys
end
theorem allR_eq (x : X) : allR x = (rightB x && allRL x.f3) := by cases x; rw [allR]
theorem allRL_cons (y : X) (ys : List X) : allRL (y :: ys) = (allR y && allRL ys) := by rw [allRL]
theorem allRL_nil : allRL [] = true := by rw [allRL]
def RightB (x : X) : Bool := allR x && decide (dep x ≤ 40) && decide (cnt x ≤ 2000)
end Go.Proofs.YtjeofffddbibeaaDoor.Ex
end

section
namespace Go.Proofs.YtjeofffddbibeaaDoor.Pa
open Go Go.RowKit Go.Proofs.YtjeofffddbibeaaDoor.PParseTells Go.Proofs.YtjeofffddbibeaaDoor.Ex
set_option linter.unusedVariables false
set_option linter.unusedSimpArgs false
abbrev mC : Tok := ⟨4, COM, 0⟩
abbrev mL : Tok := ⟨4, LPA, 0⟩
abbrev mR : Tok := ⟨4, RPA, 0⟩
abbrev nTok (v : Int) : Tok := ⟨2, nil8, v⟩
abbrev wTok (s : ByteArray) : Tok := ⟨1, s, 0⟩
def opW (o : Int) : ByteArray := opsL.getD (o.toNat - 1) nil8
/-- The items, a comma between two, and the end. -/
def seqW : List (List Tok) → List Tok
  | [] => [mR]
  | [a] => a ++ [mR]
  | a :: b :: r => a ++ mC :: seqW (b :: r)
mutual
def wordsX : X → List Tok
  | ⟨o, n, ns, xs⟩ => if o = 0 ∨ 13 ≤ o then [wTok n] else wTok (opW o) :: mL :: seqW (ns.map (fun v => [nTok v]) ++ wordsL xs)
def wordsL : List X → List (List Tok)
  | [] => []
  | y :: ys => wordsX y :: wordsL ys
end
theorem words_eq (x : X) : wordsX x = if x.f0 = 0 ∨ 13 ≤ x.f0 then [wTok x.f1] else wTok (opW x.f0) :: mL :: seqW (x.f2.map (fun v => [nTok v]) ++ wordsL x.f3) := by cases x; rw [wordsX]
theorem wordsL_nil : wordsL [] = [] := by rw [wordsL]
theorem wordsL_cons (y : X) (ys : List X) : wordsL (y :: ys) = wordsX y :: wordsL ys := by rw [wordsL]
theorem op_word : ∀ o : Int, 1 ≤ o → o ≤ 12 → opF (opW o) = (o, true) := by
  intro o h0 h1
  rcases (show o = 1 ∨ o = 2 ∨ o = 3 ∨ o = 4 ∨ o = 5 ∨ o = 6 ∨ o = 7 ∨ o = 8 ∨ o = 9 ∨ o = 10 ∨ o = 11 ∨ o = 12 by omega) with rfl | rfl | rfl | rfl | rfl | rfl | rfl | rfl | rfl | rfl | rfl | rfl <;> decide +kernel
theorem many_ge : ∀ o : Int, 1 ≤ o → o ≤ 12 → 0 < manyOf o ∧ ((manyOf o : Nat) : Int) = numsOf o + argsOf o ∧ 0 ≤ numsOf o ∧ 0 ≤ argsOf o := by
  intro o h0 h1
  rcases (show o = 1 ∨ o = 2 ∨ o = 3 ∨ o = 4 ∨ o = 5 ∨ o = 6 ∨ o = 7 ∨ o = 8 ∨ o = 9 ∨ o = 10 ∨ o = 11 ∨ o = 12 by omega) with rfl | rfl | rfl | rfl | rfl | rfl | rfl | rfl | rfl | rfl | rfl | rfl <;> decide +kernel
theorem mark_yes (s : ByteArray) (R : List Tok) : markF s (⟨4, s, 0⟩ :: R) = (R, 0) := if_pos (by show (decide ((4 : Int) = 4) && (s.toList == s.toList)) = true; simp)
theorem is_yes (s : ByteArray) (R : List Tok) : isF s (⟨4, s, 0⟩ :: R) = true := by show (decide ((4 : Int) = 4) && (s.toList == s.toList)) = true; simp
theorem isLPA_C (R : List Tok) : isF LPA (mC :: R) = false := by show (decide ((4 : Int) = 4) && (COM.toList == LPA.toList)) = false; decide +kernel
theorem isLPA_R (R : List Tok) : isF LPA (mR :: R) = false := by show (decide ((4 : Int) = 4) && (RPA.toList == LPA.toList)) = false; decide +kernel
/-- An expression begins with a word. -/
theorem name_step (d : Nat) (p : Int) (hp : p < 2000) (s : ByteArray) (R : List Tok) (h : ¬ ((opF s).2 = true ∧ isF LPA R = true)) :
    exprF (d + 1) p (wTok s :: R) = ⟨⟨0, s, [], []⟩, R, p + 1, 0⟩ := by
  show exprG false (exprF d) p _ = _
  unfold exprG
  have ht : takeF [1] (wTok s :: R) = (wTok s, R, 0) := by unfold takeF; exact if_pos ⟨by simp, by simp⟩
  rw [if_neg (by intro h9; rcases h9.2 with h8 | h8 <;> first | omega | cases h8), ht, if_neg (by simp)]
  dsimp only
  rw [if_neg h]
theorem op_step (d : Nat) (p : Int) (hp : p < 2000) (o : Int) (h0 : 1 ≤ o) (h1 : o ≤ 12) (R : List Tok) :
    exprF (d + 1) p (wTok (opW o) :: mL :: R) = stepsF (exprF d) (numsOf o).toNat (manyOf o) (manyOf o) ⟨o, nil8, [], []⟩ (p + 1) R := by
  show exprG false (exprF d) p _ = _
  unfold exprG
  have ht : takeF [1] (wTok (opW o) :: mL :: R) = (wTok (opW o), mL :: R, 0) := by unfold takeF; exact if_pos ⟨by simp, by simp⟩
  rw [if_neg (by intro h9; rcases h9.2 with h8 | h8 <;> first | omega | cases h8), ht, if_neg (by simp)]
  dsimp only
  rw [op_word o h0 h1, if_pos ⟨rfl, is_yes LPA R⟩]
  rfl
theorem empty_step (d : Nat) (p : Int) : exprF d p [] = ⟨zX, [], p + 1, 110⟩ := by
  cases d with
  | zero =>
    show exprG true _ p [] = _
    unfold exprG
    rw [if_neg (by intro h; exact absurd h.1 (by decide)), show takeF [1] [] = (z61, [], 110) from rfl, if_pos (by simp)]
  | succ d =>
    show exprG false _ p [] = _
    unfold exprG
    rw [if_neg (by intro h; exact absurd h.1 (by decide)), show takeF [1] [] = (z61, [], 110) from rfl, if_pos (by simp)]
theorem seq_cons (a : List Tok) (r : List (List Tok)) : seqW (a :: r) = if r = [] then a ++ [mR] else a ++ mC :: seqW r := by
  cases r with
  | nil => rfl
  | cons b r => rw [if_neg (by simp)]; rfl
/-- What an expression's words are to the parser. -/
structure Told (d : Nat) (x : X) : Prop where
  all : ∀ (p : Int) (R : List Tok), 0 ≤ p → p + cnt x ≤ 2000 → (x.f0 = 0 → isF LPA R = false) → exprF d p (wordsX x ++ R) = ⟨x, R, p + cnt x, 0⟩
  cut : ∀ (p : Int) (k : Nat), 0 ≤ p → p + cnt x ≤ 2000 → k < (wordsX x).length → (k = 1 → ∃ s, exprF d p ((wordsX x).take k) = ⟨⟨0, s, [], []⟩, [], p + 1, 0⟩ ∧ (wordsX x).head? = some (wTok s)) ∧ (k ≠ 1 → (exprF d p ((wordsX x).take k)).e = 110 ∧ (exprF d p ((wordsX x).take k)).l = [])
/-- The items left are so many numbers, then so many expressions. -/
theorem steps_words (d : Nat) (o : Int) (nums many : Nat) : ∀ (m : Nat) (ns : List Int) (xs : List X) (f2 : List Int) (f3 : List X) (p : Int) (R : List Tok),
    m = ns.length + xs.length → m ≤ many → 0 < m → (ns ≠ [] → many - m < nums) → (ns = [] → nums ≤ many - m) → (ns ≠ [] → many - m + ns.length = nums) → (∀ y ∈ xs, Told d y) → 0 ≤ p → p + cntL xs ≤ 2000 →
    stepsF (exprF d) nums many m ⟨o, nil8, f2, f3⟩ p (seqW (ns.map (fun v => [nTok v]) ++ wordsL xs) ++ R) = ⟨⟨o, nil8, f2 ++ ns, f3 ++ xs⟩, R, p + cntL xs, 0⟩ := by
  intro m
  induction m with
  | zero => intro ns xs f2 f3 p R _ _ h; omega
  | succ m ih =>
    intro ns xs f2 f3 p R hm hle _ h1 h2 h3 hT hp0 hp1
    have hmk : (if m = 0 then RPA else COM) = if m = 0 then RPA else COM := rfl
    cases ns with
    | cons v ns =>
      have hd : decide (many - (m + 1) < nums) = true := decide_eq_true (h1 (by simp))
      rw [stepsF, hd]
      rw [List.map_cons, List.cons_append, seq_cons]
      have hnum : ∀ Q, itemF (exprF d) true ⟨o, nil8, f2, f3⟩ p (nTok v :: Q) = ⟨⟨o, nil8, f2 ++ [v], f3⟩, Q, p, 0⟩ := fun Q => by
        unfold itemF
        rw [if_pos rfl, show numF (nTok v :: Q) = (nTok v, Q, 0) from by unfold numF takeF; exact if_pos ⟨by simp, by simp⟩]
      rw [List.length_cons] at hm h3
      by_cases hz : m = 0
      · have hns : ns = [] := List.eq_nil_of_length_eq_zero (by omega)
        have hxs : xs = [] := List.eq_nil_of_length_eq_zero (by omega)
        subst hns
        subst hxs
        rw [if_pos (show List.map (fun v => [nTok v]) ([] : List Int) ++ wordsL [] = [] from wordsL_nil), if_pos hz, hz]
        rw [show [nTok v] ++ [mR] ++ R = nTok v :: mR :: R from rfl, hnum, if_neg (by simp)]
        dsimp only
        rw [mark_yes RPA R, if_neg (by simp), stepsF, cntL_nil]
        simp
      · have hne : ¬ (ns.map (fun v => [nTok v]) ++ wordsL xs = []) := by
          intro h
          have h := congrArg List.length h
          rw [List.length_append, List.length_map] at h
          have hwl : ∀ l : List X, (wordsL l).length = l.length := fun l => by
            induction l with
            | nil => rw [wordsL_nil]; rfl
            | cons y l ih => rw [wordsL_cons, List.length_cons, List.length_cons, ih]
          rw [hwl] at h
          have h9 : ns.length + xs.length = 0 := h
          omega
        rw [if_neg hne, if_neg hz]
        rw [show [nTok v] ++ mC :: seqW (ns.map (fun v => [nTok v]) ++ wordsL xs) ++ R = nTok v :: mC :: (seqW (ns.map (fun v => [nTok v]) ++ wordsL xs) ++ R) from rfl, hnum, if_neg (by simp)]
        dsimp only
        rw [mark_yes COM, if_neg (by simp)]
        dsimp only
        have h3' := h3 (by simp)
        rw [ih ns xs (f2 ++ [v]) f3 p R (by omega) (by omega) (by omega) (fun hn => by have : 0 < ns.length := List.length_pos_iff.2 hn; omega) (fun hn => by subst hn; rw [List.length_nil] at h3'; omega) (fun hn => by omega) hT hp0 hp1]
        rw [List.append_assoc]
        rfl
    | nil =>
      cases xs with
      | nil => simp at hm
      | cons y xs =>
        have hd : decide (many - (m + 1) < nums) = false := decide_eq_false (by have := h2 rfl; omega)
        rw [stepsF, hd]
        rw [List.map_nil, List.nil_append, wordsL_cons, seq_cons]
        rw [cntL_cons] at hp1 ⊢
        have hcp := cnt_pos y
        have hitem : ∀ Q, isF LPA Q = false → itemF (exprF d) false ⟨o, nil8, f2, f3⟩ p (wordsX y ++ Q) = ⟨⟨o, nil8, f2, f3 ++ [y]⟩, Q, p + cnt y, 0⟩ := fun Q hQ => by
          unfold itemF
          rw [if_neg (by simp), (hT y (by simp)).all p Q hp0 (by omega) (fun _ => hQ)]
        rw [List.length_cons, List.length_nil] at hm
        by_cases hz : m = 0
        · have hxs : xs = [] := List.eq_nil_of_length_eq_zero (by omega)
          subst hxs
          rw [if_pos wordsL_nil, if_pos hz, hz]
          rw [show wordsX y ++ [mR] ++ R = wordsX y ++ mR :: R by rw [List.append_assoc]; rfl, hitem _ (isLPA_R R), if_neg (by simp)]
          dsimp only
          rw [mark_yes RPA R, if_neg (by simp), stepsF, cntL_nil, List.append_nil]
          simp
        · have hne : ¬ (wordsL xs = []) := by
            cases xs with
            | nil => simp at hm; omega
            | cons z xs => rw [wordsL_cons]; simp
          rw [if_neg hne, if_neg hz]
          rw [show wordsX y ++ mC :: seqW (wordsL xs) ++ R = wordsX y ++ mC :: (seqW (wordsL xs) ++ R) by rw [List.append_assoc]; rfl, hitem _ (isLPA_C _), if_neg (by simp)]
          dsimp only
          rw [mark_yes COM, if_neg (by simp)]
          dsimp only
          have ih9 := ih [] xs f2 (f3 ++ [y]) (p + cnt y) R (by simp; omega) (by omega) (by omega) (fun hn => absurd rfl hn) (fun _ => by have := h2 rfl; omega) (fun hn => absurd rfl hn) (fun z hz => hT z (by simp [hz])) (by omega) (by omega)
          rw [List.map_nil, List.nil_append] at ih9
          rw [ih9]
          rw [List.append_assoc]
          simp only [List.append_nil, List.cons_append, List.nil_append, Res.mk.injEq, true_and, and_true]
          omega
/-- Cut off: an error at the end. -/
theorem steps_cut (d : Nat) (o : Int) (nums many : Nat) : ∀ (m : Nat) (ns : List Int) (xs : List X) (f2 : List Int) (f3 : List X) (p : Int) (k : Nat),
    m = ns.length + xs.length → m ≤ many → 0 < m → (ns ≠ [] → many - m < nums) → (ns = [] → nums ≤ many - m) → (ns ≠ [] → many - m + ns.length = nums) → (∀ y ∈ xs, Told d y) → 0 ≤ p → p + cntL xs ≤ 2000 → k < (seqW (ns.map (fun v => [nTok v]) ++ wordsL xs)).length →
    (stepsF (exprF d) nums many m ⟨o, nil8, f2, f3⟩ p ((seqW (ns.map (fun v => [nTok v]) ++ wordsL xs)).take k)).e = 110 ∧ (stepsF (exprF d) nums many m ⟨o, nil8, f2, f3⟩ p ((seqW (ns.map (fun v => [nTok v]) ++ wordsL xs)).take k)).l = [] := by
  intro m
  induction m with
  | zero => intro ns xs f2 f3 p k _ _ h; omega
  | succ m ih =>
    intro ns xs f2 f3 p k hm hle _ h1 h2 h3 hT hp0 hp1 hk
    -- an item that is cut, or whole with nothing behind
    have item_err : ∀ num L, (itemF (exprF d) num ⟨o, nil8, f2, f3⟩ p L).e = 110 → (itemF (exprF d) num ⟨o, nil8, f2, f3⟩ p L).l = [] → decide (many - (m + 1) < nums) = num →
        (stepsF (exprF d) nums many (m + 1) ⟨o, nil8, f2, f3⟩ p L).e = 110 ∧ (stepsF (exprF d) nums many (m + 1) ⟨o, nil8, f2, f3⟩ p L).l = [] := fun num L he hl hd => by
      rw [stepsF, hd, if_pos (by rw [he]; decide)]
      exact ⟨he, hl⟩
    have item_end : ∀ num L, (itemF (exprF d) num ⟨o, nil8, f2, f3⟩ p L).e = 0 → (itemF (exprF d) num ⟨o, nil8, f2, f3⟩ p L).l = [] → decide (many - (m + 1) < nums) = num →
        (stepsF (exprF d) nums many (m + 1) ⟨o, nil8, f2, f3⟩ p L).e = 110 ∧ (stepsF (exprF d) nums many (m + 1) ⟨o, nil8, f2, f3⟩ p L).l = [] := fun num L he hl hd => by
      have hmk : ∀ s, markF s [] = ([], 110) := fun s => rfl
      rw [stepsF, hd, if_neg (by rw [he]; simp), hl, hmk, if_pos (by simp)]
      exact ⟨rfl, rfl⟩
    cases ns with
    | cons v ns =>
      have hd : decide (many - (m + 1) < nums) = true := decide_eq_true (h1 (by simp))
      have hnum : ∀ Q, itemF (exprF d) true ⟨o, nil8, f2, f3⟩ p (nTok v :: Q) = ⟨⟨o, nil8, f2 ++ [v], f3⟩, Q, p, 0⟩ := fun Q => by
        unfold itemF
        rw [if_pos rfl, show numF (nTok v :: Q) = (nTok v, Q, 0) from by unfold numF takeF; exact if_pos ⟨by simp, by simp⟩]
      have hnil : itemF (exprF d) true ⟨o, nil8, f2, f3⟩ p [] = ⟨⟨o, nil8, f2 ++ [0], f3⟩, [], p, 110⟩ := by
        unfold itemF
        rw [if_pos rfl]
        rfl
      rw [List.map_cons, List.cons_append, seq_cons] at hk ⊢
      rw [List.length_cons] at hm h3
      cases k with
      | zero =>
        rw [List.take_zero]
        exact item_err true [] (by rw [hnil]) (by rw [hnil]) hd
      | succ k =>
        cases k with
        | zero =>
          have ht : (if ns.map (fun v => [nTok v]) ++ wordsL xs = [] then [nTok v] ++ [mR] else [nTok v] ++ mC :: seqW (ns.map (fun v => [nTok v]) ++ wordsL xs)).take 1 = [nTok v] := by split <;> rfl
          rw [ht]
          exact item_end true _ (by rw [hnum]) (by rw [hnum]) hd
        | succ k =>
          by_cases hz : ns.map (fun v => [nTok v]) ++ wordsL xs = []
          · rw [if_pos hz] at hk
            simp at hk
            omega
          · rw [if_neg hz] at hk ⊢
            have hm0 : ¬ (m = 0) := by
              intro h0
              apply hz
              have a1 : ns = [] := List.eq_nil_of_length_eq_zero (by omega)
              have a2 : xs = [] := List.eq_nil_of_length_eq_zero (by omega)
              subst a1; subst a2
              rw [wordsL_nil]; rfl
            rw [show ([nTok v] ++ mC :: seqW (ns.map (fun v => [nTok v]) ++ wordsL xs)).take (k + 1 + 1) = nTok v :: mC :: (seqW (ns.map (fun v => [nTok v]) ++ wordsL xs)).take k from rfl]
            rw [stepsF, hd, hnum, if_neg (by simp), if_neg hm0]
            dsimp only
            rw [mark_yes COM, if_neg (by simp)]
            dsimp only
            have h3' := h3 (by simp)
            exact ih ns xs (f2 ++ [v]) f3 p k (by omega) (by omega) (by omega) (fun hn => by have : 0 < ns.length := List.length_pos_iff.2 hn; omega) (fun hn => by subst hn; rw [List.length_nil] at h3'; omega) (fun hn => by omega) hT hp0 hp1 (by simp at hk ⊢; omega)
    | nil =>
      cases xs with
      | nil => simp at hm
      | cons y xs =>
        have hd : decide (many - (m + 1) < nums) = false := decide_eq_false (by have := h2 rfl; omega)
        rw [List.map_nil, List.nil_append, wordsL_cons, seq_cons] at hk ⊢
        rw [cntL_cons] at hp1
        have hcp := cnt_pos y
        have hT1 := hT y (by simp)
        have hitem : ∀ Q, isF LPA Q = false → itemF (exprF d) false ⟨o, nil8, f2, f3⟩ p (wordsX y ++ Q) = ⟨⟨o, nil8, f2, f3 ++ [y]⟩, Q, p + cnt y, 0⟩ := fun Q hQ => by
          unfold itemF
          rw [if_neg (by simp), hT1.all p Q hp0 (by omega) (fun _ => hQ)]
        have hpart : ∀ L, itemF (exprF d) false ⟨o, nil8, f2, f3⟩ p L = ⟨⟨o, nil8, f2, f3 ++ [(exprF d p L).x]⟩, (exprF d p L).l, (exprF d p L).p, (exprF d p L).e⟩ := fun L => by
          unfold itemF
          rw [if_neg (by simp)]
        rw [List.length_cons, List.length_nil] at hm
        by_cases hky : k < (wordsX y).length
        · have ht : (if wordsL xs = [] then wordsX y ++ [mR] else wordsX y ++ mC :: seqW (wordsL xs)).take k = (wordsX y).take k := by
            split <;> rw [List.take_append_of_le_length (by omega)]
          rw [ht]
          obtain ⟨c1, c2⟩ := hT1.cut p k hp0 (by omega) hky
          by_cases hk1 : k = 1
          · obtain ⟨s, hs, _⟩ := c1 hk1
            exact item_end false _ (by rw [hpart, hs]) (by rw [hpart, hs]) hd
          · obtain ⟨he, hl⟩ := c2 hk1
            exact item_err false _ (by rw [hpart]; exact he) (by rw [hpart]; exact hl) hd
        · obtain ⟨j, rfl⟩ : ∃ j, k = (wordsX y).length + j := ⟨k - (wordsX y).length, by omega⟩
          cases j with
          | zero =>
            have ht : (if wordsL xs = [] then wordsX y ++ [mR] else wordsX y ++ mC :: seqW (wordsL xs)).take ((wordsX y).length + 0) = wordsX y ++ [] := by
              split <;> (rw [List.take_append_of_le_length (by omega)]; simp)
            rw [ht]
            exact item_end false _ (by rw [hitem [] rfl]) (by rw [hitem [] rfl]) hd
          | succ j =>
            by_cases hz : wordsL xs = []
            · rw [if_pos hz] at hk
              simp at hk
            · rw [if_neg hz] at hk ⊢
              have hm0 : ¬ (m = 0) := by
                intro h0
                apply hz
                have a2 : xs = [] := List.eq_nil_of_length_eq_zero (by omega)
                subst a2
                exact wordsL_nil
              have ht : (wordsX y ++ mC :: seqW (wordsL xs)).take ((wordsX y).length + (j + 1)) = wordsX y ++ mC :: (seqW (wordsL xs)).take j := by
                rw [List.take_length_add_append]
                rfl
              rw [ht, stepsF, hd, hitem _ (isLPA_C _), if_neg (by simp), if_neg hm0]
              dsimp only
              rw [mark_yes COM, if_neg (by simp)]
              dsimp only
              have ih9 := ih [] xs f2 (f3 ++ [y]) (p + cnt y) j (by simp; omega) (by omega) (by omega) (fun hn => absurd rfl hn) (fun _ => by have := h2 rfl; omega) (fun hn => absurd rfl hn) (fun z hz => hT z (by simp [hz])) (by omega) (by omega)
              rw [List.map_nil, List.nil_append] at ih9
              exact ih9 (by simp at hk; omega)
theorem dep_child {xs : List X} {y : X} (h : y ∈ xs) : dep y ≤ depL xs := by
  induction xs with
  | nil => cases h
  | cons z xs ih =>
    rw [depL_cons]
    rcases List.mem_cons.1 h with rfl | h
    · omega
    · have := ih h; omega
theorem allRL_in {xs : List X} (h : allRL xs = true) {y : X} (hy : y ∈ xs) : allR y = true := by
  induction xs with
  | nil => cases hy
  | cons z xs ih =>
    rw [allRL_cons, Bool.and_eq_true] at h
    rcases List.mem_cons.1 hy with rfl | hy
    · exact h.1
    · exact ih h.2 hy
theorem nil8_of {s : ByteArray} (h : s.toList.isEmpty = true) : s = nil8 := by
  have h1 := (empty_iff s).1 h
  cases s with
  | mk a =>
    have : a = #[] := Array.toList_eq_nil_iff.1 h1
    rw [this]
/-- What is right: a name, or an operator with its items. -/
theorem right_cases {x : X} (hwf : Wf x) (hR : allR x = true) : (∃ n, x = ⟨0, n, [], []⟩) ∨ (∃ o ns xs, x = ⟨o, nil8, ns, xs⟩ ∧ 1 ≤ o ∧ o ≤ 12 ∧ (ns.length : Int) = numsOf o ∧ (xs.length : Int) = argsOf o ∧ allRL xs = true) := by
  rw [allR_eq, Bool.and_eq_true] at hR
  obtain ⟨h1, h2⟩ := hR
  have h0 := hwf.op.1
  obtain ⟨o, n, ns, xs⟩ := x
  unfold rightB at h1
  simp only [Bool.and_eq_true, decide_eq_true_eq] at h1
  obtain ⟨⟨⟨h3, h4⟩, h5⟩, h6⟩ := h1
  have h0 : 0 ≤ o := h0
  by_cases ho : o = 0
  · subst ho
    have n0 : numsOf 0 = 0 := by decide
    have a0 : argsOf 0 = 0 := by decide
    rw [n0] at h4
    rw [a0] at h5
    have hn : ns = [] := List.eq_nil_of_length_eq_zero (by omega)
    have hx : xs = [] := List.eq_nil_of_length_eq_zero (by omega)
    subst hn; subst hx
    exact .inl ⟨n, rfl⟩
  · rw [if_neg ho] at h6
    exact .inr ⟨o, ns, xs, by rw [nil8_of h6], by omega, h3, h4, h5, h2⟩
/-- The words of what is right are it. -/
theorem told (N : Nat) : ∀ (x : X), cnt x ≤ N → Wf x → allR x = true → ∀ d, dep x ≤ d → Told d x := by
  induction N with
  | zero => intro x hx; have := cnt_pos x; omega
  | succ N ih =>
    intro x hN hwf hR d hd
    have hdx := dep_eq x
    obtain ⟨d, rfl⟩ : ∃ d', d = d' + 1 := ⟨d - 1, by omega⟩
    have hcx := cnt_eq x
    rcases right_cases hwf hR with ⟨n, rfl⟩ | ⟨o, ns, xs, rfl, h1, h2, h4, h5, hRL⟩
    · have hw : wordsX ⟨0, n, [], []⟩ = [wTok n] := by rw [words_eq]; exact if_pos (.inl rfl)
      have hc : cnt ⟨0, n, [], []⟩ = 1 := by rw [cnt_eq, cntL_nil]
      refine ⟨fun p R hp0 hp1 hR => ?_, fun p k hp0 hp1 hk => ?_⟩
      · rw [hw, hc]
        rw [hc] at hp1
        exact name_step d p (by omega) n R (fun h => by rw [hR rfl] at h; cases h.2)
      · rw [hw] at hk ⊢
        obtain rfl : k = 0 := by simpa using hk
        rw [List.take_zero, empty_step]
        exact ⟨fun h => (by cases h), fun _ => ⟨rfl, rfl⟩⟩
    · have hw : wordsX ⟨o, nil8, ns, xs⟩ = wTok (opW o) :: mL :: seqW (ns.map (fun v => [nTok v]) ++ wordsL xs) := by rw [words_eq]; exact if_neg (by show ¬ (o = 0 ∨ 13 ≤ o); omega)
      have hc : cnt ⟨o, nil8, ns, xs⟩ = 1 + cntL xs := cnt_eq _
      have hdd : dep ⟨o, nil8, ns, xs⟩ = 1 + depL xs := dep_eq _
      obtain ⟨m0, m1, m2, m3⟩ := many_ge o h1 h2
      have hm : manyOf o = ns.length + xs.length := by omega
      have hT : ∀ y ∈ xs, Told d y := fun y hy => ih y (by have := cnt_mem hy; omega) (hwf.child (x := ⟨o, nil8, ns, xs⟩) hy) (allRL_in hRL hy) d (by have := dep_child hy; omega)
      have q1 : ns ≠ [] → manyOf o - manyOf o < (numsOf o).toNat := fun hn => by have : 0 < ns.length := List.length_pos_iff.2 hn; omega
      have q2 : ns = [] → (numsOf o).toNat ≤ manyOf o - manyOf o := fun hn => by subst hn; rw [List.length_nil] at h4; omega
      have q3 : ns ≠ [] → manyOf o - manyOf o + ns.length = (numsOf o).toNat := fun hn => by omega
      refine ⟨fun p R hp0 hp1 _ => ?_, fun p k hp0 hp1 hk => ?_⟩
      · rw [hw, hc]
        rw [hc] at hp1
        rw [show wTok (opW o) :: mL :: seqW (ns.map (fun v => [nTok v]) ++ wordsL xs) ++ R = wTok (opW o) :: mL :: (seqW (ns.map (fun v => [nTok v]) ++ wordsL xs) ++ R) from rfl]
        rw [op_step d p (by omega) o h1 h2, steps_words d o _ (manyOf o) (manyOf o) ns xs [] [] (p + 1) R hm (Nat.le_refl _) m0 q1 q2 q3 hT (by omega) (by omega)]
        simp only [List.nil_append, Res.mk.injEq, true_and, and_true]
        omega
      · rw [hw] at hk ⊢
        rw [hc] at hp1
        cases k with
        | zero =>
          rw [List.take_zero, empty_step]
          exact ⟨fun h => (by cases h), fun _ => ⟨rfl, rfl⟩⟩
        | succ k =>
          cases k with
          | zero =>
            refine ⟨fun _ => ⟨opW o, ?_, rfl⟩, fun h => absurd rfl h⟩
            exact name_step d p (by omega) (opW o) [] (fun h => by cases h.2)
          | succ k =>
            refine ⟨fun h => by omega, fun _ => ?_⟩
            rw [show (wTok (opW o) :: mL :: seqW (ns.map (fun v => [nTok v]) ++ wordsL xs)).take (k + 1 + 1) = wTok (opW o) :: mL :: (seqW (ns.map (fun v => [nTok v]) ++ wordsL xs)).take k from rfl]
            rw [op_step d p (by omega) o h1 h2]
            exact steps_cut d o _ (manyOf o) (manyOf o) ns xs [] [] (p + 1) k hm (Nat.le_refl _) m0 q1 q2 q3 hT (by omega) (by omega) (by simp at hk ⊢; omega)
theorem words_len {x : X} (hwf : Wf x) (hR : allR x = true) : 0 < (wordsX x).length ∧ (x.f0 = 0 ↔ (wordsX x).length = 1) := by
  rcases right_cases hwf hR with ⟨n, rfl⟩ | ⟨o, ns, xs, rfl, h1, h2, h4, h5, hRL⟩
  · have hw : wordsX ⟨0, n, [], []⟩ = [wTok n] := by rw [words_eq]; exact if_pos (.inl rfl)
    rw [hw]
    exact ⟨by simp, by simp⟩
  · have hw : wordsX ⟨o, nil8, ns, xs⟩ = wTok (opW o) :: mL :: seqW (ns.map (fun v => [nTok v]) ++ wordsL xs) := by rw [words_eq]; exact if_neg (by show ¬ (o = 0 ∨ 13 ≤ o); omega)
    rw [hw]
    exact ⟨by simp, by show o = 0 ↔ _; simp; omega⟩
/-- Right: what the law asks. -/
theorem right_parts {x : X} (h : RightB x = true) : allR x = true ∧ dep x ≤ 40 ∧ cnt x ≤ 2000 := by
  unfold RightB at h
  simpa [and_assoc] using h
theorem back_all {x : X} (hwf : Wf x) (h : RightB x = true) : parseE (wordsX x) = (x, -1, 0) := by
  obtain ⟨h1, h2, h3⟩ := right_parts h
  have hT := (told (cnt x) x (Nat.le_refl _) hwf h1 40 h2).all 0 [] (by omega) (by omega) (fun _ => rfl)
  rw [List.append_nil] at hT
  have hE : parseE (wordsX x) = topF (wordsX x).length (exprF 40 0 (wordsX x)) := rfl
  rw [hE, hT]
  rfl
theorem back_one {x : X} (hwf : Wf x) (h : RightB x = true) (hk : 1 < (wordsX x).length) : ∃ s, parseE ((wordsX x).take 1) = (⟨0, s, [], []⟩, -1, 0) ∧ (wordsX x).head? = some (wTok s) := by
  obtain ⟨h1, h2, h3⟩ := right_parts h
  obtain ⟨s, hs, hh⟩ := ((told (cnt x) x (Nat.le_refl _) hwf h1 40 h2).cut 0 1 (by omega) (by omega) hk).1 rfl
  refine ⟨s, ?_, hh⟩
  have hE : parseE ((wordsX x).take 1) = topF ((wordsX x).take 1).length (exprF 40 0 ((wordsX x).take 1)) := rfl
  rw [hE, hs]
  rfl
theorem back_cut {x : X} (hwf : Wf x) (h : RightB x = true) (k : Nat) (hk : k < (wordsX x).length) (h1k : k ≠ 1) : (parseE ((wordsX x).take k)).2.2 = 110 ∧ (parseE ((wordsX x).take k)).2.1 = k := by
  obtain ⟨h1, h2, h3⟩ := right_parts h
  obtain ⟨he, hl⟩ := ((told (cnt x) x (Nat.le_refl _) hwf h1 40 h2).cut 0 k (by omega) (by omega) hk).2 h1k
  have hE : parseE ((wordsX x).take k) = topF ((wordsX x).take k).length (exprF 40 0 ((wordsX x).take k)) := rfl
  have hlen : ((wordsX x).take k).length = k := by rw [List.length_take]; omega
  rw [hE, hlen]
  generalize exprF 40 0 ((wordsX x).take k) = r at he hl ⊢
  unfold topF placeF
  have he0 : ¬ (r.e = 0) := by omega
  rw [if_neg he0, hl, if_pos (show ((k : Int) - ([] : List Tok).length, r.e).2 ≠ 0 from he0)]
  exact ⟨he, by simp⟩
theorem back_more {x : X} (hwf : Wf x) (h : RightB x = true) (t : Tok) (ht : (wordsX x).length = 1 → isF LPA [t] = false) : (parseE (wordsX x ++ [t])).2.2 = 110 ∧ (parseE (wordsX x ++ [t])).2.1 = (wordsX x).length := by
  obtain ⟨h1, h2, h3⟩ := right_parts h
  have hT := (told (cnt x) x (Nat.le_refl _) hwf h1 40 h2).all 0 [t] (by omega) (by omega) (fun h0 => ht ((words_len hwf h1).2.1 h0))
  have hE : parseE (wordsX x ++ [t]) = topF (wordsX x ++ [t]).length (exprF 40 0 (wordsX x ++ [t])) := rfl
  have hp : ∀ a : Int, placeF a [t] 0 = (a - 1, 110) := fun a => by
    unfold placeF
    rw [if_pos rfl, if_neg (List.cons_ne_nil t [])]
    rfl
  rw [hE, hT]
  unfold topF
  dsimp only
  rw [hp, if_pos (by simp)]
  exact ⟨rfl, by simp⟩
end Go.Proofs.YtjeofffddbibeaaDoor.Pa
end
