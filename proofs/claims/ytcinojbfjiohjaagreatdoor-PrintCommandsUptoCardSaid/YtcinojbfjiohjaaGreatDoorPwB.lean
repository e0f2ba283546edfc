/-
  Part 2 of what the row stands on, put together by a program: PPrintTellsx0, Shelf, PrB, ExprN, ExprV, ExprC, ExprO, ParT, ParA, PrW, NameM, ExprR, Box, PrE, PrX, CivM, PLxC, PLxW, PLx6, PLx7, PLx8, CivP.
-/
import Derived.ArgAppend
import Derived.Below
import Derived.BigQuiet
import Derived.Deep.AppendLies
import Derived.Deep.CutBlock
import Derived.Deep.DeepCutAuto
import Derived.Deep.Draws
import Derived.Deep.LoopGhost
import Derived.Deep.OwnRows
import Derived.Deep.QuietTactic
import Derived.Deep.RegionHeld3
import Derived.KernelRfl
import Derived.Laws.Bits128
import Derived.Laws.BitsLemmas
import Derived.Laws.BytesArg
import Derived.Laws.EntriesVeiled
import Derived.Laws.IdiomCopy
import Derived.Laws.MakeOwn
import Derived.Laws.OwnMore
import Derived.Laws.Rows
import Derived.Laws.Slices
import Derived.Lib.AppendStr
import Derived.Lib.BufferKept
import Derived.Lib.Bytealg
import Derived.Lib.ConvBytes
import Derived.Lib.Fields
import Derived.Lib.IndexMore
import Derived.Lib.ItoaLen
import Derived.Lib.LaidTab
import Derived.Lib.SlicesS
import Derived.Lib.Space
import Derived.LoopN
import Derived.Maps.AppendAt
import Derived.OneCell
import Derived.OrdersHeld
import Derived.Outline
import Derived.OwnWalk
import Derived.RowKit
import Derived.RowKit3
import Derived.Shelf.Bits.Mul64
import Derived.Shelf.LaysC
import Derived.Shelf.LaysM
import Derived.Shelf.Slices.Turned
import Derived.Shelf.Small.Strs
import Derived.Shelf.Small.Utf8
import Derived.Shelf.Small.Wraps
import Derived.Shelf.Strconv.Atoi
import Derived.Shelf.Strconv.AtoiAll
import Derived.Shelf.Strconv.AtoiErr
import Derived.Shelf.Strconv.AtoiErrFast
import Derived.Shelf.Strconv.AtoiFail
import Derived.Shelf.Strconv.AtoiInnerAll
import Derived.Shelf.Strconv.AtoiLong
import Derived.Shelf.Strconv.Clone
import Derived.Shelf.Strconv.ErrVar
import Derived.Shelf.Strconv.ErrVarAll
import Derived.Shelf.Strconv.ErrVarParseInt
import Derived.Shelf.Strconv.Itoa0
import Derived.Shelf.Strconv.Itoa1
import Derived.Shelf.Strconv.Itoa2
import Derived.Shelf.Strconv.Itoa3
import Derived.Shelf.Strconv.Itoa4
import Derived.Shelf.Strconv.Lower
import Derived.Shelf.Strconv.ParseInt10
import Derived.Shelf.Strconv.ParseInt10All
import Derived.Shelf.Strconv.ParseInt10At16
import Derived.Shelf.Strconv.ParseInt10At32
import Derived.Shelf.Strconv.ParseInt10At64
import Derived.Shelf.Strconv.ParseInt10At8
import Derived.Shelf.Strconv.ParseIntEmpty
import Derived.Shelf.Strconv.ParseIntPublic10
import Derived.Shelf.Strconv.ParseUint10
import Derived.Shelf.Strconv.ParseUint10Any
import Derived.Shelf.Strconv.ParseUint10At
import Derived.Shelf.Strconv.ParseUint10Empty
import Derived.Shelf.Strconv.ParseUint10b16
import Derived.Shelf.Strconv.ParseUint10b32
import Derived.Shelf.Strconv.ParseUint10b64
import Derived.Shelf.Strconv.ParseUint10b8
import Derived.Shelf.Strconv.ParseUintEmpty
import Derived.Shelf.Strconv.RangeError
import Derived.Shelf.Strconv.SyntaxError
import Derived.Shelf.Strconv.ToError
import Derived.Shelf.Strconv.ToErrorRange
import Derived.Shelf.Strings.AsciiSet
import Derived.Shelf.Strings.Builder1
import Derived.Shelf.Strings.Builder2
import Derived.Shelf.Strings.Builder2Cap
import Derived.Shelf.Strings.BuilderCap
import Derived.Shelf.Strings.BuilderF
import Derived.Shelf.Strings.BuilderK
import Derived.Shelf.Strings.BuilderRune
import Derived.Shelf.Strings.Count
import Derived.Shelf.Strings.Cut
import Derived.Shelf.Strings.Explode
import Derived.Shelf.Strings.Fields
import Derived.Shelf.Strings.FieldsAny
import Derived.Shelf.Strings.FieldsFuncAny
import Derived.Shelf.Strings.FieldsFuncGrows
import Derived.Shelf.Strings.OnBuilder
import Derived.Shelf.Strings.Prefix
import Derived.Shelf.Strings.Repeat
import Derived.Shelf.Strings.RuneCount
import Derived.Shelf.Strings.Runes
import Derived.Shelf.Strings.Search1
import Derived.Shelf.Strings.Search2
import Derived.Shelf.Strings.Search3
import Derived.Shelf.Strings.Shaped
import Derived.Shelf.Strings.SlTrimAscii
import Derived.Shelf.Strings.Split
import Derived.Shelf.Strings.SplitShaped
import Derived.Shelf.Strings.Trim
import Derived.Shelf.Unicode.Decode
import Derived.Shelf.Unicode.DecodeAny
import Derived.Shelf.Unicode.DecodeLast
import Derived.Shelf.Unicode.DecodeSlow
import Derived.Shelf.Unicode.ExclAny
import Derived.Shelf.Unicode.Is16Any
import Derived.Shelf.Unicode.Is16White
import Derived.Shelf.Unicode.Is16WhiteD
import Derived.Shelf.Unicode.Is32Any
import Derived.Shelf.Unicode.IsSpaceAny
import Derived.Shelf.Unicode.IsSpaceAnyD
import Derived.Shelf.Unicode.Latin
import Derived.Shelf.Utf8.AppendRune
import Derived.Shelf.Utf8.AppendRunePlain
import Derived.Shelf.Utf8.RuneCount
import Derived.ShutString
import Derived.StillTailTactics
import Derived.Tactics
import Derived.Test.YtcinojbfjiohjaaGreatDoorProg
import Derived.WalkKit
import Derived.WalkSmall
import Derived.WalkSpells
import Derived.WideLaws
import Derived.Test.YtcinojbfjiohjaaGreatDoorPwA
section
namespace Go.Proofs.YtcinojbfjiohjaaGreatDoor.PPrintTells
open Go.RowKit Go.Proofs.YtcinojbfjiohjaaGreatDoorW.PrintWords Go.Proofs.YtcinojbfjiohjaaGreatDoorW.PrintLast Go.Proofs.YtcinojbfjiohjaaGreatDoorW.PrintMore
attribute [local go_sem] max2_int min2_int max_two min_two max_three min_three max_four min_four   -- for this text's walks alone
set_option linter.unusedVariables false
set_option linter.unusedSimpArgs false
def errW : Option Int → Value
  | none => .nilIface
  | some c => .iface 0 (.int .i64 c)
theorem errW_none : errW none = .nilIface := rfl
theorem errW_some (c : Int) : errW (some c) = .iface 0 (.int .i64 c) := rfl
structure S239 where
  f0 : Int
  f1 : Int
  f2 : Int
structure S242 where
  f0 : Int
  f1 : Int
  f2 : Int
structure S25 where
  f0 : Int
  f1 : ByteArray
  f2 : (List Int)
  f3 : (List S25)
def z25 : S25 := ⟨(0 : Int), (⟨#[]⟩ : ByteArray), ([] : List Int), ([] : List S25)⟩
def F25 (d : Kd S25) : Kd S25 := Kd.iso (Kd.pair (Kd.int .u8) (Kd.pair Kd.string (Kd.pair (Kd.slice 2 (Kd.int .i64)) (Kd.slice 25 d)))) (fun x : S25 => (x.f0, x.f1, x.f2, x.f3))
theorem mono25 : Kd.Mono F25 := Kd.mono_iso _ (Kd.mono_pair (Kd.mono_const _) (Kd.mono_pair (Kd.mono_const _) (Kd.mono_pair (Kd.mono_const _) (Kd.mono_slice 25 Kd.mono_id))))
theorem sub25 : Kd.Sub F25 [2, 25] := Kd.sub_iso _ (Kd.sub_pair (Kd.sub_const _ (by decide)) (Kd.sub_pair (Kd.sub_const _ (by decide)) (Kd.sub_pair (Kd.sub_const _ (by decide)) (Kd.sub_slice 25 (by decide) Kd.sub_id))))
theorem sz25 : ∀ n, (Kd.upto F25 4 [2, 25] n).sz = 4 := Kd.upto_sz (fun _ => rfl)
def k25 : Kd S25 := Kd.fix F25 4 [2, 25] sz25 (Kd.upto_E sub25)
theorem k25_open {w : World} {x : S25} {cs : List Value} (h : k25.K w x cs) : ∃ A2 c2 A3 c3, cs = [.int .u8 x.f0, .string x.f1, .slice A2 x.f2.length c2, .slice A3 x.f3.length c3] ∧ x.f2.length ≤ c2 ∧ (Kd.int .i64).C w A2 x.f2.length x.f2 ∧ x.f3.length ≤ c3 ∧ k25.C w A3 x.f3.length x.f3 := by
  obtain ⟨n, h⟩ := h
  cases n with
  | zero => exact h.elim
  | succ n =>
    obtain ⟨_, _, rfl, rfl, ⟨_, _, rfl, rfl, ⟨_, _, rfl, ⟨A2, c2, rfl, l2, g2⟩, ⟨A3, c3, rfl, l3, g3⟩⟩⟩⟩ := h
    exact ⟨A2, c2, A3, c3, rfl, l2, g2, l3, Kd.fix_C g3⟩
theorem k25_openM {w : World} {base : Nat} {ok : Nat → Prop} {x : S25} {cs : List Value} (h : k25.M w base ok x cs) : ∃ v2 v3, cs = [.int .u8 x.f0, .string x.f1, v2, v3] ∧ (Kd.int .i64).R 2 w base ok v2 x.f2 ∧ k25.R 25 w base ok v3 x.f3 := by
  obtain ⟨n, h⟩ := h
  cases n with
  | zero => exact h.elim
  | succ n =>
    obtain ⟨_, _, rfl, rfl, ⟨_, _, rfl, rfl, ⟨_, _, rfl, ⟨v2, rfl, g2⟩, ⟨v3, rfl, g3⟩⟩⟩⟩ := h
    exact ⟨v2, v3, rfl, g2, Kd.fix_R g3⟩
theorem k25_mk (w : World) (x : S25) {A2 : Option Addr} {c2 : Nat} (l2 : x.f2.length ≤ c2) (g2 : (Kd.int .i64).C w A2 x.f2.length x.f2) {A3 : Option Addr} {c3 : Nat} (l3 : x.f3.length ≤ c3) (g3 : k25.C w A3 x.f3.length x.f3) : k25.K w x [.int .u8 x.f0, .string x.f1, .slice A2 x.f2.length c2, .slice A3 x.f3.length c3] := by
  obtain ⟨n3, q3⟩ := Kd.fix_C_back mono25 g3
  have r3 := Kd.upto_C_le mono25 sz25 (show n3 ≤ n3 by omega) q3
  exact ⟨n3 + 1, ⟨[.int .u8 x.f0], [.string x.f1, .slice A2 x.f2.length c2, .slice A3 x.f3.length c3], rfl, rfl, ⟨[.string x.f1], [.slice A2 x.f2.length c2, .slice A3 x.f3.length c3], rfl, rfl, ⟨[.slice A2 x.f2.length c2], [.slice A3 x.f3.length c3], rfl, ⟨A2, c2, rfl, l2, g2⟩, ⟨A3, c3, rfl, l3, r3⟩⟩⟩⟩⟩
theorem k25_mkM (w : World) (base : Nat) (ok : Nat → Prop) (x : S25) {v2 : Value} (g2 : (Kd.int .i64).R 2 w base ok v2 x.f2) {v3 : Value} (g3 : k25.R 25 w base ok v3 x.f3) : k25.M w base ok x [.int .u8 x.f0, .string x.f1, v2, v3] := by
  obtain ⟨n3, q3⟩ := Kd.fix_R_back mono25 g3
  have r3 := Kd.upto_R_le mono25 sz25 (show n3 ≤ n3 by omega) q3
  exact ⟨n3 + 1, ⟨[.int .u8 x.f0], [.string x.f1, v2, v3], rfl, rfl, ⟨[.string x.f1], [v2, v3], rfl, rfl, ⟨[v2], [v3], rfl, ⟨v2, rfl, g2⟩, ⟨v3, rfl, r3⟩⟩⟩⟩⟩
def rd_T25 (xs : List S25) (i : Int) : S25 := xs.getD i.toNat z25
theorem at_T25 {w : World} {A : Option Addr} {n : Nat} {xs : List S25} (h : Kd.C k25 w A n xs) (i : Int) (h0 : 0 ≤ i) (h1 : i < n) : ∃ ad A2 c2 A3 c3, A = some ad ∧ w.cell? (ad.add (i.toNat * 4)) = some (.int .u8 (rd_T25 xs i).f0) ∧ w.cell? ⟨(ad.add (i.toNat * 4)).block, (ad.add (i.toNat * 4)).off + 1, none⟩ = some (.string (rd_T25 xs i).f1) ∧ w.cell? ⟨(ad.add (i.toNat * 4)).block, (ad.add (i.toNat * 4)).off + 2, none⟩ = some (.slice A2 (rd_T25 xs i).f2.length c2) ∧ w.cell? ⟨(ad.add (i.toNat * 4)).block, (ad.add (i.toNat * 4)).off + 3, none⟩ = some (.slice A3 (rd_T25 xs i).f3.length c3) ∧ (rd_T25 xs i).f2.length ≤ c2 ∧ (Kd.int .i64).C w A2 (rd_T25 xs i).f2.length (rd_T25 xs i).f2 ∧ (rd_T25 xs i).f3.length ≤ c3 ∧ k25.C w A3 (rd_T25 xs i).f3.length (rd_T25 xs i).f3 := by
  obtain ⟨ad, c, e, _, hK, hc0⟩ := Kd.C_get h z25 i h0 h1
  have hc : ∀ j u, c[j]? = some u → w.cell? (ad.add (i.toNat * 4 + j)) = some u := hc0
  obtain ⟨A2, c2, A3, c3, rfl, l2, g2, l3, g3⟩ := k25_open hK
  exact ⟨ad, A2, c2, A3, c3, e, hc 0 _ rfl, by rw [← add_field _ _ 1 (by omega)]; exact hc 1 _ rfl, by rw [← add_field _ _ 2 (by omega)]; exact hc 2 _ rfl, by rw [← add_field _ _ 3 (by omega)]; exact hc 3 _ rfl, l2, g2, l3, g3⟩
structure S51 where
  f0 : Int
  f1 : ByteArray
  f2 : Int
def z51 : S51 := ⟨(0 : Int), (⟨#[]⟩ : ByteArray), (0 : Int)⟩
def k51 : Kd S51 := Kd.iso (Kd.pair (Kd.int .u8) (Kd.pair Kd.string (Kd.int .i64))) (fun x : S51 => (x.f0, x.f1, x.f2))
theorem k51_open {w : World} {x : S51} {cs : List Value} (h : k51.K w x cs) : cs = [.int .u8 x.f0, .string x.f1, .int .i64 x.f2] := by
  obtain ⟨_, _, rfl, rfl, ⟨_, _, rfl, rfl, rfl⟩⟩ := h
  exact rfl
theorem k51_mkM (w : World) (base : Nat) (ok : Nat → Prop) (x : S51)  : k51.M w base ok x [.int .u8 x.f0, .string x.f1, .int .i64 x.f2] := ⟨[.int .u8 x.f0], [.string x.f1, .int .i64 x.f2], rfl, rfl, ⟨[.string x.f1], [.int .i64 x.f2], rfl, rfl, rfl⟩⟩
def rd_T51 (xs : List S51) (i : Int) : S51 := xs.getD i.toNat z51
theorem at_T51 {w : World} {A : Option Addr} {n : Nat} {xs : List S51} (h : Kd.C k51 w A n xs) (i : Int) (h0 : 0 ≤ i) (h1 : i < n) : ∃ ad , A = some ad ∧ w.cell? (ad.add (i.toNat * 3)) = some (.int .u8 (rd_T51 xs i).f0) ∧ w.cell? ⟨(ad.add (i.toNat * 3)).block, (ad.add (i.toNat * 3)).off + 1, none⟩ = some (.string (rd_T51 xs i).f1) ∧ w.cell? ⟨(ad.add (i.toNat * 3)).block, (ad.add (i.toNat * 3)).off + 2, none⟩ = some (.int .i64 (rd_T51 xs i).f2) := by
  obtain ⟨ad, c, e, _, hK, hc0⟩ := Kd.C_get h z51 i h0 h1
  have hc : ∀ j u, c[j]? = some u → w.cell? (ad.add (i.toNat * 3 + j)) = some u := hc0
  obtain rfl := k51_open hK
  exact ⟨ad, e, hc 0 _ rfl, by rw [← add_field _ _ 1 (by omega)]; exact hc 1 _ rfl, by rw [← add_field _ _ 2 (by omega)]; exact hc 2 _ rfl⟩
end Go.Proofs.YtcinojbfjiohjaaGreatDoor.PPrintTells
end

section
namespace Go.Proofs
open Go.Shelf
def Tryz.lays160_ren : Go.Shelf.Ren := ⟨fun | 160 => 127 | 232 => 155 | 231 => 154 | 227 => 156 | 234 => 158 | 233 => 157 | 236 => 160 | 235 => 159 | 228 => 184 | 271 => 187 | 151 => 186 | 197 => 185 | 120 => 214 | 152 => 213 | 260 => 212 | 137 => 42 | 119 => 228 | 224 => 174 | 225 => 173 | 217 => 85 | 266 => 128 | n => n, fun | 9 => 9 | 4 => 4 | 3 => 3 | 5 => 5 | 117 => 193 | 116 => 192 | 0 => 0 | 124 => 196 | 21 => 21 | 105 => 222 | 46 => 117 | 119 => 178 | 139 => 264 | 138 => 263 | n => n, fun | 3 => 7 | 4 => 8 | n => n⟩
theorem Tryz.lays160 : Go.Proofs.Lays.n160 Tryz.prog Tryz.lays160_ren := {
  mixed := by kernel_rfl
  f119 := Tryz.func228.trans (congrArg some (by kernel_rfl))
  f120 := Tryz.func214.trans (congrArg some (by kernel_rfl))
  f137 := Tryz.func42.trans (congrArg some (by kernel_rfl))
  f151 := Tryz.func186.trans (congrArg some (by kernel_rfl))
  f152 := Tryz.func213.trans (congrArg some (by kernel_rfl))
  f160 := Tryz.func127.trans (congrArg some (by kernel_rfl))
  f197 := Tryz.func185.trans (congrArg some (by kernel_rfl))
  f217 := Tryz.func85.trans (congrArg some (by kernel_rfl))
  f224 := Tryz.func174.trans (congrArg some (by kernel_rfl))
  f225 := Tryz.func173.trans (congrArg some (by kernel_rfl))
  f227 := Tryz.func156.trans (congrArg some (by kernel_rfl))
  f228 := Tryz.func184.trans (congrArg some (by kernel_rfl))
  f231 := Tryz.func154.trans (congrArg some (by kernel_rfl))
  f232 := Tryz.func155.trans (congrArg some (by kernel_rfl))
  f233 := Tryz.func157.trans (congrArg some (by kernel_rfl))
  f234 := Tryz.func158.trans (congrArg some (by kernel_rfl))
  f235 := Tryz.func159.trans (congrArg some (by kernel_rfl))
  f236 := Tryz.func160.trans (congrArg some (by kernel_rfl))
  f260 := Tryz.func212.trans (congrArg some (by kernel_rfl))
  f266 := Tryz.func128.trans (congrArg some (by kernel_rfl))
  f271 := Tryz.func187.trans (congrArg some (by kernel_rfl))
  t0 := Tryz.underlying0
  a0 := Tryz.isAgg0
  z0 := Tryz.sizeOf0
  v0 := Tryz.zeroValue0
  t3 := Tryz.underlying3
  a3 := Tryz.isAgg3
  z3 := Tryz.sizeOf3
  v3 := Tryz.zeroValue3
  t4 := Tryz.underlying4
  a4 := Tryz.isAgg4
  z4 := Tryz.sizeOf4
  v4 := Tryz.zeroValue4
  t5 := Tryz.underlying5
  a5 := Tryz.isAgg5
  z5 := Tryz.sizeOf5
  v5 := Tryz.zeroValue5
  t9 := Tryz.underlying9
  a9 := Tryz.isAgg9
  z9 := Tryz.sizeOf9
  v9 := Tryz.zeroValue9
  t21 := Tryz.underlying21
  a21 := Tryz.isAgg21
  z21 := Tryz.sizeOf21
  v21 := Tryz.zeroValue21
  t46 := Tryz.underlying117
  a46 := Tryz.isAgg117
  z46 := Tryz.sizeOf117
  v46 := Tryz.zeroValue117
  t105 := Tryz.underlying222
  a105 := Tryz.isAgg222
  z105 := Tryz.sizeOf222
  v105 := Tryz.zeroValue222
  t116 := Tryz.underlying192
  a116 := Tryz.isAgg192
  z116 := Tryz.sizeOf192
  t117 := Tryz.underlying193
  a117 := Tryz.isAgg193
  z117 := Tryz.sizeOf193
  v117 := Tryz.zeroValue193
  t119 := Tryz.underlying178
  a119 := Tryz.isAgg178
  z119 := Tryz.sizeOf178
  t124 := Tryz.underlying196
  a124 := Tryz.isAgg196
  z124 := Tryz.sizeOf196
  v124 := Tryz.zeroValue196
  t138 := Tryz.underlying263
  a138 := Tryz.isAgg263
  z138 := Tryz.sizeOf263
  v138 := Tryz.zeroValue263
  t139 := Tryz.underlying264
  a139 := Tryz.isAgg264
  z139 := Tryz.sizeOf264
  v139 := Tryz.zeroValue264
  g3 := by kernel_rfl
  g4 := by kernel_rfl }
def Tryz.lays137_ren : Go.Shelf.Ren := ⟨fun | 137 => 42 | 217 => 85 | 266 => 128 | n => n, fun | 9 => 9 | 5 => 5 | 3 => 3 | n => n, fun | n => n⟩
theorem Tryz.lays137 : Go.Proofs.Lays.n137 Tryz.prog Tryz.lays137_ren := {
  mixed := by kernel_rfl
  f137 := Tryz.func42.trans (congrArg some (by kernel_rfl))
  f217 := Tryz.func85.trans (congrArg some (by kernel_rfl))
  f266 := Tryz.func128.trans (congrArg some (by kernel_rfl))
  t3 := Tryz.underlying3
  a3 := Tryz.isAgg3
  z3 := Tryz.sizeOf3
  v3 := Tryz.zeroValue3
  t5 := Tryz.underlying5
  a5 := Tryz.isAgg5
  z5 := Tryz.sizeOf5
  v5 := Tryz.zeroValue5
  t9 := Tryz.underlying9
  a9 := Tryz.isAgg9
  z9 := Tryz.sizeOf9
  v9 := Tryz.zeroValue9 }
open Go.RowKit in
theorem Tryz.strings_IndexByte (s : ByteArray) (c : Int) (w : World) :
    Calls Tryz.prog 42 #[.string s, .int .u8 c] w fun e w' => e = .returned (.int .i64 (Lib.indexByte s.data.toList c.toNat.toUInt8)) ∧ w' = w := Any.strings_IndexByte Tryz.lays137 s c w
def Tryz.lays103_ren : Go.Shelf.Ren := ⟨fun | 103 => 161 | 210 => 188 | 206 => 124 | n => n, fun | 9 => 9 | 4 => 4 | 24 => 93 | 3 => 3 | n => n, fun | n => n⟩
theorem Tryz.lays103 : Go.Proofs.Lays.n103 Tryz.prog Tryz.lays103_ren := {
  mixed := by kernel_rfl
  f103 := Tryz.func161.trans (congrArg some (by kernel_rfl))
  f206 := Tryz.func124.trans (congrArg some (by kernel_rfl))
  f210 := Tryz.func188.trans (congrArg some (by kernel_rfl))
  t3 := Tryz.underlying3
  a3 := Tryz.isAgg3
  z3 := Tryz.sizeOf3
  v3 := Tryz.zeroValue3
  t4 := Tryz.underlying4
  a4 := Tryz.isAgg4
  z4 := Tryz.sizeOf4
  v4 := Tryz.zeroValue4
  t9 := Tryz.underlying9
  a9 := Tryz.isAgg9
  z9 := Tryz.sizeOf9
  v9 := Tryz.zeroValue9
  t24 := Tryz.underlying93
  a24 := Tryz.isAgg93
  z24 := Tryz.sizeOf93
  v24 := Tryz.zeroValue93 }
open Go.RowKit in
theorem Tryz.strings_CutPrefix (s p : ByteArray) (w : World) :
    Calls Tryz.prog 161 #[.string s, .string p] w fun e w' => e = .returned (.tuple #[.string ⟨(Lib.trimPrefix s.data.toList p.data.toList).toArray⟩, .bool (Lib.hasPrefix s.data.toList p.data.toList)]) ∧ w' = w := Any.strings_CutPrefix Tryz.lays103 s p w
def Tryz.lays242_ren : Go.Shelf.Ren := ⟨fun | 242 => 101 | 278 => 141 | n => n, fun | 37 => 69 | 21 => 21 | 51 => 160 | 4 => 4 | 5 => 5 | 46 => 117 | n => n, fun | n => n⟩
theorem Tryz.lays242 : Go.Proofs.Lays.n242 Tryz.prog Tryz.lays242_ren := {
  mixed := by kernel_rfl
  f242 := Tryz.func101.trans (congrArg some (by kernel_rfl))
  f278 := Tryz.func141.trans (congrArg some (by kernel_rfl))
  t4 := Tryz.underlying4
  a4 := Tryz.isAgg4
  z4 := Tryz.sizeOf4
  v4 := Tryz.zeroValue4
  t5 := Tryz.underlying5
  a5 := Tryz.isAgg5
  z5 := Tryz.sizeOf5
  v5 := Tryz.zeroValue5
  t21 := Tryz.underlying21
  a21 := Tryz.isAgg21
  z21 := Tryz.sizeOf21
  v21 := Tryz.zeroValue21
  t37 := Tryz.underlying69
  a37 := Tryz.isAgg69
  z37 := Tryz.sizeOf69
  v37 := Tryz.zeroValue69
  t46 := Tryz.underlying117
  a46 := Tryz.isAgg117
  z46 := Tryz.sizeOf117
  v46 := Tryz.zeroValue117
  t51 := Tryz.underlying160
  a51 := Tryz.isAgg160
  z51 := Tryz.sizeOf160
  v51 := Tryz.zeroValue160 }
open Go.RowKit in
theorem Tryz.utf8_AppendRune_row (B : Nat) (v : Value) (n : Nat) (xs : List Value) (r : Int) (hr0 : -2147483648 ≤ r) (hr1 : r ≤ 2147483647) (w : World) (hown : w.ownsRowF B 5 1 v n xs) (hlen : n + 4 ≤ 140737488355328) (hBw : B ≤ w.heap.size) :
    Calls Tryz.prog 101 #[v, .int .i32 r] w fun e w' => ∃ v', e = .returned v' ∧ w'.ownsRowF B 5 1 v' (n + (Lib.runeCells r).length) (xs ++ Lib.runeCells r) ∧ ∃ o, (w.alloc o).grownBy w' v.ownBlock := Any.utf8_AppendRune_row Tryz.lays242 (by kernel_rfl) B v n xs r hr0 hr1 w hown hlen hBw
def Tryz.lays172_ren : Go.Shelf.Ren := ⟨fun | 172 => 190 | 244 => 216 | 245 => 166 | 247 => 165 | 279 => 198 | 280 => 199 | 281 => 200 | 282 => 201 | 287 => 197 | 316 => 222 | 171 => 224 | 205 => 223 | 321 => 220 | 322 => 221 | 243 => 229 | 246 => 140 | 283 => 169 | 284 => 170 | 285 => 171 | 286 => 172 | 129 => 205 | 317 => 204 | 318 => 206 | 319 => 207 | 320 => 208 | 337 => 225 | 338 => 226 | n => n, fun | 9 => 9 | 3 => 3 | 75 => 90 | 76 => 91 | 4 => 4 | 5 => 5 | 167 => 227 | 37 => 69 | 0 => 0 | 85 => 169 | 2 => 2 | 168 => 230 | 53 => 163 | 175 => 228 | 46 => 117 | 210 => 257 | 127 => 123 | 145 => 267 | 143 => 265 | 21 => 21 | 171 => 213 | 173 => 216 | 212 => 245 | 51 => 160 | 20 => 20 | 213 => 246 | 232 => 268 | 233 => 269 | 80 => 75 | n => n, fun | 15 => 5 | 16 => 6 | 17 => 3 | 18 => 9 | 19 => 10 | n => n⟩
theorem Tryz.lays172 : Go.Proofs.Lays.n172 Tryz.prog Tryz.lays172_ren := {
  mixed := by kernel_rfl
  f129 := Tryz.func205.trans (congrArg some (by kernel_rfl))
  f171 := Tryz.func224.trans (congrArg some (by kernel_rfl))
  f172 := Tryz.func190.trans (congrArg some (by kernel_rfl))
  f205 := Tryz.func223.trans (congrArg some (by kernel_rfl))
  f243 := Tryz.func229.trans (congrArg some (by kernel_rfl))
  f244 := Tryz.func216.trans (congrArg some (by kernel_rfl))
  f245 := Tryz.func166.trans (congrArg some (by kernel_rfl))
  f246 := Tryz.func140.trans (congrArg some (by kernel_rfl))
  f247 := Tryz.func165.trans (congrArg some (by kernel_rfl))
  f279 := Tryz.func198.trans (congrArg some (by kernel_rfl))
  f280 := Tryz.func199.trans (congrArg some (by kernel_rfl))
  f281 := Tryz.func200.trans (congrArg some (by kernel_rfl))
  f282 := Tryz.func201.trans (congrArg some (by kernel_rfl))
  f283 := Tryz.func169.trans (congrArg some (by kernel_rfl))
  f284 := Tryz.func170.trans (congrArg some (by kernel_rfl))
  f285 := Tryz.func171.trans (congrArg some (by kernel_rfl))
  f286 := Tryz.func172.trans (congrArg some (by kernel_rfl))
  f287 := Tryz.func197.trans (congrArg some (by kernel_rfl))
  f316 := Tryz.func222.trans (congrArg some (by kernel_rfl))
  f317 := Tryz.func204.trans (congrArg some (by kernel_rfl))
  f318 := Tryz.func206.trans (congrArg some (by kernel_rfl))
  f319 := Tryz.func207.trans (congrArg some (by kernel_rfl))
  f320 := Tryz.func208.trans (congrArg some (by kernel_rfl))
  f321 := Tryz.func220.trans (congrArg some (by kernel_rfl))
  f322 := Tryz.func221.trans (congrArg some (by kernel_rfl))
  f337 := Tryz.func225.trans (congrArg some (by kernel_rfl))
  f338 := Tryz.func226.trans (congrArg some (by kernel_rfl))
  t0 := Tryz.underlying0
  a0 := Tryz.isAgg0
  z0 := Tryz.sizeOf0
  v0 := Tryz.zeroValue0
  t2 := Tryz.underlying2
  a2 := Tryz.isAgg2
  z2 := Tryz.sizeOf2
  v2 := Tryz.zeroValue2
  t3 := Tryz.underlying3
  a3 := Tryz.isAgg3
  z3 := Tryz.sizeOf3
  v3 := Tryz.zeroValue3
  t4 := Tryz.underlying4
  a4 := Tryz.isAgg4
  z4 := Tryz.sizeOf4
  v4 := Tryz.zeroValue4
  t5 := Tryz.underlying5
  a5 := Tryz.isAgg5
  z5 := Tryz.sizeOf5
  v5 := Tryz.zeroValue5
  t9 := Tryz.underlying9
  a9 := Tryz.isAgg9
  z9 := Tryz.sizeOf9
  v9 := Tryz.zeroValue9
  t20 := Tryz.underlying20
  a20 := Tryz.isAgg20
  z20 := Tryz.sizeOf20
  v20 := Tryz.zeroValue20
  t21 := Tryz.underlying21
  a21 := Tryz.isAgg21
  z21 := Tryz.sizeOf21
  v21 := Tryz.zeroValue21
  t37 := Tryz.underlying69
  a37 := Tryz.isAgg69
  z37 := Tryz.sizeOf69
  v37 := Tryz.zeroValue69
  t46 := Tryz.underlying117
  a46 := Tryz.isAgg117
  z46 := Tryz.sizeOf117
  v46 := Tryz.zeroValue117
  t51 := Tryz.underlying160
  a51 := Tryz.isAgg160
  z51 := Tryz.sizeOf160
  v51 := Tryz.zeroValue160
  t53 := Tryz.underlying163
  a53 := Tryz.isAgg163
  z53 := Tryz.sizeOf163
  v53 := Tryz.zeroValue163
  t75 := Tryz.underlying90
  a75 := Tryz.isAgg90
  z75 := Tryz.sizeOf90
  v75 := Tryz.zeroValue90
  t76 := Tryz.underlying91
  a76 := Tryz.isAgg91
  z76 := Tryz.sizeOf91
  v76 := Tryz.zeroValue91
  t85 := Tryz.underlying169
  a85 := Tryz.isAgg169
  z85 := Tryz.sizeOf169
  v85 := Tryz.zeroValue169
  t127 := Tryz.underlying123
  a127 := Tryz.isAgg123
  z127 := Tryz.sizeOf123
  v127 := Tryz.zeroValue123
  t143 := Tryz.underlying265
  a143 := Tryz.isAgg265
  z143 := Tryz.sizeOf265
  v143 := Tryz.zeroValue265
  t145 := Tryz.underlying267
  a145 := Tryz.isAgg267
  z145 := Tryz.sizeOf267
  v145 := Tryz.zeroValue267
  t167 := Tryz.underlying227
  a167 := Tryz.isAgg227
  z167 := Tryz.sizeOf227
  v167 := Tryz.zeroValue227
  t168 := Tryz.underlying230
  a168 := Tryz.isAgg230
  z168 := Tryz.sizeOf230
  v168 := Tryz.zeroValue230
  t171 := Tryz.underlying213
  a171 := Tryz.isAgg213
  z171 := Tryz.sizeOf213
  v171 := Tryz.zeroValue213
  t173 := Tryz.underlying216
  a173 := Tryz.isAgg216
  z173 := Tryz.sizeOf216
  v173 := Tryz.zeroValue216
  t175 := Tryz.underlying228
  a175 := Tryz.isAgg228
  z175 := Tryz.sizeOf228
  v175 := Tryz.zeroValue228
  t210 := Tryz.underlying257
  a210 := Tryz.isAgg257
  z210 := Tryz.sizeOf257
  v210 := Tryz.zeroValue257
  t212 := Tryz.underlying245
  a212 := Tryz.isAgg245
  z212 := Tryz.sizeOf245
  v212 := Tryz.zeroValue245
  t213 := Tryz.underlying246
  a213 := Tryz.isAgg246
  z213 := Tryz.sizeOf246
  t232 := Tryz.underlying268
  a232 := Tryz.isAgg268
  z232 := Tryz.sizeOf268
  v232 := Tryz.zeroValue268
  t233 := Tryz.underlying269
  a233 := Tryz.isAgg269
  z233 := Tryz.sizeOf269
  v233 := Tryz.zeroValue269
  g15 := by kernel_rfl
  g16 := by kernel_rfl
  g17 := by kernel_rfl
  g18 := by kernel_rfl
  g19 := by kernel_rfl }
open Go.RowKit in
theorem Tryz.strconv_Atoi (s : ByteArray) (n : Int) (hl : s.size ≤ 18) (h : Lib.atoi s.data.toList = some n) (w : World) :
    Calls Tryz.prog 190 #[.string s] w fun e w' => e = .returned (.tuple #[.int .i64 n, .nilIface]) ∧ ∃ t, w' = Lib.bytesWorld w 5 t := Any.strconv_Atoi Tryz.lays172 s n hl h w
def Tryz.laysM173_ren : Go.Shelf.Ren := ⟨fun | 173 => 100 | 246 => 140 | 283 => 169 | 284 => 170 | 285 => 171 | 286 => 172 | 129 => 205 | 317 => 204 | 318 => 206 | 319 => 207 | 320 => 208 | 337 => 225 | 338 => 226 | n => n, fun | 2 => 2 | 3 => 3 | 9 => 9 | 4 => 4 | 171 => 213 | 0 => 0 | 53 => 163 | 37 => 69 | 5 => 5 | 173 => 216 | 212 => 245 | 51 => 160 | 20 => 20 | 213 => 246 | 46 => 117 | 232 => 268 | 233 => 269 | n => n, fun | 17 => 3 | 18 => 9 | 19 => 10 | n => n⟩
theorem Tryz.laysM173 : Go.Proofs.LaysM.n173 Tryz.prog Tryz.laysM173_ren := {
  mixed := by kernel_rfl
  f129 := Tryz.func205.trans (congrArg some (by kernel_rfl))
  f173 := Tryz.func100.trans (congrArg some (by kernel_rfl))
  f246 := Tryz.func140.trans (congrArg some (by kernel_rfl))
  f283 := Tryz.func169.trans (congrArg some (by kernel_rfl))
  f284 := Tryz.func170.trans (congrArg some (by kernel_rfl))
  f285 := Tryz.func171.trans (congrArg some (by kernel_rfl))
  f286 := Tryz.func172.trans (congrArg some (by kernel_rfl))
  f317 := Tryz.func204.trans (congrArg some (by kernel_rfl))
  f318 := Tryz.func206.trans (congrArg some (by kernel_rfl))
  f319 := Tryz.func207.trans (congrArg some (by kernel_rfl))
  f320 := Tryz.func208.trans (congrArg some (by kernel_rfl))
  f337 := Tryz.func225.trans (congrArg some (by kernel_rfl))
  f338 := Tryz.func226.trans (congrArg some (by kernel_rfl))
  t0 := Tryz.underlying0
  a0 := Tryz.isAgg0
  z0 := Tryz.sizeOf0
  v0 := Tryz.zeroValue0
  t2 := Tryz.underlying2
  a2 := Tryz.isAgg2
  z2 := Tryz.sizeOf2
  v2 := Tryz.zeroValue2
  t3 := Tryz.underlying3
  a3 := Tryz.isAgg3
  z3 := Tryz.sizeOf3
  v3 := Tryz.zeroValue3
  t4 := Tryz.underlying4
  a4 := Tryz.isAgg4
  z4 := Tryz.sizeOf4
  v4 := Tryz.zeroValue4
  t5 := Tryz.underlying5
  a5 := Tryz.isAgg5
  z5 := Tryz.sizeOf5
  v5 := Tryz.zeroValue5
  t9 := Tryz.underlying9
  a9 := Tryz.isAgg9
  z9 := Tryz.sizeOf9
  v9 := Tryz.zeroValue9
  t20 := Tryz.underlying20
  a20 := Tryz.isAgg20
  z20 := Tryz.sizeOf20
  v20 := Tryz.zeroValue20
  t37 := Tryz.underlying69
  a37 := Tryz.isAgg69
  z37 := Tryz.sizeOf69
  v37 := Tryz.zeroValue69
  t46 := Tryz.underlying117
  a46 := Tryz.isAgg117
  z46 := Tryz.sizeOf117
  v46 := Tryz.zeroValue117
  t51 := Tryz.underlying160
  a51 := Tryz.isAgg160
  z51 := Tryz.sizeOf160
  v51 := Tryz.zeroValue160
  t53 := Tryz.underlying163
  a53 := Tryz.isAgg163
  z53 := Tryz.sizeOf163
  v53 := Tryz.zeroValue163
  t171 := Tryz.underlying213
  a171 := Tryz.isAgg213
  z171 := Tryz.sizeOf213
  v171 := Tryz.zeroValue213
  t173 := Tryz.underlying216
  a173 := Tryz.isAgg216
  z173 := Tryz.sizeOf216
  v173 := Tryz.zeroValue216
  t212 := Tryz.underlying245
  a212 := Tryz.isAgg245
  z212 := Tryz.sizeOf245
  v212 := Tryz.zeroValue245
  t213 := Tryz.underlying246
  a213 := Tryz.isAgg246
  z213 := Tryz.sizeOf246
  t232 := Tryz.underlying268
  a232 := Tryz.isAgg268
  z232 := Tryz.sizeOf268
  v232 := Tryz.zeroValue268
  t233 := Tryz.underlying269
  a233 := Tryz.isAgg269
  z233 := Tryz.sizeOf269
  v233 := Tryz.zeroValue269
  g17 := by kernel_rfl
  g18 := by kernel_rfl
  g19 := by kernel_rfl
  i0 := by kernel_rfl
  i2 := by kernel_rfl
  i3 := by kernel_rfl
  i4 := by kernel_rfl
  i5 := by kernel_rfl
  i9 := by kernel_rfl
  i20 := by kernel_rfl
  i37 := by kernel_rfl
  i46 := by kernel_rfl
  i51 := by kernel_rfl
  i53 := by kernel_rfl
  i171 := by kernel_rfl
  i173 := by kernel_rfl
  i212 := by kernel_rfl
  i232 := by kernel_rfl
  i233 := by kernel_rfl
  m17 := by kernel_rfl
  m18 := by kernel_rfl
  m19 := by kernel_rfl }
open Go.RowKit Go.Sort Go.Lib in
theorem Tryz.strconv_FormatInt_10 (n : Int) (h0 : -9223372036854775808 ≤ n) (h1 : n ≤ 9223372036854775807) (w : World) (htab : Lib.TabIs Tryz.prog w "internal/strconv.uint64pow10" .u64 Lib.pow10Tab) :
    Calls Tryz.prog 100 #[.int .i64 n, .int .i64 10] w fun e w' => e = .returned (.string ⟨(Lib.itoa n).toArray⟩) ∧ ∃ k os, w' = grow (w.drewN k) os := Any.strconv_FormatInt_10 Tryz.laysM173 n h0 h1 w htab
def Tryz.laysC174_ren : Go.Shelf.Ren := ⟨fun | 174 => 130 | 247 => 165 | 245 => 166 | 287 => 197 | 279 => 198 | 280 => 199 | 281 => 200 | 282 => 201 | 321 => 220 | 322 => 221 | 316 => 222 | 171 => 224 | 205 => 223 | 243 => 229 | 246 => 140 | 283 => 169 | 284 => 170 | 285 => 171 | 286 => 172 | 129 => 205 | 317 => 204 | 318 => 206 | 319 => 207 | 320 => 208 | 337 => 225 | 338 => 226 | n => n, fun | 9 => 9 | 3 => 3 | 2 => 2 | 75 => 90 | 85 => 169 | 4 => 4 | 167 => 227 | 5 => 5 | 53 => 163 | 175 => 228 | 46 => 117 | 168 => 230 | 37 => 69 | 0 => 0 | 210 => 257 | 21 => 21 | 127 => 123 | 145 => 267 | 143 => 265 | 171 => 213 | 173 => 216 | 212 => 245 | 51 => 160 | 20 => 20 | 213 => 246 | 232 => 268 | 233 => 269 | 80 => 75 | n => n, fun | 15 => 5 | 16 => 6 | 17 => 3 | 18 => 9 | 19 => 10 | n => n⟩
theorem Tryz.laysC174 : Go.Proofs.LaysC.n174 Tryz.prog Tryz.laysC174_ren := {
  mixed := by kernel_rfl
  f129 := Tryz.func205.trans (congrArg some (by kernel_rfl))
  f171 := Tryz.func224.trans (congrArg some (by kernel_rfl))
  f174 := Tryz.func130.trans (congrArg some (by kernel_rfl))
  f205 := Tryz.func223.trans (congrArg some (by kernel_rfl))
  f243 := Tryz.func229.trans (congrArg some (by kernel_rfl))
  f245 := Tryz.func166.trans (congrArg some (by kernel_rfl))
  f246 := Tryz.func140.trans (congrArg some (by kernel_rfl))
  f247 := Tryz.func165.trans (congrArg some (by kernel_rfl))
  f279 := Tryz.func198.trans (congrArg some (by kernel_rfl))
  f280 := Tryz.func199.trans (congrArg some (by kernel_rfl))
  f281 := Tryz.func200.trans (congrArg some (by kernel_rfl))
  f282 := Tryz.func201.trans (congrArg some (by kernel_rfl))
  f283 := Tryz.func169.trans (congrArg some (by kernel_rfl))
  f284 := Tryz.func170.trans (congrArg some (by kernel_rfl))
  f285 := Tryz.func171.trans (congrArg some (by kernel_rfl))
  f286 := Tryz.func172.trans (congrArg some (by kernel_rfl))
  f287 := Tryz.func197.trans (congrArg some (by kernel_rfl))
  f316 := Tryz.func222.trans (congrArg some (by kernel_rfl))
  f317 := Tryz.func204.trans (congrArg some (by kernel_rfl))
  f318 := Tryz.func206.trans (congrArg some (by kernel_rfl))
  f319 := Tryz.func207.trans (congrArg some (by kernel_rfl))
  f320 := Tryz.func208.trans (congrArg some (by kernel_rfl))
  f321 := Tryz.func220.trans (congrArg some (by kernel_rfl))
  f322 := Tryz.func221.trans (congrArg some (by kernel_rfl))
  f337 := Tryz.func225.trans (congrArg some (by kernel_rfl))
  f338 := Tryz.func226.trans (congrArg some (by kernel_rfl))
  t0 := Tryz.underlying0
  a0 := Tryz.isAgg0
  z0 := Tryz.sizeOf0
  v0 := Tryz.zeroValue0
  t2 := Tryz.underlying2
  a2 := Tryz.isAgg2
  z2 := Tryz.sizeOf2
  v2 := Tryz.zeroValue2
  t3 := Tryz.underlying3
  a3 := Tryz.isAgg3
  z3 := Tryz.sizeOf3
  v3 := Tryz.zeroValue3
  t4 := Tryz.underlying4
  a4 := Tryz.isAgg4
  z4 := Tryz.sizeOf4
  v4 := Tryz.zeroValue4
  t5 := Tryz.underlying5
  a5 := Tryz.isAgg5
  z5 := Tryz.sizeOf5
  v5 := Tryz.zeroValue5
  t9 := Tryz.underlying9
  a9 := Tryz.isAgg9
  z9 := Tryz.sizeOf9
  v9 := Tryz.zeroValue9
  t20 := Tryz.underlying20
  a20 := Tryz.isAgg20
  z20 := Tryz.sizeOf20
  v20 := Tryz.zeroValue20
  t21 := Tryz.underlying21
  a21 := Tryz.isAgg21
  z21 := Tryz.sizeOf21
  v21 := Tryz.zeroValue21
  t37 := Tryz.underlying69
  a37 := Tryz.isAgg69
  z37 := Tryz.sizeOf69
  v37 := Tryz.zeroValue69
  t46 := Tryz.underlying117
  a46 := Tryz.isAgg117
  z46 := Tryz.sizeOf117
  v46 := Tryz.zeroValue117
  t51 := Tryz.underlying160
  a51 := Tryz.isAgg160
  z51 := Tryz.sizeOf160
  v51 := Tryz.zeroValue160
  t53 := Tryz.underlying163
  a53 := Tryz.isAgg163
  z53 := Tryz.sizeOf163
  v53 := Tryz.zeroValue163
  t75 := Tryz.underlying90
  a75 := Tryz.isAgg90
  z75 := Tryz.sizeOf90
  v75 := Tryz.zeroValue90
  t85 := Tryz.underlying169
  a85 := Tryz.isAgg169
  z85 := Tryz.sizeOf169
  v85 := Tryz.zeroValue169
  t127 := Tryz.underlying123
  a127 := Tryz.isAgg123
  z127 := Tryz.sizeOf123
  v127 := Tryz.zeroValue123
  t143 := Tryz.underlying265
  a143 := Tryz.isAgg265
  z143 := Tryz.sizeOf265
  v143 := Tryz.zeroValue265
  t145 := Tryz.underlying267
  a145 := Tryz.isAgg267
  z145 := Tryz.sizeOf267
  v145 := Tryz.zeroValue267
  t167 := Tryz.underlying227
  a167 := Tryz.isAgg227
  z167 := Tryz.sizeOf227
  v167 := Tryz.zeroValue227
  t168 := Tryz.underlying230
  a168 := Tryz.isAgg230
  z168 := Tryz.sizeOf230
  v168 := Tryz.zeroValue230
  t171 := Tryz.underlying213
  a171 := Tryz.isAgg213
  z171 := Tryz.sizeOf213
  v171 := Tryz.zeroValue213
  t173 := Tryz.underlying216
  a173 := Tryz.isAgg216
  z173 := Tryz.sizeOf216
  v173 := Tryz.zeroValue216
  t175 := Tryz.underlying228
  a175 := Tryz.isAgg228
  z175 := Tryz.sizeOf228
  v175 := Tryz.zeroValue228
  t210 := Tryz.underlying257
  a210 := Tryz.isAgg257
  z210 := Tryz.sizeOf257
  v210 := Tryz.zeroValue257
  t212 := Tryz.underlying245
  a212 := Tryz.isAgg245
  z212 := Tryz.sizeOf245
  v212 := Tryz.zeroValue245
  t213 := Tryz.underlying246
  a213 := Tryz.isAgg246
  z213 := Tryz.sizeOf246
  t232 := Tryz.underlying268
  a232 := Tryz.isAgg268
  z232 := Tryz.sizeOf268
  v232 := Tryz.zeroValue268
  t233 := Tryz.underlying269
  a233 := Tryz.isAgg269
  z233 := Tryz.sizeOf269
  v233 := Tryz.zeroValue269
  g15 := by kernel_rfl
  g16 := by kernel_rfl
  g17 := by kernel_rfl
  g18 := by kernel_rfl
  g19 := by kernel_rfl
  t80 := Tryz.underlying75
  a80 := Tryz.isAgg75
  z80 := Tryz.sizeOf75
  v80 := Tryz.zeroValue75
  i0 := by kernel_rfl
  i2 := by kernel_rfl
  i3 := by kernel_rfl
  i4 := by kernel_rfl
  i5 := by kernel_rfl
  i9 := by kernel_rfl
  i20 := by kernel_rfl
  i21 := by kernel_rfl
  i37 := by kernel_rfl
  i46 := by kernel_rfl
  i51 := by kernel_rfl
  i53 := by kernel_rfl
  i75 := by kernel_rfl
  i80 := by kernel_rfl
  i85 := by kernel_rfl
  i127 := by kernel_rfl
  i143 := by kernel_rfl
  i145 := by kernel_rfl
  i167 := by kernel_rfl
  i168 := by kernel_rfl
  i171 := by kernel_rfl
  i173 := by kernel_rfl
  i175 := by kernel_rfl
  i210 := by kernel_rfl
  i212 := by kernel_rfl
  i232 := by kernel_rfl
  i233 := by kernel_rfl
  m15 := by kernel_rfl
  m16 := by kernel_rfl
  m17 := by kernel_rfl
  m18 := by kernel_rfl
  m19 := by kernel_rfl
  c0 := by kernel_rfl
  c2 := by kernel_rfl
  c3 := by kernel_rfl
  c4 := by kernel_rfl
  c5 := by kernel_rfl
  c9 := by kernel_rfl
  c20 := by kernel_rfl
  c21 := by kernel_rfl
  c37 := by kernel_rfl
  c46 := by kernel_rfl
  c51 := by kernel_rfl
  c53 := by kernel_rfl
  c75 := by kernel_rfl
  c80 := by kernel_rfl
  c85 := by kernel_rfl
  c127 := by kernel_rfl
  c143 := by kernel_rfl
  c145 := by kernel_rfl
  c167 := by kernel_rfl
  c168 := by kernel_rfl
  c171 := by kernel_rfl
  c173 := by kernel_rfl
  c175 := by kernel_rfl
  c210 := by kernel_rfl
  c212 := by kernel_rfl
  c213 := by kernel_rfl
  c232 := by kernel_rfl
  c233 := by kernel_rfl }
open Go.RowKit in
theorem Tryz.strconv_ParseInt_10_at64_ok (s : ByteArray) (hmax : s.size ≤ 9223372036854775806) (v : Int) (h : Lib.parseIntB 64 s.data.toList = .ok v) (w : World) :
    Calls Tryz.prog 130 #[.string s, .int .i64 10, .int .i64 64] w fun e w' => e = .returned (.tuple #[.int .i64 v, .nilIface]) ∧ (w' = w ∨ ∃ t, w' = Lib.bytesWorld w 5 t) := Any.strconv_ParseInt_10_at64_ok Tryz.laysC174 s hmax v h w
open Go.RowKit in
theorem Tryz.strconv_ParseInt_10_at64_range (s : ByteArray) (hlim : s.size ≤ 281474976710656) (h : Lib.parseIntB 64 s.data.toList = .range) (ev : Value) (w : World) (hv : w.cell? ⟨6, 0, none⟩ = some ev) (hev : ev = .nilIface ∨ ∃ te pe, ev = .iface te pe) :
    Calls Tryz.prog 130 #[.string s, .int .i64 10, .int .i64 64] w fun e w' => ∃ N, e = .returned (.tuple #[.int .i64 (Lib.intSat 64 s.data.toList), .iface 230 (.pointer (some ⟨N, 0, none⟩))]) ∧ w.heap.size ≤ N ∧ w'.heap[N]? = some (.cells #[.string ⟨#[80, 97, 114, 115, 101, 73, 110, 116]⟩, .string s, ev] 257 (0, 0)) ∧ Below w.heap.size w w' := Any.strconv_ParseInt_10_at64_range Tryz.laysC174 s hlim h ev w hv hev
def Tryz.lays144_ren : Go.Shelf.Ren := ⟨fun | 144 => 56 | 143 => 104 | 219 => 142 | 217 => 85 | 225 => 173 | 224 => 174 | 267 => 175 | 266 => 128 | 314 => 209 | n => n, fun | 9 => 9 | 4 => 4 | 3 => 3 | 5 => 5 | 46 => 117 | 146 => 161 | 51 => 160 | n => n, fun | 1 => 1 | n => n⟩
theorem Tryz.lays144 : Go.Proofs.Lays.n144 Tryz.prog Tryz.lays144_ren := {
  mixed := by kernel_rfl
  f143 := Tryz.func104.trans (congrArg some (by kernel_rfl))
  f144 := Tryz.func56.trans (congrArg some (by kernel_rfl))
  f217 := Tryz.func85.trans (congrArg some (by kernel_rfl))
  f219 := Tryz.func142.trans (congrArg some (by kernel_rfl))
  f224 := Tryz.func174.trans (congrArg some (by kernel_rfl))
  f225 := Tryz.func173.trans (congrArg some (by kernel_rfl))
  f266 := Tryz.func128.trans (congrArg some (by kernel_rfl))
  f267 := Tryz.func175.trans (congrArg some (by kernel_rfl))
  f314 := Tryz.func209.trans (congrArg some (by kernel_rfl))
  t3 := Tryz.underlying3
  a3 := Tryz.isAgg3
  z3 := Tryz.sizeOf3
  v3 := Tryz.zeroValue3
  t4 := Tryz.underlying4
  a4 := Tryz.isAgg4
  z4 := Tryz.sizeOf4
  v4 := Tryz.zeroValue4
  t5 := Tryz.underlying5
  a5 := Tryz.isAgg5
  z5 := Tryz.sizeOf5
  v5 := Tryz.zeroValue5
  t9 := Tryz.underlying9
  a9 := Tryz.isAgg9
  z9 := Tryz.sizeOf9
  v9 := Tryz.zeroValue9
  t46 := Tryz.underlying117
  a46 := Tryz.isAgg117
  z46 := Tryz.sizeOf117
  v46 := Tryz.zeroValue117
  t51 := Tryz.underlying160
  a51 := Tryz.isAgg160
  z51 := Tryz.sizeOf160
  v51 := Tryz.zeroValue160
  t146 := Tryz.underlying161
  a146 := Tryz.isAgg161
  z146 := Tryz.sizeOf161
  v146 := Tryz.zeroValue161
  g1 := by kernel_rfl }
open Go.RowKit Go.Lib in
theorem Tryz.strings_Contains_one (s : ByteArray) (c : UInt8) (w : World) :
    Calls Tryz.prog 56 #[.string s, .string ⟨#[c]⟩] w fun e w' => e = .returned (.bool (decide (0 ≤ Lib.indexByte s.data.toList c))) ∧ w' = w := Any.strings_Contains_one Tryz.lays144 s c w
def Tryz.lays145_ren : Go.Shelf.Ren := ⟨fun | 145 => 99 | 220 => 139 | 219 => 142 | 217 => 85 | 225 => 173 | 224 => 174 | 267 => 175 | 266 => 128 | 314 => 209 | n => n, fun | 9 => 9 | 4 => 4 | 59 => 140 | 3 => 3 | 5 => 5 | 46 => 117 | 146 => 161 | 51 => 160 | n => n, fun | 1 => 1 | n => n⟩
theorem Tryz.lays145 : Go.Proofs.Lays.n145 Tryz.prog Tryz.lays145_ren := {
  mixed := by kernel_rfl
  f145 := Tryz.func99.trans (congrArg some (by kernel_rfl))
  f217 := Tryz.func85.trans (congrArg some (by kernel_rfl))
  f219 := Tryz.func142.trans (congrArg some (by kernel_rfl))
  f220 := Tryz.func139.trans (congrArg some (by kernel_rfl))
  f224 := Tryz.func174.trans (congrArg some (by kernel_rfl))
  f225 := Tryz.func173.trans (congrArg some (by kernel_rfl))
  f266 := Tryz.func128.trans (congrArg some (by kernel_rfl))
  f267 := Tryz.func175.trans (congrArg some (by kernel_rfl))
  f314 := Tryz.func209.trans (congrArg some (by kernel_rfl))
  t3 := Tryz.underlying3
  a3 := Tryz.isAgg3
  z3 := Tryz.sizeOf3
  v3 := Tryz.zeroValue3
  t4 := Tryz.underlying4
  a4 := Tryz.isAgg4
  z4 := Tryz.sizeOf4
  v4 := Tryz.zeroValue4
  t5 := Tryz.underlying5
  a5 := Tryz.isAgg5
  z5 := Tryz.sizeOf5
  v5 := Tryz.zeroValue5
  t9 := Tryz.underlying9
  a9 := Tryz.isAgg9
  z9 := Tryz.sizeOf9
  v9 := Tryz.zeroValue9
  t46 := Tryz.underlying117
  a46 := Tryz.isAgg117
  z46 := Tryz.sizeOf117
  v46 := Tryz.zeroValue117
  t51 := Tryz.underlying160
  a51 := Tryz.isAgg160
  z51 := Tryz.sizeOf160
  v51 := Tryz.zeroValue160
  t59 := Tryz.underlying140
  a59 := Tryz.isAgg140
  z59 := Tryz.sizeOf140
  v59 := Tryz.zeroValue140
  t146 := Tryz.underlying161
  a146 := Tryz.isAgg161
  z146 := Tryz.sizeOf161
  v146 := Tryz.zeroValue161
  g1 := by kernel_rfl }
open Go.RowKit Go.Lib in
theorem Tryz.strings_Cut (s sep : ByteArray) (m : Int) (w : World) (hs : s.size < 4294967281) (hm : w.cell? ⟨1, 0, none⟩ = some (.int .i64 m)) :
    Calls Tryz.prog 99 #[.string s, .string sep] w fun e w' => e = .returned (.tuple #[.string ⟨(Lib.cut s.data.toList sep.data.toList).1.toArray⟩, .string ⟨(Lib.cut s.data.toList sep.data.toList).2.1.toArray⟩, .bool (Lib.cut s.data.toList sep.data.toList).2.2]) ∧ ∃ n, w' = w.drewN n := Any.strings_Cut Tryz.lays145 s sep m w hs hm
def Tryz.lays138_ren : Go.Shelf.Ren := ⟨fun | 138 => 54 | 195 => 102 | 218 => 103 | 143 => 104 | 219 => 142 | 217 => 85 | 225 => 173 | 224 => 174 | 267 => 175 | 266 => 128 | 314 => 209 | n => n, fun | 9 => 9 | 3 => 3 | 4 => 4 | 5 => 5 | 0 => 0 | 46 => 117 | 146 => 161 | 51 => 160 | n => n, fun | 1 => 1 | n => n⟩
theorem Tryz.lays138 : Go.Proofs.Lays.n138 Tryz.prog Tryz.lays138_ren := {
  mixed := by kernel_rfl
  f138 := Tryz.func54.trans (congrArg some (by kernel_rfl))
  f143 := Tryz.func104.trans (congrArg some (by kernel_rfl))
  f195 := Tryz.func102.trans (congrArg some (by kernel_rfl))
  f217 := Tryz.func85.trans (congrArg some (by kernel_rfl))
  f218 := Tryz.func103.trans (congrArg some (by kernel_rfl))
  f219 := Tryz.func142.trans (congrArg some (by kernel_rfl))
  f224 := Tryz.func174.trans (congrArg some (by kernel_rfl))
  f225 := Tryz.func173.trans (congrArg some (by kernel_rfl))
  f266 := Tryz.func128.trans (congrArg some (by kernel_rfl))
  f267 := Tryz.func175.trans (congrArg some (by kernel_rfl))
  f314 := Tryz.func209.trans (congrArg some (by kernel_rfl))
  t0 := Tryz.underlying0
  a0 := Tryz.isAgg0
  z0 := Tryz.sizeOf0
  v0 := Tryz.zeroValue0
  t3 := Tryz.underlying3
  a3 := Tryz.isAgg3
  z3 := Tryz.sizeOf3
  v3 := Tryz.zeroValue3
  t4 := Tryz.underlying4
  a4 := Tryz.isAgg4
  z4 := Tryz.sizeOf4
  v4 := Tryz.zeroValue4
  t5 := Tryz.underlying5
  a5 := Tryz.isAgg5
  z5 := Tryz.sizeOf5
  v5 := Tryz.zeroValue5
  t9 := Tryz.underlying9
  a9 := Tryz.isAgg9
  z9 := Tryz.sizeOf9
  v9 := Tryz.zeroValue9
  t46 := Tryz.underlying117
  a46 := Tryz.isAgg117
  z46 := Tryz.sizeOf117
  v46 := Tryz.zeroValue117
  t51 := Tryz.underlying160
  a51 := Tryz.isAgg160
  z51 := Tryz.sizeOf160
  v51 := Tryz.zeroValue160
  t146 := Tryz.underlying161
  a146 := Tryz.isAgg161
  z146 := Tryz.sizeOf161
  v146 := Tryz.zeroValue161
  g1 := by kernel_rfl }
open Go.RowKit Go.Lib in
theorem Tryz.strings_Count_one (s : ByteArray) (c : UInt8) (w : World) :
    Calls Tryz.prog 54 #[.string s, .string ⟨#[c]⟩] w fun e w' => e = .returned (.int .i64 (Lib.countByte s.data.toList c)) ∧ w' = w := Any.strings_Count_one Tryz.lays138 s c w
def Tryz.lays146_ren : Go.Shelf.Ren := ⟨fun | 146 => 162 | 221 => 189 | 268 => 215 | 138 => 54 | 143 => 104 | 195 => 102 | 197 => 185 | 218 => 103 | 219 => 142 | 260 => 212 | 217 => 85 | 225 => 173 | 224 => 174 | 267 => 175 | 266 => 128 | 314 => 209 | n => n, fun | 9 => 9 | 31 => 38 | 3 => 3 | 4 => 4 | 0 => 0 | 105 => 222 | 21 => 21 | 5 => 5 | 46 => 117 | 119 => 178 | 139 => 264 | 138 => 263 | 146 => 161 | 51 => 160 | n => n, fun | 1 => 1 | 3 => 7 | 4 => 8 | n => n⟩
theorem Tryz.lays146 : Go.Proofs.Lays.n146 Tryz.prog Tryz.lays146_ren := {
  mixed := by kernel_rfl
  f138 := Tryz.func54.trans (congrArg some (by kernel_rfl))
  f143 := Tryz.func104.trans (congrArg some (by kernel_rfl))
  f146 := Tryz.func162.trans (congrArg some (by kernel_rfl))
  f195 := Tryz.func102.trans (congrArg some (by kernel_rfl))
  f197 := Tryz.func185.trans (congrArg some (by kernel_rfl))
  f217 := Tryz.func85.trans (congrArg some (by kernel_rfl))
  f218 := Tryz.func103.trans (congrArg some (by kernel_rfl))
  f219 := Tryz.func142.trans (congrArg some (by kernel_rfl))
  f221 := Tryz.func189.trans (congrArg some (by kernel_rfl))
  f224 := Tryz.func174.trans (congrArg some (by kernel_rfl))
  f225 := Tryz.func173.trans (congrArg some (by kernel_rfl))
  f260 := Tryz.func212.trans (congrArg some (by kernel_rfl))
  f266 := Tryz.func128.trans (congrArg some (by kernel_rfl))
  f267 := Tryz.func175.trans (congrArg some (by kernel_rfl))
  f268 := Tryz.func215.trans (congrArg some (by kernel_rfl))
  f314 := Tryz.func209.trans (congrArg some (by kernel_rfl))
  t0 := Tryz.underlying0
  a0 := Tryz.isAgg0
  z0 := Tryz.sizeOf0
  v0 := Tryz.zeroValue0
  t3 := Tryz.underlying3
  a3 := Tryz.isAgg3
  z3 := Tryz.sizeOf3
  v3 := Tryz.zeroValue3
  t4 := Tryz.underlying4
  a4 := Tryz.isAgg4
  z4 := Tryz.sizeOf4
  v4 := Tryz.zeroValue4
  t5 := Tryz.underlying5
  a5 := Tryz.isAgg5
  z5 := Tryz.sizeOf5
  v5 := Tryz.zeroValue5
  t9 := Tryz.underlying9
  a9 := Tryz.isAgg9
  z9 := Tryz.sizeOf9
  v9 := Tryz.zeroValue9
  t21 := Tryz.underlying21
  a21 := Tryz.isAgg21
  z21 := Tryz.sizeOf21
  v21 := Tryz.zeroValue21
  t31 := Tryz.underlying38
  a31 := Tryz.isAgg38
  z31 := Tryz.sizeOf38
  v31 := Tryz.zeroValue38
  t46 := Tryz.underlying117
  a46 := Tryz.isAgg117
  z46 := Tryz.sizeOf117
  v46 := Tryz.zeroValue117
  t51 := Tryz.underlying160
  a51 := Tryz.isAgg160
  z51 := Tryz.sizeOf160
  v51 := Tryz.zeroValue160
  t105 := Tryz.underlying222
  a105 := Tryz.isAgg222
  z105 := Tryz.sizeOf222
  v105 := Tryz.zeroValue222
  t119 := Tryz.underlying178
  a119 := Tryz.isAgg178
  z119 := Tryz.sizeOf178
  t138 := Tryz.underlying263
  a138 := Tryz.isAgg263
  z138 := Tryz.sizeOf263
  v138 := Tryz.zeroValue263
  t139 := Tryz.underlying264
  a139 := Tryz.isAgg264
  z139 := Tryz.sizeOf264
  v139 := Tryz.zeroValue264
  t146 := Tryz.underlying161
  a146 := Tryz.isAgg161
  z146 := Tryz.sizeOf161
  v146 := Tryz.zeroValue161
  g1 := by kernel_rfl
  g3 := by kernel_rfl
  g4 := by kernel_rfl }
open Go.RowKit Go.Lib in
theorem Tryz.strings_Split (s sep : ByteArray) (m : Int) (w : World) (hs : s.size < 4294967281) (hm : w.cell? ⟨1, 0, none⟩ = some (.int .i64 m)) (h1 : 1 ≤ sep.size) :
    Calls Tryz.prog 162 #[.string s, .string sep] w fun e w' =>
      e = .returned (.slice (some ⟨w.heap.size, 0, none⟩) (Lib.countB s sep + 1) (Lib.countB s sep + 1)) ∧ w' = w.alloc (.cells ((Lib.splitB sep 0 (Lib.countB s sep) s).map Value.string).toArray 9) := Any.strings_Split Tryz.lays146 (by kernel_rfl) s sep m w hs hm h1
def Tryz.laysM157_ren : Go.Shelf.Ren := ⟨fun | 157 => 98 | 229 => 137 | 199 => 138 | 261 => 168 | 311 => 202 | 312 => 203 | n => n, fun | 9 => 9 | 31 => 38 | 3 => 3 | 5 => 5 | 4 => 4 | 119 => 178 | 0 => 0 | 40 => 129 | 152 => 207 | 21 => 21 | 154 => 209 | 51 => 160 | 141 => 211 | 196 => 236 | 193 => 233 | 198 => 239 | 49 => 237 | 194 => 234 | 201 => 242 | 226 => 259 | 46 => 117 | 227 => 260 | n => n, fun | 0 => 0 | 6 => 2 | n => n⟩
theorem Tryz.laysM157 : Go.Proofs.LaysM.n157 Tryz.prog Tryz.laysM157_ren := {
  mixed := by kernel_rfl
  f157 := Tryz.func98.trans (congrArg some (by kernel_rfl))
  f199 := Tryz.func138.trans (congrArg some (by kernel_rfl))
  f229 := Tryz.func137.trans (congrArg some (by kernel_rfl))
  f261 := Tryz.func168.trans (congrArg some (by kernel_rfl))
  f311 := Tryz.func202.trans (congrArg some (by kernel_rfl))
  f312 := Tryz.func203.trans (congrArg some (by kernel_rfl))
  t0 := Tryz.underlying0
  a0 := Tryz.isAgg0
  z0 := Tryz.sizeOf0
  v0 := Tryz.zeroValue0
  t3 := Tryz.underlying3
  a3 := Tryz.isAgg3
  z3 := Tryz.sizeOf3
  v3 := Tryz.zeroValue3
  t4 := Tryz.underlying4
  a4 := Tryz.isAgg4
  z4 := Tryz.sizeOf4
  v4 := Tryz.zeroValue4
  t5 := Tryz.underlying5
  a5 := Tryz.isAgg5
  z5 := Tryz.sizeOf5
  v5 := Tryz.zeroValue5
  t9 := Tryz.underlying9
  a9 := Tryz.isAgg9
  z9 := Tryz.sizeOf9
  v9 := Tryz.zeroValue9
  t21 := Tryz.underlying21
  a21 := Tryz.isAgg21
  z21 := Tryz.sizeOf21
  v21 := Tryz.zeroValue21
  t31 := Tryz.underlying38
  a31 := Tryz.isAgg38
  z31 := Tryz.sizeOf38
  v31 := Tryz.zeroValue38
  t40 := Tryz.underlying129
  a40 := Tryz.isAgg129
  z40 := Tryz.sizeOf129
  v40 := Tryz.zeroValue129
  t46 := Tryz.underlying117
  a46 := Tryz.isAgg117
  z46 := Tryz.sizeOf117
  v46 := Tryz.zeroValue117
  t49 := Tryz.underlying237
  a49 := Tryz.isAgg237
  z49 := Tryz.sizeOf237
  v49 := Tryz.zeroValue237
  t51 := Tryz.underlying160
  a51 := Tryz.isAgg160
  z51 := Tryz.sizeOf160
  v51 := Tryz.zeroValue160
  t119 := Tryz.underlying178
  a119 := Tryz.isAgg178
  z119 := Tryz.sizeOf178
  t141 := Tryz.underlying211
  a141 := Tryz.isAgg211
  z141 := Tryz.sizeOf211
  v141 := Tryz.zeroValue211
  t152 := Tryz.underlying207
  a152 := Tryz.isAgg207
  z152 := Tryz.sizeOf207
  v152 := Tryz.zeroValue207
  t154 := Tryz.underlying209
  a154 := Tryz.isAgg209
  z154 := Tryz.sizeOf209
  v154 := Tryz.zeroValue209
  t193 := Tryz.underlying233
  a193 := Tryz.isAgg233
  z193 := Tryz.sizeOf233
  v193 := Tryz.zeroValue233
  t194 := Tryz.underlying234
  a194 := Tryz.isAgg234
  z194 := Tryz.sizeOf234
  v194 := Tryz.zeroValue234
  t196 := Tryz.underlying236
  a196 := Tryz.isAgg236
  z196 := Tryz.sizeOf236
  v196 := Tryz.zeroValue236
  t198 := Tryz.underlying239
  a198 := Tryz.isAgg239
  z198 := Tryz.sizeOf239
  v198 := Tryz.zeroValue239
  t201 := Tryz.underlying242
  a201 := Tryz.isAgg242
  z201 := Tryz.sizeOf242
  v201 := Tryz.zeroValue242
  t226 := Tryz.underlying259
  a226 := Tryz.isAgg259
  z226 := Tryz.sizeOf259
  v226 := Tryz.zeroValue259
  t227 := Tryz.underlying260
  a227 := Tryz.isAgg260
  z227 := Tryz.sizeOf260
  v227 := Tryz.zeroValue260
  g0 := by kernel_rfl
  g6 := by kernel_rfl
  i0 := by kernel_rfl
  i3 := by kernel_rfl
  i4 := by kernel_rfl
  i5 := by kernel_rfl
  i9 := by kernel_rfl
  i21 := by kernel_rfl
  i31 := by kernel_rfl
  i40 := by kernel_rfl
  i46 := by kernel_rfl
  i49 := by kernel_rfl
  i51 := by kernel_rfl
  i141 := by kernel_rfl
  i152 := by kernel_rfl
  i154 := by kernel_rfl
  i193 := by kernel_rfl
  i194 := by kernel_rfl
  i196 := by kernel_rfl
  i198 := by kernel_rfl
  i201 := by kernel_rfl
  i226 := by kernel_rfl
  i227 := by kernel_rfl
  m0 := by kernel_rfl
  m6 := by kernel_rfl }
open Go.RowKit Go.Lib in
theorem Tryz.strings_Fields_laid (s : ByteArray) (w : World) (hs : s.size < 4294967281) (hascii : ∀ (j : Nat) b, s.data.toList[j]? = some b → b.toNat < 128) (htab : Lib.TabIs Tryz.prog w "strings.asciiSpace" .u8 Lib.asciiSpaceTab) :
    Calls Tryz.prog 98 #[.string s] w fun e w' =>
      e = .returned (.slice (some ⟨w.heap.size, 0, none⟩) (Lib.fields s.data.toList).length (Lib.fields s.data.toList).length) ∧ w' = w.alloc (.cells ((Lib.fields s.data.toList).map fun l => Value.string ⟨l.toArray⟩).toArray 9) := Any.strings_Fields_laid Tryz.laysM157 s w hs hascii htab
def Tryz.lays109_ren : Go.Shelf.Ren := ⟨fun | 109 => 132 | n => n, fun | 31 => 38 | 9 => 9 | 3 => 3 | 0 => 0 | 4 => 4 | n => n, fun | n => n⟩
theorem Tryz.lays109 : Go.Proofs.Lays.n109 Tryz.prog Tryz.lays109_ren := {
  mixed := by kernel_rfl
  f109 := Tryz.func132.trans (congrArg some (by kernel_rfl))
  t0 := Tryz.underlying0
  a0 := Tryz.isAgg0
  z0 := Tryz.sizeOf0
  v0 := Tryz.zeroValue0
  t3 := Tryz.underlying3
  a3 := Tryz.isAgg3
  z3 := Tryz.sizeOf3
  v3 := Tryz.zeroValue3
  t4 := Tryz.underlying4
  a4 := Tryz.isAgg4
  z4 := Tryz.sizeOf4
  v4 := Tryz.zeroValue4
  t9 := Tryz.underlying9
  a9 := Tryz.isAgg9
  z9 := Tryz.sizeOf9
  v9 := Tryz.zeroValue9
  t31 := Tryz.underlying38
  a31 := Tryz.isAgg38
  z31 := Tryz.sizeOf38
  v31 := Tryz.zeroValue38 }
open Go.Lib in
theorem Tryz.slices_Index_string (b off n c : Nat) (zs : List ByteArray) (x : ByteArray) (w : World) (hz : n ≤ zs.length) (hbig : n ≤ 9223372036854775807) (hc : ∀ j, j < zs.length → w.cell? ⟨b, off + j, none⟩ = some (.string (zs.getD j ByteArray.empty))) :
    Calls Tryz.prog 132 #[.slice (some ⟨b, off, none⟩) n c, .string x] w fun e w' => e = .returned (.int .i64 (Lib.idxOfS (zs.take n) x)) ∧ w' = w := Any.slices_Index_string Tryz.lays109 b off n c zs x w hz hbig hc
end Go.Proofs
end

section
namespace Go.Proofs.YtcinojbfjiohjaaGreatDoor.Pr
open Go Go.RowKit Go.Proofs.YtcinojbfjiohjaaGreatDoor.PPrintTells Go.Proofs.YtcinojbfjiohjaaGreatDoorW.PrintWords Go.Proofs.YtcinojbfjiohjaaGreatDoorW.PrintLast Go.Proofs.YtcinojbfjiohjaaGreatDoorW.PrintMore
set_option linter.unusedVariables false
set_option linter.unusedSimpArgs false
abbrev PT : TypeId := 74
abbrev U8 : TypeId := 5
abbrev self (b : Nat) : Value := .pointer (some ⟨b, 0, none⟩)
abbrev prO (p v : Value) (ws : List Value) : Obj := .cells (p :: v :: ws).toArray PT
structure PrnAt (B b : Nat) (p : Value) (ws : List Value) (l : List UInt8) (w : World) : Prop where
  lo : B ≤ b
  ex : ∃ v, w.heap[b]? = some (prO p v ws) ∧ w.ownsRowF B U8 1 v l.length (Lib.byteCells l)
theorem PrnAt.lt {B b : Nat} {p : Value} {ws : List Value} {l : List UInt8} {w : World} (h : PrnAt B b p ws l w) : b < w.heap.size := by
  obtain ⟨v, hb, _⟩ := h.ex
  rcases Nat.lt_or_ge b w.heap.size with h' | h'
  · exact h'
  · simp [Array.getElem?_eq_none h'] at hb
theorem ne58 : PT ≠ U8 := by decide
theorem PrnAt.used {B b : Nat} {p : Value} {ws : List Value} {l : List UInt8} {w : World} (h : PrnAt B b p ws l w) (q : Value) : PrnAt B b q ws l (w.setCell ⟨b, 0, none⟩ q) := by
  obtain ⟨v, hb, hown⟩ := h.ex
  refine ⟨h.lo, v, ?_, ?_⟩
  · simp [World.setCell, Array.getElem?_modify, hb]
  · refine hown.kept (row := some b) ⟨rfl, rfl, rfl, by simp [World.setCell], fun k _ hk => Below.heap_setCell _ _ _ _ (fun e => hk (by simp [e]))⟩ ?_
    exact Or.inr (Lib.ownBlock_neF hown hb ne58)
theorem PrnAt.put {B b : Nat} {p v v' : Value} {ws : List Value} {l' : List UInt8} {w : World} (hB : B ≤ b) (hb : w.heap[b]? = some (prO p v ws)) (hown : w.ownsRowF B U8 1 v' l'.length (Lib.byteCells l')) : PrnAt B b p ws l' (w.setCell ⟨b, 1, none⟩ v') := by
  refine ⟨hB, v', ?_, ?_⟩
  · simp [World.setCell, Array.getElem?_modify, hb]
  · exact hown.kept (row := some b) ⟨rfl, rfl, rfl, by simp [World.setCell], fun k _ hk => Below.heap_setCell _ _ _ _ (fun e => hk (by simp [e]))⟩ (Or.inr (Lib.ownBlock_neF hown hb ne58))
theorem PrnAt.cell0 {B b : Nat} {p : Value} {ws : List Value} {l : List UInt8} {w : World} (h : PrnAt B b p ws l w) : w.cell? ⟨b, 0, none⟩ = some p := by
  obtain ⟨v, hb, _⟩ := h.ex
  rw [Lib.cell_of_heap hb]
  rfl
theorem info_b : (Tryz.prog.info? 71).map (·.size) = some 2 := by kernel_rfl
set_option maxHeartbeats 1000000 in
set_option maxRecDepth 100000 in
theorem copyCheck_used (b : Nat) (w : World) (h0 : w.cell? ⟨b, 0, none⟩ = some (self b)) :
    Calls Tryz.prog 97 #[self b] w fun e w' => e = .returned (.tuple #[]) ∧ w' = w := by
  obtain ⟨j, hj, _⟩ := Option.map_eq_some_iff.1 info_b
  go_enter Tryz.func97, Tryz.ntmps97
  go_wp2_with fail
  rw [Lib.run_neq_ptr_same w _ Tryz.underlying68 hj]
  go_wp2
  go_end0
  exact ⟨rfl, rfl⟩
set_option maxHeartbeats 1000000 in
set_option maxRecDepth 100000 in
theorem copyCheck_fresh (b n : Nat) (w : World) (h0 : w.cell? ⟨b, 0, none⟩ = some (.pointer none)) (hsh : w.shape? b = some (PT, 15)) (hfz : w.frozen? ⟨b, 0, none⟩ = false) :
    Calls Tryz.prog 97 #[self b] w fun e w' => e = .returned (.tuple #[]) ∧ w' = w.setCell ⟨b, 0, none⟩ (self b) := by
  obtain ⟨j, hj, hjs⟩ := Option.map_eq_some_iff.1 info_b
  go_enter Tryz.func97, Tryz.ntmps97
  go_wp2_with fail
  rw [Lib.run_to_unsafe w ⟨b, 0, none⟩ Tryz.underlying68 Tryz.underlying176 hj (by rw [hjs]; decide) hsh (Nat.zero_lt_succ 14)]
  simp only [Result.andThen]
  rw [Oper.upon_value]
  go_wp2_with fail
  rw [run_callFunc_extern Tryz.func136 (by kernel_rfl) (by kernel_rfl) (by kernel_rfl) (e := Extern.AbiNoEscape.same) (by kernel_rfl)]
  rw [Lib.run_noEscape]
  simp only [Result.andThen]
  rw [Oper.upon_value]
  go_wp2_with fail
  rw [Lib.run_from_unsafe w ⟨b, 0, none⟩ Tryz.underlying176 Tryz.underlying68 hj hsh (by kernel_rfl)]
  simp only [Result.andThen]
  rw [Oper.upon_value]
  go_wp2
  go_end0
  exact ⟨rfl, rfl⟩
structure Put (B b : Nat) (w w' : World) : Prop where
  low : Below B w w'
  oth : Lib.OthersKept U8 (some b) w w'
theorem Put.refl (B b : Nat) (w : World) : Put B b w w := ⟨Below.refl B w, Lib.OthersKept.refl U8 (some b) w⟩
theorem Put.trans {B b : Nat} {w w' w2 : World} (h : Put B b w w') (k : Put B b w' w2) : Put B b w w2 := ⟨h.low.trans k.low, h.oth.trans k.oth⟩
theorem Put.keeps {B b : Nat} {w w' : World} (h : Put B b w w') {k : Nat} {cs : Array Value} {t : TypeId} {fr : Nat × Nat} (hk : w.heap[k]? = some (.cells cs t fr)) (hkb : k ≠ b) (ht : t ≠ U8) : w'.heap[k]? = some (.cells cs t fr) :=
  h.oth k _ hk (fun e => hkb (Option.some.inj e)) (fun _ _ e => by injection e with _ e2 _; exact ht e2)
def IsPrn (B b : Nat) (ws : List Value) (l : List UInt8) (w : World) : Prop := PrnAt B b (.pointer none) ws l w ∨ PrnAt B b (self b) ws l w
theorem copyCheck_calls (B b : Nat) (ws : List Value) (hws : ws.length = 13) (l : List UInt8) (w : World) (h : IsPrn B b ws l w) :
    Calls Tryz.prog 97 #[self b] w fun e w' => e = .returned (.tuple #[]) ∧ PrnAt B b (self b) ws l w' ∧ Put B b w w' := by
  rcases h with h | h
  · obtain ⟨v, hb, _⟩ := h.ex
    refine (copyCheck_fresh b 0 w h.cell0 ?_ ?_).mono ?_
    · simp [World.shape?, hb, hws]
    · exact Lib.frozen_of_heap hb 0
    · rintro e w' ⟨rfl, rfl⟩
      exact ⟨rfl, h.used _, (Below.refl B w).setCell (p := ⟨b, 0, none⟩) h.lo _, (Lib.OthersKept.refl U8 (some b) w).setCell ⟨b, 0, none⟩ rfl _⟩
  · refine (copyCheck_used b w h.cell0).mono ?_
    rintro e w' ⟨rfl, rfl⟩
    exact ⟨rfl, h, Below.refl B _, Lib.OthersKept.refl U8 (some b) _⟩
theorem info_u8 : (Tryz.prog.info? U8).map (fun i => (i.zero, i.size, i.bytes)) = some (some (.int .u8 0), 1, 1) := by kernel_rfl
theorem str_cells (l : List UInt8) (s : ByteArray) : Lib.byteCells l ++ Lib.strCells s = Lib.byteCells (l ++ s.data.toList) := by
  unfold Lib.byteCells Lib.strCells
  simp
set_option maxHeartbeats 2000000 in
set_option maxRecDepth 100000 in
theorem WriteString_calls (B b : Nat) (ws : List Value) (hws : ws.length = 13) (l : List UInt8) (s : ByteArray) (w : World) (h : IsPrn B b ws l w) (hlen : l.length + s.size ≤ 140737488355328) (hBw : B ≤ w.heap.size) :
    Calls Tryz.prog 48 #[self b, .string s] w fun e w' => e = .returned (.tuple #[.int .i64 s.size, .nilIface]) ∧ IsPrn B b ws (l ++ s.data.toList) w' ∧ Put B b w w' := by
  obtain ⟨i0, hi, hz0, hz1, hz2⟩ := info_parts info_u8
  have CC := copyCheck_calls B b ws hws l w h
  clear h
  go_enter Tryz.func48, Tryz.ntmps48
  go_wp2_with fail
  (with_reducible refine CC.mono ?_)
  rintro e w1 ⟨rfl, h1, hb1, hk1⟩
  have hlt := h1.lt
  have c0 := h1.cell0
  obtain ⟨hB, v, hbk, hown⟩ := h1
  have hne := Lib.ownBlock_neF hown hbk ne58
  have c1 : w1.cell? ⟨b, 1, none⟩ = some v := by rw [Lib.cell_of_heap hbk]; rfl
  go_wp2_with (at_builtin; refine Lib.wpList_append_own_stringF _ rfl _ _ 69 9 rfl B U8 i0 Tryz.underlying69 Tryz.underlying9 hi hz0 hz1 hz2 _ _ _ rfl hown s rfl ?c3 ?c4 ?c5 ?_)
  case c3 => unfold maxLen; omega
  case c4 => omega
  case c5 => have := hb1.size; omega
  intro v' w2 hown' hgrow _
  have hb2 : w2.heap[b]? = some (prO (self b) v ws) := by
    rw [hgrow.block b hlt (fun e => hne e.symm)]
    exact hbk
  have d0 : w2.cell? ⟨b, 0, none⟩ = some (self b) := by rw [Lib.cell_of_heap hb2]; rfl
  have d1 : w2.cell? ⟨b, 1, none⟩ = some v := by rw [Lib.cell_of_heap hb2]; rfl
  have f1 : w2.frozen? ⟨b, 1, none⟩ = false := Lib.frozen_of_heap hb2 1
  obtain ⟨ao, n', cap, rfl⟩ : ∃ ao n' cap, v' = .slice ao n' cap := by
    rcases hown'.2 with ⟨hv, _⟩ | ⟨g, cap, cur, fz, hv, _⟩
    · exact ⟨_, _, _, hv⟩
    · exact ⟨_, _, _, hv⟩
  go_wp2
  go_ret2
  refine ⟨rfl, .inr ?_, ?_, (hk1.grown hgrow (Lib.ownsRowF_kind hown)).setCell ⟨b, 1, none⟩ rfl _⟩
  · refine PrnAt.put hB hb2 ?_
    rw [str_cells] at hown'
    have e : (l ++ s.data.toList).length = l.length + s.size := by rw [List.length_append, Array.length_toList]; rfl
    rw [e]
    exact hown'
  · exact (hb1.grown hgrow (by have := hb1.size; omega) (fun k hk => (hown.lt k hk).1)).setCell (p := ⟨b, 1, none⟩) hB _
set_option maxHeartbeats 2000000 in
set_option maxRecDepth 100000 in
theorem WriteByte_calls (B b : Nat) (ws : List Value) (hws : ws.length = 13) (l : List UInt8) (c : UInt8) (w : World) (h : IsPrn B b ws l w) (hlen : l.length + 1 ≤ 140737488355328) (hBw : B ≤ w.heap.size) :
    Calls Tryz.prog 50 #[self b, .int .u8 c.toNat] w fun e w' => e = .returned .nilIface ∧ IsPrn B b ws (l ++ [c]) w' ∧ Put B b w w' := by
  obtain ⟨i0, hi, hz0, hz1, hz2⟩ := info_parts info_u8
  have CC := copyCheck_calls B b ws hws l w h
  clear h
  go_enter Tryz.func50, Tryz.ntmps50
  go_wp2_with fail
  (with_reducible refine CC.mono ?_)
  rintro e w1 ⟨rfl, h1, hb1, hk1⟩
  have hlt := h1.lt
  have c0 := h1.cell0
  obtain ⟨hB, v, hbk, hown⟩ := h1
  have hne := Lib.ownBlock_neF hown hbk ne58
  have c1 : w1.cell? ⟨b, 1, none⟩ = some v := by rw [Lib.cell_of_heap hbk]; rfl
  go_wp2_with (at_builtin; refine wpList_append_ownF _ rfl _ _ 69 rfl B U8 i0 (.int .u8 0) 1 1 Tryz.underlying69 hi hz0 hz1 hz2 rfl (by decide) _ _ _ rfl (hown.alloc _) ⟨w1.heap.size, 0, none⟩ 1 1 [.int .u8 c.toNat] rfl rfl ?c1 ?c2 ?c3 ?c4 ?c5 ?_)
  case c1 =>
    intro j u hj
    match j, hj with
    | 0, hj => simp at hj; subst hj; simp [Addr.add]
  case c2 => intro u hu; simp at hu; subst hu; rfl
  case c3 => unfold maxLen; omega
  case c4 => omega
  case c5 => have := hb1.size; simp; omega
  intro v' w2 hown' hgrow _
  have hb2 : w2.heap[b]? = some (prO (self b) v ws) := by
    rw [hgrow.block b (by simp; omega) (fun e => hne e.symm), Lib.alloc_old w1 _ b hlt]
    exact hbk
  have d0 : w2.cell? ⟨b, 0, none⟩ = some (self b) := by rw [Lib.cell_of_heap hb2]; rfl
  have d1 : w2.cell? ⟨b, 1, none⟩ = some v := by rw [Lib.cell_of_heap hb2]; rfl
  have f1 : w2.frozen? ⟨b, 1, none⟩ = false := Lib.frozen_of_heap hb2 1
  obtain ⟨ao, n', cap, rfl⟩ : ∃ ao n' cap, v' = .slice ao n' cap := by
    rcases hown'.2 with ⟨hv, _⟩ | ⟨g, cap, cur, fz, hv, _⟩
    · exact ⟨_, _, _, hv⟩
    · exact ⟨_, _, _, hv⟩
  go_wp2
  go_ret
  refine ⟨rfl, .inr ?_, ?_, ((hk1.alloc _).grown hgrow (Lib.ownsRowF_kind (hown.alloc _))).setCell ⟨b, 1, none⟩ rfl _⟩
  · refine PrnAt.put hB hb2 ?_
    have e : Lib.byteCells (l ++ [c]) = Lib.byteCells l ++ [.int .u8 c.toNat] := by unfold Lib.byteCells; simp
    rw [e, List.length_append]
    exact hown'
  · exact ((hb1.alloc (by have := hb1.size; omega) _).grown hgrow (by have := hb1.size; simp; omega) (fun k hk => (hown.lt k hk).1)).setCell (p := ⟨b, 1, none⟩) hB _
set_option maxHeartbeats 4000000 in
set_option maxRecDepth 100000 in
theorem WriteRune_calls (B b : Nat) (ws : List Value) (hws : ws.length = 13) (l : List UInt8) (c : UInt8) (hc : c.toNat < 128) (w : World) (h : IsPrn B b ws l w) (hlen : l.length + 4 ≤ 140737488355328) (hBw : B ≤ w.heap.size) :
    Calls Tryz.prog 53 #[self b, .int .i32 c.toNat] w fun e w' => (∃ v, e = .returned v) ∧ IsPrn B b ws (l ++ [c]) w' ∧ Put B b w w' := by
  have CC := copyCheck_calls B b ws hws l w h
  have hrc : Lib.runeCells (c.toNat : Int) = [.int .u8 c.toNat] := by unfold Lib.runeCells; rw [Lib.encodeRuneZ_one (by omega) (by omega)]; rfl
  have hr0 : (-2147483648 : Int) ≤ (c.toNat : Int) := by omega
  have hr1 : (c.toNat : Int) ≤ 2147483647 := by omega
  clear h hc
  go_enter Tryz.func53, Tryz.ntmps53
  go_wp2_with fail
  (with_reducible refine CC.mono ?_)
  rintro e w1 ⟨rfl, h1, hb1, hk1⟩
  have hlt := h1.lt
  have c0 := h1.cell0
  obtain ⟨hB, v, hbk, hown⟩ := h1
  have hne := Lib.ownBlock_neF hown hbk ne58
  obtain ⟨ao, cap, rfl⟩ : ∃ ao cap, v = .slice ao l.length cap := by
    rcases hown.2 with ⟨hv, h0⟩ | ⟨g, cap, cur, fz, hv, _⟩
    · exact ⟨none, 0, by rw [hv, h0]⟩
    · exact ⟨_, _, hv⟩
  have c1 : w1.cell? ⟨b, 1, none⟩ = some (.slice ao l.length cap) := by rw [Lib.cell_of_heap hbk]; rfl
  go_wp2_with fail
  (with_reducible refine (Tryz.utf8_AppendRune_row B _ l.length (Lib.byteCells l) (c.toNat : Int) hr0 hr1 _ hown hlen (by have := hb1.size; omega)).mono ?_)
  rintro e w2 ⟨v', rfl, hown', o, hgrow⟩
  rw [hrc] at hown'
  have hb2 : w2.heap[b]? = some (prO (self b) (.slice ao l.length cap) ws) := by
    rw [hgrow.block b (by simp; omega) (fun e => hne e.symm), Lib.alloc_old w1 _ b hlt]
    exact hbk
  have d0 : w2.cell? ⟨b, 0, none⟩ = some (self b) := by rw [Lib.cell_of_heap hb2]; rfl
  have d1 : w2.cell? ⟨b, 1, none⟩ = some (.slice ao l.length cap) := by rw [Lib.cell_of_heap hb2]; rfl
  have f1 : w2.frozen? ⟨b, 1, none⟩ = false := Lib.frozen_of_heap hb2 1
  obtain ⟨g, cap', rfl⟩ : ∃ g cap', v' = .slice g (l.length + 1) cap' := by
    rcases hown'.2 with ⟨_, h0⟩ | ⟨g, cap', cur, fz, hv, _⟩
    · simp at h0
    · exact ⟨_, cap', hv⟩
  have hfin : PrnAt B b (self b) ws (l ++ [c]) (w2.setCell ⟨b, 1, none⟩ (.slice g (l.length + 1) cap')) := by
    refine PrnAt.put hB hb2 ?_
    have e : Lib.byteCells (l ++ [c]) = Lib.byteCells l ++ [.int .u8 c.toNat] := by unfold Lib.byteCells; simp
    rw [e, List.length_append]
    exact hown'
  have hfb : Below B w (w2.setCell ⟨b, 1, none⟩ (.slice g (l.length + 1) cap')) := ((hb1.alloc (by have := hb1.size; omega) _).grown hgrow (by have := hb1.size; simp; omega) (fun k hk => (hown.lt k hk).1)).setCell (p := ⟨b, 1, none⟩) hB _
  have hfk : Lib.OthersKept U8 (some b) w (w2.setCell ⟨b, 1, none⟩ (.slice g (l.length + 1) cap')) := ((hk1.alloc _).grown hgrow (Lib.ownsRowF_kind (hown.alloc _))).setCell ⟨b, 1, none⟩ rfl _
  go_wp2
  go_ret2
  exact ⟨⟨_, rfl⟩, .inr hfin, hfb, hfk⟩
set_option maxHeartbeats 1000000 in
set_option maxRecDepth 100000 in
theorem String_calls (B b : Nat) (ws : List Value) (l : List UInt8) (w : World) (h : IsPrn B b ws l w) (h0 : l ≠ []) :
    Calls Tryz.prog 39 #[self b] w fun e w' => e = .returned (.string ⟨l.toArray⟩) ∧ Below B w w' := by
  obtain ⟨p, hAt⟩ : ∃ p, PrnAt B b p ws l w := by
    rcases h with h | h
    · exact ⟨_, h⟩
    · exact ⟨_, h⟩
  obtain ⟨hB, v, hbk, hown⟩ := hAt
  have hl0 : l.length ≠ 0 := by simpa using h0
  obtain ⟨g, cap, cur, fz, rfl, hbg, hg, hfz, hnc, hcm, hcs, htake⟩ : ∃ g cap cur fz, v = .slice (some ⟨g, 0, none⟩) l.length cap ∧ B ≤ g ∧ w.heap[g]? = some (.cells cur U8 fz) ∧ fz.2 ≤ l.length * 1 ∧ l.length ≤ cap ∧ cap ≤ maxLen ∧ cur.size = cap * 1 ∧ cur.toList.take (l.length * 1) = Lib.byteCells l := by
    rcases hown.2 with ⟨_, hz⟩ | ⟨g, cap, cur, fz, hv, r⟩
    · exact absurd hz hl0
    · exact ⟨g, cap, cur, fz, hv, r⟩
  have c1 : w.drew.cell? ⟨b, 1, none⟩ = some (.slice (some ⟨g, 0, none⟩) l.length cap) := by
    have : w.drew.heap[b]? = some (prO p (.slice (some ⟨g, 0, none⟩) l.length cap) ws) := hbk
    rw [Lib.cell_of_heap this]; rfl
  have hSD : (Builtin.unsafeSliceData_ #[69] 123 #[.slice (some ⟨g, 0, none⟩) l.length cap]).run Tryz.prog w.drew = .ok (.pointer (some ⟨g, 0, none⟩)) w.drew :=
    Lib.run_unsafeSliceData_row _ _ _ _ _ _ (by omega)
  have hUS : (Builtin.unsafeString_ #[123, 3] 9 #[.pointer (some ⟨g, 0, none⟩), .int .i64 l.length]).run Tryz.prog w.drew = .ok (.string ⟨l.toArray⟩) (w.drew.freeze ⟨g, 0, none⟩ l.length) := by
    refine Lib.run_unsafeString_row w.drew 123 3 9 U8 Tryz.underlying123 (by kernel_rfl) g cur.size (by have hg' : w.drew.heap[g]? = some (.cells cur U8 fz) := hg; simp [World.shape?, hg']) l h0 (by omega) (by unfold maxLen at hcm; omega) ?_
    intro j x hx
    have := hown.cells (g := g) rfl j (.int .u8 x.toNat) (by simp [Lib.byteCells, hx])
    exact this
  have hfin : Below B w (w.drew.freeze ⟨g, 0, none⟩ l.length) := Lib.below_freeze (Below.drew (Below.refl B w)) (p := ⟨g, 0, none⟩) hbg _
  have mixed : Tryz.prog.follows Departure.mixedOrders = true := by kernel_rfl
  clear hown hg hfz hnc hcm hcs htake hbk
  go_enter Tryz.func39, Tryz.ntmps39
  go_wp2
  go_region_o
  all_goals (go_wp2; go_ret; exact ⟨rfl, hfin⟩)
end Go.Proofs.YtcinojbfjiohjaaGreatDoor.Pr
end

section
namespace Go.Proofs.YtcinojbfjiohjaaGreatDoor.Ex
open Go Go.RowKit Go.Proofs.YtcinojbfjiohjaaGreatDoor.PPrintTells Go.Proofs.YtcinojbfjiohjaaGreatDoorW.PrintWords Go.Proofs.YtcinojbfjiohjaaGreatDoorW.PrintLast Go.Proofs.YtcinojbfjiohjaaGreatDoorW.PrintMore
set_option linter.unusedVariables false
set_option linter.unusedSimpArgs false
abbrev X := S25
abbrev kX : Kd X := k25
abbrev kI : Kd Int := Kd.int .i64
abbrev agg (x : X) (A2 : Option Addr) (c2 : Nat) (A3 : Option Addr) (c3 : Nat) : Value := .agg #[.int .u8 x.f0, .string x.f1, .slice A2 x.f2.length c2, .slice A3 x.f3.length c3]
section
variable {σ : Type} (f : σ → X → Int → σ × Bool)
mutual
def goX : σ → X → Int → σ × Bool
  | s, ⟨o, n, ns, xs⟩, d => if (f s ⟨o, n, ns, xs⟩ d).2 = true then goL (f s ⟨o, n, ns, xs⟩ d).1 xs (d + 1) else ((f s ⟨o, n, ns, xs⟩ d).1, false)
def goL : σ → List X → Int → σ × Bool
  | s, [], _ => (s, true)
  | s, y :: ys, d => if (goX s y d).2 = true then goL (goX s y d).1 ys d else ((goX s y d).1, false)
end
theorem goX_eq (s : σ) (x : X) (d : Int) : goX f s x d = if (f s x d).2 = true then goL f (f s x d).1 x.f3 (d + 1) else ((f s x d).1, false) := by
  cases x; rw [goX]
theorem goL_nil (s : σ) (d : Int) : goL f s [] d = (s, true) := by rw [goL]
theorem goL_cons (s : σ) (y : X) (ys : List X) (d : Int) : goL f s (y :: ys) d = if (goX f s y d).2 = true then goL f (goX f s y d).1 ys d else ((goX f s y d).1, false) := by rw [goL]
theorem goL_append (s : σ) (xs ys : List X) (d : Int) : goL f s (xs ++ ys) d = if (goL f s xs d).2 = true then goL f (goL f s xs d).1 ys d else ((goL f s xs d).1, false) := by
  induction xs generalizing s with
  | nil => simp [goL_nil]
  | cons y xs ih =>
    rw [List.cons_append, goL_cons, goL_cons]
    by_cases h : (goX f s y d).2 = true
    · rw [if_pos h, if_pos h, ih]
    · rw [if_neg h, if_neg h]
      simp
theorem goL_snoc (s : σ) (xs : List X) (k : Nat) (h : k < xs.length) (d : Int) (ht : (goL f s (xs.take k) d).2 = true) :
    goL f s (xs.take (k + 1)) d = if (goX f (goL f s (xs.take k) d).1 xs[k] d).2 = true then ((goX f (goL f s (xs.take k) d).1 xs[k] d).1, true) else ((goX f (goL f s (xs.take k) d).1 xs[k] d).1, false) := by
  rw [List.take_succ_eq_append_getElem h, goL_append, if_pos ht, goL_cons, goL_nil]
theorem goL_stop (s : σ) (xs : List X) (k : Nat) (h : k ≤ xs.length) (d : Int) (ht : (goL f s (xs.take k) d).2 = false) : goL f s xs d = ((goL f s (xs.take k) d).1, false) := by
  conv => lhs; rw [← List.take_append_drop k xs]
  rw [goL_append, ht]
  simp
end
mutual
def cnt : X → Nat
  | ⟨_, _, _, xs⟩ => 1 + cntL xs
def cntL : List X → Nat
  | [] => 0
  | y :: ys => cnt y + cntL ys
end
theorem cnt_eq (x : X) : cnt x = 1 + cntL x.f3 := by cases x; rw [cnt]
theorem cntL_nil : cntL [] = 0 := by rw [cntL]
theorem cntL_cons (y : X) (ys : List X) : cntL (y :: ys) = cnt y + cntL ys := by rw [cntL]
theorem cntL_append (xs ys : List X) : cntL (xs ++ ys) = cntL xs + cntL ys := by
  induction xs with
  | nil => simp [cntL_nil]
  | cons y xs ih => rw [List.cons_append, cntL_cons, cntL_cons, ih]; omega
theorem cnt_mem {y : X} {xs : List X} (h : y ∈ xs) : cnt y ≤ cntL xs := by
  induction xs with
  | nil => cases h
  | cons z xs ih =>
    rw [cntL_cons]
    rcases List.mem_cons.1 h with rfl | h
    · omega
    · have := ih h; omega
theorem cnt_pos (x : X) : 0 < cnt x := by rw [cnt_eq]; omega
theorem cnt_child {x y : X} (h : y ∈ x.f3) : cnt y < cnt x := by
  have := cnt_mem h
  rw [cnt_eq x]
  omega
theorem len_cntL (xs : List X) : xs.length ≤ cntL xs := by
  induction xs with
  | nil => simp
  | cons y ys ih => rw [cntL_cons, List.length_cons]; have := cnt_pos y; omega
mutual
def Wf : X → Prop
  | ⟨o, n, ns, xs⟩ => (0 ≤ o ∧ o ≤ 255) ∧ n.size ≤ 140737488351232 ∧ (∀ k ∈ ns, -9223372036854775808 ≤ k ∧ k ≤ 9223372036854775807) ∧ WfL xs
def WfL : List X → Prop
  | [] => True
  | y :: ys => Wf y ∧ WfL ys
end
theorem Wf_eq (x : X) : Wf x ↔ (0 ≤ x.f0 ∧ x.f0 ≤ 255) ∧ x.f1.size ≤ 140737488351232 ∧ (∀ k ∈ x.f2, -9223372036854775808 ≤ k ∧ k ≤ 9223372036854775807) ∧ WfL x.f3 := by cases x; rw [Wf]
theorem WfL_mem {xs : List X} (h : WfL xs) {y : X} (hy : y ∈ xs) : Wf y := by
  induction xs with
  | nil => cases hy
  | cons z xs ih =>
    rw [WfL] at h
    rcases List.mem_cons.1 hy with rfl | hy
    · exact h.1
    · exact ih h.2 hy
theorem WfL_of {xs : List X} (h : ∀ y ∈ xs, Wf y) : WfL xs := by
  induction xs with
  | nil => rw [WfL]; trivial
  | cons z xs ih => rw [WfL]; exact ⟨h z (by simp), ih fun y hy => h y (by simp [hy])⟩
theorem Wf.child {x y : X} (h : Wf x) (hy : y ∈ x.f3) : Wf y := WfL_mem ((Wf_eq x).1 h).2.2.2 hy
theorem Wf.op {x : X} (h : Wf x) : 0 ≤ x.f0 ∧ x.f0 ≤ 255 := ((Wf_eq x).1 h).1
theorem Wf.name {x : X} (h : Wf x) : x.f1.size ≤ 140737488351232 := ((Wf_eq x).1 h).2.1
theorem Wf.nums {x : X} (h : Wf x) : ∀ k ∈ x.f2, -9223372036854775808 ≤ k ∧ k ≤ 9223372036854775807 := ((Wf_eq x).1 h).2.2.1
def fld (p : Addr) (i : Nat) : Addr := ⟨p.block, p.off + i, none⟩
structure Node (w0 w : World) (p : Addr) (x : X) (A2 : Option Addr) (c2 : Nat) (A3 : Option Addr) (c3 : Nat) : Prop where
  q0 : w.cell? p = some (.int .u8 x.f0)
  q1 : w.cell? (fld p 1) = some (.string x.f1)
  q2 : w.cell? (fld p 2) = some (.slice A2 x.f2.length c2)
  q3 : w.cell? (fld p 3) = some (.slice A3 x.f3.length c3)
  l2 : x.f2.length ≤ c2
  C2 : kI.C w0 A2 x.f2.length x.f2
  l3 : x.f3.length ≤ c3
  C3 : kX.C w0 A3 x.f3.length x.f3
theorem cell_of_heap {w w1 : World} {a : Addr} {v : Value} (hb : w1.heap[a.block]? = w.heap[a.block]?) (h : w.cell? a = some v) : w1.cell? a = some v := by
  simpa [World.cell?, hb] using h
theorem Node.keep {w0 w w1 : World} {S : Nat → Prop} {p : Addr} {x : X} {A2 : Option Addr} {c2 : Nat} {A3 : Option Addr} {c3 : Nat} (h : Node w0 w p x A2 c2 A3 c3) (hk : Kept w w1 S) (hp : ¬ S p.block) : Node w0 w1 p x A2 c2 A3 c3 :=
  ⟨cell_kept h.q0 hk hp, cell_kept h.q1 hk hp, cell_kept h.q2 hk hp, cell_kept h.q3 hk hp, h.l2, h.C2, h.l3, h.C3⟩
theorem Node.child {w0 w : World} {p : Addr} {x : X} {A2 : Option Addr} {c2 : Nat} {A3 : Option Addr} {c3 : Nat} (h : Node w0 w p x A2 c2 A3 c3) (hb : Below w0.heap.size w0 w) (i : Nat) (hi : i < x.f3.length) :
    ∃ ad B2 d2 B3 d3, A3 = some ad ∧ Node w0 w (ad.add (i * 4)) x.f3[i] B2 d2 B3 d3 ∧ (ad.add (i * 4)).block < w0.heap.size := by
  obtain ⟨ad, B2, d2, B3, d3, e, q0, q1, q2, q3, l2, C2, l3, C3⟩ := at_T25 h.C3 (i : Int) (by omega) (by omega)
  have er : rd_T25 x.f3 (i : Int) = x.f3[i] := by
    unfold rd_T25
    rw [Int.toNat_natCast, List.getD_eq_getElem?_getD, List.getElem?_eq_getElem hi]
    rfl
  rw [er] at q0 q1 q2 q3 l2 C2 l3 C3
  rw [Int.toNat_natCast] at q0 q1 q2 q3
  have hlt := World.block_lt_of_cell? _ _ q0
  exact ⟨ad, B2, d2, B3, d3, e, ⟨(hb.cell hlt).trans q0, (hb.cell (p := ⟨_, _, none⟩) hlt).trans q1, (hb.cell (p := ⟨_, _, none⟩) hlt).trans q2, (hb.cell (p := ⟨_, _, none⟩) hlt).trans q3, l2, C2, l3, C3⟩, hlt⟩
theorem Node.none {w0 w : World} {p : Addr} {x : X} {A2 : Option Addr} {c2 : Nat} {A3 : Option Addr} {c3 : Nat} (h : Node w0 w p x A2 c2 A3 c3) : x.f3.length ≤ 9223372036854775807 := Kd.C_max h.C3
end Go.Proofs.YtcinojbfjiohjaaGreatDoor.Ex
end

section
namespace Go.Proofs.YtcinojbfjiohjaaGreatDoor.Ex
open Go Go.RowKit Go.Proofs.YtcinojbfjiohjaaGreatDoor.PPrintTells Go.Proofs.YtcinojbfjiohjaaGreatDoorW.PrintWords Go.Proofs.YtcinojbfjiohjaaGreatDoorW.PrintLast Go.Proofs.YtcinojbfjiohjaaGreatDoorW.PrintMore
set_option linter.unusedVariables false
set_option linter.unusedSimpArgs false
structure Does (g : FuncId) (cb : Array Value) (S : Nat → Prop) (w0 : World) {σ : Type} (f : σ → X → Int → σ × Bool) (Inv : σ → World → Prop) (D : Int) (pot : σ → Nat) (L : Nat) (Z : Nat) : Prop where
  enter : ∀ args w, (callFunc g args).run Tryz.prog w = .ok (.enter g args) w
  draws : ∀ s w n, Inv s w → Inv s (w.drewN n)
  allocs : ∀ s w o, Inv s w → Inv s (w.alloc o)
  above : ∀ k, S k → w0.heap.size ≤ k
  step : ∀ s x d, pot (f s x d).1 ≤ pot s + 1
  run : ∀ s w p x d A2 c2 A3 c3, Wf x → pot s < L → Z ≤ w.heap.size → Inv s w → Below w0.heap.size w0 w → Node w0 w p x A2 c2 A3 c3 → ¬ S p.block → 1 ≤ d → d ≤ D →
    Calls Tryz.prog g (#[.pointer (some p), .int .i64 d] ++ cb) w fun e w' => e = .returned (.bool (f s x d).2) ∧ Inv (f s x d).1 w' ∧ Below w0.heap.size w0 w' ∧ Kept w w' S
def Went (S : Nat → Prop) (w0 w : World) {σ : Type} (Inv : σ → World → Prop) (r : σ × Bool) (e : Ending) (w' : World) : Prop :=
  e = .returned (.bool r.2) ∧ Inv r.1 w' ∧ Below w0.heap.size w0 w' ∧ Kept w w' S
def At (S : Nat → Prop) (w0 w : World) {σ : Type} (f : σ → X → Int → σ × Bool) (Inv : σ → World → Prop) (s : σ) (xs : List X) (d : Int) (k : Nat) (wr : World) : Prop :=
  (goL f s (xs.take k) d).2 = true ∧ Inv (goL f s (xs.take k) d).1 wr ∧ Below w0.heap.size w0 wr ∧ Kept w wr S
section
variable {g : FuncId} {cb : Array Value} {S : Nat → Prop} {w0 : World} {σ : Type} {f : σ → X → Int → σ × Bool} {Inv : σ → World → Prop} {D : Int} {pot : σ → Nat} {L : Nat} {Z : Nat}
mutual
theorem pot_X (hs : ∀ s x d, pot (f s x d).1 ≤ pot s + 1) : ∀ (x : X) (s : σ) (d : Int), pot (goX f s x d).1 ≤ pot s + cnt x
  | ⟨o, n, ns, xs⟩, s, d => by
    rw [goX_eq, cnt_eq]
    have h1 := hs s ⟨o, n, ns, xs⟩ d
    have h2 := pot_L hs xs (f s ⟨o, n, ns, xs⟩ d).1 (d + 1)
    split
    · show pot (goL f (f s ⟨o, n, ns, xs⟩ d).1 xs (d + 1)).1 ≤ pot s + (1 + cntL xs)
      omega
    · show pot (f s ⟨o, n, ns, xs⟩ d).1 ≤ pot s + (1 + cntL xs)
      omega
theorem pot_L (hs : ∀ s x d, pot (f s x d).1 ≤ pot s + 1) : ∀ (xs : List X) (s : σ) (d : Int), pot (goL f s xs d).1 ≤ pot s + cntL xs
  | [], s, d => by rw [goL_nil, cntL_nil]; exact Nat.le_refl _
  | y :: ys, s, d => by
    rw [goL_cons, cntL_cons]
    have h1 := pot_X hs y s d
    have h2 := pot_L hs ys (goX f s y d).1 d
    split
    · omega
    · show pot (goX f s y d).1 ≤ _
      omega
end
theorem cntL_take (xs : List X) (k : Nat) (h : k < xs.length) : cntL (xs.take k) + cnt xs[k] ≤ cntL xs := by
  have h1 : xs = xs.take k ++ xs[k] :: xs.drop (k + 1) := by rw [List.getElem_cons_drop]; exact (List.take_append_drop k xs).symm
  have h2 := congrArg cntL h1
  rw [cntL_append, cntL_cons] at h2
  omega
set_option maxHeartbeats 4000000 in
set_option maxRecDepth 100000 in
theorem visit_calls (H : Does g cb S w0 f Inv D pot L Z) (a b : Addr) (ha : ¬ S a.block) (hb : ¬ S b.block) (hD : D ≤ 4611686018427387904) (N : Nat) :
    ∀ x : X, cnt x ≤ N → Wf x → ∀ (s : σ) (w : World) (p : Addr) (d : Int) A2 c2 A3 c3, pot s + cnt x ≤ L → Z ≤ w.heap.size → Inv s w → Below w0.heap.size w0 w → Node w0 w p x A2 c2 A3 c3 → ¬ S p.block → 1 ≤ d → d + cnt x ≤ D →
      w.cell? a = some (.func (.func g) #[] cb) → w.cell? b = some (.func (.func 81) #[] #[.pointer (some a), .pointer (some b)]) →
      Calls Tryz.prog 81 #[.pointer (some p), .int .i64 d, .pointer (some a), .pointer (some b)] w (Went S w0 w Inv (goX f s x d)) := by
  induction N with
  | zero =>
    intro x hx
    have := cnt_pos x
    omega
  | succ N ih =>
    intro x hx hwf s w p d A2 c2 A3 c3 hpot hZ hI hB hN hp hd hdD hca hcb
    have eg := H.enter
    have hR := Aside0.mk (H.run s w p x d A2 c2 A3 c3 hwf (by have := cnt_pos x; omega) hZ hI hB hN hp hd (by omega))
    have hG := Aside0.mk (goX_eq f s x d)
    by_cases hf : (f s x d).2 = true
    · rw [hf] at hR
      have hG1 := hG.out
      rw [if_pos hf] at hG1
      have HG := Aside0.mk hG1
      clear hG1 hG
      go_enter Tryz.func81, Tryz.ntmps81
      go_wp2_with fail
      (with_reducible refine hR.out.mono ?_)
      rintro e w1 ⟨rfl, hI1, hB1, hK1⟩
      have hN1 := hN.keep hK1 hp
      have q3 : w1.cell? ⟨p.block, p.off + 3, none⟩ = some (.slice A3 x.f3.length c3) := hN1.q3
      have hlen := hN1.none
      have HN := Aside0.mk hN
      have HI := Aside0.mk hI1
      have HCA := Aside0.mk hca
      have HCB := Aside0.mk hcb
      clear hN hN1 hI1 hI hR hf
      go_wp2
      go_loopw [18] (fun j wr => ∃ k : Nat, k ≤ x.f3.length ∧ j = .int .i64 k ∧ At S w0 w f Inv (f s x d).1 x.f3 (d + 1) k wr) (fun j _ => (x.f3.length : Int).toNat - (intOf j).toNat)
      case atStart => exact ⟨0, Nat.zero_le _, rfl, by rw [List.take_zero, goL_nil], by rw [List.take_zero, goL_nil]; exact HI.out, hB1, hK1⟩
      case round =>
        obtain ⟨k, hk, rfl, hat⟩ := hrel
        clear hK1 hB1 q3 hca hcb
        obtain ⟨ht, hIk, hBk, hKk⟩ := id hat
        have HAT := Aside0.mk hat
        clear hat
        by_cases hkn : k < x.f3.length
        · obtain ⟨ad, B2, d2, B3, d3, hA3, hNc, hlt⟩ := (HN.out.keep hKk hp).child hBk k hkn
          subst hA3
          have q3 : wr.cell? ⟨p.block, p.off + 3, none⟩ = some (.slice (some ad) x.f3.length c3) := (HN.out.keep hKk hp).q3
          have ca : wr.cell? a = some (.func (.func g) #[] cb) := cell_kept HCA.out hKk ha
          have cv : wr.cell? b = some (.func (.func 81) #[] #[.pointer (some a), .pointer (some b)]) := cell_kept HCB.out hKk hb
          have hki : (k : Int) < (x.f3.length : Int) := by omega
          have hy : cnt x.f3[k] < cnt x := cnt_child (List.getElem_mem hkn)
          have CI := Aside0.mk (ih x.f3[k] (by omega) (hwf.child (List.getElem_mem hkn)) (goL f (f s x d).1 (x.f3.take k) (d + 1)).1 wr.drew (ad.add (k * 4)) (d + 1) B2 d2 B3 d3 (by have h1 := H.step s x d; have h2 := pot_L H.step (x.f3.take k) (f s x d).1 (d + 1); have h3 := cntL_take x.f3 k hkn; have h4 := cnt_eq x; omega) (Nat.le_trans hZ hKk.1) (H.draws _ _ 1 hIk) hBk.drew (hNc.keep (Kept.refl _ S).drew (fun h => by have := H.above _ h; omega)) (fun h => by have := H.above _ h; omega) (by omega) (by omega) ca cv)
          have hsn := Aside0.mk (goL_snoc f (f s x d).1 x.f3 k hkn (d + 1) ht)
          clear ht hIk hNc
          by_cases hg : (goX f (goL f (f s x d).1 (x.f3.take k) (d + 1)).1 x.f3[k] (d + 1)).2 = true
          · have h1 := hsn.out
            rw [if_pos hg] at h1
            have HS := Aside0.mk h1
            have HGG := Aside0.mk hg
            clear h1 hsn hg
            go_wp2_with fail
            go_still_tail 9, (by kernel_rfl)
            change wpList _ _ _ _ _ wr.drew
            go_wp2_with fail
            (with_reducible refine CI.out.mono ?_)
            rintro e w2 hw
            unfold Went at hw
            rw [HGG.out] at hw
            obtain ⟨rfl, hI2, hB2, hK2⟩ := hw
            go_wp2
            go_roundw
            case rel => exact ⟨k + 1, by omega, by go_num, by unfold At; rw [HS.out]; exact ⟨rfl, hI2, hB2, hKk.drew.then_ hK2 (fun _ h => .inl h)⟩⟩
            case measure => simp [intOf]; omega
          · have hg' := Bool.eq_false_iff.2 hg
            have h1 := hsn.out
            rw [if_neg hg] at h1
            have h2 := goL_stop f (f s x d).1 x.f3 (k + 1) hkn (d + 1) (by rw [h1])
            rw [h1] at h2
            have HS := Aside0.mk h2
            have HGG := Aside0.mk hg'
            clear h1 h2 hsn hg hg'
            go_wp2_with fail
            go_still_tail 9, (by kernel_rfl)
            change wpList _ _ _ _ _ wr.drew
            go_wp2_with fail
            (with_reducible refine CI.out.mono ?_)
            rintro e w2 hw
            unfold Went at hw
            rw [HGG.out] at hw
            obtain ⟨rfl, hI2, hB2, hK2⟩ := hw
            go_wp2
            go_ret
            exact ⟨by rw [HG.out, HS.out]; rfl, by rw [HG.out, HS.out]; exact hI2, hB2, hKk.drew.then_ hK2 (fun _ h => .inl h)⟩
        · obtain rfl : k = x.f3.length := by omega
          go_wp2
          go_ret
          have hat := HAT.out
          unfold At at hat
          rw [List.take_length] at hat
          exact ⟨by rw [HG.out, hat.1]; rfl, by rw [HG.out]; exact hat.2.1, hat.2.2.1, hat.2.2.2⟩
    · have hf' := Bool.eq_false_iff.2 hf
      rw [hf'] at hR
      have hG1 := hG.out
      rw [if_neg hf] at hG1
      have HG := Aside0.mk hG1
      clear hG1 hG
      go_enter Tryz.func81, Tryz.ntmps81
      go_wp2_with fail
      (with_reducible refine hR.out.mono ?_)
      rintro e w1 ⟨rfl, hI1, hB1, hK1⟩
      go_wp2
      go_ret
      exact ⟨by rw [HG.out]; rfl, by rw [HG.out]; exact hI1, hB1, hK1⟩
set_option maxHeartbeats 4000000 in
set_option maxRecDepth 100000 in
theorem each_calls (H : Does g cb S w0 f Inv D pot L Z) (hD : D ≤ 4611686018427387904) (x : X) (hx : 1 + cnt x ≤ D) (hwf : Wf x) (s : σ) (w : World) (A2 : Option Addr) (c2 : Nat) (A3 : Option Addr) (c3 : Nat) (hpot : pot s + cnt x ≤ L) (hZ : Z ≤ w.heap.size + 3) (hI : Inv s w) (hB : Below w0.heap.size w0 w)
    (l2 : x.f2.length ≤ c2) (C2 : kI.C w0 A2 x.f2.length x.f2) (l3 : x.f3.length ≤ c3) (C3 : kX.C w0 A3 x.f3.length x.f3) (hS0 : ¬ S w.heap.size) (hS1 : ¬ S (w.heap.size + 1)) (hS2 : ¬ S (w.heap.size + 1 + 1)) :
    Calls Tryz.prog 33 #[agg x A2 c2 A3 c3, .func (.func g) #[] cb] w fun e w' => e = .returned (.tuple #[]) ∧ Inv (goX f s x 1).1 w' ∧ Below w0.heap.size w0 w' ∧ Kept w w' S := by
  go_enter Tryz.func33, Tryz.ntmps33
  go_wp2_with fail
  refine (visit_calls H ⟨w.heap.size + 1, 0, none⟩ ⟨w.heap.size + 1 + 1, 0, none⟩ hS1 hS2 hD (cnt x) x (Nat.le_refl _) hwf s _ ⟨w.heap.size, 0, none⟩ 1 A2 c2 A3 c3 hpot (by simp; omega) (H.allocs _ _ _ (H.allocs _ _ _ (H.allocs _ _ _ hI))) ?i2 ⟨?i30, ?i31, ?i32, ?i33, l2, C2, l3, C3⟩ hS0 (by omega) hx ?i4 ?i5).mono ?_
  case i2 => exact below_alloc (below_alloc (below_alloc hB _) _) _
  case i30 => rw [World.cell?_alloc_past _ _ _ (by simp <;> omega), World.cell?_alloc_past _ _ _ (by simp <;> omega), World.cell?_alloc_at _ _ _ _ rfl]; rfl
  case i31 => rw [fld, World.cell?_alloc_past _ _ _ (by simp <;> omega), World.cell?_alloc_past _ _ _ (by simp <;> omega), World.cell?_alloc_at _ _ _ _ rfl]; rfl
  case i32 => rw [fld, World.cell?_alloc_past _ _ _ (by simp <;> omega), World.cell?_alloc_past _ _ _ (by simp <;> omega), World.cell?_alloc_at _ _ _ _ rfl]; rfl
  case i33 => rw [fld, World.cell?_alloc_past _ _ _ (by simp <;> omega), World.cell?_alloc_past _ _ _ (by simp <;> omega), World.cell?_alloc_at _ _ _ _ rfl]; rfl
  case i4 => rw [World.cell?_alloc_past _ _ _ (by simp <;> omega), World.cell?_alloc_at _ _ _ _ (by simp <;> omega)]; rfl
  case i5 => rw [World.cell?_alloc_at _ _ _ _ (by simp <;> omega)]; rfl
  rintro e w' ⟨rfl, hI', hB', hK'⟩
  go_wp2
  go_end0
  exact ⟨rfl, hI', hB', (((Kept.refl w S).alloc _).alloc _).alloc _ |>.then_ hK' (fun _ h => .inl h)⟩
end
end Go.Proofs.YtcinojbfjiohjaaGreatDoor.Ex
end

section
namespace Go.Proofs.YtcinojbfjiohjaaGreatDoor.Ex
open Go Go.RowKit Go.Proofs.YtcinojbfjiohjaaGreatDoor.PPrintTells Go.Proofs.YtcinojbfjiohjaaGreatDoorW.PrintWords Go.Proofs.YtcinojbfjiohjaaGreatDoorW.PrintLast Go.Proofs.YtcinojbfjiohjaaGreatDoorW.PrintMore
attribute [local go_sem] max2_int min2_int max_two min_two max_three min_three max_four min_four   -- for this text's walks alone
set_option linter.unusedVariables false
set_option linter.unusedSimpArgs false
theorem wrap64_add (a b : Int) : wrap64 (wrap64 a + b) = wrap64 (a + b) := by unfold wrap64; omega
theorem w64 {x : Int} (h0 : -9223372036854775808 ≤ x) (h1 : x ≤ 9223372036854775807) : wrap64 x = x := by unfold wrap64; omega
def cntF (s : Int) (_ : X) (_ : Int) : Int × Bool := (wrap64 (s + 1), true)
mutual
theorem goX_cnt : ∀ (x : X) (s : Int) (d : Int), goX cntF (wrap64 s) x d = (wrap64 (s + cnt x), true)
  | ⟨o, n, ns, xs⟩, s, d => by
    rw [goX_eq, cnt_eq]
    simp only [cntF, if_true]
    rw [wrap64_add, goL_cnt xs (s + 1) (d + 1)]
    congr 2
    omega
theorem goL_cnt : ∀ (xs : List X) (s : Int) (d : Int), goL cntF (wrap64 s) xs d = (wrap64 (s + cntL xs), true)
  | [], s, d => by rw [goL_nil, cntL_nil]; simp
  | y :: ys, s, d => by
    rw [goL_cons, goX_cnt y s d, cntL_cons]
    simp only [if_true]
    rw [goL_cnt ys (s + cnt y) d]
    congr 2
    omega
end
def Box (b : Nat) (t : TypeId) (v : Value) (w : World) : Prop := w.heap[b]? = some (.cells #[v] t (0, 0))
theorem Box.lt {b : Nat} {t : TypeId} {v : Value} {w : World} (h : Box b t v w) : b < w.heap.size := blk_lt h
theorem Box.cell {b : Nat} {t : TypeId} {v : Value} {w : World} (h : Box b t v w) : w.cell? ⟨b, 0, none⟩ = some v := by
  unfold World.cell?
  unfold Box at h
  rw [h]
  rfl
theorem Box.free {b : Nat} {t : TypeId} {v : Value} {w : World} (h : Box b t v w) : w.frozen? ⟨b, 0, none⟩ = false := by
  unfold World.frozen?
  unfold Box at h
  rw [h]
  rfl
theorem Box.keep {b : Nat} {t : TypeId} {v : Value} {w w' : World} {S : Nat → Prop} (h : Box b t v w) (hk : Kept w w' S) (hn : ¬ S b) : Box b t v w' := (hk.2 b h.lt hn).trans h
theorem Box.d {b : Nat} {t : TypeId} {v : Value} {w : World} (h : Box b t v w) (n : Nat) : Box b t v (w.drewN n) := h
theorem Box.a {b : Nat} {t : TypeId} {v : Value} {w : World} (h : Box b t v w) (o : Obj) : Box b t v (w.alloc o) := h.keep ((Kept.refl w (fun _ => False)).alloc o) (fun h => h)
theorem Box.new (w : World) (t : TypeId) (v : Value) : Box w.heap.size t v (w.alloc (.cells #[v] t)) := by
  show (w.heap.push _)[w.heap.size]? = _
  simp
theorem Box.new_at (w : World) (t : TypeId) (v : Value) (k : Nat) (hk : k = w.heap.size) : Box k t v (w.alloc (.cells #[v] t)) := by
  subst hk; exact Box.new w t v
theorem Box.set {b : Nat} {t : TypeId} {v u : Value} {w : World} (h : Box b t v w) : Box b t u (w.setCell ⟨b, 0, none⟩ u) := one_setCell h
theorem Count1_calls (b : Nat) (w0 : World) (hb : w0.heap.size ≤ b) (D : Int) (L : Nat) : Does 34 #[.pointer (some ⟨b, 0, none⟩)] (fun k => k = b) w0 cntF (fun s w => Box b 3 (.int .i64 s) w) D (fun _ => 0) L 0 where
  enter := fun args w => by kernel_rfl
  draws := fun s w n h => h.d n
  allocs := fun s w o h => h.a o
  above := fun k h => by rw [h]; exact hb
  step := fun _ _ _ => by omega
  run := by
    intro s w p x d A2 c2 A3 c3 hwf _ _ hI hB hN hp hd hdD
    have hc := hI.cell
    have hf := hI.free
    show Calls Tryz.prog 34 #[.pointer (some p), .int .i64 d, .pointer (some ⟨b, 0, none⟩)] w _
    have HI := Aside0.mk hI
    clear hI hN
    go_enter Tryz.func34, Tryz.ntmps34
    go_wp2
    go_ret
    exact ⟨rfl, HI.out.set, hB.setCell hb _, (Kept.refl w (fun k => k = b)).setCell (p := ⟨b, 0, none⟩) (.inl rfl) _⟩
structure Has (w : World) (x : X) (A2 : Option Addr) (c2 : Nat) (A3 : Option Addr) (c3 : Nat) : Prop where
  wf : Wf x
  l2 : x.f2.length ≤ c2
  C2 : kI.C w A2 x.f2.length x.f2
  l3 : x.f3.length ≤ c3
  C3 : kX.C w A3 x.f3.length x.f3
theorem Has.below {w w' : World} {x : X} {A2 : Option Addr} {c2 : Nat} {A3 : Option Addr} {c3 : Nat} (h : Has w x A2 c2 A3 c3) (hb : Below w.heap.size w w') : Has w' x A2 c2 A3 c3 :=
  ⟨h.wf, h.l2, Kd.C_below h.C2 hb, h.l3, Kd.C_below h.C3 hb⟩
set_option maxHeartbeats 4000000 in
set_option maxRecDepth 100000 in
theorem Count_calls (x : X) (A2 : Option Addr) (c2 : Nat) (A3 : Option Addr) (c3 : Nat) (w : World) (hx : Has w x A2 c2 A3 c3) (hc : cnt x ≤ 1099511627776) :
    Calls Tryz.prog 10 #[agg x A2 c2 A3 c3] w fun e w' => e = .returned (.int .i64 (cnt x)) ∧ Below w.heap.size w w' := by
  have HR : Aside0 (goX cntF 0 x 1 = ((cnt x : Int), true)) := by
    have h := goX_cnt x 0 1
    rw [w64 (x := 0) (by omega) (by omega), w64 (by omega) (by omega), Int.zero_add] at h
    exact ⟨h⟩
  go_enter Tryz.func10, Tryz.ntmps10
  go_wp2_with fail
  (with_reducible refine (each_calls (Count1_calls (w.heap.size + 1) w (by omega) (1 + cnt x) (cnt x)) (by omega) x (by omega) hx.wf 0 _ A2 c2 A3 c3 (by omega) (by omega) ?i1 ?i2 hx.l2 hx.C2 hx.l3 hx.C3 (by simp <;> omega) (by simp <;> omega) (by simp <;> omega)).mono ?_)
  case i1 => exact Box.new_at (w.alloc _) _ _ _ (by simp)
  case i2 => exact below_alloc (below_alloc (Below.refl _ _) _) _
  rintro e w1 ⟨rfl, hI, hB, hK⟩
  rw [HR.out] at hI
  have hcl := hI.cell
  go_wp2
  go_ret
  exact ⟨rfl, hB⟩
mutual
def dep : X → Nat
  | ⟨_, _, _, xs⟩ => 1 + depL xs
def depL : List X → Nat
  | [] => 0
  | y :: ys => max (dep y) (depL ys)
end
theorem dep_eq (x : X) : dep x = 1 + depL x.f3 := by cases x; rw [dep]
theorem depL_nil : depL [] = 0 := by rw [depL]
theorem depL_cons (y : X) (ys : List X) : depL (y :: ys) = max (dep y) (depL ys) := by rw [depL]
mutual
theorem dep_le : ∀ x : X, dep x ≤ cnt x
  | ⟨o, n, ns, xs⟩ => by
    rw [dep_eq, cnt_eq]
    have := depL_le xs
    show 1 + depL xs ≤ 1 + cntL xs
    omega
theorem depL_le : ∀ xs : List X, depL xs ≤ cntL xs
  | [] => by rw [depL_nil, cntL_nil]; exact Nat.le_refl 0
  | y :: ys => by
    rw [depL_cons, cntL_cons]
    have := dep_le y
    have := depL_le ys
    omega
end
end Go.Proofs.YtcinojbfjiohjaaGreatDoor.Ex
end

section
namespace Go.Proofs.YtcinojbfjiohjaaGreatDoor.Ex
open Go Go.RowKit Go.Proofs.YtcinojbfjiohjaaGreatDoor.PPrintTells Go.Proofs.YtcinojbfjiohjaaGreatDoorW.PrintWords Go.Proofs.YtcinojbfjiohjaaGreatDoorW.PrintLast Go.Proofs.YtcinojbfjiohjaaGreatDoorW.PrintMore
set_option linter.unusedVariables false
set_option linter.unusedSimpArgs false
def numsOf (o : Int) : Int := if o = 1 ∨ o = 2 then 1 else if o = 3 ∨ o = 7 ∨ o = 9 then 2 else if o = 4 then 3 else 0
def argsOf (o : Int) : Int := if o = 0 ∨ 12 < o then 0 else if o = 1 ∨ o = 2 ∨ o = 3 then 1 else 2
abbrev i64 (n : Int) : Value := .int .i64 n
def table : Array Value := #[i64 0, i64 0, i64 1, i64 1, i64 1, i64 1, i64 2, i64 1, i64 3, i64 2, i64 0, i64 2, i64 0, i64 2, i64 2, i64 2, i64 0, i64 2, i64 2, i64 2, i64 0, i64 2, i64 0, i64 2, i64 0, i64 2]
set_option maxHeartbeats 4000000 in
set_option maxRecDepth 100000 in
theorem shapes_calls (w : World) :
    Calls Tryz.prog 126 #[] w fun e w' => e = .returned (.slice (some ⟨w.heap.size, 0, none⟩) 13 13) ∧ w' = w.alloc (.cells table 125) := by
  have hmk : ∀ w, (Instr.makeSlice 166 (.int .u8 13) (.int .u8 13)).run Tryz.prog w = .ok (.slice (some ⟨w.heap.size, 0, none⟩) 13 13) (w.alloc (.cells #[i64 0, i64 0, i64 0, i64 0, i64 0, i64 0, i64 0, i64 0, i64 0, i64 0, i64 0, i64 0, i64 0, i64 0, i64 0, i64 0, i64 0, i64 0, i64 0, i64 0, i64 0, i64 0, i64 0, i64 0, i64 0, i64 0] 125)) := fun _ => by kernel_rfl
  go_enter Tryz.func126, Tryz.ntmps126
  go_wp2
  refine wp_loop_rounds 14 ?_
  iterate 14 (rw [rounds_succ]; go_wp2)
  go_ret
  exact ⟨rfl, rfl⟩
set_option maxHeartbeats 4000000 in
set_option maxRecDepth 100000 in
theorem of_calls (o : Int) (w : World) (h0 : 0 ≤ o) (h1 : o ≤ 255) :
    Calls Tryz.prog 83 #[.int .u8 o] w fun e w' => e = .returned (.tuple #[.agg #[i64 (numsOf o), i64 (argsOf o)], .bool (decide (o ≤ 12))]) ∧ Below w.heap.size w w' := by
  by_cases h : 12 < o
  · have e1 : numsOf o = 0 := by unfold numsOf; rw [if_neg (by omega), if_neg (by omega), if_neg (by omega)]
    have e2 : argsOf o = 0 := by unfold argsOf; rw [if_pos (by omega)]
    have e3 : decide (o ≤ 12) = false := decide_eq_false (by omega)
    rw [e1, e2, e3]
    clear e1 e2 e3
    go_enter Tryz.func83, Tryz.ntmps83
    go_wp2
    exact bodyPost_ret (v := .tuple #[.agg #[i64 0, i64 0], .bool false]) (by simp [results, Tryz.results83, go_sem]) rfl ⟨rfl, below_alloc (Below.refl _ _) _⟩
  · rcases (show o = 0 ∨ o = 1 ∨ o = 2 ∨ o = 3 ∨ o = 4 ∨ o = 5 ∨ o = 6 ∨ o = 7 ∨ o = 8 ∨ o = 9 ∨ o = 10 ∨ o = 11 ∨ o = 12 by omega) with rfl | rfl | rfl | rfl | rfl | rfl | rfl | rfl | rfl | rfl | rfl | rfl | rfl
    all_goals clear h h0 h1
    all_goals go_enter Tryz.func83, Tryz.ntmps83
    all_goals go_wp2_with fail
    all_goals (with_reducible refine (shapes_calls _).mono ?_)
    all_goals rintro e w' ⟨rfl, rfl⟩
    all_goals unfold table
    all_goals go_wp2
    · exact bodyPost_ret (v := .tuple #[.agg #[i64 0, i64 0], .bool true]) (by simp [results, Tryz.results83, go_sem]) rfl ⟨rfl, below_alloc (below_alloc (Below.refl _ _) _) _⟩
    · exact bodyPost_ret (v := .tuple #[.agg #[i64 1, i64 1], .bool true]) (by simp [results, Tryz.results83, go_sem]) rfl ⟨rfl, below_alloc (below_alloc (Below.refl _ _) _) _⟩
    · exact bodyPost_ret (v := .tuple #[.agg #[i64 1, i64 1], .bool true]) (by simp [results, Tryz.results83, go_sem]) rfl ⟨rfl, below_alloc (below_alloc (Below.refl _ _) _) _⟩
    · exact bodyPost_ret (v := .tuple #[.agg #[i64 2, i64 1], .bool true]) (by simp [results, Tryz.results83, go_sem]) rfl ⟨rfl, below_alloc (below_alloc (Below.refl _ _) _) _⟩
    · exact bodyPost_ret (v := .tuple #[.agg #[i64 3, i64 2], .bool true]) (by simp [results, Tryz.results83, go_sem]) rfl ⟨rfl, below_alloc (below_alloc (Below.refl _ _) _) _⟩
    · exact bodyPost_ret (v := .tuple #[.agg #[i64 0, i64 2], .bool true]) (by simp [results, Tryz.results83, go_sem]) rfl ⟨rfl, below_alloc (below_alloc (Below.refl _ _) _) _⟩
    · exact bodyPost_ret (v := .tuple #[.agg #[i64 0, i64 2], .bool true]) (by simp [results, Tryz.results83, go_sem]) rfl ⟨rfl, below_alloc (below_alloc (Below.refl _ _) _) _⟩
    · exact bodyPost_ret (v := .tuple #[.agg #[i64 2, i64 2], .bool true]) (by simp [results, Tryz.results83, go_sem]) rfl ⟨rfl, below_alloc (below_alloc (Below.refl _ _) _) _⟩
    · exact bodyPost_ret (v := .tuple #[.agg #[i64 0, i64 2], .bool true]) (by simp [results, Tryz.results83, go_sem]) rfl ⟨rfl, below_alloc (below_alloc (Below.refl _ _) _) _⟩
    · exact bodyPost_ret (v := .tuple #[.agg #[i64 2, i64 2], .bool true]) (by simp [results, Tryz.results83, go_sem]) rfl ⟨rfl, below_alloc (below_alloc (Below.refl _ _) _) _⟩
    · exact bodyPost_ret (v := .tuple #[.agg #[i64 0, i64 2], .bool true]) (by simp [results, Tryz.results83, go_sem]) rfl ⟨rfl, below_alloc (below_alloc (Below.refl _ _) _) _⟩
    · exact bodyPost_ret (v := .tuple #[.agg #[i64 0, i64 2], .bool true]) (by simp [results, Tryz.results83, go_sem]) rfl ⟨rfl, below_alloc (below_alloc (Below.refl _ _) _) _⟩
    · exact bodyPost_ret (v := .tuple #[.agg #[i64 0, i64 2], .bool true]) (by simp [results, Tryz.results83, go_sem]) rfl ⟨rfl, below_alloc (below_alloc (Below.refl _ _) _) _⟩
set_option maxHeartbeats 4000000 in
theorem Nums_calls (o : Int) (w : World) (h0 : 0 ≤ o) (h1 : o ≤ 255) :
    Calls Tryz.prog 134 #[.int .u8 o] w fun e w' => e = .returned (.tuple #[.int .i64 (numsOf o), .bool (decide (o ≤ 12))]) ∧ Below w.heap.size w w' := by
  have C := Aside0.mk (of_calls o w h0 h1)
  generalize numsOf o = n at *
  generalize argsOf o = m at *
  generalize decide (o ≤ 12) = b at *
  go_enter Tryz.func134, Tryz.ntmps134
  go_wp2_with fail
  (with_reducible refine C.out.mono ?_)
  rintro e w1 ⟨rfl, hb⟩
  go_wp2
  go_ret2
  exact ⟨rfl, below_alloc hb _⟩
set_option maxHeartbeats 4000000 in
theorem Args_calls (o : Int) (w : World) (h0 : 0 ≤ o) (h1 : o ≤ 255) :
    Calls Tryz.prog 135 #[.int .u8 o] w fun e w' => e = .returned (.int .i64 (argsOf o)) ∧ Below w.heap.size w w' := by
  have C := Aside0.mk (of_calls o w h0 h1)
  generalize numsOf o = n at *
  generalize argsOf o = m at *
  generalize decide (o ≤ 12) = b at *
  go_enter Tryz.func135, Tryz.ntmps135
  go_wp2_with fail
  (with_reducible refine C.out.mono ?_)
  rintro e w1 ⟨rfl, hb⟩
  go_wp2
  go_ret
  exact ⟨rfl, below_alloc hb _⟩
end Go.Proofs.YtcinojbfjiohjaaGreatDoor.Ex
end

section
namespace Go.Proofs.YtcinojbfjiohjaaGreatDoor.Pa
open Go Go.RowKit Go.Proofs.YtcinojbfjiohjaaGreatDoor.PPrintTells Go.Proofs.YtcinojbfjiohjaaGreatDoorW.PrintWords Go.Proofs.YtcinojbfjiohjaaGreatDoorW.PrintLast Go.Proofs.YtcinojbfjiohjaaGreatDoorW.PrintMore
set_option linter.unusedVariables false
set_option linter.unusedSimpArgs false
structure Cal (w : World) : Prop where
  space : Lib.TabIs Tryz.prog w "strings.asciiSpace" .u8 Lib.asciiSpaceTab
  maxl : ∃ m, w.cell? ⟨1, 0, none⟩ = some (.int .i64 m)
theorem gSpace : Tryz.prog.globalNamed "strings.asciiSpace" = some 0 := by kernel_rfl
theorem Cal.l {w w' : World} (h : Cal w) (k : Below w.heap.size w w') : Cal w' := by
  obtain ⟨m, hm⟩ := h.maxl
  refine ⟨?_, m, (k.cell (World.block_lt_of_cell? w _ hm)).trans hm⟩
  have hp := h.space
  have h0 : w.cell? ⟨0, 0, none⟩ = some (.int .u8 (Lib.asciiSpaceTab.getD 0 0)) := hp.cell gSpace 0 (by decide +kernel)
  exact var?_below k gSpace (World.block_lt_of_cell? w _ h0) hp
abbrev OPS : ByteArray := ⟨#[103, 114, 111, 117, 112, 32, 115, 104, 105, 102, 116, 32, 115, 117, 98, 115, 101, 116, 32, 97, 108, 116, 101, 114, 32, 99, 111, 109, 98, 105, 110, 101, 32, 97, 110, 99, 104, 111, 114, 32, 100, 111, 119, 110, 32, 117, 112, 32, 109, 101, 101, 116, 32, 117, 110, 105, 111, 110, 32, 99, 117, 116, 32, 108, 101, 115, 115]⟩
def opsL : List ByteArray := [⟨#[103, 114, 111, 117, 112]⟩, ⟨#[115, 104, 105, 102, 116]⟩, ⟨#[115, 117, 98, 115, 101, 116]⟩, ⟨#[97, 108, 116, 101, 114]⟩, ⟨#[99, 111, 109, 98, 105, 110, 101]⟩, ⟨#[97, 110, 99, 104, 111, 114]⟩, ⟨#[100, 111, 119, 110]⟩, ⟨#[117, 112]⟩, ⟨#[109, 101, 101, 116]⟩, ⟨#[117, 110, 105, 111, 110]⟩, ⟨#[99, 117, 116]⟩, ⟨#[108, 101, 115, 115]⟩]
theorem ops_fields : (Lib.fields OPS.data.toList).map (fun l => (⟨l.toArray⟩ : ByteArray)) = opsL := by decide +kernel
theorem ops_ascii : ∀ (j : Nat) b, OPS.data.toList[j]? = some b → b.toNat < 128 := by
  intro j b hb
  have h : ∀ b ∈ OPS.data.toList, b.toNat < 128 := by decide +kernel
  exact h b (List.mem_of_getElem? hb)
abbrev SHAPES : ByteArray := ⟨#[110, 61, 101, 58, 100, 101, 102, 105, 110, 101, 32, 110, 58, 100, 114, 111, 112, 32, 110, 58, 115, 104, 111, 119, 32, 110, 58, 102, 111, 114, 109, 32, 110, 58, 118, 97, 114, 32, 110, 105, 58, 101, 120, 116, 101, 110, 116, 32, 110, 105, 58, 103, 114, 97, 110, 117, 108, 101, 32, 110, 105, 58, 110, 101, 120, 116, 32, 110, 105, 58, 112, 114, 101, 118, 32, 110, 105, 58, 115, 112, 97, 110, 32, 110, 110, 58, 114, 101, 108, 32, 110, 110, 105, 58, 99, 111, 118, 101, 114, 32, 110, 110, 110, 114, 58, 98, 111, 117, 110, 100, 32, 105, 58, 100, 97, 116, 101, 32, 105, 105, 105, 58, 115, 111, 108, 118, 101, 32, 58, 110, 101, 116, 32, 58, 105, 110, 102, 101, 114, 32, 58, 114, 101, 115, 101, 116]⟩
def shapeL : List (ByteArray × ByteArray) := (Lib.fields SHAPES.data.toList).map fun l => (⟨(Lib.cut l [58]).1.toArray⟩, ⟨(Lib.cut l [58]).2.1.toArray⟩)
theorem shapes_ascii : ∀ (j : Nat) b, SHAPES.data.toList[j]? = some b → b.toNat < 128 := by
  intro j b hb
  have h : ∀ b ∈ SHAPES.data.toList, b.toNat < 128 := by decide +kernel
  exact h b (List.mem_of_getElem? hb)
def opF (s : ByteArray) : Int × Bool := if Lib.idxOfS opsL s < 0 then (0, false) else (1 + Lib.idxOfS opsL s, true)
theorem idx_from (s : ByteArray) : ∀ (zs : List ByteArray) (i : Nat), Lib.idxFromS zs s i < (i + zs.length : Nat) ∧ -1 ≤ Lib.idxFromS zs s i ∨ zs = []
  | [], i => .inr rfl
  | z :: zs, i => by
    left
    rw [Lib.idxFromS]
    split
    · rw [List.length_cons]; omega
    · rcases idx_from s zs (i + 1) with h | h
      · rw [List.length_cons]; omega
      · subst h
        rw [Lib.idxFromS, List.length_cons]
        omega
theorem idx_le (s : ByteArray) : Lib.idxOfS opsL s < 12 ∧ -1 ≤ Lib.idxOfS opsL s := by
  rcases idx_from s opsL 0 with h | h
  · exact h
  · cases h
end Go.Proofs.YtcinojbfjiohjaaGreatDoor.Pa
end

section
namespace Go.Proofs.YtcinojbfjiohjaaGreatDoor.Pa
open Go Go.RowKit Go.Proofs.YtcinojbfjiohjaaGreatDoor.PPrintTells Go.Proofs.YtcinojbfjiohjaaGreatDoorW.PrintWords Go.Proofs.YtcinojbfjiohjaaGreatDoorW.PrintLast Go.Proofs.YtcinojbfjiohjaaGreatDoorW.PrintMore
set_option linter.unusedVariables false
set_option linter.unusedSimpArgs false
set_option maxHeartbeats 4000000 in
theorem Op_calls (s : ByteArray) (w : World) (hC : Cal w) :
    Calls Tryz.prog 94 #[.string s] w fun e w' => e = .returned (.tuple #[.int .u8 (opF s).1, .bool (opF s).2]) ∧ Below w.heap.size w w' := by
  have CF : Aside0 (Calls Tryz.prog 98 #[.string OPS] w fun e w' => e = .returned (.slice (some ⟨w.heap.size, 0, none⟩) 12 12) ∧ w' = w.alloc (.cells (opsL.map Value.string).toArray 9)) := by
    refine ⟨(Tryz.strings_Fields_laid OPS w (by decide +kernel) ops_ascii hC.space).mono ?_⟩
    rintro e w' ⟨rfl, rfl⟩
    have hf := ops_fields
    have hl : (Lib.fields OPS.data.toList).length = 12 := by
      have := congrArg List.length hf
      rw [List.length_map] at this
      exact this
    refine ⟨by rw [hl], ?_⟩
    rw [← hf, List.map_map]
    rfl
  have CI : Aside0 (Calls Tryz.prog 132 #[.slice (some ⟨w.heap.size, 0, none⟩) 12 12, .string s] (w.alloc (.cells (opsL.map Value.string).toArray 9)) fun e w' => e = .returned (.int .i64 (Lib.idxOfS opsL s)) ∧ w' = w.alloc (.cells (opsL.map Value.string).toArray 9)) := by
    refine ⟨Tryz.slices_Index_string w.heap.size 0 12 12 opsL s _ (by decide) (by decide) ?_⟩
    intro j hj
    refine (blk_cell (blk_new w _) (0 + j)).trans ?_
    rw [Nat.zero_add]
    simp [hj]
  have hb := Aside0.mk (below_alloc (Below.refl w.heap.size w) (.cells (opsL.map Value.string).toArray 9))
  obtain ⟨i0, i1⟩ := idx_le s
  have e0 : opF s = if Lib.idxOfS opsL s < 0 then (0, false) else (1 + Lib.idxOfS opsL s, true) := rfl
  rw [e0]
  generalize Lib.idxOfS opsL s = i at *
  clear hC e0
  by_cases hi : i < 0
  · rw [if_pos hi]
    go_enter Tryz.func94, Tryz.ntmps94
    go_wp2_with fail
    (with_reducible refine CF.out.mono ?_)
    rintro e w1 ⟨rfl, rfl⟩
    go_wp2_with fail
    (with_reducible refine CI.out.mono ?_)
    rintro e w1 ⟨rfl, rfl⟩
    go_wp2
    go_ret2
    exact ⟨rfl, hb.out⟩
  · rw [if_neg hi]
    go_enter Tryz.func94, Tryz.ntmps94
    go_wp2_with fail
    (with_reducible refine CF.out.mono ?_)
    rintro e w1 ⟨rfl, rfl⟩
    go_wp2_with fail
    (with_reducible refine CI.out.mono ?_)
    rintro e w1 ⟨rfl, rfl⟩
    go_wp2
    go_ret2
    exact ⟨rfl, hb.out⟩
end Go.Proofs.YtcinojbfjiohjaaGreatDoor.Pa
end

section
namespace Go.Proofs.YtcinojbfjiohjaaGreatDoor.Pr
open Go Go.RowKit Go.Proofs.YtcinojbfjiohjaaGreatDoor.PPrintTells Go.Proofs.YtcinojbfjiohjaaGreatDoor.Ex Go.Proofs.YtcinojbfjiohjaaGreatDoor.Pa Go.Proofs.YtcinojbfjiohjaaGreatDoorW.PrintWords Go.Proofs.YtcinojbfjiohjaaGreatDoorW.PrintLast Go.Proofs.YtcinojbfjiohjaaGreatDoorW.PrintMore
set_option linter.unusedVariables false
set_option linter.unusedSimpArgs false
abbrev e8 : ByteArray := ⟨#[]⟩
def wordsN (k : Nat) : List ByteArray := e8 :: (opsL.take k ++ List.replicate (12 - k) e8)
def wordsV : List Value := (wordsN 12).map Value.string
abbrev WT : TypeId := 72
abbrev arrO (k : Nat) : Obj := .cells ((wordsN k).map Value.string).toArray WT
theorem words_set : ∀ k : Fin 12, (wordsN k.val).set (k.val + 1) (opsL.getD k.val e8) = wordsN (k.val + 1) := by decide +kernel
theorem ops_op : ∀ k : Fin 12, opF (opsL.getD k.val e8) = ((k.val : Int) + 1, true) := by decide +kernel
theorem words_len : ∀ k : Fin 13, (wordsN k.val).length = 13 := by decide +kernel
abbrev rowO : Obj := .cells (opsL.map Value.string).toArray 9
structure WordsAt (w0 : World) (k : Nat) (w : World) : Prop where
  out : w.heap[w0.heap.size + 1]? = some (arrO k)
  res : w.heap[w0.heap.size]? = some (arrO 0)
  row : w.heap[w0.heap.size + 2]? = some rowO
  low : Below w0.heap.size w0 w
theorem WordsAt.l {w0 w w' : World} {k : Nat} (h : WordsAt w0 k w) (hb : Below w.heap.size w w') : WordsAt w0 k w' :=
  ⟨blk_below h.out hb, blk_below h.res hb, blk_below h.row hb, below_then h.low h.low.size hb⟩
theorem WordsAt.set {w0 w : World} {k : Nat} (hk : k < 12) (h : WordsAt w0 k w) (x : ByteArray) (hx : x = opsL.getD k e8) : WordsAt w0 (k + 1) (w.setCell ⟨w0.heap.size + 1, k + 1, none⟩ (.string x)) := by
  subst hx
  refine ⟨?_, ?_, ?_, ?_⟩
  · have h1 := blk_put h.out (k + 1) (.string (opsL.getD k e8)) rfl
    rw [h1]
    have e : (((wordsN k).map Value.string).toArray.setIfInBounds (k + 1) (.string (opsL.getD k e8))) = ((wordsN (k + 1)).map Value.string).toArray := by
      rw [List.setIfInBounds_toArray, ← List.map_set, words_set ⟨k, hk⟩]
    first | exact congrArg (fun a => some (Obj.cells a WT (0, 0))) e | rw [e]
  · exact blk_far h.res (show ¬ (w0.heap.size = w0.heap.size + 1) by omega) _
  · exact blk_far h.row (show ¬ (w0.heap.size + 2 = w0.heap.size + 1) by omega) _
  · exact below_set h.low (Nat.le_succ _)
theorem put13 {W : World} {j : Nat} {t : TypeId} {c0 c1 c2 c3 c4 c5 c6 c7 c8 c9 c10 c11 c12 d0 d1 d2 d3 d4 d5 d6 d7 d8 d9 d10 d11 d12 : Value} (h : W.heap[j]? = some (.cells #[d0, d1, d2, d3, d4, d5, d6, d7, d8, d9, d10, d11, d12] t (0, 0))) :
    (((((((((((((W.setCell ⟨j, 0, none⟩ c0).setCell ⟨j, 1, none⟩ c1).setCell ⟨j, 2, none⟩ c2).setCell ⟨j, 3, none⟩ c3).setCell ⟨j, 4, none⟩ c4).setCell ⟨j, 5, none⟩ c5).setCell ⟨j, 6, none⟩ c6).setCell ⟨j, 7, none⟩ c7).setCell ⟨j, 8, none⟩ c8).setCell ⟨j, 9, none⟩ c9).setCell ⟨j, 10, none⟩ c10).setCell ⟨j, 11, none⟩ c11).setCell ⟨j, 12, none⟩ c12).heap[j]? = some (.cells #[c0, c1, c2, c3, c4, c5, c6, c7, c8, c9, c10, c11, c12] t (0, 0)) := by
  have h0 : (W.setCell ⟨j, 0, none⟩ c0).heap[j]? = some (.cells #[c0, d1, d2, d3, d4, d5, d6, d7, d8, d9, d10, d11, d12] t (0, 0)) := blk_put h 0 _ rfl
  have h1 : ((W.setCell ⟨j, 0, none⟩ c0).setCell ⟨j, 1, none⟩ c1).heap[j]? = some (.cells #[c0, c1, d2, d3, d4, d5, d6, d7, d8, d9, d10, d11, d12] t (0, 0)) := blk_put h0 1 _ rfl
  have h2 : (((W.setCell ⟨j, 0, none⟩ c0).setCell ⟨j, 1, none⟩ c1).setCell ⟨j, 2, none⟩ c2).heap[j]? = some (.cells #[c0, c1, c2, d3, d4, d5, d6, d7, d8, d9, d10, d11, d12] t (0, 0)) := blk_put h1 2 _ rfl
  have h3 : ((((W.setCell ⟨j, 0, none⟩ c0).setCell ⟨j, 1, none⟩ c1).setCell ⟨j, 2, none⟩ c2).setCell ⟨j, 3, none⟩ c3).heap[j]? = some (.cells #[c0, c1, c2, c3, d4, d5, d6, d7, d8, d9, d10, d11, d12] t (0, 0)) := blk_put h2 3 _ rfl
  have h4 : (((((W.setCell ⟨j, 0, none⟩ c0).setCell ⟨j, 1, none⟩ c1).setCell ⟨j, 2, none⟩ c2).setCell ⟨j, 3, none⟩ c3).setCell ⟨j, 4, none⟩ c4).heap[j]? = some (.cells #[c0, c1, c2, c3, c4, d5, d6, d7, d8, d9, d10, d11, d12] t (0, 0)) := blk_put h3 4 _ rfl
  have h5 : ((((((W.setCell ⟨j, 0, none⟩ c0).setCell ⟨j, 1, none⟩ c1).setCell ⟨j, 2, none⟩ c2).setCell ⟨j, 3, none⟩ c3).setCell ⟨j, 4, none⟩ c4).setCell ⟨j, 5, none⟩ c5).heap[j]? = some (.cells #[c0, c1, c2, c3, c4, c5, d6, d7, d8, d9, d10, d11, d12] t (0, 0)) := blk_put h4 5 _ rfl
  have h6 : (((((((W.setCell ⟨j, 0, none⟩ c0).setCell ⟨j, 1, none⟩ c1).setCell ⟨j, 2, none⟩ c2).setCell ⟨j, 3, none⟩ c3).setCell ⟨j, 4, none⟩ c4).setCell ⟨j, 5, none⟩ c5).setCell ⟨j, 6, none⟩ c6).heap[j]? = some (.cells #[c0, c1, c2, c3, c4, c5, c6, d7, d8, d9, d10, d11, d12] t (0, 0)) := blk_put h5 6 _ rfl
  have h7 : ((((((((W.setCell ⟨j, 0, none⟩ c0).setCell ⟨j, 1, none⟩ c1).setCell ⟨j, 2, none⟩ c2).setCell ⟨j, 3, none⟩ c3).setCell ⟨j, 4, none⟩ c4).setCell ⟨j, 5, none⟩ c5).setCell ⟨j, 6, none⟩ c6).setCell ⟨j, 7, none⟩ c7).heap[j]? = some (.cells #[c0, c1, c2, c3, c4, c5, c6, c7, d8, d9, d10, d11, d12] t (0, 0)) := blk_put h6 7 _ rfl
  have h8 : (((((((((W.setCell ⟨j, 0, none⟩ c0).setCell ⟨j, 1, none⟩ c1).setCell ⟨j, 2, none⟩ c2).setCell ⟨j, 3, none⟩ c3).setCell ⟨j, 4, none⟩ c4).setCell ⟨j, 5, none⟩ c5).setCell ⟨j, 6, none⟩ c6).setCell ⟨j, 7, none⟩ c7).setCell ⟨j, 8, none⟩ c8).heap[j]? = some (.cells #[c0, c1, c2, c3, c4, c5, c6, c7, c8, d9, d10, d11, d12] t (0, 0)) := blk_put h7 8 _ rfl
  have h9 : ((((((((((W.setCell ⟨j, 0, none⟩ c0).setCell ⟨j, 1, none⟩ c1).setCell ⟨j, 2, none⟩ c2).setCell ⟨j, 3, none⟩ c3).setCell ⟨j, 4, none⟩ c4).setCell ⟨j, 5, none⟩ c5).setCell ⟨j, 6, none⟩ c6).setCell ⟨j, 7, none⟩ c7).setCell ⟨j, 8, none⟩ c8).setCell ⟨j, 9, none⟩ c9).heap[j]? = some (.cells #[c0, c1, c2, c3, c4, c5, c6, c7, c8, c9, d10, d11, d12] t (0, 0)) := blk_put h8 9 _ rfl
  have h10 : (((((((((((W.setCell ⟨j, 0, none⟩ c0).setCell ⟨j, 1, none⟩ c1).setCell ⟨j, 2, none⟩ c2).setCell ⟨j, 3, none⟩ c3).setCell ⟨j, 4, none⟩ c4).setCell ⟨j, 5, none⟩ c5).setCell ⟨j, 6, none⟩ c6).setCell ⟨j, 7, none⟩ c7).setCell ⟨j, 8, none⟩ c8).setCell ⟨j, 9, none⟩ c9).setCell ⟨j, 10, none⟩ c10).heap[j]? = some (.cells #[c0, c1, c2, c3, c4, c5, c6, c7, c8, c9, c10, d11, d12] t (0, 0)) := blk_put h9 10 _ rfl
  have h11 : ((((((((((((W.setCell ⟨j, 0, none⟩ c0).setCell ⟨j, 1, none⟩ c1).setCell ⟨j, 2, none⟩ c2).setCell ⟨j, 3, none⟩ c3).setCell ⟨j, 4, none⟩ c4).setCell ⟨j, 5, none⟩ c5).setCell ⟨j, 6, none⟩ c6).setCell ⟨j, 7, none⟩ c7).setCell ⟨j, 8, none⟩ c8).setCell ⟨j, 9, none⟩ c9).setCell ⟨j, 10, none⟩ c10).setCell ⟨j, 11, none⟩ c11).heap[j]? = some (.cells #[c0, c1, c2, c3, c4, c5, c6, c7, c8, c9, c10, c11, d12] t (0, 0)) := blk_put h10 11 _ rfl
  have h12 : (((((((((((((W.setCell ⟨j, 0, none⟩ c0).setCell ⟨j, 1, none⟩ c1).setCell ⟨j, 2, none⟩ c2).setCell ⟨j, 3, none⟩ c3).setCell ⟨j, 4, none⟩ c4).setCell ⟨j, 5, none⟩ c5).setCell ⟨j, 6, none⟩ c6).setCell ⟨j, 7, none⟩ c7).setCell ⟨j, 8, none⟩ c8).setCell ⟨j, 9, none⟩ c9).setCell ⟨j, 10, none⟩ c10).setCell ⟨j, 11, none⟩ c11).setCell ⟨j, 12, none⟩ c12).heap[j]? = some (.cells #[c0, c1, c2, c3, c4, c5, c6, c7, c8, c9, c10, c11, c12] t (0, 0)) := blk_put h11 12 _ rfl
  exact h12
theorem put13_below {W W0 : World} {j : Nat} {c0 c1 c2 c3 c4 c5 c6 c7 c8 c9 c10 c11 c12 : Value} (h : Below j W0 W) : Below j W0 (((((((((((((W.setCell ⟨j, 0, none⟩ c0).setCell ⟨j, 1, none⟩ c1).setCell ⟨j, 2, none⟩ c2).setCell ⟨j, 3, none⟩ c3).setCell ⟨j, 4, none⟩ c4).setCell ⟨j, 5, none⟩ c5).setCell ⟨j, 6, none⟩ c6).setCell ⟨j, 7, none⟩ c7).setCell ⟨j, 8, none⟩ c8).setCell ⟨j, 9, none⟩ c9).setCell ⟨j, 10, none⟩ c10).setCell ⟨j, 11, none⟩ c11).setCell ⟨j, 12, none⟩ c12) := by
  have h0 := h.setCell (p := ⟨j, 0, none⟩) (Nat.le_refl _) c0
  have h1 := h0.setCell (p := ⟨j, 1, none⟩) (Nat.le_refl _) c1
  have h2 := h1.setCell (p := ⟨j, 2, none⟩) (Nat.le_refl _) c2
  have h3 := h2.setCell (p := ⟨j, 3, none⟩) (Nat.le_refl _) c3
  have h4 := h3.setCell (p := ⟨j, 4, none⟩) (Nat.le_refl _) c4
  have h5 := h4.setCell (p := ⟨j, 5, none⟩) (Nat.le_refl _) c5
  have h6 := h5.setCell (p := ⟨j, 6, none⟩) (Nat.le_refl _) c6
  have h7 := h6.setCell (p := ⟨j, 7, none⟩) (Nat.le_refl _) c7
  have h8 := h7.setCell (p := ⟨j, 8, none⟩) (Nat.le_refl _) c8
  have h9 := h8.setCell (p := ⟨j, 9, none⟩) (Nat.le_refl _) c9
  have h10 := h9.setCell (p := ⟨j, 10, none⟩) (Nat.le_refl _) c10
  have h11 := h10.setCell (p := ⟨j, 11, none⟩) (Nat.le_refl _) c11
  have h12 := h11.setCell (p := ⟨j, 12, none⟩) (Nat.le_refl _) c12
  exact h12
theorem info_w : (Tryz.prog.info? WT).map (·.size) = some 13 := by kernel_rfl
theorem cells13 {W : World} {j : Nat} {t : TypeId} {c0 c1 c2 c3 c4 c5 c6 c7 c8 c9 c10 c11 c12 : Value} (h : W.heap[j]? = some (.cells #[c0, c1, c2, c3, c4, c5, c6, c7, c8, c9, c10, c11, c12] t (0, 0))) : W.cell? ⟨j, 0, none⟩ = some c0 ∧ W.cell? ⟨j, 1, none⟩ = some c1 ∧ W.cell? ⟨j, 2, none⟩ = some c2 ∧ W.cell? ⟨j, 3, none⟩ = some c3 ∧ W.cell? ⟨j, 4, none⟩ = some c4 ∧ W.cell? ⟨j, 5, none⟩ = some c5 ∧ W.cell? ⟨j, 6, none⟩ = some c6 ∧ W.cell? ⟨j, 7, none⟩ = some c7 ∧ W.cell? ⟨j, 8, none⟩ = some c8 ∧ W.cell? ⟨j, 9, none⟩ = some c9 ∧ W.cell? ⟨j, 10, none⟩ = some c10 ∧ W.cell? ⟨j, 11, none⟩ = some c11 ∧ W.cell? ⟨j, 12, none⟩ = some c12 :=
  ⟨(blk_cell h 0).trans rfl, (blk_cell h 1).trans rfl, (blk_cell h 2).trans rfl, (blk_cell h 3).trans rfl, (blk_cell h 4).trans rfl, (blk_cell h 5).trans rfl, (blk_cell h 6).trans rfl, (blk_cell h 7).trans rfl, (blk_cell h 8).trans rfl, (blk_cell h 9).trans rfl, (blk_cell h 10).trans rfl, (blk_cell h 11).trans rfl, (blk_cell h 12).trans rfl⟩
theorem free13 {W : World} {j : Nat} {t : TypeId} {cs : Array Value} (h : W.heap[j]? = some (.cells cs t (0, 0))) : W.frozen? ⟨j, 0, none⟩ = false ∧ W.frozen? ⟨j, 1, none⟩ = false ∧ W.frozen? ⟨j, 2, none⟩ = false ∧ W.frozen? ⟨j, 3, none⟩ = false ∧ W.frozen? ⟨j, 4, none⟩ = false ∧ W.frozen? ⟨j, 5, none⟩ = false ∧ W.frozen? ⟨j, 6, none⟩ = false ∧ W.frozen? ⟨j, 7, none⟩ = false ∧ W.frozen? ⟨j, 8, none⟩ = false ∧ W.frozen? ⟨j, 9, none⟩ = false ∧ W.frozen? ⟨j, 10, none⟩ = false ∧ W.frozen? ⟨j, 11, none⟩ = false ∧ W.frozen? ⟨j, 12, none⟩ = false :=
  ⟨blk_frozen h 0, blk_frozen h 1, blk_frozen h 2, blk_frozen h 3, blk_frozen h 4, blk_frozen h 5, blk_frozen h 6, blk_frozen h 7, blk_frozen h 8, blk_frozen h 9, blk_frozen h 10, blk_frozen h 11, blk_frozen h 12⟩
set_option maxHeartbeats 8000000 in
set_option maxRecDepth 100000 in
theorem words_calls (w : World) (hC : Pa.Cal w) :
    Calls Tryz.prog 82 #[] w fun e w' => e = .returned (.agg wordsV.toArray) ∧ Below w.heap.size w w' := by
  have HC := Aside0.mk hC
  obtain ⟨w2, hw2⟩ : ∃ w2, w2 = (w.alloc (arrO 0)).alloc (arrO 0) := ⟨_, rfl⟩
  have hb2 : Below w.heap.size w w2 := hw2 ▸ below_alloc (below_alloc (Below.refl _ _) _) _
  have hC2 := HC.out.l hb2
  have hs2 : w2.heap.size = w.heap.size + 2 := by rw [hw2]; exact (Array.size_push ..).trans (congrArg (· + 1) (Array.size_push ..))
  have CF : Aside0 (Calls Tryz.prog 98 #[.string OPS] w2 fun e w' => e = .returned (.slice (some ⟨w.heap.size + 2, 0, none⟩) 12 12) ∧ w' = w2.alloc (.cells (opsL.map Value.string).toArray 9)) := by
    refine ⟨(Tryz.strings_Fields_laid OPS w2 (by decide +kernel) ops_ascii hC2.space).mono ?_⟩
    rintro e w' ⟨rfl, rfl⟩
    have hf := ops_fields
    have hl : (Lib.fields OPS.data.toList).length = 12 := by
      have := congrArg List.length hf
      rw [List.length_map] at this
      exact this
    refine ⟨by rw [hl, hs2], ?_⟩
    rw [← hf, List.map_map]
    rfl
  have HW2 := Aside0.mk hw2
  clear hC hb2 hC2 hs2
  go_enter Tryz.func82, Tryz.ntmps82
  go_wp2_with fail
  rw [show (w.alloc (Obj.cells #[Value.string ⟨#[]⟩, Value.string ⟨#[]⟩, Value.string ⟨#[]⟩, Value.string ⟨#[]⟩, Value.string ⟨#[]⟩, Value.string ⟨#[]⟩, Value.string ⟨#[]⟩, Value.string ⟨#[]⟩, Value.string ⟨#[]⟩, Value.string ⟨#[]⟩, Value.string ⟨#[]⟩, Value.string ⟨#[]⟩, Value.string ⟨#[]⟩] WT)).alloc (Obj.cells #[Value.string ⟨#[]⟩, Value.string ⟨#[]⟩, Value.string ⟨#[]⟩, Value.string ⟨#[]⟩, Value.string ⟨#[]⟩, Value.string ⟨#[]⟩, Value.string ⟨#[]⟩, Value.string ⟨#[]⟩, Value.string ⟨#[]⟩, Value.string ⟨#[]⟩, Value.string ⟨#[]⟩, Value.string ⟨#[]⟩, Value.string ⟨#[]⟩] WT) = w2 from HW2.out.symm]
  (with_reducible refine CF.out.mono ?_)
  rintro e w3 ⟨rfl, hw3⟩
  have HA := Aside0.mk (show WordsAt w 0 w3 by
    have hs2 : w2.heap.size = w.heap.size + 2 := by rw [HW2.out]; exact (Array.size_push ..).trans (congrArg (· + 1) (Array.size_push ..))
    have b0 : w2.heap[w.heap.size]? = some (arrO 0) := by rw [HW2.out]; exact blk_alloc (blk_new w (arrO 0)) _
    have b1 : w2.heap[w.heap.size + 1]? = some (arrO 0) := by
      rw [HW2.out]
      have h := blk_new (w.alloc (arrO 0)) (arrO 0)
      rwa [show (w.alloc (arrO 0)).heap.size = w.heap.size + 1 from Array.size_push ..] at h
    have b2 : w3.heap[w.heap.size + 2]? = some rowO := by
      rw [hw3, ← hs2]
      exact blk_new w2 rowO
    refine ⟨?_, ?_, b2, ?_⟩
    · rw [hw3]; exact blk_alloc b1 _
    · rw [hw3]; exact blk_alloc b0 _
    · rw [hw3, HW2.out]; exact below_alloc (below_alloc (below_alloc (Below.refl _ _) _) _) _)
  clear hw3 CF HW2
  go_wp2_with fail
  go_loopw [8] (fun i wr => ∃ k : Nat, k ≤ 12 ∧ i = .int .i64 (k : Int) ∧ WordsAt w k wr) (fun i _ => 12 - (intOf i).toNat)
  case atStart => exact ⟨0, Nat.zero_le _, rfl, HA.out⟩
  case round =>
    obtain ⟨k, hk, rfl, hat⟩ := hrel
    have HAT := Aside0.mk hat
    clear hat HA
    by_cases hk12 : k < 12
    · have i1 : (k : Int) < 12 := by omega
      have i2 : decide ((k : Int) < 12) = true := decide_eq_true i1
      have hx : wr.cell? ⟨w.heap.size + 2, k, none⟩ = some (.string (opsL.getD k e8)) := by
        rw [blk_cell HAT.out.row k]
        rw [List.getElem?_toArray, List.getElem?_map, List.getD_eq_getElem?_getD, List.getElem?_eq_getElem (show k < opsL.length from hk12)]
        rfl
      obtain ⟨x, hxx⟩ : ∃ x, x = opsL.getD k e8 := ⟨_, rfl⟩
      rw [← hxx] at hx
      have CO := Aside0.mk (Op_calls x wr (HC.out.l HAT.out.low))
      rw [hxx, ops_op ⟨k, hk12⟩, ← hxx] at CO
      dsimp only at CO
      have HX := Aside0.mk hxx
      clear hxx
      go_wp2_with fail
      (with_reducible refine CO.out.mono ?_)
      rintro e w4 ⟨rfl, hb4⟩
      have HAT := Aside0.mk (HAT.out.l hb4)
      have f1 : w4.frozen? ⟨w.heap.size + 1, k + 1, none⟩ = false := blk_frozen HAT.out.out (k + 1)
      obtain ⟨old, hold⟩ : ∃ old, w4.cell? ⟨w.heap.size + 1, k + 1, none⟩ = some old := by
        rw [blk_cell HAT.out.out (k + 1), List.getElem?_toArray, List.getElem?_map, List.getElem?_eq_getElem (show k + 1 < (wordsN k).length by rw [words_len ⟨k, by omega⟩]; omega)]
        exact ⟨_, rfl⟩
      clear hb4 CO hx
      have j1 : (0 : Int) ≤ (k : Int) + 1 := by omega
      have j2 : (k : Int) + 1 < 13 := by omega
      go_wp2_with fail
      go_roundw
      case rel => exact ⟨k + 1, by omega, by go_num, HAT.out.set hk12 x HX.out⟩
      case measure => simp [intOf]; omega
    · have hk' : k = 12 := by omega
      have i1 : ¬ (k : Int) < 12 := by omega
      have i2 : decide ((k : Int) < 12) = false := decide_eq_false i1
      obtain ⟨c0, c1, c2, c3, c4, c5, c6, c7, c8, c9, c10, c11, c12, hc⟩ : ∃ c0 c1 c2 c3 c4 c5 c6 c7 c8 c9 c10 c11 c12, (wordsN 12).map Value.string = [.string c0, .string c1, .string c2, .string c3, .string c4, .string c5, .string c6, .string c7, .string c8, .string c9, .string c10, .string c11, .string c12] := ⟨_, _, _, _, _, _, _, _, _, _, _, _, _, rfl⟩
      obtain ⟨d0, d1, d2, d3, d4, d5, d6, d7, d8, d9, d10, d11, d12, hd⟩ : ∃ d0 d1 d2 d3 d4 d5 d6 d7 d8 d9 d10 d11 d12, (wordsN 0).map Value.string = [.string d0, .string d1, .string d2, .string d3, .string d4, .string d5, .string d6, .string d7, .string d8, .string d9, .string d10, .string d11, .string d12] := ⟨_, _, _, _, _, _, _, _, _, _, _, _, _, rfl⟩
      have hO := HAT.out.out
      have hR := HAT.out.res
      have hB := HAT.out.low
      rw [hk'] at hO
      unfold arrO at hO hR
      rw [hc] at hO
      rw [hd] at hR
      obtain ⟨z0, z1, z2, z3, z4, z5, z6, z7, z8, z9, z10, z11, z12⟩ := cells13 hO
      obtain ⟨y0, y1, y2, y3, y4, y5, y6, y7, y8, y9, y10, y11, y12⟩ := cells13 hR
      obtain ⟨f0, f1, f2, f3, f4, f5, f6, f7, f8, f9, f10, f11, f12⟩ := free13 hR
      have HR := Aside0.mk hR
      have HO := Aside0.mk hO
      have HB := Aside0.mk hB
      have HW := Aside0.mk (show (Value.agg wordsV.toArray) = .agg #[.string c0, .string c1, .string c2, .string c3, .string c4, .string c5, .string c6, .string c7, .string c8, .string c9, .string c10, .string c11, .string c12] by unfold wordsV; rw [hc])
      clear hO hR hB hc hd hk'
      go_wp2_with fail
      have hP := put13 (c0 := .string c0) (c1 := .string c1) (c2 := .string c2) (c3 := .string c3) (c4 := .string c4) (c5 := .string c5) (c6 := .string c6) (c7 := .string c7) (c8 := .string c8) (c9 := .string c9) (c10 := .string c10) (c11 := .string c11) (c12 := .string c12) HR.out
      have hQ := put13_below (c0 := .string c0) (c1 := .string c1) (c2 := .string c2) (c3 := .string c3) (c4 := .string c4) (c5 := .string c5) (c6 := .string c6) (c7 := .string c7) (c8 := .string c8) (c9 := .string c9) (c10 := .string c10) (c11 := .string c11) (c12 := .string c12) HB.out
      refine bodyPost_ret (results_cell_row rfl _ _ w.heap.size WT #[.string c0, .string c1, .string c2, .string c3, .string c4, .string c5, .string c6, .string c7, .string c8, .string c9, .string c10, .string c11, .string c12] (0, 0) _ rfl hP Tryz.underlying72 rfl info_w) rfl ?_
      exact ⟨by rw [HW.out], hQ⟩
set_option maxHeartbeats 4000000 in
set_option maxRecDepth 100000 in
theorem made_calls (w : World) (hC : Pa.Cal w) :
    Calls Tryz.prog 37 #[] w fun e w' => ∃ b, e = .returned (self b) ∧ w.heap.size ≤ b ∧ IsPrn w.heap.size b wordsV [] w' ∧ Below w.heap.size w w' := by
  have CW := Aside0.mk (words_calls w hC)
  have hl : wordsV.length = 13 := rfl
  clear hC
  go_enter Tryz.func37, Tryz.ntmps37
  go_wp2_with fail
  (with_reducible refine CW.out.mono ?_)
  rintro e w1 ⟨rfl, hb⟩
  go_wp2_with fail
  go_ret
  refine ⟨_, rfl, hb.size, .inl ⟨hb.size, .slice none 0 0, ?_, ?_⟩, below_alloc hb _⟩
  · exact (blk_new w1 _).trans (congrArg some (by kernel_rfl))
  · exact World.ownsRowF_of (World.ownsRow_nil _ _ _ _)
end Go.Proofs.YtcinojbfjiohjaaGreatDoor.Pr
end

section
namespace Go.Proofs.YtcinojbfjiohjaaGreatDoor.Ex
open Go
def digitB (b : UInt8) : Bool := decide (48 ≤ b.toNat) && decide (b.toNat ≤ 57)
def alphaB (b : UInt8) : Bool := decide (b.toNat = 95) || (decide (97 ≤ b.toNat) && decide (b.toNat ≤ 122)) || (decide (65 ≤ b.toNat) && decide (b.toNat ≤ 90))
def letterB (b : UInt8) : Bool := alphaB b || digitB b
def nameL : List UInt8 → Bool
  | [] => false
  | b :: l => decide (l.length < 30) && alphaB b && l.all letterB
def nameB (s : ByteArray) : Bool := nameL s.data.toList
def lettersL : List UInt8 := [95, 97, 98, 99, 100, 101, 102, 103, 104, 105, 106, 107, 108, 109, 110, 111, 112, 113, 114, 115, 116, 117, 118, 119, 120, 121, 122, 65, 66, 67, 68, 69, 70, 71, 72, 73, 74, 75, 76, 77, 78, 79, 80, 81, 82, 83, 84, 85, 86, 87, 88, 89, 90]
def digitsL : List UInt8 := [48, 49, 50, 51, 52, 53, 54, 55, 56, 57]
theorem byte_all (p : UInt8 → Bool) (h : ∀ n : Fin 256, p (UInt8.ofNat n.val) = true) (b : UInt8) : p b = true := by
  have h1 := h ⟨b.toNat, b.toNat_lt⟩
  have h2 : UInt8.ofNat b.toNat = b := by simp
  rw [← h2]
  exact h1
theorem contains_letters (b : UInt8) : lettersL.contains b = alphaB b := by
  have := byte_all (fun b => lettersL.contains b == alphaB b) (by decide +kernel) b
  exact eq_of_beq this
theorem contains_both (b : UInt8) : (lettersL ++ digitsL).contains b = letterB b := by
  have := byte_all (fun b => (lettersL ++ digitsL).contains b == letterB b) (by decide +kernel) b
  exact eq_of_beq this
theorem contains_digits (b : UInt8) : digitsL.contains b = digitB b := by
  have := byte_all (fun b => digitsL.contains b == digitB b) (by decide +kernel) b
  exact eq_of_beq this
theorem dropWhile_nil {α : Type} (p : α → Bool) (l : List α) : l.dropWhile p = [] ↔ l.all p = true := by
  induction l with
  | nil => simp
  | cons x l ih =>
    rw [List.dropWhile_cons, List.all_cons]
    by_cases h : p x = true
    · rw [if_pos h, h, Bool.true_and]; exact ih
    · rw [if_neg h]
      simp [h]
theorem trimS_nil (l cs : List UInt8) : Lib.trimS l cs = [] ↔ l.all (cs.contains ·) = true := by
  unfold Lib.trimS Lib.trimLeftS
  rw [dropWhile_nil]
  constructor
  · intro h
    unfold Lib.trimRightS at h
    rw [List.all_reverse] at h
    have hd : l.reverse.dropWhile (cs.contains ·) = [] := by
      cases hr : l.reverse.dropWhile (cs.contains ·) with
      | nil => rfl
      | cons x r =>
        rw [hr, List.all_cons, Bool.and_eq_true] at h
        have := List.head_dropWhile_not (p := (cs.contains ·)) (l := l.reverse) (by rw [hr]; simp)
        simp only [hr, List.head_cons] at this
        rw [h.1] at this
        cases this
    rw [dropWhile_nil, List.all_reverse] at hd
    exact hd
  · intro h
    have hd : l.reverse.dropWhile (cs.contains ·) = [] := by rw [dropWhile_nil, List.all_reverse]; exact h
    unfold Lib.trimRightS
    rw [hd]
    rfl
theorem indexByte_ge (l : List UInt8) (c : UInt8) : (0 ≤ Lib.indexByte l c) ↔ l.contains c = true := by
  have lo : ∀ l : List UInt8, -1 ≤ Lib.indexByte l c := by
    intro l
    induction l with
    | nil => simp [Lib.indexByte]
    | cons b l ih =>
      unfold Lib.indexByte
      split
      · omega
      · split
        · omega
        · omega
  induction l with
  | nil => simp [Lib.indexByte]
  | cons b l ih =>
    unfold Lib.indexByte
    rw [List.contains_cons]
    by_cases h : (b == c) = true
    · have h' : (c == b) = true := by rw [beq_iff_eq] at h ⊢; exact h.symm
      rw [if_pos h, h']
      simp
    · have h' : (c == b) = false := by
        rw [beq_eq_false_iff_ne]
        intro e
        exact h (by rw [e]; exact beq_self_eq_true _)
      rw [if_neg h, h', Bool.false_or]
      refine Iff.trans ?_ ih
      have := lo l
      by_cases h2 : Lib.indexByte l c = -1
      · rw [if_pos (beq_iff_eq.2 h2)]
        omega
      · rw [if_neg (by rw [beq_iff_eq]; exact h2)]
        omega
end Go.Proofs.YtcinojbfjiohjaaGreatDoor.Ex
end

section
namespace Go.Proofs.YtcinojbfjiohjaaGreatDoor.Ex
open Go Go.RowKit Go.Proofs.YtcinojbfjiohjaaGreatDoor.PPrintTells Go.Proofs.YtcinojbfjiohjaaGreatDoorW.PrintWords Go.Proofs.YtcinojbfjiohjaaGreatDoorW.PrintLast Go.Proofs.YtcinojbfjiohjaaGreatDoorW.PrintMore
set_option linter.unusedVariables false
set_option linter.unusedSimpArgs false
abbrev cutset : ByteArray := { data := #[95, 97, 98, 99, 100, 101, 102, 103, 104, 105, 106, 107, 108, 109, 110, 111, 112, 113, 114, 115, 116, 117, 118, 119, 120, 121, 122, 65, 66, 67, 68, 69, 70, 71, 72, 73, 74, 75, 76, 77, 78, 79, 80, 81, 82, 83, 84, 85, 86, 87, 88, 89, 90, 48, 49, 50, 51, 52, 53, 54, 55, 56, 57] }
abbrev lettersS : ByteArray := { data := #[95, 97, 98, 99, 100, 101, 102, 103, 104, 105, 106, 107, 108, 109, 110, 111, 112, 113, 114, 115, 116, 117, 118, 119, 120, 121, 122, 65, 66, 67, 68, 69, 70, 71, 72, 73, 74, 75, 76, 77, 78, 79, 80, 81, 82, 83, 84, 85, 86, 87, 88, 89, 90] }
theorem Trim_calls (s : ByteArray) (w : World) (hs : s.size ≤ 9223372036854775807) :
    Calls Tryz.prog 127 #[.string s, .string cutset] w fun e w' => e = .returned (.string ⟨(Lib.trimS s.data.toList (lettersL ++ digitsL)).toArray⟩) ∧ Below w.heap.size w w' :=
  Any.strings_Trim_laid Tryz.lays160 (by kernel_rfl) s cutset w hs (by decide) (ascii_of_all (by decide))
theorem toList_data (s : ByteArray) : s.toList = s.data.toList := Lib.toList_data s
theorem empty_iff (s : ByteArray) : s.toList.isEmpty = true ↔ s.data.toList = [] := by
  rw [toList_data, List.isEmpty_iff]
set_option maxHeartbeats 4000000 in
set_option maxRecDepth 100000 in
theorem name_calls (s : ByteArray) (w : World) (hs : s.size ≤ 9223372036854775807) :
    Calls Tryz.prog 84 #[.string s] w fun e w' => e = .returned (.bool (nameB s)) ∧ Below w.heap.size w w' := by
  have hsz : s.size = s.data.toList.length := (Array.length_toList).symm
  cases hL : s.data.toList with
  | nil =>
    have hn : nameB s = false := by unfold nameB; rw [hL]; rfl
    rw [hn]
    have he : s.toList = [] := by rw [toList_data, hL]
    clear hL hn hsz
    go_enter Tryz.func84, Tryz.ntmps84
    go_wp2
    go_ret
    exact ⟨rfl, Below.refl _ _⟩
  | cons b l =>
    have he : s.toList.isEmpty = false := by rw [toList_data, hL]; rfl
    have hn : nameB s = (decide (l.length < 30) && alphaB b && l.all letterB) := by unfold nameB; rw [hL]; rfl
    rw [hL, List.length_cons] at hsz
    by_cases h30 : 30 < s.size
    · have h30' : (30 : Int) < (s.size : Int) := by omega
      rw [hn, decide_eq_false (by omega), Bool.false_and, Bool.false_and]
      clear hL hn hsz
      go_enter Tryz.func84, Tryz.ntmps84
      go_wp2
      go_ret
      exact ⟨rfl, Below.refl _ _⟩
    · have h30' : (s.size : Int) ≤ 30 := by omega
      have h0 : 0 < s.size := by omega
      rw [hn, decide_eq_true (by omega), Bool.true_and]
      have hb : s[0] = b := by
        have h1 : s.data.toList[0]? = some b := by rw [hL]; rfl
        have h2 : s.data.toList[0]? = some s[0] := by
          rw [List.getElem?_eq_getElem (by rw [Array.length_toList]; exact h0)]
          rfl
        exact Option.some.inj (h2.symm.trans h1)
      have CT := Aside0.mk (Trim_calls s w hs)
      have hall : ((⟨(Lib.trimS s.data.toList (lettersL ++ digitsL)).toArray⟩ : ByteArray)).toList.isEmpty = ((alphaB b || digitB b) && l.all letterB) := by
        rw [toList_data, Bool.eq_iff_iff, List.isEmpty_iff]
        show Lib.trimS s.data.toList (lettersL ++ digitsL) = [] ↔ _
        rw [trimS_nil, hL, List.all_cons, contains_both]
        have : (l.all ((lettersL ++ digitsL).contains ·)) = l.all letterB := by
          congr 1
          funext x
          exact contains_both x
        rw [this]
        rfl
      have hidx : decide (0 ≤ Lib.indexByte lettersS.data.toList b) = alphaB b := by
        rw [Bool.eq_iff_iff, decide_eq_true_eq, ← contains_letters]
        exact indexByte_ge lettersL b
      have hbb : ((b.toNat : Int).toNat.toUInt8) = b := by simp
      have CI := Aside0.mk (fun w => Tryz.strings_IndexByte lettersS (b.toNat : Int) w)
      rw [hbb] at CI
      clear hbb hn hsz hL
      generalize (⟨(Lib.trimS s.data.toList (lettersL ++ digitsL)).toArray⟩ : ByteArray) = t at *
      generalize Lib.indexByte lettersS.data.toList b = j at *
      by_cases h1 : ((alphaB b || digitB b) && l.all letterB) = true
      · rw [h1] at hall
        have hl : l.all letterB = true := by rw [Bool.and_eq_true] at h1; exact h1.2
        rw [hl, Bool.and_true]
        have HF := Aside0.mk hidx
        clear hl h1
        by_cases hj : 0 ≤ j
        · rw [decide_eq_true hj] at HF
          clear hidx
          go_enter Tryz.func84, Tryz.ntmps84
          go_wp2_with fail
          (with_reducible refine CT.out.mono ?_)
          rintro e w1 ⟨rfl, hb1⟩
          go_wp2_with fail
          (with_reducible refine (CI.out _).mono ?_)
          rintro e w2 ⟨rfl, rfl⟩
          go_wp2
          go_ret
          exact ⟨by rw [← HF.out]; rfl, hb1⟩
        · rw [decide_eq_false hj] at HF
          have hj' : j < 0 := by omega
          clear hidx
          go_enter Tryz.func84, Tryz.ntmps84
          go_wp2_with fail
          (with_reducible refine CT.out.mono ?_)
          rintro e w1 ⟨rfl, hb1⟩
          go_wp2_with fail
          (with_reducible refine (CI.out _).mono ?_)
          rintro e w2 ⟨rfl, rfl⟩
          go_wp2
          go_ret
          exact ⟨by rw [← HF.out]; simp; omega, hb1⟩
      · have h1' := Bool.eq_false_iff.2 h1
        rw [h1'] at hall
        have hz : (alphaB b && l.all letterB) = false := by
          rw [Bool.eq_false_iff]
          intro hz
          rw [Bool.and_eq_true] at hz
          exact h1 (by rw [hz.1, hz.2]; rfl)
        rw [hz]
        clear hz h1 h1' hidx hb
        go_enter Tryz.func84, Tryz.ntmps84
        go_wp2_with fail
        (with_reducible refine CT.out.mono ?_)
        rintro e w1 ⟨rfl, hb1⟩
        go_wp2
        go_ret
        exact ⟨rfl, hb1⟩
def rightB (x : X) : Bool :=
  decide (x.f0 ≤ 12) && decide ((x.f2.length : Int) = numsOf x.f0) && decide ((x.f3.length : Int) = argsOf x.f0) && (if x.f0 = 0 then nameB x.f1 else x.f1.toList.isEmpty)
set_option maxHeartbeats 4000000 in
set_option maxRecDepth 100000 in
theorem right_calls (w0 w : World) (p : Addr) (x : X) (A2 : Option Addr) (c2 : Nat) (A3 : Option Addr) (c3 : Nat) (hN : Node w0 w p x A2 c2 A3 c3) (hwf : Wf x) :
    Calls Tryz.prog 41 #[.pointer (some p)] w fun e w' => e = .returned (.bool (rightB x)) ∧ Below w.heap.size w w' := by
  have CO := Aside0.mk (fun w => of_calls x.f0 w hwf.op.1 hwf.op.2)
  have CN := Aside0.mk (fun w => name_calls x.f1 w (by have := hwf.name; omega))
  have hpl := World.block_lt_of_cell? _ _ hN.q0
  have q0 := hN.q0
  have q1 : w.cell? ⟨p.block, p.off + 1, none⟩ = _ := hN.q1
  have q2 : w.cell? ⟨p.block, p.off + 2, none⟩ = _ := hN.q2
  have q3 : w.cell? ⟨p.block, p.off + 3, none⟩ = _ := hN.q3
  have hR : rightB x = (decide (x.f0 ≤ 12) && decide ((x.f2.length : Int) = numsOf x.f0) && decide ((x.f3.length : Int) = argsOf x.f0) && (if x.f0 = 0 then nameB x.f1 else x.f1.toList.isEmpty)) := rfl
  rw [hR]
  clear hR hN
  generalize numsOf x.f0 = n at *
  generalize argsOf x.f0 = m at *
  by_cases h12 : ¬ x.f0 ≤ 12
  · have hd : decide (x.f0 ≤ 12) = false := decide_eq_false h12
    rw [hd, Bool.false_and, Bool.false_and, Bool.false_and]
    rw [hd] at CO
    clear hd h12
    go_enter Tryz.func41, Tryz.ntmps41
    go_wp2_with fail
    (with_reducible refine (CO.out _).mono ?_)
    rintro e w1 ⟨rfl, hb1⟩
    have p0 := cell_later hb1 q0
    have p1 := cell_later hb1 q1
    have p2 := cell_later hb1 q2
    have p3 := cell_later hb1 q3
    have hpl1 : p.block < w1.heap.size := Nat.lt_of_lt_of_le hpl hb1.size
    clear q0 q1 q2 q3 hpl
    go_wp2_with fail
    go_quiet (fail)
    go_wp2
    go_ret
    exact ⟨rfl, pw_below_drewN (below_alloc hb1 _) _⟩
  have hd : decide (x.f0 ≤ 12) = true := decide_eq_true (Decidable.of_not_not h12)
  rw [hd, Bool.true_and]
  rw [hd] at CO
  clear hd h12
  by_cases hn : ¬ ((x.f2.length : Int) = n)
  · rw [decide_eq_false hn, Bool.false_and, Bool.false_and]
    have hn1 : ((x.f2.length : Int) == n) = false := beq_eq_false_iff_ne.2 hn
    have hn2 : ((x.f2.length : Int) != n) = true := bne_iff_ne.2 hn
    clear hn
    go_enter Tryz.func41, Tryz.ntmps41
    go_wp2_with fail
    (with_reducible refine (CO.out _).mono ?_)
    rintro e w1 ⟨rfl, hb1⟩
    have p0 := cell_later hb1 q0
    have p1 := cell_later hb1 q1
    have p2 := cell_later hb1 q2
    have p3 := cell_later hb1 q3
    have hpl1 : p.block < w1.heap.size := Nat.lt_of_lt_of_le hpl hb1.size
    clear q0 q1 q2 q3 hpl
    go_wp2_with fail
    go_quiet (fail)
    go_wp2
    go_ret
    exact ⟨rfl, pw_below_drewN (below_alloc hb1 _) _⟩
  have hn' := Decidable.of_not_not hn
  rw [decide_eq_true hn', Bool.true_and]
  have hn1 : ((x.f2.length : Int) == n) = true := beq_iff_eq.2 hn'
  have hn2 : ((x.f2.length : Int) != n) = false := bne_eq_false_iff_eq.2 hn'
  clear hn hn'
  by_cases hm : ¬ ((x.f3.length : Int) = m)
  · rw [decide_eq_false hm, Bool.false_and]
    have hm1 : ((x.f3.length : Int) == m) = false := beq_eq_false_iff_ne.2 hm
    have hm2 : ((x.f3.length : Int) != m) = true := bne_iff_ne.2 hm
    clear hm
    go_enter Tryz.func41, Tryz.ntmps41
    go_wp2_with fail
    (with_reducible refine (CO.out _).mono ?_)
    rintro e w1 ⟨rfl, hb1⟩
    have p0 := cell_later hb1 q0
    have p1 := cell_later hb1 q1
    have p2 := cell_later hb1 q2
    have p3 := cell_later hb1 q3
    have hpl1 : p.block < w1.heap.size := Nat.lt_of_lt_of_le hpl hb1.size
    clear q0 q1 q2 q3 hpl
    go_wp2_with fail
    go_quiet (fail)
    go_wp2
    go_ret
    exact ⟨rfl, pw_below_drewN (below_alloc hb1 _) _⟩
  have hm' := Decidable.of_not_not hm
  rw [decide_eq_true hm', Bool.true_and]
  have hm1 : ((x.f3.length : Int) == m) = true := beq_iff_eq.2 hm'
  have hm2 : ((x.f3.length : Int) != m) = false := bne_eq_false_iff_eq.2 hm'
  clear hm hm'
  by_cases h0 : x.f0 = 0
  · rw [if_pos h0]
    have h01 : (x.f0 == 0) = true := beq_iff_eq.2 h0
    clear h0
    go_enter Tryz.func41, Tryz.ntmps41
    go_wp2_with fail
    (with_reducible refine (CO.out _).mono ?_)
    rintro e w1 ⟨rfl, hb1⟩
    have p0 := cell_later hb1 q0
    have p1 := cell_later hb1 q1
    have p2 := cell_later hb1 q2
    have p3 := cell_later hb1 q3
    have hpl1 : p.block < w1.heap.size := Nat.lt_of_lt_of_le hpl hb1.size
    clear q0 q1 q2 q3 hpl
    go_wp2_with fail
    go_quiet (fail)
    go_wp2_with fail
    (with_reducible refine (CN.out _).mono ?_)
    rintro e w2 ⟨rfl, hb2⟩
    go_wp2
    go_ret
    exact ⟨rfl, below_then (pw_below_drewN (below_alloc hb1 _) _) (pw_below_drewN (below_alloc hb1 _) _).size hb2⟩
  · rw [if_neg h0]
    have h01 : (x.f0 == 0) = false := beq_eq_false_iff_ne.2 h0
    clear h0
    go_enter Tryz.func41, Tryz.ntmps41
    go_wp2_with fail
    (with_reducible refine (CO.out _).mono ?_)
    rintro e w1 ⟨rfl, hb1⟩
    have p0 := cell_later hb1 q0
    have p1 := cell_later hb1 q1
    have p2 := cell_later hb1 q2
    have p3 := cell_later hb1 q3
    have hpl1 : p.block < w1.heap.size := Nat.lt_of_lt_of_le hpl hb1.size
    clear q0 q1 q2 q3 hpl
    go_wp2_with fail
    go_quiet (fail)
    go_wp2
    go_ret
    exact ⟨rfl, pw_below_drewN (below_alloc hb1 _) _⟩
mutual
def allR : X → Bool
  | ⟨o, n, ns, xs⟩ => rightB ⟨o, n, ns, xs⟩ && allRL xs
def allRL : List X → Bool
  | [] => true
  | y :: ys => allR y && allRL ys
end
theorem allR_eq (x : X) : allR x = (rightB x && allRL x.f3) := by cases x; rw [allR]
theorem allRL_cons (y : X) (ys : List X) : allRL (y :: ys) = (allR y && allRL ys) := by rw [allRL]
theorem allRL_nil : allRL [] = true := by rw [allRL]
def RightB (x : X) : Bool := allR x && decide (dep x ≤ 40) && decide (cnt x ≤ 2000)
def rgtF (s : Int × Bool) (x : X) (d : Int) : (Int × Bool) × Bool :=
  ((wrap64 (s.1 + 1), rightB x && decide (d ≤ 40) && decide (wrap64 (s.1 + 1) ≤ 2000)), rightB x && decide (d ≤ 40) && decide (wrap64 (s.1 + 1) ≤ 2000))
mutual
theorem goX_rgt : ∀ (x : X) (n : Int) (o : Bool) (d : Int), 0 ≤ n → n + cnt x ≤ 4611686018427387904 →
    ∃ n', goX rgtF (n, o) x d = ((n', allR x && decide (d + dep x - 1 ≤ 40) && decide (n + cnt x ≤ 2000)), allR x && decide (d + dep x - 1 ≤ 40) && decide (n + cnt x ≤ 2000)) ∧
      ((allR x && decide (d + dep x - 1 ≤ 40) && decide (n + cnt x ≤ 2000)) = true → n' = n + cnt x)
  | ⟨o, nm, ns, xs⟩, n, ok, d, h0, h1 => by
    have hc := cnt_eq ⟨o, nm, ns, xs⟩
    have hd := dep_eq ⟨o, nm, ns, xs⟩
    have ha := allR_eq ⟨o, nm, ns, xs⟩
    generalize hx : (⟨o, nm, ns, xs⟩ : X) = x at *
    have hxs : x.f3 = xs := by rw [← hx]
    rw [hxs] at hc hd ha
    rw [goX_eq, hxs]
    have hw : wrap64 (n + 1) = n + 1 := w64 (by omega) (by omega)
    simp only [rgtF, hw]
    by_cases hb : (rightB x && decide (d ≤ 40) && decide (n + 1 ≤ 2000)) = true
    · rw [if_pos hb]
      simp only [Bool.and_eq_true, decide_eq_true_eq] at hb
      obtain ⟨n', e1, e2⟩ := goL_rgt xs (n + 1) (d + 1) (by omega) (by omega) (by omega) (by omega)
      refine ⟨n', ?_, ?_⟩
      · rw [hb.1.1, decide_eq_true hb.1.2, decide_eq_true hb.2, Bool.true_and, Bool.true_and, e1]
        have e : (allR x && decide (d + (dep x : Int) - 1 ≤ 40) && decide (n + (cnt x : Int) ≤ 2000)) = (allRL xs && decide (d + 1 + (depL xs : Int) - 1 ≤ 40) && decide (n + 1 + (cntL xs : Int) ≤ 2000)) := by
          rw [ha, hb.1.1, Bool.true_and, decide_eq_decide.2 (show (d + (dep x : Int) - 1 ≤ 40) ↔ (d + 1 + (depL xs : Int) - 1 ≤ 40) by omega), decide_eq_decide.2 (show (n + (cnt x : Int) ≤ 2000) ↔ (n + 1 + (cntL xs : Int) ≤ 2000) by omega)]
        rw [e]
      · intro h
        have := e2 (by
          rw [Bool.and_eq_true, Bool.and_eq_true, decide_eq_true_eq, decide_eq_true_eq] at h ⊢
          rw [ha, hb.1.1, Bool.true_and] at h
          exact ⟨⟨h.1.1, by omega⟩, by omega⟩)
        omega
    · rw [if_neg hb]
      have hb' := Bool.eq_false_iff.2 hb
      have e : (allR x && decide (d + (dep x : Int) - 1 ≤ 40) && decide (n + (cnt x : Int) ≤ 2000)) = false := by
        rw [Bool.eq_false_iff]
        intro h
        apply hb
        rw [Bool.and_eq_true, Bool.and_eq_true, decide_eq_true_eq, decide_eq_true_eq] at h ⊢
        rw [ha, Bool.and_eq_true] at h
        exact ⟨⟨h.1.1.1, by omega⟩, by omega⟩
      refine ⟨n + 1, ?_, ?_⟩
      · rw [e, hb']
      · intro h
        rw [e] at h
        cases h
theorem goL_rgt : ∀ (xs : List X) (n : Int) (d : Int), 0 ≤ n → n + cntL xs ≤ 4611686018427387904 → d - 1 ≤ 40 → n ≤ 2000 →
    ∃ n', goL rgtF (n, true) xs d = ((n', allRL xs && decide (d + depL xs - 1 ≤ 40) && decide (n + cntL xs ≤ 2000)), allRL xs && decide (d + depL xs - 1 ≤ 40) && decide (n + cntL xs ≤ 2000)) ∧
      ((allRL xs && decide (d + depL xs - 1 ≤ 40) && decide (n + cntL xs ≤ 2000)) = true → n' = n + cntL xs)
  | [], n, d, h0, h1, h2, h3 => by
    refine ⟨n, ?_, ?_⟩
    · rw [goL_nil, allRL_nil, depL_nil, cntL_nil]
      have e1 : decide (d + ((0 : Nat) : Int) - 1 ≤ 40) = true := decide_eq_true (by omega)
      have e2 : decide (n + ((0 : Nat) : Int) ≤ 2000) = true := decide_eq_true (by omega)
      rw [e1, e2]
      rfl
    · intro _
      rw [cntL_nil]
      omega
  | y :: ys, n, d, h0, h1, h2, h3 => by
    rw [cntL_cons] at h1
    obtain ⟨n1, e1, e2⟩ := goX_rgt y n true d h0 (by omega)
    rw [goL_cons, e1]
    simp only
    have hcy := cnt_pos y
    by_cases hb : (allR y && decide (d + (dep y : Int) - 1 ≤ 40) && decide (n + (cnt y : Int) ≤ 2000)) = true
    · rw [if_pos hb]
      have hn1 := e2 hb
      rw [hb]
      simp only [Bool.and_eq_true, decide_eq_true_eq] at hb
      obtain ⟨n', e3, e4⟩ := goL_rgt ys n1 d (by omega) (by omega) h2 (by omega)
      have e : (allRL (y :: ys) && decide (d + (depL (y :: ys) : Int) - 1 ≤ 40) && decide (n + (cntL (y :: ys) : Int) ≤ 2000)) = (allRL ys && decide (d + (depL ys : Int) - 1 ≤ 40) && decide (n1 + (cntL ys : Int) ≤ 2000)) := by
        rw [allRL_cons, hb.1.1, Bool.true_and, depL_cons, cntL_cons, decide_eq_decide.2 (show (d + (max (dep y) (depL ys) : Nat) - 1 ≤ 40) ↔ (d + (depL ys : Int) - 1 ≤ 40) by omega), decide_eq_decide.2 (show (n + (cnt y + cntL ys : Nat) ≤ 2000) ↔ (n1 + (cntL ys : Int) ≤ 2000) by omega)]
      refine ⟨n', ?_, ?_⟩
      · rw [e3, e]
      · intro h
        rw [e] at h
        have := e4 h
        rw [cntL_cons]
        omega
    · rw [if_neg hb]
      have hb' := Bool.eq_false_iff.2 hb
      have e : (allRL (y :: ys) && decide (d + (depL (y :: ys) : Int) - 1 ≤ 40) && decide (n + (cntL (y :: ys) : Int) ≤ 2000)) = false := by
        rw [Bool.eq_false_iff]
        intro h
        apply hb
        rw [Bool.and_eq_true, Bool.and_eq_true, decide_eq_true_eq, decide_eq_true_eq] at h ⊢
        rw [allRL_cons, Bool.and_eq_true, depL_cons, cntL_cons] at h
        exact ⟨⟨h.1.1.1, by omega⟩, by omega⟩
      refine ⟨n1, ?_, ?_⟩
      · rw [hb', e]
      · intro h
        rw [e] at h
        cases h
end
theorem goX_right (x : X) (hc : cnt x ≤ 1099511627776) : (goX rgtF (0, true) x 1).1.2 = RightB x := by
  obtain ⟨n', e, _⟩ := goX_rgt x 0 true 1 (by omega) (by omega)
  rw [e]
  unfold RightB
  simp only
  rw [decide_eq_decide.2 (show ((1 : Int) + (dep x : Int) - 1 ≤ 40) ↔ (dep x ≤ 40) by omega), decide_eq_decide.2 (show ((0 : Int) + (cnt x : Int) ≤ 2000) ↔ (cnt x ≤ 2000) by omega)]
set_option maxHeartbeats 4000000 in
set_option maxRecDepth 100000 in
theorem Right1_calls (a b : Nat) (w0 : World) (ha : w0.heap.size ≤ a) (hb : w0.heap.size ≤ b) (hab : a ≠ b) (L : Nat) (D : Int) (hD : D ≤ 4611686018427387904) : Does 40 #[.pointer (some ⟨a, 0, none⟩), .pointer (some ⟨b, 0, none⟩)] (fun k => k = a ∨ k = b) w0 rgtF (fun s w => Box a 3 (.int .i64 s.1) w ∧ Box b 4 (.bool s.2) w) D (fun _ => 0) L 0 where
  enter := fun args w => by kernel_rfl
  draws := fun s w n h => ⟨h.1.d n, h.2.d n⟩
  allocs := fun s w o h => ⟨h.1.a o, h.2.a o⟩
  above := fun k h => by rcases h with h | h <;> rw [h] <;> assumption
  step := fun _ _ _ => by omega
  run := by
    intro s w p x d A2 c2 A3 c3 hwf _ _ hI hB hN hp hd hdD
    show Calls Tryz.prog 40 #[.pointer (some p), .int .i64 d, .pointer (some ⟨a, 0, none⟩), .pointer (some ⟨b, 0, none⟩)] w _
    obtain ⟨n, o⟩ := s
    have hca := hI.1.cell
    have hfa := hI.1.free
    have hcb := hI.2.cell
    have hfb := hI.2.free
    have HI := Aside0.mk hI
    have HN := Aside0.mk hN
    clear hI hN
    go_enter Tryz.func40, Tryz.ntmps40
    go_wp2_with fail
    have K1 : Kept w (w.setCell ⟨a, 0, none⟩ (.int .i64 (wrap64 (n + 1)))) (fun k => k = a ∨ k = b) := (Kept.refl w _).setCell (p := ⟨a, 0, none⟩) (.inl (.inl rfl)) _
    have B1 : Below w0.heap.size w0 (w.setCell ⟨a, 0, none⟩ (.int .i64 (wrap64 (n + 1)))) := hB.setCell ha _
    have X1 : Box a 3 (.int .i64 (wrap64 (n + 1))) (w.setCell ⟨a, 0, none⟩ (.int .i64 (wrap64 (n + 1)))) := HI.out.1.set
    have Y1 : Box b 4 (.bool o) (w.setCell ⟨a, 0, none⟩ (.int .i64 (wrap64 (n + 1)))) := HI.out.2.keep ((Kept.refl w (fun k => k = a)).setCell (p := ⟨a, 0, none⟩) (.inl rfl) _) (fun h => hab h.symm)
    have N1 := HN.out.keep K1 hp
    (with_reducible refine (right_calls w0 _ p x A2 c2 A3 c3 N1 hwf).mono ?_)
    rintro e w2 ⟨rfl, hb2⟩
    have X2 := X1.keep (Kept.of_below hb2 (fun _ => False)) (fun h => h)
    have Y2 := Y1.keep (Kept.of_below hb2 (fun _ => False)) (fun h => h)
    have K2 := K1.below hb2
    have B2 := below_then B1 B1.size hb2
    clear hca hfa hcb hfb K1 B1 X1 Y1 N1 hb2
    have ca := X2.cell
    have cb := Y2.cell
    have fb := Y2.free
    have HX := Aside0.mk X2
    have HY := Aside0.mk Y2
    clear X2 Y2
    have fin : ∀ r : Bool, (rgtF (n, o) x d).2 = r → (rgtF (n, o) x d).1 = (wrap64 (n + 1), r) := by
      intro r h
      unfold rgtF at h ⊢
      simp only at h ⊢
      rw [h]
    have FIN := Aside0.mk fin
    have hrg : (rgtF (n, o) x d).2 = (rightB x && decide (d ≤ 40) && decide (wrap64 (n + 1) ≤ 2000)) := rfl
    have HRG := Aside0.mk hrg
    clear fin hrg
    generalize wrap64 (n + 1) = n1 at *
    by_cases h1 : ¬ rightB x = true
    · have h1' := Bool.eq_false_iff.2 h1
      rw [h1'] at HRG ⊢
      clear h1 h1'
      rw [Bool.false_and, Bool.false_and] at HRG
      go_wp2
      go_ret
      exact ⟨by rw [HRG.out]; rfl, by rw [FIN.out _ HRG.out]; exact ⟨HX.out.keep ((Kept.refl w2 (fun k => k = b)).setCell (p := ⟨b, 0, none⟩) (.inl rfl) _) hab, HY.out.set⟩, B2.setCell hb _, K2.setCell (p := ⟨b, 0, none⟩) (.inl (.inr rfl)) _⟩
    have h1' := Decidable.of_not_not h1
    rw [h1'] at HRG ⊢
    clear h1 h1'
    rw [Bool.true_and] at HRG
    by_cases h2 : ¬ d ≤ 40
    · have h2' : decide (d ≤ 40) = false := decide_eq_false h2
      rw [h2', Bool.false_and] at HRG
      clear h2
      go_wp2
      go_ret
      exact ⟨by rw [HRG.out]; rfl, by rw [FIN.out _ HRG.out]; exact ⟨HX.out.keep ((Kept.refl w2 (fun k => k = b)).setCell (p := ⟨b, 0, none⟩) (.inl rfl) _) hab, HY.out.set⟩, B2.setCell hb _, K2.setCell (p := ⟨b, 0, none⟩) (.inl (.inr rfl)) _⟩
    have h2' : d ≤ 40 := Decidable.of_not_not h2
    rw [decide_eq_true h2', Bool.true_and] at HRG
    clear h2
    by_cases h3 : n1 ≤ 2000
    · rw [decide_eq_true h3] at HRG
      go_wp2
      go_ret
      exact ⟨by rw [HRG.out]; rfl, by rw [FIN.out _ HRG.out]; exact ⟨HX.out.keep ((Kept.refl w2 (fun k => k = b)).setCell (p := ⟨b, 0, none⟩) (.inl rfl) _) hab, HY.out.set⟩, B2.setCell hb _, K2.setCell (p := ⟨b, 0, none⟩) (.inl (.inr rfl)) _⟩
    · have h3' : decide (n1 ≤ 2000) = false := decide_eq_false h3
      rw [h3'] at HRG
      clear h3
      go_wp2
      go_ret
      exact ⟨by rw [HRG.out]; rfl, by rw [FIN.out _ HRG.out]; exact ⟨HX.out.keep ((Kept.refl w2 (fun k => k = b)).setCell (p := ⟨b, 0, none⟩) (.inl rfl) _) hab, HY.out.set⟩, B2.setCell hb _, K2.setCell (p := ⟨b, 0, none⟩) (.inl (.inr rfl)) _⟩
set_option maxHeartbeats 4000000 in
set_option maxRecDepth 100000 in
theorem Right_calls (x : X) (A2 : Option Addr) (c2 : Nat) (A3 : Option Addr) (c3 : Nat) (w : World) (hx : Has w x A2 c2 A3 c3) (hc : cnt x ≤ 1099511627776) :
    Calls Tryz.prog 13 #[agg x A2 c2 A3 c3] w fun e w' => e = .returned (.bool (RightB x)) ∧ Below w.heap.size w w' := by
  have HR := Aside0.mk (goX_right x hc)
  go_enter Tryz.func13, Tryz.ntmps13
  go_wp2_with fail
  (with_reducible refine (each_calls (Right1_calls (w.heap.size + 1) (w.heap.size + 1 + 1) w (by omega) (by omega) (by omega) (cnt x) (1 + cnt x) (by omega)) (by omega) x (by omega) hx.wf (0, true) _ A2 c2 A3 c3 (by omega) (by omega) ?i1 ?i2 hx.l2 hx.C2 hx.l3 hx.C3 (by simp <;> omega) (by simp <;> omega) (by simp <;> omega)).mono ?_)
  case i1 => exact ⟨(Box.new_at (w.alloc _) _ _ _ (by simp)).a _, Box.new_at ((w.alloc _).alloc _) _ _ _ (by simp)⟩
  case i2 => exact below_alloc (below_alloc (below_alloc (Below.refl _ _) _) _) _
  rintro e w1 ⟨rfl, hI, hB, hK⟩
  have hcl := hI.2.cell
  rw [HR.out] at hcl
  clear hI
  go_wp2
  go_ret
  exact ⟨rfl, hB⟩
end Go.Proofs.YtcinojbfjiohjaaGreatDoor.Ex
end

section
namespace Go.Proofs.YtcinojbfjiohjaaGreatDoor.Ex
open Go Go.RowKit Go.Proofs.YtcinojbfjiohjaaGreatDoor.PPrintTells Go.Proofs.YtcinojbfjiohjaaGreatDoorW.PrintWords Go.Proofs.YtcinojbfjiohjaaGreatDoorW.PrintLast Go.Proofs.YtcinojbfjiohjaaGreatDoorW.PrintMore
set_option linter.unusedVariables false
set_option linter.unusedSimpArgs false
abbrev nil8 : ByteArray := { data := #[] }
structure InBox (b : Nat) (x : X) (A2 : Option Addr) (c2 : Nat) (A3 : Option Addr) (c3 : Nat) (w : World) : Prop where
  q0 : w.cell? ⟨b, 0, none⟩ = some (.int .u8 x.f0)
  q1 : w.cell? ⟨b, 1, none⟩ = some (.string x.f1)
  q2 : w.cell? ⟨b, 2, none⟩ = some (.slice A2 x.f2.length c2)
  q3 : w.cell? ⟨b, 3, none⟩ = some (.slice A3 x.f3.length c3)
  has : Has w x A2 c2 A3 c3
theorem InBox.later {b : Nat} {x : X} {A2 : Option Addr} {c2 : Nat} {A3 : Option Addr} {c3 : Nat} {w w' : World} (h : InBox b x A2 c2 A3 c3 w) (hb : Below w.heap.size w w') : InBox b x A2 c2 A3 c3 w' :=
  ⟨cell_later hb h.q0, cell_later hb h.q1, cell_later hb h.q2, cell_later hb h.q3, h.has.below hb⟩
theorem InBox.a {b : Nat} {x : X} {A2 : Option Addr} {c2 : Nat} {A3 : Option Addr} {c3 : Nat} {w : World} (h : InBox b x A2 c2 A3 c3 w) (o : Obj) : InBox b x A2 c2 A3 c3 (w.alloc o) := h.later (below_alloc (Below.refl _ _) _)
theorem InBox.lt {b : Nat} {x : X} {A2 : Option Addr} {c2 : Nat} {A3 : Option Addr} {c3 : Nat} {w : World} (h : InBox b x A2 c2 A3 c3 w) : b < w.heap.size := World.block_lt_of_cell? _ _ h.q0
theorem InBox.new {x : X} {A2 : Option Addr} {c2 : Nat} {A3 : Option Addr} {c3 : Nat} {w : World} (h : Has w x A2 c2 A3 c3) (t : TypeId) (k : Nat) (hk : k = w.heap.size) :
    InBox k x A2 c2 A3 c3 (w.alloc (.cells #[.int .u8 x.f0, .string x.f1, .slice A2 x.f2.length c2, .slice A3 x.f3.length c3] t)) := by
  subst hk
  refine ⟨?_, ?_, ?_, ?_, h.below (below_alloc (Below.refl _ _) _)⟩ <;> (rw [World.cell?_alloc_at _ _ _ _ rfl]; rfl)
theorem Has.a {x : X} {A2 : Option Addr} {c2 : Nat} {A3 : Option Addr} {c3 : Nat} {w : World} (h : Has w x A2 c2 A3 c3) (o : Obj) : Has (w.alloc o) x A2 c2 A3 c3 := h.below (below_alloc (Below.refl _ _) _)
end Go.Proofs.YtcinojbfjiohjaaGreatDoor.Ex
end

section
namespace Go.Proofs.YtcinojbfjiohjaaGreatDoor.Pr
open Go Go.RowKit Go.Proofs.YtcinojbfjiohjaaGreatDoor.PPrintTells Go.Proofs.YtcinojbfjiohjaaGreatDoor.Ex Go.Proofs.YtcinojbfjiohjaaGreatDoorW.PrintWords Go.Proofs.YtcinojbfjiohjaaGreatDoorW.PrintLast Go.Proofs.YtcinojbfjiohjaaGreatDoorW.PrintMore
open Go.Proofs.YtcinojbfjiohjaaGreatDoor.Pa (opsL)
set_option linter.unusedVariables false
set_option linter.unusedSimpArgs false
def putsF : List UInt8 → List (List UInt8) → List UInt8
  | _, [] => []
  | sep, a :: r => sep ++ a ++ putsF [44, 32] r
def opB (o : Int) : List UInt8 := ((wordsN 12).getD o.toNat e8).data.toList
mutual
def lineB : X → List UInt8
  | ⟨o, s, ns, xs⟩ => if o = 0 then s.data.toList else opB o ++ (putsF [40] (ns.map Lib.itoa ++ linesB xs) ++ [41])
def linesB : List X → List (List UInt8)
  | [] => []
  | y :: ys => lineB y :: linesB ys
end
theorem lineB_eq (x : X) : lineB x = if x.f0 = 0 then x.f1.data.toList else opB x.f0 ++ (putsF [40] (x.f2.map Lib.itoa ++ linesB x.f3) ++ [41]) := by cases x; rw [lineB]
theorem linesB_nil : linesB [] = [] := by rw [linesB]
theorem linesB_cons (y : X) (ys : List X) : linesB (y :: ys) = lineB y :: linesB ys := by rw [linesB]
theorem linesB_app (xs ys : List X) : linesB (xs ++ ys) = linesB xs ++ linesB ys := by
  induction xs with
  | nil => rw [List.nil_append, linesB_nil, List.nil_append]
  | cons x xs ih => rw [List.cons_append, linesB_cons, linesB_cons, ih, List.cons_append]
theorem linesB_len (xs : List X) : (linesB xs).length = xs.length := by
  induction xs with
  | nil => rw [linesB_nil]; rfl
  | cons x xs ih => rw [linesB_cons, List.length_cons, List.length_cons, ih]
def sepB (n : Nat) : List UInt8 := if n = 0 then [40] else [44, 32]
theorem putsF_snoc (s a : List UInt8) (l : List (List UInt8)) : putsF s (l ++ [a]) = putsF s l ++ ((if l = [] then s else [44, 32]) ++ a) := by
  induction l generalizing s with
  | nil => rw [if_pos rfl, List.nil_append]; simp [putsF]
  | cons x r ih =>
    rw [List.cons_append, putsF, putsF, ih, if_neg (List.cons_ne_nil _ _)]
    by_cases h : r = []
    · rw [if_pos h]; simp [List.append_assoc]
    · rw [if_neg h]; simp [List.append_assoc]
theorem puts_next (a : List UInt8) (l : List (List UInt8)) : putsF [40] (l ++ [a]) = putsF [40] l ++ sepB l.length ++ a := by
  rw [putsF_snoc, ← List.append_assoc]
  unfold sepB
  cases l with
  | nil => rfl
  | cons x r => rw [if_neg (List.cons_ne_nil _ _), if_neg (by simp)]
theorem puts_le (s : List UInt8) (l r : List (List UInt8)) : (putsF s l).length ≤ (putsF s (l ++ r)).length := by
  induction l generalizing s with
  | nil => exact Nat.zero_le _
  | cons x l ih =>
    rw [List.cons_append, putsF, putsF]
    have h := ih [44, 32]
    simp only [List.length_append]
    omega
theorem IsPrn.later {B b : Nat} {ws : List Value} {l : List UInt8} {w w' : World} (h : IsPrn B b ws l w) (hb : Below w.heap.size w w') : IsPrn B b ws l w' := by
  have go : ∀ p, PrnAt B b p ws l w → PrnAt B b p ws l w' := fun p h => by
    obtain ⟨v, hv, hown⟩ := h.ex
    refine ⟨h.lo, v, blk_below hv hb, hown.kept (grown_of_below hb none) ?_⟩
    cases hv2 : v.ownBlock with
    | none => exact .inl rfl
    | some k => exact .inr (by simp)
  rcases h with h | h
  · exact .inl (go _ h)
  · exact .inr (go _ h)
theorem IsPrn.lt {B b : Nat} {ws : List Value} {l : List UInt8} {w : World} (h : IsPrn B b ws l w) : b < w.heap.size := by
  rcases h with h | h
  · exact h.lt
  · exact h.lt
theorem Put.later {B b : Nat} {a w w' : World} (h : Put B b a w) (hB : B ≤ w.heap.size) (hb : Below w.heap.size w w') : Put B b a w' := ⟨below_then h.low hB hb, Lib.OthersKept.below h.oth hb⟩
theorem gPow : Tryz.prog.globalNamed "internal/strconv.uint64pow10" = some 3 := by kernel_rfl
structure PCal (w : World) : Prop where
  pa : Pa.Cal w
  pow : Lib.TabIs Tryz.prog w "internal/strconv.uint64pow10" .u64 Lib.pow10Tab
theorem PCal.l {w w' : World} (h : PCal w) (k : Below w.heap.size w w') : PCal w' := by
  refine ⟨h.pa.l k, ?_⟩
  have hp := h.pow
  have h0 : w.cell? ⟨3, 0, none⟩ = some (.int .u64 1) := hp.cell gPow 0 (by decide)
  exact var?_below k gPow (World.block_lt_of_cell? w _ h0) hp
theorem below_grow (w : World) (k : Nat) (os : Array Obj) : Below w.heap.size w (Sort.grow (w.drewN k) os) :=
  ⟨rfl, rfl, rfl, by rw [Sort.size_grow]; exact Nat.le_add_right _ _, fun i hi => Sort.heap_grow_old (w.drewN k) os hi⟩
set_option maxHeartbeats 4000000 in
theorem number_calls (n : Int) (h0 : -9223372036854775808 ≤ n) (h1 : n ≤ 9223372036854775807) (w : World) (hC : PCal w) :
    Calls Tryz.prog 51 #[.int .i64 n] w fun e w' => e = .returned (.string ⟨(Lib.itoa n).toArray⟩) ∧ Below w.heap.size w w' := by
  have CF := Aside0.mk (Tryz.strconv_FormatInt_10 n h0 h1 w hC.pow)
  generalize Lib.itoa n = t at *
  clear hC
  go_enter Tryz.func51, Tryz.ntmps51
  go_wp2_with fail
  (with_reducible refine CF.out.mono ?_)
  rintro e w1 ⟨rfl, k, os, hw⟩
  have hl : Below w.heap.size w w1 := hw ▸ below_grow w k os
  clear hw CF
  go_wp2
  go_ret
  exact ⟨rfl, hl⟩
theorem ops_len : ∀ o : Int, 0 ≤ o → o ≤ 12 → ∃ x, (wordsN 12)[o.toNat]? = some x := by
  intro o h0 h1
  have h : o.toNat < (wordsN 12).length := by rw [words_len ⟨12, by omega⟩]; omega
  exact ⟨_, List.getElem?_eq_getElem h⟩
theorem prn_word {B b : Nat} {l : List UInt8} {w : World} (h : IsPrn B b wordsV l w) (o : Int) (h0 : 0 ≤ o) (h1 : o ≤ 12) : w.cell? ⟨b, 2 + o.toNat, none⟩ = some (.string ((wordsN 12).getD o.toNat e8)) := by
  have go : ∀ p, PrnAt B b p wordsV l w → w.cell? ⟨b, 2 + o.toNat, none⟩ = some (.string ((wordsN 12).getD o.toNat e8)) := fun p h => by
    obtain ⟨v, hv, _⟩ := h.ex
    rw [Lib.cell_of_heap hv]
    obtain ⟨x, hx⟩ := ops_len o h0 h1
    rw [List.getElem?_toArray, show 2 + o.toNat = o.toNat + 1 + 1 by omega, List.getElem?_cons_succ, List.getElem?_cons_succ]
    unfold wordsV
    rw [List.getElem?_map, hx, List.getD_eq_getElem?_getD, hx]
    rfl
  rcases h with h | h
  · exact go _ h
  · exact go _ h
abbrev bxO (o : Int) (nm : ByteArray) (A2 : Option Addr) (n2 c2 : Nat) (A3 : Option Addr) (n3 c3 : Nat) : Obj := .cells #[.int .u8 o, .string nm, .slice A2 n2 c2, .slice A3 n3 c3] 25
def sepS (n : Nat) : ByteArray := if n = 0 then ⟨#[40]⟩ else ⟨#[44, 32]⟩
theorem sepS_data (n : Nat) : (sepS n).data.toList = sepB n := by
  unfold sepS sepB
  by_cases h : n = 0
  · rw [if_pos h, if_pos h]
  · rw [if_neg h, if_neg h]
theorem op_range {o : Int} {nm : ByteArray} {ns : List Int} {xs : List X} (hwf : Wf ⟨o, nm, ns, xs⟩) (hR : allR ⟨o, nm, ns, xs⟩ = true) (h0 : ¬ o = 0) : 1 ≤ o ∧ o ≤ 12 := by
  have h := hwf.op.1
  rw [allR_eq, Bool.and_eq_true] at hR
  have h1 := hR.1
  unfold rightB at h1
  simp only [Bool.and_eq_true, decide_eq_true_eq] at h1
  have h : 0 ≤ o := h
  omega
theorem rec_right {o : Int} {nm : ByteArray} {ns : List Int} {xs : List X} (hR : allR ⟨o, nm, ns, xs⟩ = true) : allRL xs = true := by
  rw [allR_eq, Bool.and_eq_true] at hR
  exact hR.2
theorem allRL_at {xs : List X} (h : allRL xs = true) (k : Nat) (hk : k < xs.length) : allR xs[k] = true := by
  induction xs generalizing k with
  | nil => simp at hk
  | cons x xs ih =>
    rw [allRL_cons, Bool.and_eq_true] at h
    cases k with
    | zero => exact h.1
    | succ k => exact ih h.2 k (by simpa using hk)
theorem num_at {w : World} {A : Option Addr} {ns : List Int} (h : kI.C w A ns.length ns) (k : Nat) (hk : k < ns.length) : ∃ ad, A = some ad ∧ w.cell? (ad.add k) = some (.int .i64 ns[k]) := by
  obtain ⟨ad, hA, hc⟩ := Kd.at_int h (k : Int) (by omega) (by omega)
  refine ⟨ad, hA, ?_⟩
  rw [Int.toNat_natCast] at hc
  rw [hc]
  congr 2
  first | (unfold rd; rw [Int.toNat_natCast, List.getD_eq_getElem?_getD, List.getElem?_eq_getElem hk]; rfl) | (simp [List.getElem?_eq_getElem hk]; done)
theorem kid_at {w : World} {x : X} {A2 : Option Addr} {c2 : Nat} {A3 : Option Addr} {c3 : Nat} (h : Has w x A2 c2 A3 c3) (k : Nat) (hk : k < x.f3.length) :
    ∃ ad B2 d2 B3 d3, A3 = some ad ∧ w.cell? (ad.add (k * 4)) = some (.int .u8 x.f3[k].f0) ∧ w.cell? ⟨(ad.add (k * 4)).block, (ad.add (k * 4)).off + 1, none⟩ = some (.string x.f3[k].f1) ∧
      w.cell? ⟨(ad.add (k * 4)).block, (ad.add (k * 4)).off + 2, none⟩ = some (.slice B2 x.f3[k].f2.length d2) ∧ w.cell? ⟨(ad.add (k * 4)).block, (ad.add (k * 4)).off + 3, none⟩ = some (.slice B3 x.f3[k].f3.length d3) ∧ Has w x.f3[k] B2 d2 B3 d3 := by
  obtain ⟨ad, B2, d2, B3, d3, hA, e0, e1, e2, e3, l2, g2, l3, g3⟩ := at_T25 h.C3 (k : Int) (by omega) (by omega)
  have er : rd_T25 x.f3 (k : Int) = x.f3[k] := by
    unfold rd_T25
    rw [Int.toNat_natCast, List.getD_eq_getElem?_getD, List.getElem?_eq_getElem hk]
    rfl
  rw [er] at e0 e1 e2 e3 l2 g2 l3 g3
  rw [Int.toNat_natCast] at e0 e1 e2 e3
  exact ⟨ad, B2, d2, B3, d3, hA, e0, e1, e2, e3, ⟨h.wf.child (List.getElem_mem hk), l2, g2, l3, g3⟩⟩
set_option maxHeartbeats 16000000 in
set_option maxRecDepth 100000 in
theorem expr_calls (w0 : World) (hC : PCal w0) (b : Nat) (N : Nat) : ∀ (x : X), cnt x ≤ N → allR x = true → ∀ (A2 : Option Addr) (c2 : Nat) (A3 : Option Addr) (c3 : Nat) (l : List UInt8) (w : World), Has w0 x A2 c2 A3 c3 → Below w0.heap.size w0 w → IsPrn w0.heap.size b wordsV l w → l.length + (lineB x).length ≤ 140737488355000 →
    Calls Tryz.prog 38 #[self b, agg x A2 c2 A3 c3] w fun e w' => e = .returned (.tuple #[]) ∧ IsPrn w0.heap.size b wordsV (l ++ lineB x) w' ∧ Put w0.heap.size b w w' := by
  induction N with
  | zero => intro x hc; exact absurd (cnt_pos x) (by omega)
  | succ N ih =>
    intro x hc hR A2 c2 A3 c3 l w hx hb hp hlen
    have hwl : wordsV.length = 13 := rfl
    have WS := fun (l : List UInt8) (s : ByteArray) (W : World) (h : IsPrn w0.heap.size b wordsV l W) (hl : l.length + s.size ≤ 140737488355328) (hB : w0.heap.size ≤ W.heap.size) => Aside0.mk (WriteString_calls w0.heap.size b wordsV hwl l s W h hl hB)
    have hle := lineB_eq x
    obtain ⟨o, nm, ns, xs⟩ := x
    dsimp only at hle
    have hbw := hp.lt
    have hal : Below w.heap.size w (w.alloc (bxO o nm A2 ns.length c2 A3 xs.length c3)) := below_alloc (Below.refl _ _) _
    have hk1 : (w.alloc (bxO o nm A2 ns.length c2 A3 xs.length c3)).heap[w.heap.size]? = some (bxO o nm A2 ns.length c2 A3 xs.length c3) := blk_new w _
    have hp1 := hp.later hal
    have hb1 := below_then hb hb.size hal
    have PW1 := Aside0.mk ((Put.refl w0.heap.size b w).later hb.size hal)
    have hkb : w.heap.size ≠ b := by omega
    have hB1 : w0.heap.size ≤ (w.alloc (bxO o nm A2 ns.length c2 A3 xs.length c3)).heap.size := hb1.size
    have eg : ∀ args w, (callFunc 48 args).run Tryz.prog w = .ok (.enter 48 args) w := fun args w => by kernel_rfl
    have HC := Aside0.mk hC
    have HX := Aside0.mk hx
    clear hC hx hp hal
    by_cases h0 : o = 0
    · rw [if_pos h0] at hle
      rw [hle] at hlen ⊢
      have e0 : (o == 0) = true := beq_iff_eq.2 h0
      have hq0 : (w.alloc (bxO o nm A2 ns.length c2 A3 xs.length c3)).cell? ⟨w.heap.size, 0, none⟩ = some (.int .u8 o) := (blk_cell hk1 0).trans rfl
      have hq1 : (w.alloc (bxO o nm A2 ns.length c2 A3 xs.length c3)).cell? ⟨w.heap.size, 1, none⟩ = some (.string nm) := (blk_cell hk1 1).trans rfl
      have hsz : nm.data.toList.length = nm.size := Array.length_toList
      have WS1 := WS l nm _ hp1 (by omega) hB1
      clear h0 hR hlen hle ih WS hk1 hp1 hb1 hB1
      go_enter Tryz.func38, Tryz.ntmps38
      go_wp2_with fail
      (with_reducible refine WS1.out.mono ?_)
      rintro e w2 ⟨rfl, hp2, hput2⟩
      go_wp2
      refine bodyPost_ret (results_none rfl _ _ _) rfl ?_
      exact ⟨rfl, hp2, PW1.out.trans hput2⟩
    · obtain ⟨ho0, ho12⟩ : 1 ≤ o ∧ o ≤ 12 := op_range HX.out.wf hR h0
      rw [if_neg h0] at hle
      rw [hle] at hlen ⊢
      have e0 : (o == 0) = false := beq_eq_false_iff_ne.2 h0
      have h1 : 0 ≤ o := by omega
      have h2 : o ≤ 12 := ho12
      have t1 : decide (0 ≤ o) = true := decide_eq_true h1
      have h3 : o < 13 := by omega
      have t2 : decide (o < 13) = true := decide_eq_true h3
      obtain ⟨wd, hwd⟩ : ∃ wd, wd = (wordsN 12).getD o.toNat e8 := ⟨_, rfl⟩
      have hwb : opB o = wd.data.toList := by unfold opB; rw [hwd]
      have HWD := Aside0.mk hwd
      have hsz : wd.data.toList.length = wd.size := Array.length_toList
      have hns : ∀ j, j ≤ ns.length → (putsF [40] ((ns.take j).map Lib.itoa)).length ≤ (putsF [40] (ns.map Lib.itoa ++ linesB xs)).length := fun j hj => by
        have h := puts_le [40] ((ns.take j).map Lib.itoa) ((ns.drop j).map Lib.itoa ++ linesB xs)
        rwa [← List.append_assoc, ← List.map_append, List.take_append_drop] at h
      have hxs : ∀ j, j ≤ xs.length → (putsF [40] (ns.map Lib.itoa ++ linesB (xs.take j))).length ≤ (putsF [40] (ns.map Lib.itoa ++ linesB xs)).length := fun j hj => by
        have h := puts_le [40] (ns.map Lib.itoa ++ linesB (xs.take j)) (linesB (xs.drop j))
        rwa [List.append_assoc, ← linesB_app, List.take_append_drop] at h
      simp only [List.length_append, List.length_singleton] at hlen
      rw [hwb] at hlen ⊢
      have q0 : (w.alloc (bxO o nm A2 ns.length c2 A3 xs.length c3)).drew.cell? ⟨w.heap.size, 0, none⟩ = some (.int .u8 o) := (blk_cell (show (w.alloc (bxO o nm A2 ns.length c2 A3 xs.length c3)).drew.heap[w.heap.size]? = some (bxO o nm A2 ns.length c2 A3 xs.length c3) from hk1) 0).trans rfl
      have hp2 : IsPrn w0.heap.size b wordsV l (w.alloc (bxO o nm A2 ns.length c2 A3 xs.length c3)).drew := hp1.later (below_drew (Below.refl _ _))
      have q1 : (w.alloc (bxO o nm A2 ns.length c2 A3 xs.length c3)).drew.cell? ⟨b, 2 + o.toNat, none⟩ = some (.string wd) := by rw [hwd]; exact prn_word hp2 o h1 h2
      have hB2 : w0.heap.size ≤ (w.alloc (bxO o nm A2 ns.length c2 A3 xs.length c3)).drew.heap.size := hB1
      have hk2 : (w.alloc (bxO o nm A2 ns.length c2 A3 xs.length c3)).drew.heap[w.heap.size]? = some (bxO o nm A2 ns.length c2 A3 xs.length c3) := hk1
      have hq0 : (w.alloc (bxO o nm A2 ns.length c2 A3 xs.length c3)).cell? ⟨w.heap.size, 0, none⟩ = some (.int .u8 o) := (blk_cell hk1 0).trans rfl
      have PW2 := Aside0.mk (show Put w0.heap.size b w (w.alloc (bxO o nm A2 ns.length c2 A3 xs.length c3)).drew from PW1.out.later hB1 (below_drew (Below.refl _ _)))
      have HNS := Aside0.mk hns
      have HXS := Aside0.mk hxs
      have HR := Aside0.mk hR
      have HB := Aside0.mk hb
      have HLN := Aside0.mk hlen
      have IH := Aside0.mk ih
      have HCN := Aside0.mk hc
      have WDL := Aside0.mk (show l.length + wd.size ≤ 140737488355328 by omega)
      have hm2 : ns.length ≤ 9223372036854775807 := Kd.C_max HX.out.C2
      have hm3 : xs.length ≤ 9223372036854775807 := Kd.C_max HX.out.C3
      clear hns hxs hR hb h0 hle hp1 hb1 hlen ih hc hwb hwd
      go_enter Tryz.func38, Tryz.ntmps38
      go_wp2_with fail
      refine start_ (n := 9) (S := fun w' => w'.cell? ⟨w.heap.size, 0, none⟩ = some (.int .u8 o) ∧ w'.cell? ⟨b, 2 + o.toNat, none⟩ = some (.string wd)) (ds := []) #[false, false, false, false, false, false, false, false, false] (by kernel_rfl) rfl rfl ⟨q0, q1⟩ (fun hHeld => ?_)
      refine pure_ (i := 0) (N := some 21) (v := ?_) (a' := ?_) #[true, false, false, false, false, false, false, false, false] rfl rfl (by kernel_rfl) (fun _ _ _ h => h) (Or.inl ⟨by rfl, ?_⟩) ?_ ?_
      rotate_left
      · intro w'
        go_simp
        with_reducible rfl
      rotate_left
      · simp only [Act.put, List.setIfInBounds_toArray, List.set_cons_zero, List.set_cons_succ, i64_w, i32_w]
        rfl
      refine pure_ (i := 1) (N := some 22) (v := ?_) (a' := ?_) #[true, true, false, false, false, false, false, false, false] rfl rfl (by kernel_rfl) (fun _ _ _ h => h) (Or.inl ⟨by rfl, ?_⟩) ?_ ?_
      rotate_left
      · intro w'
        go_simp
        with_reducible rfl
      rotate_left
      · simp only [Act.put, List.setIfInBounds_toArray, List.set_cons_zero, List.set_cons_succ, i64_w, i32_w]
        rfl
      refine pure_ (i := 2) (N := some 23) (v := ?_) (a' := ?_) #[true, true, true, false, false, false, false, false, false] rfl rfl (by kernel_rfl) (fun _ _ _ h => h) (Or.inl ⟨by rfl, ?_⟩) ?_ ?_
      rotate_left
      · intro w'
        go_simp
        with_reducible rfl
      rotate_left
      · simp only [Act.put, List.setIfInBounds_toArray, List.set_cons_zero, List.set_cons_succ, i64_w, i32_w]
        rfl
      refine pure_ (i := 4) (N := some 25) (v := ?_) (a' := ?_) #[true, true, true, false, true, false, false, false, false] rfl rfl (by kernel_rfl) (fun _ _ _ h => h) (Or.inl ⟨by rfl, ?_⟩) ?_ ?_
      rotate_left
      · intro w'
        go_simp
        with_reducible rfl
      rotate_left
      · simp only [Act.put, List.setIfInBounds_toArray, List.set_cons_zero, List.set_cons_succ, i64_w, i32_w]
        rfl
      refine pure_ (i := 5) (N := some 26) (v := ?_) (a' := ?_) #[true, true, true, false, true, true, false, false, false] rfl rfl (by kernel_rfl) (fun _ _ _ h => h) (Or.inl ⟨by rfl, ?_⟩) ?_ ?_
      rotate_left
      · intro w'
        go_simp
        with_reducible rfl
      rotate_left
      · simp only [Act.put, List.setIfInBounds_toArray, List.set_cons_zero, List.set_cons_succ, i64_w, i32_w]
        rfl
      refine take_ (i := 3) (N := some 24) (v := ?_) (a' := ?_) #[true, true, true, true, true, true, false, false, false] rfl rfl (by kernel_rfl) (fun _ _ _ h => h) (Or.inl ⟨by rfl, ?_⟩) hHeld ?_ ?_
      rotate_left
      · rintro w' ⟨s0, s1⟩
        go_simp
        with_reducible rfl
      rotate_left
      · simp only [Act.put, List.setIfInBounds_toArray, List.set_cons_zero, List.set_cons_succ, i64_w, i32_w]
        rfl
      refine pure_ (i := 6) (N := some 27) (v := ?_) (a' := ?_) #[true, true, true, true, true, true, true, false, false] rfl rfl (by kernel_rfl) (fun _ _ _ h => h) (Or.inl ⟨by rfl, ?_⟩) ?_ ?_
      rotate_left
      · intro w'
        go_simp
        with_reducible rfl
      rotate_left
      · simp only [Act.put, List.setIfInBounds_toArray, List.set_cons_zero, List.set_cons_succ, i64_w, i32_w]
        rfl
      refine take_ (i := 7) (N := some 28) (v := ?_) (a' := ?_) #[true, true, true, true, true, true, true, true, false] rfl rfl (by kernel_rfl) (fun _ _ _ h => h) (Or.inl ⟨by rfl, ?_⟩) hHeld ?_ ?_
      rotate_left
      · rintro w' ⟨s0, s1⟩
        go_simp
        with_reducible rfl
      rotate_left
      · simp only [Act.put, List.setIfInBounds_toArray, List.set_cons_zero, List.set_cons_succ, i64_w, i32_w]
        rfl
      refine one_ (i := 8) (N := some 29) #[true, true, true, true, true, true, true, true, true] rfl rfl (by kernel_rfl) (by decide) (fun K hK => ?_)
      refine call_ 48 #[self b, .string wd] (by rfl) rfl ?_ ?_
      · first | (go_simp; done) | (go_simp; exact eg _ _)
      with_reducible refine (WS l wd _ hp2 WDL.out hB2).out.mono ?_
      rintro e w4 ⟨rfl, hp4, hput4⟩
      refine ⟨_, rfl, ?_⟩
      have hk4 := hput4.keeps hk2 hkb (by decide)
      have HP4 := Aside0.mk hp4
      have PW4 := Aside0.mk (PW2.out.trans hput4)
      refine hK.out _ _ ⟨(blk_cell hk4 0).trans rfl, by rw [HWD.out]; exact prn_word hp4 o h1 h2⟩ (fun hHeld => ?_)
      clear hK K
      refine norm_ (a' := ?_) ?_ ?_
      rotate_left
      · show Act.put _ (some 29) _ = _
        simp only [Act.put, List.setIfInBounds_toArray, List.set_cons_zero, List.set_cons_succ, i64_w, i32_w]
        rfl
      refine done_ (by kernel_rfl) ?_
      have hlo : w.heap.size < w4.heap.size := (Array.getElem?_eq_some_iff.1 hk4).1
      have r2 : w4.cell? ⟨w.heap.size, 2, none⟩ = some (.slice A2 ns.length c2) := (blk_cell hk4 2).trans rfl
      have HK4 := Aside0.mk hk4
      clear hk4 hHeld q0 q1 hp4 hput4 hk2 hp2 hB2 hq0 hk1 hB1
      go_wp2_with fail
      go_loopw [5, 33] (fun sp i wr => ∃ k : Nat, k ≤ ns.length ∧ sp = .string (sepS k) ∧ i = .int .i64 (k : Int) ∧ IsPrn w0.heap.size b wordsV (l ++ wd.data.toList ++ putsF [40] ((ns.take k).map Lib.itoa)) wr ∧ Put w0.heap.size b w4 wr) (fun _ i _ => ns.length - (intOf i).toNat)
      case atStart => exact ⟨0, Nat.zero_le _, rfl, rfl, by rw [List.take_zero, List.map_nil]; simpa [putsF] using HP4.out, Put.refl _ _ _⟩
      case round =>
        obtain ⟨k, hk, rfl, rfl, hpk, hputk⟩ := hrel
        have HPK := Aside0.mk hpk
        have PK := Aside0.mk hputk
        have hBk : w0.heap.size ≤ wr.heap.size := Nat.le_trans (Nat.le_trans HB.out.size (Nat.le_of_lt hlo)) hputk.low.size
        have CKk := Aside0.mk (PCal.l HC.out (HB.out.trans (PW4.out.low.trans hputk.low)))
        clear hpk hputk
        by_cases hkn : k < ns.length
        · have i1 : (k : Int) < (ns.length : Int) := by omega
          have i2 : decide ((k : Int) < (ns.length : Int)) = true := decide_eq_true i1
          obtain ⟨ad, hA, hx1⟩ := num_at HX.out.C2 k hkn
          subst hA
          have hx2 := ((HB.out.trans (PW4.out.low.trans PK.out.low)).cell (World.block_lt_of_cell? w0 _ hx1)).trans hx1
          obtain ⟨n, hn⟩ : ∃ n, n = ns[k] := ⟨_, rfl⟩
          rw [← hn] at hx2
          have hnr : -9223372036854775808 ≤ n ∧ n ≤ 9223372036854775807 := by rw [hn]; exact HX.out.wf.nums _ (List.getElem_mem _)
          have hnext : putsF [40] ((ns.take (k + 1)).map Lib.itoa) = putsF [40] ((ns.take k).map Lib.itoa) ++ sepB k ++ Lib.itoa n := by
            rw [List.take_succ_eq_append_getElem hkn, List.map_append, List.map_singleton, puts_next, List.length_map, List.length_take, Nat.min_eq_left hk, ← hn]
          have hnl := HNS.out (k + 1) hkn
          rw [hnext, List.length_append, List.length_append] at hnl
          have HNX := Aside0.mk hnext
          have hll : (l ++ wd.data.toList ++ putsF [40] ((ns.take k).map Lib.itoa)).length + (sepB k).length + (Lib.itoa n).length ≤ 140737488355328 := by
            have := HLN.out
            rw [List.length_append, List.length_append]
            omega
          obtain ⟨L, hL⟩ : ∃ L, L = l ++ wd.data.toList ++ putsF [40] ((ns.take k).map Lib.itoa) := ⟨_, rfl⟩
          rw [← hL] at hll HPK
          have HLL := Aside0.mk hL
          obtain ⟨tn, htn⟩ : ∃ tn : ByteArray, tn = ⟨(Lib.itoa n).toArray⟩ := ⟨_, rfl⟩
          have htl : tn.data.toList = Lib.itoa n := by rw [htn]
          have hts : tn.size = (Lib.itoa n).length := by rw [htn]; exact List.size_toArray
          have hss : (sepS k).size = (sepB k).length := by rw [← sepS_data]; exact (Array.length_toList).symm
          have W1 := WS L (sepS k) wr HPK.out (by omega) hBk
          have CN := fun W (h : PCal W) => Aside0.mk (number_calls n hnr.1 hnr.2 W h)
          rw [← htn] at CN
          have HTL := Aside0.mk htl
          have HBD := Aside0.mk (show (L ++ sepB k).length + tn.size ≤ 140737488355328 by rw [List.length_append, hts]; omega)
          clear hx1 hn hnl hll hL htn htl hts hss hnext hnr
          go_wp2_with fail
          (with_reducible refine W1.out.mono ?_)
          rintro e w5 ⟨rfl, hp5, hput5⟩
          rw [sepS_data] at hp5
          have PK5 := Aside0.mk (PK.out.trans hput5)
          have HP5 := Aside0.mk hp5
          have CK5 := Aside0.mk (PCal.l HC.out (HB.out.trans (PW4.out.low.trans PK5.out.low)))
          have hB5 : w0.heap.size ≤ w5.heap.size := Nat.le_trans hBk hput5.low.size
          clear hp5 hput5 W1 hx2
          go_wp2_with fail
          (with_reducible refine (CN _ CK5.out).out.mono ?_)
          rintro e w6 ⟨rfl, hb6⟩
          have HP6 := Aside0.mk (HP5.out.later hb6)
          have PK6 := Aside0.mk (PK5.out.later hB5 hb6)
          have W6 := WS (L ++ sepB k) tn w6 HP6.out HBD.out (Nat.le_trans hB5 hb6.size)
          clear hb6
          go_wp2_with fail
          (with_reducible refine W6.out.mono ?_)
          rintro e w7 ⟨rfl, hp7, hput7⟩
          rw [HTL.out] at hp7
          have PK7 := Aside0.mk (PK6.out.trans hput7)
          have HP7 := Aside0.mk hp7
          clear hp7 hput7 W6
          go_wp2_with fail
          go_roundw
          case rel => exact ⟨k + 1, by omega, rfl, by go_num, by rw [HNX.out, ← List.append_assoc, ← List.append_assoc, ← HLL.out]; exact HP7.out, PK7.out⟩
          case measure => simp [intOf]; omega
        · have hk' : k = ns.length := by omega
          have i1 : ¬ (k : Int) < (ns.length : Int) := by omega
          have i2 : decide ((k : Int) < (ns.length : Int)) = false := decide_eq_false i1
          have hkk := PK.out.keeps HK4.out hkb (by decide)
          have r3 : wr.cell? ⟨w.heap.size, 3, none⟩ = some (.slice A3 xs.length c3) := (blk_cell hkk 3).trans rfl
          rw [hk', List.take_length] at HPK
          have HKE := Aside0.mk hk'
          have PWk := Aside0.mk (PW4.out.trans PK.out)
          clear hk' hkk
          go_wp2_with fail
          go_loopw [5, 48] (fun sp i wv => ∃ j : Nat, j ≤ xs.length ∧ sp = .string (sepS (k + j)) ∧ i = .int .i64 (j : Int) ∧ IsPrn w0.heap.size b wordsV (l ++ wd.data.toList ++ putsF [40] (ns.map Lib.itoa ++ linesB (xs.take j))) wv ∧ Put w0.heap.size b wr wv) (fun _ i _ => xs.length - (intOf i).toNat)
          case atStart => exact ⟨0, Nat.zero_le _, rfl, rfl, by rw [List.take_zero, linesB_nil, List.append_nil]; exact HPK.out, Put.refl _ _ _⟩
          case round =>
            obtain ⟨j, hj, rfl, rfl, hpj, hputj⟩ := hrel
            have HPJ := Aside0.mk hpj
            have PJ := Aside0.mk hputj
            have hBj : w0.heap.size ≤ wr.heap.size := Nat.le_trans hBk hputj.low.size
            clear hpj hputj
            by_cases hjn : j < xs.length
            · have i3 : (j : Int) < (xs.length : Int) := by omega
              have i4 : decide ((j : Int) < (xs.length : Int)) = true := decide_eq_true i3
              obtain ⟨ad, B2, d2, B3, d3, hA, e1, e2, e3, e4, hy⟩ := kid_at HX.out j hjn
              subst hA
              have hbj := HB.out.trans (PWk.out.low.trans PJ.out.low)
              have e1 := (hbj.cell (World.block_lt_of_cell? w0 _ e1)).trans e1
              have e2 := (hbj.cell (World.block_lt_of_cell? w0 _ e2)).trans e2
              have e3 := (hbj.cell (World.block_lt_of_cell? w0 _ e3)).trans e3
              have e4 := (hbj.cell (World.block_lt_of_cell? w0 _ e4)).trans e4
              have hyc := cnt_child (x := ⟨o, nm, ns, xs⟩) (List.getElem_mem hjn)
              have hyR := allRL_at (rec_right HR.out) j hjn
              have hnext : putsF [40] (ns.map Lib.itoa ++ linesB (xs.take (j + 1))) = putsF [40] (ns.map Lib.itoa ++ linesB (xs.take j)) ++ sepB (k + j) ++ lineB xs[j] := by
                rw [List.take_succ_eq_append_getElem hjn, linesB_app, linesB_cons, linesB_nil, ← List.append_assoc, puts_next, List.length_append, List.length_map, linesB_len, List.length_take, Nat.min_eq_left hj, ← HKE.out]
              have hnl := HXS.out (j + 1) hjn
              rw [hnext, List.length_append, List.length_append] at hnl
              have HNX := Aside0.mk hnext
              have hll : (l ++ wd.data.toList ++ putsF [40] (ns.map Lib.itoa ++ linesB (xs.take j))).length + (sepB (k + j)).length + (lineB xs[j]).length ≤ 140737488355000 := by
                have := HLN.out
                rw [List.length_append, List.length_append]
                omega
              obtain ⟨y, hyy⟩ : ∃ y, y = xs[j] := ⟨_, rfl⟩
              rw [← hyy] at e1 e2 e3 e4 hy hyc hyR hll HNX
              obtain ⟨L, hL⟩ : ∃ L, L = l ++ wd.data.toList ++ putsF [40] (ns.map Lib.itoa ++ linesB (xs.take j)) := ⟨_, rfl⟩
              rw [← hL] at hll HPJ
              have HLL := Aside0.mk hL
              have hss : (sepS (k + j)).size = (sepB (k + j)).length := by rw [← sepS_data]; exact (Array.length_toList).symm
              have hal5 : Below wr.heap.size wr (wr.alloc (bxO y.f0 y.f1 B2 y.f2.length d2 B3 y.f3.length d3)) := below_alloc (Below.refl _ _) _
              have hk5 : (wr.alloc (bxO y.f0 y.f1 B2 y.f2.length d2 B3 y.f3.length d3)).heap[wr.heap.size]? = some (bxO y.f0 y.f1 B2 y.f2.length d2 B3 y.f3.length d3) := blk_new wr _
              have hkb5 : wr.heap.size ≠ b := by have := HPJ.out.lt; omega
              have PA5 := Aside0.mk (PJ.out.later hBj hal5)
              have W1 := WS L (sepS (k + j)) _ (HPJ.out.later hal5) (by omega) (Nat.le_trans hBj hal5.size)
              have CE := fun W h1 h2 => Aside0.mk (IH.out y (by have := HCN.out; omega) hyR B2 d2 B3 d3 (L ++ sepB (k + j)) W hy h1 h2 (by rw [List.length_append]; omega))
              clear hyc hyR hll hL hss hyy hnext hnl hbj hy hal5
              go_wp2_with fail
              (with_reducible refine W1.out.mono ?_)
              rintro e w6 ⟨rfl, hp6, hput6⟩
              rw [sepS_data] at hp6
              have hk6 := hput6.keeps hk5 hkb5 (by decide)
              have PJ6 := Aside0.mk (PA5.out.trans hput6)
              have HP6 := Aside0.mk hp6
              have y0 : w6.cell? ⟨wr.heap.size, 0, none⟩ = some (.int .u8 y.f0) := (blk_cell hk6 0).trans rfl
              have y1 : w6.cell? ⟨wr.heap.size, 1, none⟩ = some (.string y.f1) := (blk_cell hk6 1).trans rfl
              have y2 : w6.cell? ⟨wr.heap.size, 2, none⟩ = some (.slice B2 y.f2.length d2) := (blk_cell hk6 2).trans rfl
              have y3 : w6.cell? ⟨wr.heap.size, 3, none⟩ = some (.slice B3 y.f3.length d3) := (blk_cell hk6 3).trans rfl
              clear hp6 hput6 W1 e1 e2 e3 e4 hk5 hk6
              go_wp2_with fail
              (with_reducible refine (CE _ (HB.out.trans (PWk.out.low.trans PJ6.out.low)) HP6.out).out.mono ?_)
              rintro e w7 ⟨rfl, hp7, hput7⟩
              have PJ7 := Aside0.mk (PJ6.out.trans hput7)
              have HP7 := Aside0.mk hp7
              clear hp7 hput7 CE y0 y1 y2 y3
              go_wp2_with fail
              go_roundw
              case rel => exact ⟨j + 1, by omega, rfl, by go_num, by rw [HNX.out, ← List.append_assoc, ← List.append_assoc, ← HLL.out]; exact HP7.out, PJ7.out⟩
              case measure => simp [intOf]; omega
            · have hj' : j = xs.length := by omega
              have i3 : ¬ (j : Int) < (xs.length : Int) := by omega
              have i4 : decide ((j : Int) < (xs.length : Int)) = false := decide_eq_false i3
              rw [hj', List.take_length] at HPJ
              have W1 := WS _ ⟨#[41]⟩ wr HPJ.out (by
                have := HLN.out
                rw [List.length_append, List.length_append]
                have h1 : (⟨#[41]⟩ : ByteArray).size = 1 := rfl
                omega) hBj
              have PF := Aside0.mk (PWk.out.trans PJ.out)
              clear hj'
              go_wp2_with fail
              (with_reducible refine W1.out.mono ?_)
              rintro e w8 ⟨rfl, hp8, hput8⟩
              have HP8 := Aside0.mk hp8
              have PF8 := Aside0.mk (PF.out.trans hput8)
              clear hp8 hput8 W1
              go_wp2
              go_end0
              refine ⟨rfl, ?_, PF8.out⟩
              have h8 := HP8.out
              simpa [List.append_assoc] using h8
end Go.Proofs.YtcinojbfjiohjaaGreatDoor.Pr
end

section
namespace Go.Proofs.YtcinojbfjiohjaaGreatDoor.Pr
open Go Go.RowKit Go.Proofs.YtcinojbfjiohjaaGreatDoor.PPrintTells Go.Proofs.YtcinojbfjiohjaaGreatDoor.Ex Go.Proofs.YtcinojbfjiohjaaGreatDoorW.PrintWords Go.Proofs.YtcinojbfjiohjaaGreatDoorW.PrintLast Go.Proofs.YtcinojbfjiohjaaGreatDoorW.PrintMore
open Go.Proofs.YtcinojbfjiohjaaGreatDoor.Pa (opsL)
set_option linter.unusedVariables false
set_option linter.unusedSimpArgs false
theorem dec_len (k : Nat) : ∀ u, u < 10 ^ k → 1 ≤ k → (Lib.decDigits u).length ≤ k := by
  induction k with
  | zero => intro u _ h; omega
  | succ k ih =>
    intro u hu _
    by_cases h : u < 10
    · rw [Lib.decDigits, dif_pos h]; simp
    · rw [Lib.decDigits, dif_neg h, List.length_append, List.length_singleton]
      have hk : 1 ≤ k := by
        rcases Nat.eq_zero_or_pos k with h0 | h0
        · subst h0; rw [show 10 ^ (0 + 1) = 10 from rfl] at hu; omega
        · exact h0
      have := ih (u / 10) (by rw [Nat.pow_succ] at hu; omega) hk
      omega
theorem itoa_len (n : Int) (h0 : -9223372036854775808 ≤ n) (h1 : n ≤ 9223372036854775807) : (Lib.itoa n).length ≤ 21 := by
  unfold Lib.itoa
  split
  · have := dec_len 20 n.natAbs (by omega) (by omega)
    rw [List.length_cons]
    omega
  · have := dec_len 20 n.toNat (by omega) (by omega)
    omega
theorem ops_short : ∀ k : Fin 13, ((wordsN 12).getD k.val e8).data.toList.length ≤ 7 := by decide +kernel
theorem ops_some : ∀ k : Fin 13, k.val ≠ 0 → ((wordsN 12).getD k.val e8).data.toList ≠ [] := by decide +kernel
def sumL : List (List UInt8) → Nat
  | [] => 0
  | a :: r => a.length + sumL r
theorem sumL_app (l r : List (List UInt8)) : sumL (l ++ r) = sumL l + sumL r := by
  induction l with
  | nil => rw [List.nil_append]; show _ = 0 + _; omega
  | cons a l ih => rw [List.cons_append]; show a.length + sumL (l ++ r) = a.length + sumL l + sumL r; omega
theorem puts_sum (s : List UInt8) (hs : s.length ≤ 2) (l : List (List UInt8)) : (putsF s l).length ≤ sumL l + 2 * l.length := by
  induction l generalizing s with
  | nil => exact Nat.zero_le _
  | cons a r ih =>
    have h := ih [44, 32] (by simp)
    rw [putsF, List.length_append, List.length_append, List.length_cons]
    show _ ≤ a.length + sumL r + _
    omega
theorem nums_sum (ns : List Int) (h : ∀ k ∈ ns, -9223372036854775808 ≤ k ∧ k ≤ 9223372036854775807) : sumL (ns.map Lib.itoa) ≤ 21 * ns.length := by
  induction ns with
  | nil => exact Nat.zero_le _
  | cons n ns ih =>
    have h1 := h n (by simp)
    have h2 := itoa_len n h1.1 h1.2
    have h3 := ih (fun k hk => h k (by simp [hk]))
    rw [List.map_cons, List.length_cons]
    show (Lib.itoa n).length + sumL _ ≤ _
    omega
mutual
theorem line_le : ∀ x : X, Wf x → allR x = true → (lineB x).length ≤ 100 * cnt x
  | ⟨o, nm, ns, xs⟩, hwf, hR => by
    rw [lineB_eq, cnt_eq]
    dsimp only
    have hr := hR
    rw [allR_eq, Bool.and_eq_true] at hr
    have h1 := hr.1
    unfold rightB at h1
    simp only [Bool.and_eq_true, decide_eq_true_eq] at h1
    obtain ⟨⟨⟨h3, h4⟩, h5⟩, h6⟩ := h1
    by_cases h0 : o = 0
    · rw [if_pos h0] at h6 ⊢
      unfold nameB at h6
      cases hl : nm.data.toList with
      | nil => simp
      | cons b l =>
        rw [hl] at h6
        unfold nameL at h6
        simp only [Bool.and_eq_true, decide_eq_true_eq] at h6
        rw [List.length_cons]
        omega
    · rw [if_neg h0]
      obtain ⟨ho1, ho2⟩ := op_range hwf hR h0
      have hop : (opB o).length ≤ 7 := ops_short ⟨o.toNat, by omega⟩
      have hn : numsOf o ≤ 3 := by unfold numsOf; repeat' split <;> omega
      have hn0 : (ns.length : Int) ≤ 3 := by rw [h4]; exact hn
      have ha : argsOf o ≤ 2 := by unfold argsOf; repeat' split <;> omega
      have ha0 : (xs.length : Int) ≤ 2 := by rw [h5]; exact ha
      have hs := puts_sum [40] (by simp) (ns.map Lib.itoa ++ linesB xs)
      have h7 := nums_sum ns hwf.nums
      have h8 := lines_le xs (fun y hy => hwf.child hy) (rec_right hR)
      rw [sumL_app, List.length_append, List.length_map, linesB_len] at hs
      rw [List.length_append, List.length_append, List.length_singleton]
      omega
theorem lines_le : ∀ xs : List X, (∀ y ∈ xs, Wf y) → allRL xs = true → sumL (linesB xs) ≤ 100 * cntL xs
  | [], _, _ => by rw [linesB_nil]; exact Nat.zero_le _
  | y :: ys, hwf, hR => by
    rw [allRL_cons, Bool.and_eq_true] at hR
    have h1 := line_le y (hwf y (by simp)) hR.1
    have h2 := lines_le ys (fun z hz => hwf z (by simp [hz])) hR.2
    rw [linesB_cons, cntL_cons]
    show (lineB y).length + sumL (linesB ys) ≤ _
    omega
end
theorem line_ne {x : X} (hwf : Wf x) (hR : allR x = true) : lineB x ≠ [] := by
  obtain ⟨o, nm, ns, xs⟩ := x
  rw [lineB_eq]
  dsimp only
  by_cases h0 : o = 0
  · rw [if_pos h0]
    rw [allR_eq, Bool.and_eq_true] at hR
    have h1 := hR.1
    unfold rightB at h1
    simp only [Bool.and_eq_true, decide_eq_true_eq] at h1
    have h6 := h1.2
    rw [if_pos h0] at h6
    intro h
    unfold nameB at h6
    rw [h] at h6
    cases h6
  · rw [if_neg h0]
    obtain ⟨ho1, ho2⟩ := op_range hwf hR h0
    intro h
    have := (List.append_eq_nil_iff.1 h).1
    exact ops_some ⟨o.toNat, by omega⟩ (by show o.toNat ≠ 0; omega) this
theorem cells4 {W : World} {j : Nat} {t : TypeId} {c0 c1 c2 c3 : Value} (h : W.heap[j]? = some (.cells #[c0, c1, c2, c3] t (0, 0))) : W.cell? ⟨j, 0, none⟩ = some c0 ∧ W.cell? ⟨j, 1, none⟩ = some c1 ∧ W.cell? ⟨j, 2, none⟩ = some c2 ∧ W.cell? ⟨j, 3, none⟩ = some c3 :=
  ⟨(blk_cell h 0).trans rfl, (blk_cell h 1).trans rfl, (blk_cell h 2).trans rfl, (blk_cell h 3).trans rfl⟩
def lineE (x : X) : ByteArray × Int := if RightB x = true then (⟨(lineB x).toArray⟩, 0) else (e8, 110)
theorem right_all {x : X} (h : RightB x = true) : allR x = true ∧ cnt x ≤ 2000 := by
  unfold RightB at h
  simp only [Bool.and_eq_true, decide_eq_true_eq] at h
  exact ⟨h.1.1, h.2⟩
set_option maxHeartbeats 8000000 in
set_option maxRecDepth 100000 in
theorem Expr_calls (x : X) (A2 : Option Addr) (c2 : Nat) (A3 : Option Addr) (c3 : Nat) (w : World) (hC : PCal w) (hx : Has w x A2 c2 A3 c3) (hc : cnt x ≤ 1099511627776) :
    Calls Tryz.prog 12 #[agg x A2 c2 A3 c3] w fun e w' => e = .returned (.tuple #[.string (lineE x).1, .int .i64 (lineE x).2]) ∧ Below w.heap.size w w' := by
  have hal : Below w.heap.size w (w.alloc (bxO x.f0 x.f1 A2 x.f2.length c2 A3 x.f3.length c3)) := below_alloc (Below.refl _ _) _
  have hk1 : (w.alloc (bxO x.f0 x.f1 A2 x.f2.length c2 A3 x.f3.length c3)).heap[w.heap.size]? = some (bxO x.f0 x.f1 A2 x.f2.length c2 A3 x.f3.length c3) := blk_new w _
  have CR := Aside0.mk (Right_calls x A2 c2 A3 c3 _ (hx.below hal) hc)
  have HC := Aside0.mk hC
  have HX := Aside0.mk hx
  have HB := Aside0.mk hal
  obtain ⟨z0, z1, z2, z3⟩ := cells4 hk1
  clear hC hx hal
  by_cases hR : RightB x = true
  · have hl : lineE x = (⟨(lineB x).toArray⟩, 0) := by unfold lineE; rw [if_pos hR]
    obtain ⟨hA, hcn⟩ := right_all hR
    have hle := line_le x HX.out.wf hA
    have hne := line_ne HX.out.wf hA
    rw [hR] at CR
    rw [hl]
    have CE := fun (W : World) (hW : PCal W) (b : Nat) (w : World) (h1 : Has W x A2 c2 A3 c3) (h2 : Below W.heap.size W w) (h3 : IsPrn W.heap.size b wordsV [] w) => Aside0.mk (expr_calls W hW b (cnt x) x (Nat.le_refl _) hA A2 c2 A3 c3 [] w h1 h2 h3 (by simp; omega))
    obtain ⟨t, ht⟩ : ∃ t, t = lineB x := ⟨_, rfl⟩
    rw [← ht] at hne CE ⊢
    dsimp only
    clear hl hR hle ht
    go_enter Tryz.func12, Tryz.ntmps12
    go_wp2_with fail
    (with_reducible refine CR.out.mono ?_)
    rintro e w1 ⟨rfl, hb1⟩
    have HB1 := Aside0.mk (below_then HB.out HB.out.size hb1)
    have hk2 := blk_below hk1 hb1
    clear hb1 CR z0 z1 z2 z3
    go_wp2_with fail
    (with_reducible refine (made_calls w1 (HC.out.l HB1.out).pa).mono ?_)
    rintro e w2 ⟨b, rfl, hbb, hp2, hb2⟩
    have hk3 := blk_below hk2 hb2
    obtain ⟨z0, z1, z2, z3⟩ := cells4 hk3
    have HP2 := Aside0.mk hp2
    have HB2 := Aside0.mk hb2
    clear hb2 hp2
    go_wp2_with fail
    (with_reducible refine (CE w1 (HC.out.l HB1.out) b w2 (HX.out.below HB1.out) HB2.out HP2.out).out.mono ?_)
    rintro e w3 ⟨rfl, hp3, hput3⟩
    rw [List.nil_append] at hp3
    have HB3 := Aside0.mk (HB2.out.trans hput3.low)
    have HS := Aside0.mk (String_calls w1.heap.size b wordsV t w3 hp3 hne)
    clear hp3 hput3 CE z0 z1 z2 z3
    go_wp2_with fail
    (with_reducible refine HS.out.mono ?_)
    rintro e w4 ⟨rfl, hb4⟩
    have HF := Aside0.mk (below_then HB1.out HB1.out.size (HB3.out.trans hb4))
    go_wp2
    go_ret2
    exact ⟨rfl, HF.out⟩
  · have hl : lineE x = (e8, 110) := by unfold lineE; rw [if_neg hR]
    have hR' : RightB x = false := by simpa using hR
    rw [hR'] at CR
    rw [hl]
    dsimp only
    clear hl hR hR'
    go_enter Tryz.func12, Tryz.ntmps12
    go_wp2_with fail
    (with_reducible refine CR.out.mono ?_)
    rintro e w1 ⟨rfl, hb1⟩
    have HB1 := Aside0.mk (below_then HB.out HB.out.size hb1)
    go_wp2
    go_ret2
    exact ⟨rfl, HB1.out⟩
end Go.Proofs.YtcinojbfjiohjaaGreatDoor.Pr
end

section
namespace Go.Proofs.YtcinojbfjiohjaaGreatDoor.Civ
open Go
theorem tdiv_floor (a b : Int) (hb : 0 < b) : (Int.tmod a b < 0 → Int.tdiv a b - 1 = a / b ∧ Int.tmod a b + b = a % b) ∧ (¬ Int.tmod a b < 0 → Int.tdiv a b = a / b ∧ Int.tmod a b = a % b) := by
  have h1 := Int.mul_tdiv_add_tmod a b
  have h2 : Int.tmod a b < b := Int.tmod_lt_of_pos a hb
  have h3 : -b < Int.tmod a b := by
    have := Int.tmod_lt_of_pos (-a) hb
    rw [Int.neg_tmod] at this
    omega
  constructor
  · intro h
    have := (Int.ediv_emod_unique (a := a) (b := b) (r := Int.tmod a b + b) (q := Int.tdiv a b - 1) hb).2 ⟨by rw [Int.mul_sub]; omega, by omega, by omega⟩
    exact ⟨this.1.symm, this.2.symm⟩
  · intro h
    have := (Int.ediv_emod_unique (a := a) (b := b) (r := Int.tmod a b) (q := Int.tdiv a b) hb).2 ⟨by omega, by omega, by omega⟩
    exact ⟨this.1.symm, this.2.symm⟩
theorem tdiv_pos (a b : Int) (h : 0 ≤ a) : Int.tdiv a b = a / b := Int.tdiv_eq_ediv_of_nonneg h
theorem tmod_zero (a b : Int) : Int.tmod a b = 0 ↔ a % b = 0 := by
  rw [← Int.dvd_iff_tmod_eq_zero, ← Int.dvd_iff_emod_eq_zero]
theorem i64_and3 (n : Int) : bits .and .i64 n 3 = n % 4 := by
  have h : (BitVec.ofInt 64 3).toNat = 2 ^ 2 - 1 := by decide
  have key : (BitVec.ofInt 64 n &&& BitVec.ofInt 64 3).toNat = (n % ((2 ^ 64 : Nat) : Int)).toNat % 2 ^ 2 := by
    rw [BitVec.toNat_and, BitVec.toNat_ofInt, h, Nat.and_two_pow_sub_one_eq_mod]
  show IntKind.i64.wrap ((BitVec.ofInt 64 n &&& BitVec.ofInt 64 3).toNat : Nat) = n % 4
  rw [key, IntKind.wrap_i64]
  omega
theorem i64_and15 (n : Int) : bits .and .i64 n 15 = n % 16 := by
  have h : (BitVec.ofInt 64 15).toNat = 2 ^ 4 - 1 := by decide
  have key : (BitVec.ofInt 64 n &&& BitVec.ofInt 64 15).toNat = (n % ((2 ^ 64 : Nat) : Int)).toNat % 2 ^ 4 := by
    rw [BitVec.toNat_and, BitVec.toNat_ofInt, h, Nat.and_two_pow_sub_one_eq_mod]
  show IntKind.i64.wrap ((BitVec.ofInt 64 n &&& BitVec.ofInt 64 15).toNat : Nat) = n % 16
  rw [key, IntKind.wrap_i64]
  omega
def leap (y : Int) : Bool := decide (y % 4 = 0 ∧ (y % 100 ≠ 0 ∨ y % 400 = 0))
def lp (y : Int) : Int := if y % 4 = 0 ∧ (y % 100 ≠ 0 ∨ y % 400 = 0) then 1 else 0
theorem lp_leap (y : Int) : lp y = if leap y = true then 1 else 0 := by simp [lp, leap]
def tab (m : Int) : Int :=
  if m ≤ 0 then 0 else if m = 1 then 31 else if m = 2 then 59 else if m = 3 then 90 else if m = 4 then 120 else if m = 5 then 151 else if m = 6 then 181
  else if m = 7 then 212 else if m = 8 then 243 else if m = 9 then 273 else if m = 10 then 304 else if m = 11 then 334 else 365
def upto (y m : Int) : Int := tab m + if 2 ≤ m then lp y else 0
def len (y m : Int) : Int := if 1 ≤ m ∧ m ≤ 12 then upto y m - upto y (m - 1) else 0
def beg (y : Int) : Int := 365 * (y - 1) + (y - 1) / 4 - (y - 1) / 100 + (y - 1) / 400 - 719162
def dn (y m d : Int) : Int := beg y + upto y (m - 1) + d - 1
def Ok (y m d : Int) : Prop := -9999 ≤ y ∧ y ≤ 9999 ∧ 1 ≤ m ∧ m ≤ 12 ∧ 1 ≤ d ∧ d ≤ len y m
instance (y m d : Int) : Decidable (Ok y m d) := by unfold Ok; infer_instance
def daysF (y m d : Int) : Int × Int := if Ok y m d then (dn y m d, 0) else (0, 30)
def yrF (n : Int) : Int :=
  1 + 400 * ((n + 719162) / 146097) + 100 * (min ((n + 719162) % 146097 / 36524) 3)
    + 4 * (((n + 719162) % 146097 - min ((n + 719162) % 146097 / 36524) 3 * 36524) / 1461)
    + min (((n + 719162) % 146097 - min ((n + 719162) % 146097 / 36524) 3 * 36524 - ((n + 719162) % 146097 - min ((n + 719162) % 146097 / 36524) 3 * 36524) / 1461 * 1461) / 365) 3
def monOf (y l : Int) : Int :=
  if l < upto y 1 then 1 else if l < upto y 2 then 2 else if l < upto y 3 then 3 else if l < upto y 4 then 4 else if l < upto y 5 then 5 else if l < upto y 6 then 6
  else if l < upto y 7 then 7 else if l < upto y 8 then 8 else if l < upto y 9 then 9 else if l < upto y 10 then 10 else if l < upto y 11 then 11 else 12
def moF (n : Int) : Int := monOf (yrF n) (n - beg (yrF n))
def dyF (n : Int) : Int := n - beg (yrF n) - upto (yrF n) (moF n - 1) + 1
def In (n : Int) : Prop := -4371587 ≤ n ∧ n ≤ 2932896
instance (n : Int) : Decidable (In n) := by unfold In; infer_instance
def dateF (n : Int) : Int × Int × Int × Int := if In n then (yrF n, moF n, dyF n, 0) else (0, 0, 0, 30)
def wdF (n : Int) : Int := (n + 3) % 7 + 1
theorem lp_bd (y : Int) : 0 ≤ lp y ∧ lp y ≤ 1 := by unfold lp; split <;> omega
theorem beg_succ (y : Int) : beg (y + 1) = beg y + 365 + lp y := by
  unfold beg lp
  split <;> omega
theorem beg_lt_succ (y : Int) : beg y + 365 ≤ beg (y + 1) := by have := beg_succ y; have := lp_bd y; omega
theorem beg_mono' (y : Int) (k : Nat) : beg y + 365 * k ≤ beg (y + k) := by
  induction k with
  | zero => simp
  | succ k ih =>
    have := beg_lt_succ (y + k)
    have e : y + ((k + 1 : Nat) : Int) = y + (k : Int) + 1 := by omega
    rw [e]
    omega
theorem beg_mono {a b : Int} (h : a ≤ b) : beg a + 365 * (b - a) ≤ beg b := by
  have := beg_mono' a (b - a).toNat
  have e : a + ((b - a).toNat : Int) = b := by omega
  rw [e] at this
  omega
theorem beg_min : beg (-9999) = -4371587 := by decide
theorem beg_max : beg 10000 = 2932897 := by decide
theorem upto_0 (y : Int) : upto y 0 = 0 := by simp [upto, tab]
theorem upto_12 (y : Int) : upto y 12 = 365 + lp y := by simp [upto, tab]
theorem months (m : Int) (h1 : 1 ≤ m) (h2 : m ≤ 12) : m = 1 ∨ m = 2 ∨ m = 3 ∨ m = 4 ∨ m = 5 ∨ m = 6 ∨ m = 7 ∨ m = 8 ∨ m = 9 ∨ m = 10 ∨ m = 11 ∨ m = 12 := by omega
theorem upto_step (y m : Int) (h1 : 1 ≤ m) (h2 : m ≤ 12) : upto y (m - 1) + 28 ≤ upto y m ∧ upto y m ≤ upto y (m - 1) + 31 := by
  have := lp_bd y
  rcases months m h1 h2 with rfl | rfl | rfl | rfl | rfl | rfl | rfl | rfl | rfl | rfl | rfl | rfl <;> simp [upto, tab] <;> omega
theorem tab_bd (m : Int) : 0 ≤ tab m ∧ tab m ≤ 365 := by
  unfold tab
  repeat' split
  all_goals decide
theorem upto_bd (y m : Int) : 0 ≤ upto y m ∧ upto y m ≤ 366 := by
  have := lp_bd y
  have := tab_bd m
  unfold upto
  split <;> omega
theorem upto_mono (y a b : Int) (h0 : 0 ≤ a) (h : a ≤ b) (h2 : b ≤ 12) : upto y a ≤ upto y b := by
  have key : ∀ k : Nat, a + k ≤ 12 → upto y a ≤ upto y (a + k) := by
    intro k
    induction k with
    | zero => intro _; simp
    | succ k ih =>
      intro hk
      have h1 := ih (by omega)
      have h3 := (upto_step y (a + k + 1) (by omega) (by omega)).1
      have e1 : a + (k : Int) + 1 - 1 = a + k := by omega
      have e2 : a + ((k + 1 : Nat) : Int) = a + (k : Int) + 1 := by omega
      rw [e1] at h3
      rw [e2]
      omega
  have := key (b - a).toNat (by omega)
  have e : a + ((b - a).toNat : Int) = b := by omega
  rwa [e] at this
theorem len_eq (y m : Int) (h1 : 1 ≤ m) (h2 : m ≤ 12) : len y m = upto y m - upto y (m - 1) := by unfold len; rw [if_pos ⟨h1, h2⟩]
theorem len_bd (y m : Int) (h1 : 1 ≤ m) (h2 : m ≤ 12) : 28 ≤ len y m ∧ len y m ≤ 31 := by
  rw [len_eq y m h1 h2]
  have := upto_step y m h1 h2
  omega
theorem len_out (y m : Int) (h : ¬ (1 ≤ m ∧ m ≤ 12)) : len y m = 0 := by unfold len; rw [if_neg h]
theorem len_le (y m : Int) : 0 ≤ len y m ∧ len y m ≤ 31 := by
  by_cases h : 1 ≤ m ∧ m ≤ 12
  · have := len_bd y m h.1 h.2; omega
  · rw [len_out y m h]; omega
theorem len_table (y m : Int) : len y m = if m = 2 then 28 + lp y else if m = 4 ∨ m = 6 ∨ m = 9 ∨ m = 11 then 30 else if m = 1 ∨ m = 3 ∨ m = 5 ∨ m = 7 ∨ m = 8 ∨ m = 10 ∨ m = 12 then 31 else 0 := by
  by_cases h : 1 ≤ m ∧ m ≤ 12
  · rw [len_eq y m h.1 h.2]
    rcases months m h.1 h.2 with rfl | rfl | rfl | rfl | rfl | rfl | rfl | rfl | rfl | rfl | rfl | rfl <;> simp [upto, tab] <;> omega
  · rw [len_out y m h]
    repeat' split
    all_goals omega
theorem Ok.month {y m d : Int} (h : Ok y m d) : 1 ≤ m ∧ m ≤ 12 := ⟨h.2.2.1, h.2.2.2.1⟩
theorem beg_parts (c h f g : Int) (h0 : 0 ≤ h) (h1 : h ≤ 3) (f0 : 0 ≤ f) (f1 : f ≤ 24) (g0 : 0 ≤ g) (g1 : g ≤ 3) : beg (1 + 400 * c + 100 * h + 4 * f + g) = 146097 * c + 36524 * h + 1461 * f + 365 * g - 719162 := by
  have q4 : (1 + 400 * c + 100 * h + 4 * f + g - 1) / 4 = 100 * c + 25 * h + f := by omega
  have q100 : (1 + 400 * c + 100 * h + 4 * f + g - 1) / 100 = 4 * c + h := by omega
  have q400 : (1 + 400 * c + 100 * h + 4 * f + g - 1) / 400 = c := by omega
  unfold beg
  rw [q4, q100, q400]
  omega
theorem lp_parts (c h f g : Int) (hg : g = 3) (hf : f < 24 ∨ h = 3) (h0 : 0 ≤ h) (h1 : h ≤ 3) (f0 : 0 ≤ f) (f1 : f ≤ 24) : lp (1 + 400 * c + 100 * h + 4 * f + g) = 1 := by
  unfold lp
  rw [if_pos]
  subst hg
  refine ⟨by omega, ?_⟩
  rcases hf with hf | hf
  · left; omega
  · by_cases hf24 : f = 24
    · right; subst hf hf24; omega
    · left; omega
theorem yrF_spec (n : Int) : beg (yrF n) ≤ n ∧ n < beg (yrF n + 1) := by
  have e : ∃ a c l h l2 f l3 g : Int, a = n + 719162 ∧ c = a / 146097 ∧ l = a % 146097 ∧ h = min (l / 36524) 3 ∧ l2 = l - h * 36524 ∧ f = l2 / 1461 ∧ l3 = l2 - f * 1461 ∧ g = min (l3 / 365) 3 ∧ yrF n = 1 + 400 * c + 100 * h + 4 * f + g :=
    ⟨_, _, _, _, _, _, _, _, rfl, rfl, rfl, rfl, rfl, rfl, rfl, rfl, rfl⟩
  obtain ⟨a, c, l, h, l2, f, l3, g, ha, hc, hl, hh, hl2, hf, hl3, hg, hy⟩ := e
  rw [hy, beg_succ]
  clear hy
  have b1 : 0 ≤ l ∧ l < 146097 ∧ a = 146097 * c + l := by omega
  clear hc hl
  have b2 : 0 ≤ h ∧ h ≤ 3 ∧ 0 ≤ l2 ∧ (h < 3 → l2 < 36524) ∧ l2 ≤ 36524 := by omega
  clear hh
  have b3 : 0 ≤ f ∧ f ≤ 24 ∧ (f = 24 → l3 < 1460 ∨ h = 3) ∧ 0 ≤ l3 ∧ l3 ≤ 1460 := by omega
  clear hf
  have b4 : 0 ≤ g ∧ g ≤ 3 ∧ 365 * g ≤ l3 ∧ (g < 3 → l3 < 365 * g + 365) ∧ l3 ≤ 365 * g + 365 := by omega
  clear hg
  have hb := beg_parts c h f g b2.1 b2.2.1 b3.1 b3.2.1 b4.1 b4.2.1
  have hlp := lp_bd (1 + 400 * c + 100 * h + 4 * f + g)
  rw [hb]
  refine ⟨by omega, ?_⟩
  by_cases hg3 : g = 3 ∧ l3 = 1460
  · have := lp_parts c h f g hg3.1 (by omega) b2.1 b2.2.1 b3.1 b3.2.1
    omega
  · omega
theorem yr_unique {n a b : Int} (ha : beg a ≤ n) (ha' : n < beg (a + 1)) (hb : beg b ≤ n) (hb' : n < beg (b + 1)) : a = b := by
  by_cases h1 : a < b
  · have := beg_mono (show a + 1 ≤ b by omega); omega
  · by_cases h2 : b < a
    · have := beg_mono (show b + 1 ≤ a by omega); omega
    · omega
theorem yrF_range {n : Int} (h : In n) : -9999 ≤ yrF n ∧ yrF n ≤ 9999 := by
  have := yrF_spec n
  have h1 := beg_min
  have h2 := beg_max
  unfold In at h
  constructor
  · apply Decidable.byContradiction
    intro hn
    have := beg_mono (show yrF n + 1 ≤ -9999 by omega)
    omega
  · apply Decidable.byContradiction
    intro hn
    have := beg_mono (show 10000 ≤ yrF n by omega)
    omega
theorem monOf_spec (y l : Int) (h0 : 0 ≤ l) (h1 : l < upto y 12) : 1 ≤ monOf y l ∧ monOf y l ≤ 12 ∧ upto y (monOf y l - 1) ≤ l ∧ l < upto y (monOf y l) := by
  have e0 := upto_0 y
  unfold monOf
  repeat' split
  all_goals (refine ⟨by omega, by omega, ?_, ?_⟩)
  all_goals first | omega | (simp only [show (1 : Int) - 1 = 0 from rfl, show (2 : Int) - 1 = 1 from rfl, show (3 : Int) - 1 = 2 from rfl, show (4 : Int) - 1 = 3 from rfl, show (5 : Int) - 1 = 4 from rfl, show (6 : Int) - 1 = 5 from rfl, show (7 : Int) - 1 = 6 from rfl, show (8 : Int) - 1 = 7 from rfl, show (9 : Int) - 1 = 8 from rfl, show (10 : Int) - 1 = 9 from rfl, show (11 : Int) - 1 = 10 from rfl, show (12 : Int) - 1 = 11 from rfl]; omega)
theorem mon_unique {y l a b : Int} (ha1 : 1 ≤ a) (ha2 : a ≤ 12) (hb1 : 1 ≤ b) (hb2 : b ≤ 12) (h1 : upto y (a - 1) ≤ l) (h2 : l < upto y a) (h3 : upto y (b - 1) ≤ l) (h4 : l < upto y b) : a = b := by
  by_cases c1 : a < b
  · have := upto_mono y a (b - 1) (by omega) (by omega) (by omega); omega
  · by_cases c2 : b < a
    · have := upto_mono y b (a - 1) (by omega) (by omega) (by omega); omega
    · omega
theorem left_bd (n : Int) : 0 ≤ n - beg (yrF n) ∧ n - beg (yrF n) < upto (yrF n) 12 := by
  have h := yrF_spec n
  rw [beg_succ] at h
  rw [upto_12]
  omega
theorem date_ok {n : Int} (h : In n) : Ok (yrF n) (moF n) (dyF n) ∧ dn (yrF n) (moF n) (dyF n) = n := by
  have hy := yrF_range h
  have hl := left_bd n
  obtain ⟨m1, m2, m3, m4⟩ := monOf_spec (yrF n) (n - beg (yrF n)) hl.1 hl.2
  have m1' : 1 ≤ moF n := m1
  have m2' : moF n ≤ 12 := m2
  have m3' : upto (yrF n) (moF n - 1) ≤ n - beg (yrF n) := m3
  have m4' : n - beg (yrF n) < upto (yrF n) (moF n) := m4
  have hlen := len_eq (yrF n) (moF n) m1' m2'
  unfold Ok dn dyF
  refine ⟨⟨hy.1, hy.2, m1', m2', by omega, by omega⟩, by omega⟩
theorem dn_bd {y m d : Int} (h : Ok y m d) : beg y ≤ dn y m d ∧ dn y m d < beg (y + 1) ∧ upto y (m - 1) ≤ dn y m d - beg y ∧ dn y m d - beg y < upto y m := by
  obtain ⟨h1, h2, h3, h4, h5, h6⟩ := h
  rw [len_eq y m h3 h4] at h6
  have a := (upto_bd y (m - 1)).1
  have b := upto_mono y m 12 (by omega) h4 (by omega)
  rw [upto_12] at b
  rw [beg_succ]
  unfold dn
  omega
theorem dn_in {y m d : Int} (h : Ok y m d) : In (dn y m d) := by
  have hb := dn_bd h
  have h1 := beg_mono h.1
  have h2 := beg_mono (show y + 1 ≤ 10000 by have := h.2.1; omega)
  have h3 := beg_min
  have h4 := beg_max
  unfold In
  have := h.1
  have := h.2.1
  omega
theorem date_dn {y m d : Int} (h : Ok y m d) : yrF (dn y m d) = y ∧ moF (dn y m d) = m ∧ dyF (dn y m d) = d := by
  have hb := dn_bd h
  have hs := yrF_spec (dn y m d)
  have hy : yrF (dn y m d) = y := yr_unique hs.1 hs.2 hb.1 hb.2.1
  have hl := left_bd (dn y m d)
  rw [hy] at hl
  obtain ⟨m1, m2, m3, m4⟩ := monOf_spec y (dn y m d - beg y) hl.1 hl.2
  have hm : moF (dn y m d) = m := by
    unfold moF
    rw [hy]
    exact mon_unique m1 m2 h.month.1 h.month.2 m3 m4 hb.2.2.1 hb.2.2.2
  refine ⟨hy, hm, ?_⟩
  unfold dyF
  rw [hm, hy]
  unfold dn
  omega
theorem daysF_ok {y m d : Int} (h : Ok y m d) : daysF y m d = (dn y m d, 0) := by unfold daysF; rw [if_pos h]
theorem daysF_not {y m d : Int} (h : ¬ Ok y m d) : daysF y m d = (0, 30) := by unfold daysF; rw [if_neg h]
theorem dateF_in {n : Int} (h : In n) : dateF n = (yrF n, moF n, dyF n, 0) := by unfold dateF; rw [if_pos h]
theorem dateF_not {n : Int} (h : ¬ In n) : dateF n = (0, 0, 0, 30) := by unfold dateF; rw [if_neg h]
end Go.Proofs.YtcinojbfjiohjaaGreatDoor.Civ
end

section
namespace Go.Proofs.YtcinojbfjiohjaaGreatDoor.PPrintTells
open Go.RowKit Go.Proofs.YtcinojbfjiohjaaGreatDoorW.PrintWords Go.Proofs.YtcinojbfjiohjaaGreatDoorW.PrintLast Go.Proofs.YtcinojbfjiohjaaGreatDoorW.PrintMore
attribute [local go_sem] max2_int min2_int max_two min_two max_three min_three max_four min_four   -- for this text's walks alone
set_option linter.unusedVariables false
set_option linter.unusedSimpArgs false
def civil_floor.f (a0 : Int) (a1 : Int) : Option (Int × Int) := if a1 = 0 then (none) else (if (Int.tmod a0 a1) < 0 then (some (wrap64 ((wrap64 (Int.tdiv a0 a1)) - 1), wrap64 ((Int.tmod a0 a1) + a1))) else (some (wrap64 (Int.tdiv a0 a1), Int.tmod a0 a1)))
set_option maxHeartbeats 8000000 in
set_option maxRecDepth 100000 in
theorem civil_floor.calls (a0 : Int) (a1 : Int) (r1 : Int) (r2 : Int) (w : World) (h : civil_floor.f a0 a1 = some (r1, r2)) :
    Calls Tryz.prog 210 #[.int .i64 a0, .int .i64 a1] w fun e w' => e = .returned (.tuple #[.int .i64 r1, .int .i64 r2]) ∧ Drawn0 w w' := by
  have H : (if a1 = 0 then (none) else (if (Int.tmod a0 a1) < 0 then (some (wrap64 ((wrap64 (Int.tdiv a0 a1)) - 1), wrap64 ((Int.tmod a0 a1) + a1))) else (some (wrap64 (Int.tdiv a0 a1), Int.tmod a0 a1)))) = some (r1, r2) := h
  clear h
  by_cases c3 : a1 = 0
  · rw [if_pos c3] at H
    exact absurd H (by simp)
  · rw [if_neg c3] at H
    have c3b0 : (a1 == 0) = false := beq_eq_false_iff_ne.mpr c3
    have c3b1 : (a1 != 0) = true := bne_iff_ne.mpr c3
    by_cases c4 : (Int.tmod a0 a1) < 0
    · rw [if_pos c4] at H
      have c4b0 : decide ((Int.tmod a0 a1) < 0) = true := decide_eq_true c4
      clear c4
      simp only [Option.some.injEq, Prod.mk.injEq] at H
      obtain ⟨rfl, rfl⟩ := H
      go_enter Tryz.func210, Tryz.ntmps210
      go_wp2
      repeat (go_quiet (fail); try go_wp2)
      go_ret2
      exact ⟨by first | rfl | (simp; done) | (simp [*]; done), by repeat (first | exact Drawn0.refl _ | apply Drawn0.step)⟩
    · rw [if_neg c4] at H
      have c4b0 : decide ((Int.tmod a0 a1) < 0) = false := decide_eq_false c4
      clear c4
      simp only [Option.some.injEq, Prod.mk.injEq] at H
      obtain ⟨rfl, rfl⟩ := H
      go_enter Tryz.func210, Tryz.ntmps210
      go_wp2
      repeat (go_quiet (fail); try go_wp2)
      go_ret2
      exact ⟨by first | rfl | (simp; done) | (simp [*]; done), by repeat (first | exact Drawn0.refl _ | apply Drawn0.step)⟩
def civil_year.f (a0 : Int) : Option (Int) := (civil_floor.f (wrap64 (a0 + 719162)) 146097).bind fun bt153 => (some (wrap64 ((wrap64 ((wrap64 ((wrap64 (1 + (wrap64 (400 * bt153.1)))) + (wrap64 (100 * (mn (wrap64 (Int.tdiv bt153.2 36524)) 3))))) + (wrap64 (4 * (wrap64 (Int.tdiv (wrap64 (bt153.2 - (wrap64 ((mn (wrap64 (Int.tdiv bt153.2 36524)) 3) * 36524)))) 1461)))))) + (mn (wrap64 (Int.tdiv (wrap64 ((wrap64 (bt153.2 - (wrap64 ((mn (wrap64 (Int.tdiv bt153.2 36524)) 3) * 36524)))) - (wrap64 ((wrap64 (Int.tdiv (wrap64 (bt153.2 - (wrap64 ((mn (wrap64 (Int.tdiv bt153.2 36524)) 3) * 36524)))) 1461)) * 1461)))) 365)) 3))))
set_option maxHeartbeats 8000000 in
set_option maxRecDepth 100000 in
theorem civil_year.calls (a0 : Int) (r : Int) (w : World) (h : civil_year.f a0 = some r) :
    Calls Tryz.prog 176 #[.int .i64 a0] w fun e w' => e = .returned (.int .i64 r) ∧ Below w.heap.size w w' := by
  have HB := Aside0.mk (Below.refl w.heap.size w)
  have H : ((civil_floor.f (wrap64 (a0 + 719162)) 146097).bind fun bt153 => (some (wrap64 ((wrap64 ((wrap64 ((wrap64 (1 + (wrap64 (400 * bt153.1)))) + (wrap64 (100 * (mn (wrap64 (Int.tdiv bt153.2 36524)) 3))))) + (wrap64 (4 * (wrap64 (Int.tdiv (wrap64 (bt153.2 - (wrap64 ((mn (wrap64 (Int.tdiv bt153.2 36524)) 3) * 36524)))) 1461)))))) + (mn (wrap64 (Int.tdiv (wrap64 ((wrap64 (bt153.2 - (wrap64 ((mn (wrap64 (Int.tdiv bt153.2 36524)) 3) * 36524)))) - (wrap64 ((wrap64 (Int.tdiv (wrap64 (bt153.2 - (wrap64 ((mn (wrap64 (Int.tdiv bt153.2 36524)) 3) * 36524)))) 1461)) * 1461)))) 365)) 3))))) = some r := h
  clear h
  replace H := Option.bind_eq_some_iff.mp H
  obtain ⟨⟨t153, t154⟩, A20, H⟩ := H
  replace H : (some (wrap64 ((wrap64 ((wrap64 ((wrap64 (1 + (wrap64 (400 * t153)))) + (wrap64 (100 * (mn (wrap64 (Int.tdiv t154 36524)) 3))))) + (wrap64 (4 * (wrap64 (Int.tdiv (wrap64 (t154 - (wrap64 ((mn (wrap64 (Int.tdiv t154 36524)) 3) * 36524)))) 1461)))))) + (mn (wrap64 (Int.tdiv (wrap64 ((wrap64 (t154 - (wrap64 ((mn (wrap64 (Int.tdiv t154 36524)) 3) * 36524)))) - (wrap64 ((wrap64 (Int.tdiv (wrap64 (t154 - (wrap64 ((mn (wrap64 (Int.tdiv t154 36524)) 3) * 36524)))) 1461)) * 1461)))) 365)) 3)))) = some r := H
  have A2 := Aside0.mk A20
  clear A20
  obtain ⟨ji3, hji3⟩ : ∃ j_ : Int, (mn (wrap64 (Int.tdiv t154 36524)) 3) = j_ := ⟨_, rfl⟩
  replace H : (some (wrap64 ((wrap64 ((wrap64 ((wrap64 (1 + (wrap64 (400 * t153)))) + (wrap64 (100 * (ji3))))) + (wrap64 (4 * (wrap64 (Int.tdiv (wrap64 (t154 - (wrap64 ((ji3) * 36524)))) 1461)))))) + (mn (wrap64 (Int.tdiv (wrap64 ((wrap64 (t154 - (wrap64 ((ji3) * 36524)))) - (wrap64 ((wrap64 (Int.tdiv (wrap64 (t154 - (wrap64 ((ji3) * 36524)))) 1461)) * 1461)))) 365)) 3)))) = some r := by first | (rw [hji3] at H; exact H) | (simp only [hji3] at H ⊢; exact H)
  (try rw [hji3] at A2)
  (try (have hji3h : ji3 ≤ 3 := by (rw [← hji3]; unfold mn; (repeat' split) <;> omega)))
  (try (have hji3g : ji3 ≤ 64 := by omega))
  have hji3_ : (if 3 < (wrap64 (Int.tdiv t154 36524)) then 3 else (wrap64 (Int.tdiv t154 36524))) = ji3 := hji3
  obtain ⟨ji4, hji4⟩ : ∃ j_ : Int, (mn (wrap64 (Int.tdiv (wrap64 ((wrap64 (t154 - (wrap64 ((ji3) * 36524)))) - (wrap64 ((wrap64 (Int.tdiv (wrap64 (t154 - (wrap64 ((ji3) * 36524)))) 1461)) * 1461)))) 365)) 3) = j_ := ⟨_, rfl⟩
  replace H : (some (wrap64 ((wrap64 ((wrap64 ((wrap64 (1 + (wrap64 (400 * t153)))) + (wrap64 (100 * (ji3))))) + (wrap64 (4 * (wrap64 (Int.tdiv (wrap64 (t154 - (wrap64 ((ji3) * 36524)))) 1461)))))) + (ji4)))) = some r := by first | (rw [hji4] at H; exact H) | (simp only [hji4] at H ⊢; exact H)
  (try rw [hji4] at A2)
  have hji4_ : (if 3 < (wrap64 (Int.tdiv (wrap64 ((wrap64 (t154 - (wrap64 ((ji3) * 36524)))) - (wrap64 ((wrap64 (Int.tdiv (wrap64 (t154 - (wrap64 ((ji3) * 36524)))) 1461)) * 1461)))) 365)) then 3 else (wrap64 (Int.tdiv (wrap64 ((wrap64 (t154 - (wrap64 ((ji3) * 36524)))) - (wrap64 ((wrap64 (Int.tdiv (wrap64 (t154 - (wrap64 ((ji3) * 36524)))) 1461)) * 1461)))) 365))) = ji4 := hji4
  obtain rfl := Option.some.inj H
  go_enter Tryz.func176, Tryz.ntmps176
  go_wp2_with (first | ((with_reducible refine gate_callee (f := 210) rfl ?_); refine goesL_ (some 10) rfl rfl Tryz.func210 (by kernel_rfl) rfl #[.int .i64 (wrap64 (a0 + 719162)), .int .i64 146097] rfl (by (try simp only [List.map_toArray, List.map_cons, List.map_nil]); first | done | rfl | (simp only [List.length_drop, List.length_take]; rfl)) ?_; (with_reducible refine (civil_floor.calls (wrap64 (a0 + 719162)) 146097 t153 t154 _ A2.out).mono ?_); rintro e w' ⟨rfl, ⟨nd, rfl⟩⟩; refine ⟨_, rfl, ?_⟩))
  go_ret
  exact ⟨by first | rfl | (simp [errW_none, errW_some] <;> rfl) | (simp only [← hji3, ← hji4]; first | rfl | (simp [errW_none, errW_some] <;> rfl)) | (simp [*, errW_none, errW_some] <;> rfl), by repeat (first | (with_reducible first | exact HB.out | apply below_alloc | apply pw_below_drewN | apply below_drew1) | exact HB.out)⟩
def civil_begins.f (a0 : Int) : Option (Int) := (civil_floor.f (wrap64 (a0 - 1)) 4).bind fun bt155 => ((civil_floor.f (wrap64 (a0 - 1)) 100).bind fun bt157 => ((civil_floor.f (wrap64 (a0 - 1)) 400).bind fun bt159 => (some (wrap64 ((wrap64 ((wrap64 ((wrap64 ((wrap64 (365 * (wrap64 (a0 - 1)))) + bt155.1)) - bt157.1)) + bt159.1)) - 719162)))))
set_option maxHeartbeats 8000000 in
set_option maxRecDepth 100000 in
theorem civil_begins.calls (a0 : Int) (r : Int) (w : World) (h : civil_begins.f a0 = some r) :
    Calls Tryz.prog 177 #[.int .i64 a0] w fun e w' => e = .returned (.int .i64 r) ∧ Drawn0 w w' := by
  have H : ((civil_floor.f (wrap64 (a0 - 1)) 4).bind fun bt155 => ((civil_floor.f (wrap64 (a0 - 1)) 100).bind fun bt157 => ((civil_floor.f (wrap64 (a0 - 1)) 400).bind fun bt159 => (some (wrap64 ((wrap64 ((wrap64 ((wrap64 ((wrap64 (365 * (wrap64 (a0 - 1)))) + bt155.1)) - bt157.1)) + bt159.1)) - 719162)))))) = some r := h
  clear h
  replace H := Option.bind_eq_some_iff.mp H
  obtain ⟨⟨t155, t156⟩, A20, H⟩ := H
  replace H : ((civil_floor.f (wrap64 (a0 - 1)) 100).bind fun bt157 => ((civil_floor.f (wrap64 (a0 - 1)) 400).bind fun bt159 => (some (wrap64 ((wrap64 ((wrap64 ((wrap64 ((wrap64 (365 * (wrap64 (a0 - 1)))) + t155)) - bt157.1)) + bt159.1)) - 719162))))) = some r := H
  have A2 := Aside0.mk A20
  clear A20
  replace H := Option.bind_eq_some_iff.mp H
  obtain ⟨⟨t157, t158⟩, A30, H⟩ := H
  replace H : ((civil_floor.f (wrap64 (a0 - 1)) 400).bind fun bt159 => (some (wrap64 ((wrap64 ((wrap64 ((wrap64 ((wrap64 (365 * (wrap64 (a0 - 1)))) + t155)) - t157)) + bt159.1)) - 719162)))) = some r := H
  have A3 := Aside0.mk A30
  clear A30
  replace H := Option.bind_eq_some_iff.mp H
  obtain ⟨⟨t159, t160⟩, A40, H⟩ := H
  replace H : (some (wrap64 ((wrap64 ((wrap64 ((wrap64 ((wrap64 (365 * (wrap64 (a0 - 1)))) + t155)) - t157)) + t159)) - 719162))) = some r := H
  have A4 := Aside0.mk A40
  clear A40
  obtain rfl := Option.some.inj H
  go_enter Tryz.func177, Tryz.ntmps177
  go_wp2_with (first | ((with_reducible refine gate_callee (f := 210) rfl ?_); refine goesL_ (some 14) rfl rfl Tryz.func210 (by kernel_rfl) rfl #[.int .i64 (wrap64 (a0 - 1)), .int .i64 4] rfl (by (try simp only [List.map_toArray, List.map_cons, List.map_nil]); first | done | rfl | (simp only [List.length_drop, List.length_take]; rfl)) ?_; (with_reducible refine (civil_floor.calls (wrap64 (a0 - 1)) 4 t155 t156 _ A2.out).mono ?_); rintro e w' ⟨rfl, ⟨nd, rfl⟩⟩; refine ⟨_, rfl, ?_⟩) | ((with_reducible refine gate_callee (f := 210) rfl ?_); refine goesL_ (some 19) rfl rfl Tryz.func210 (by kernel_rfl) rfl #[.int .i64 (wrap64 (a0 - 1)), .int .i64 100] rfl (by (try simp only [List.map_toArray, List.map_cons, List.map_nil]); first | done | rfl | (simp only [List.length_drop, List.length_take]; rfl)) ?_; (with_reducible refine (civil_floor.calls (wrap64 (a0 - 1)) 100 t157 t158 _ A3.out).mono ?_); rintro e w' ⟨rfl, ⟨nd, rfl⟩⟩; refine ⟨_, rfl, ?_⟩) | ((with_reducible refine gate_callee (f := 210) rfl ?_); refine goesL_ (some 24) rfl rfl Tryz.func210 (by kernel_rfl) rfl #[.int .i64 (wrap64 (a0 - 1)), .int .i64 400] rfl (by (try simp only [List.map_toArray, List.map_cons, List.map_nil]); first | done | rfl | (simp only [List.length_drop, List.length_take]; rfl)) ?_; (with_reducible refine (civil_floor.calls (wrap64 (a0 - 1)) 400 t159 t160 _ A4.out).mono ?_); rintro e w' ⟨rfl, ⟨nd, rfl⟩⟩; refine ⟨_, rfl, ?_⟩))
  go_ret
  exact ⟨by first | rfl | (simp; done) | (simp [*]; done), by repeat (first | exact Drawn0.refl _ | apply Drawn0.step)⟩
def civil_Leap.f (a0 : Int) : Option (Bool) := if (Go.bits .and .i64 a0 3) = 0 then (if (Int.tmod a0 25) = 0 then (some ((Go.bits .and .i64 a0 15) == 0)) else (some true)) else (some false)
set_option maxHeartbeats 8000000 in
set_option maxRecDepth 100000 in
theorem civil_Leap.calls (a0 : Int) (r : Bool) (w : World) (h : civil_Leap.f a0 = some r) :
    Calls Tryz.prog 227 #[.int .i64 a0] w fun e w' => e = .returned (.bool r) ∧ Drawn0 w w' := by
  have H : (if (Go.bits .and .i64 a0 3) = 0 then (if (Int.tmod a0 25) = 0 then (some ((Go.bits .and .i64 a0 15) == 0)) else (some true)) else (some false)) = some r := h
  clear h
  by_cases c2 : (Go.bits .and .i64 a0 3) = 0
  · rw [if_pos c2] at H
    have c2b0 : ((Go.bits .and .i64 a0 3) == 0) = true := beq_iff_eq.mpr c2
    have c2b1 : ((Go.bits .and .i64 a0 3) != 0) = false := bne_eq_false_iff_eq.mpr c2
    clear c2
    by_cases c3 : (Int.tmod a0 25) = 0
    · rw [if_pos c3] at H
      have c3b0 : ((Int.tmod a0 25) == 0) = true := beq_iff_eq.mpr c3
      have c3b1 : ((Int.tmod a0 25) != 0) = false := bne_eq_false_iff_eq.mpr c3
      clear c3
      obtain rfl := Option.some.inj H
      go_enter Tryz.func227, Tryz.ntmps227
      go_wp2
      go_ret
      exact ⟨by first | rfl | (simp; done) | (simp [*]; done), by repeat (first | exact Drawn0.refl _ | apply Drawn0.step)⟩
    · rw [if_neg c3] at H
      have c3b0 : ((Int.tmod a0 25) == 0) = false := beq_eq_false_iff_ne.mpr c3
      have c3b1 : ((Int.tmod a0 25) != 0) = true := bne_iff_ne.mpr c3
      obtain rfl := Option.some.inj H
      go_enter Tryz.func227, Tryz.ntmps227
      go_wp2
      go_ret
      exact ⟨by first | rfl | (simp; done) | (simp [*]; done), by repeat (first | exact Drawn0.refl _ | apply Drawn0.step)⟩
  · rw [if_neg c2] at H
    have c2b0 : ((Go.bits .and .i64 a0 3) == 0) = false := beq_eq_false_iff_ne.mpr c2
    have c2b1 : ((Go.bits .and .i64 a0 3) != 0) = true := bne_iff_ne.mpr c2
    obtain rfl := Option.some.inj H
    go_enter Tryz.func227, Tryz.ntmps227
    go_wp2
    go_ret
    exact ⟨by first | rfl | (simp; done) | (simp [*]; done), by repeat (first | exact Drawn0.refl _ | apply Drawn0.step)⟩
def civil_more.f (a0 : Int) (a1 : Int) : Option (Int) := if a1 ≥ 2 then ((civil_Leap.f a0).bind fun t161 => (if t161 = true then (some 1) else (some 0))) else (some 0)
set_option maxHeartbeats 8000000 in
set_option maxRecDepth 100000 in
theorem civil_more.calls (a0 : Int) (a1 : Int) (r : Int) (w : World) (h : civil_more.f a0 a1 = some r) :
    Calls Tryz.prog 211 #[.int .i64 a0, .int .i64 a1] w fun e w' => e = .returned (.int .i64 r) ∧ Drawn0 w w' := by
  have H : (if a1 ≥ 2 then ((civil_Leap.f a0).bind fun t161 => (if t161 = true then (some 1) else (some 0))) else (some 0)) = some r := h
  clear h
  by_cases c3 : a1 ≥ 2
  · rw [if_pos c3] at H
    have c3b0 : decide (2 ≤ a1) = true := decide_eq_true c3
    clear c3
    replace H := Option.bind_eq_some_iff.mp H
    obtain ⟨t161, A40, H⟩ := H
    replace H : (if t161 = true then (some 1) else (some 0)) = some r := H
    have A4 := Aside0.mk A40
    clear A40
    by_cases c5 : t161 = true
    · subst c5
      have H1 : (some 1) = some r := by rw [if_pos rfl] at H; exact H
      clear H
      have H := H1
      clear H1
      obtain rfl := Option.some.inj H
      go_enter Tryz.func211, Tryz.ntmps211
      go_wp2_with (first | (go_at_call 227; (with_reducible refine (civil_Leap.calls a0 true _ A4.out).mono ?_); rintro e w' ⟨rfl, ⟨nd, rfl⟩⟩))
      go_ret
      exact ⟨by first | rfl | (simp; done) | (simp [*]; done), by repeat (first | exact Drawn0.refl _ | apply Drawn0.step)⟩
    · replace c5 := Bool.eq_false_iff.mpr c5
      subst c5
      have H1 : (some 0) = some r := by rw [if_neg (show ¬ (false = true) by decide)] at H; exact H
      clear H
      have H := H1
      clear H1
      obtain rfl := Option.some.inj H
      go_enter Tryz.func211, Tryz.ntmps211
      go_wp2_with (first | (go_at_call 227; (with_reducible refine (civil_Leap.calls a0 false _ A4.out).mono ?_); rintro e w' ⟨rfl, ⟨nd, rfl⟩⟩))
      go_ret
      exact ⟨by first | rfl | (simp; done) | (simp [*]; done), by repeat (first | exact Drawn0.refl _ | apply Drawn0.step)⟩
  · rw [if_neg c3] at H
    have c3b0 : decide (2 ≤ a1) = false := decide_eq_false c3
    clear c3
    obtain rfl := Option.some.inj H
    go_enter Tryz.func211, Tryz.ntmps211
    go_wp2
    go_ret
    exact ⟨by first | rfl | (simp; done) | (simp [*]; done), by repeat (first | exact Drawn0.refl _ | apply Drawn0.step)⟩
end Go.Proofs.YtcinojbfjiohjaaGreatDoor.PPrintTells
end

section
namespace Go.Proofs.YtcinojbfjiohjaaGreatDoor.PPrintTells
open Go.RowKit Go.Proofs.YtcinojbfjiohjaaGreatDoorW.PrintWords Go.Proofs.YtcinojbfjiohjaaGreatDoorW.PrintLast Go.Proofs.YtcinojbfjiohjaaGreatDoorW.PrintMore
attribute [local go_sem] max2_int min2_int max_two min_two max_three min_three max_four min_four   -- for this text's walks alone
set_option linter.unusedVariables false
set_option linter.unusedSimpArgs false
def civil_Weekday.f (a0 : Int) : Option (Int) := (civil_floor.f (wrap64 ((Int.tmod a0 7) + 3)) 7).bind fun bt101 => (some (wrap64 (bt101.2 + 1)))
set_option maxHeartbeats 8000000 in
set_option maxRecDepth 100000 in
theorem civil_Weekday.calls (a0 : Int) (r : Int) (w : World) (h : civil_Weekday.f a0 = some r) :
    Calls Tryz.prog 219 #[.int .i64 a0] w fun e w' => e = .returned (.int .i64 r) ∧ Drawn0 w w' := by
  have H : ((civil_floor.f (wrap64 ((Int.tmod a0 7) + 3)) 7).bind fun bt101 => (some (wrap64 (bt101.2 + 1)))) = some r := h
  clear h
  replace H := Option.bind_eq_some_iff.mp H
  obtain ⟨⟨t101, t102⟩, A20, H⟩ := H
  replace H : (some (wrap64 (t102 + 1))) = some r := H
  have A2 := Aside0.mk A20
  clear A20
  obtain rfl := Option.some.inj H
  go_enter Tryz.func219, Tryz.ntmps219
  go_wp2_with (first | ((with_reducible refine gate_callee (f := 210) rfl ?_); refine goesL_ (some 9) rfl rfl Tryz.func210 (by kernel_rfl) rfl #[.int .i64 (wrap64 ((Int.tmod a0 7) + 3)), .int .i64 7] rfl (by (try simp only [List.map_toArray, List.map_cons, List.map_nil]); first | done | rfl | (simp only [List.length_drop, List.length_take]; rfl)) ?_; (with_reducible refine (civil_floor.calls (wrap64 ((Int.tmod a0 7) + 3)) 7 t101 t102 _ A2.out).mono ?_); rintro e w' ⟨rfl, ⟨nd, rfl⟩⟩; refine ⟨_, rfl, ?_⟩))
  go_ret
  exact ⟨by first | rfl | (simp; done) | (simp [*]; done), by repeat (first | exact Drawn0.refl _ | apply Drawn0.step)⟩
end Go.Proofs.YtcinojbfjiohjaaGreatDoor.PPrintTells
end

section
namespace Go.Proofs.YtcinojbfjiohjaaGreatDoor.PPrintTells
open Go.RowKit Go.Proofs.YtcinojbfjiohjaaGreatDoorW.PrintWords Go.Proofs.YtcinojbfjiohjaaGreatDoorW.PrintLast Go.Proofs.YtcinojbfjiohjaaGreatDoorW.PrintMore
attribute [local go_sem] max2_int min2_int max_two min_two max_three min_three max_four min_four   -- for this text's walks alone
set_option linter.unusedVariables false
set_option linter.unusedSimpArgs false
end Go.Proofs.YtcinojbfjiohjaaGreatDoor.PPrintTells
end

section
namespace Go.Proofs.YtcinojbfjiohjaaGreatDoor.PPrintTells
open Go.RowKit Go.Proofs.YtcinojbfjiohjaaGreatDoorW.PrintWords Go.Proofs.YtcinojbfjiohjaaGreatDoorW.PrintLast Go.Proofs.YtcinojbfjiohjaaGreatDoorW.PrintMore
attribute [local go_sem] max2_int min2_int max_two min_two max_three min_three max_four min_four   -- for this text's walks alone
set_option linter.unusedVariables false
set_option linter.unusedSimpArgs false
end Go.Proofs.YtcinojbfjiohjaaGreatDoor.PPrintTells
end

section
namespace Go.Proofs.YtcinojbfjiohjaaGreatDoor.PPrintTells
open Go.RowKit Go.Proofs.YtcinojbfjiohjaaGreatDoorW.PrintWords Go.Proofs.YtcinojbfjiohjaaGreatDoorW.PrintLast Go.Proofs.YtcinojbfjiohjaaGreatDoorW.PrintMore
attribute [local go_sem] max2_int min2_int max_two min_two max_three min_three max_four min_four   -- for this text's walks alone
set_option linter.unusedVariables false
set_option linter.unusedSimpArgs false
end Go.Proofs.YtcinojbfjiohjaaGreatDoor.PPrintTells
end

section
namespace Go.Proofs.YtcinojbfjiohjaaGreatDoor.Civ
open Go Go.RowKit Go.Proofs.YtcinojbfjiohjaaGreatDoor.PPrintTells Go.Proofs.YtcinojbfjiohjaaGreatDoorW.PrintWords Go.Proofs.YtcinojbfjiohjaaGreatDoorW.PrintLast Go.Proofs.YtcinojbfjiohjaaGreatDoorW.PrintMore
set_option linter.unusedVariables false
set_option linter.unusedSimpArgs false
theorem w64 {x : Int} (h0 : -9223372036854775808 ≤ x) (h1 : x ≤ 9223372036854775807) : wrap64 x = x := by unfold wrap64; omega
theorem Leap_f (y : Int) : civil_Leap.f y = some (leap y) := by
  unfold civil_Leap.f leap
  rw [i64_and3, i64_and15]
  by_cases h4 : y % 4 = 0
  · rw [if_pos h4]
    by_cases h25 : Int.tmod y 25 = 0
    · rw [if_pos h25]
      rw [tmod_zero] at h25
      congr 1
      by_cases h16 : y % 16 = 0
      · rw [h16]
        symm
        simp only [beq_self_eq_true, decide_eq_true_eq]
        exact ⟨h4, by omega⟩
      · have : (y % 16 == 0) = false := beq_eq_false_iff_ne.2 h16
        rw [this]
        symm
        simp only [decide_eq_false_iff_not]
        omega
    · rw [if_neg h25]
      rw [tmod_zero] at h25
      congr 1
      symm
      simp only [decide_eq_true_eq]
      omega
  · rw [if_neg h4]
    congr 1
    symm
    simp only [decide_eq_false_iff_not]
    omega
theorem more_f (y m : Int) : civil_more.f y m = some (if 2 ≤ m then lp y else 0) := by
  unfold civil_more.f
  by_cases h : m ≥ 2
  · rw [if_pos h, if_pos h, Leap_f, lp_leap]
    simp only [Option.bind_some]
    split <;> rfl
  · rw [if_neg h, if_neg h]
theorem floor_f (a b : Int) (hb : 0 < b) (hb' : b < 4611686018427387904) (h0 : -4611686018427387904 ≤ a) (h1 : a ≤ 4611686018427387904) : civil_floor.f a b = some (a / b, a % b) := by
  unfold civil_floor.f
  have ht := tdiv_floor a b hb
  have h2 : Int.tmod a b < b := Int.tmod_lt_of_pos a hb
  have h3 : -b < Int.tmod a b := by
    have := Int.tmod_lt_of_pos (-a) hb
    rw [Int.neg_tmod] at this
    omega
  have hq : -4611686018427387904 ≤ Int.tdiv a b ∧ Int.tdiv a b ≤ 4611686018427387904 := by
    have h := Int.natAbs_tdiv_le_natAbs a b
    omega
  rw [if_neg (by omega)]
  by_cases h : Int.tmod a b < 0
  · rw [if_pos h, w64 (x := Int.tdiv a b) (by omega) (by omega), w64 (x := Int.tdiv a b - 1) (by omega) (by omega), w64 (x := Int.tmod a b + b) (by omega) (by omega), (ht.1 h).1, (ht.1 h).2]
  · rw [if_neg h, w64 (x := Int.tdiv a b) (by omega) (by omega), (ht.2 h).1, (ht.2 h).2]
theorem begins_f (y : Int) (h0 : -100000 ≤ y) (h1 : y ≤ 100000) : civil_begins.f y = some (beg y) := by
  unfold civil_begins.f
  rw [w64 (x := y - 1) (by omega) (by omega), floor_f _ 4 (by omega) (by omega) (by omega) (by omega), floor_f _ 100 (by omega) (by omega) (by omega) (by omega), floor_f _ 400 (by omega) (by omega) (by omega) (by omega)]
  simp only [Option.bind_some]
  rw [w64 (x := 365 * (y - 1)) (by omega) (by omega), w64 (x := 365 * (y - 1) + (y - 1) / 4) (by omega) (by omega), w64 (x := 365 * (y - 1) + (y - 1) / 4 - (y - 1) / 100) (by omega) (by omega), w64 (x := 365 * (y - 1) + (y - 1) / 4 - (y - 1) / 100 + (y - 1) / 400) (by omega) (by omega), w64 (x := 365 * (y - 1) + (y - 1) / 4 - (y - 1) / 100 + (y - 1) / 400 - 719162) (by omega) (by omega)]
  rfl
theorem mn_min (a b : Int) : mn a b = min a b := by unfold mn; omega
theorem year_f (n : Int) (h : In n) : civil_year.f n = some (yrF n) := by
  unfold In at h
  unfold civil_year.f
  have hl : 0 ≤ (n + 719162) % 146097 ∧ (n + 719162) % 146097 < 146097 := by omega
  rw [w64 (x := n + 719162) (by omega) (by omega), floor_f _ 146097 (by omega) (by omega) (by omega) (by omega)]
  simp only [Option.bind_some]
  unfold yrF
  have hc : -30 ≤ (n + 719162) / 146097 ∧ (n + 719162) / 146097 ≤ 30 := by omega
  generalize (n + 719162) % 146097 = l at *
  generalize (n + 719162) / 146097 = c at *
  rw [tdiv_pos l _ hl.1, mn_min, w64 (x := l / 36524) (by omega) (by omega)]
  have hh : 0 ≤ min (l / 36524) 3 ∧ min (l / 36524) 3 ≤ 3 ∧ 0 ≤ l - min (l / 36524) 3 * 36524 ∧ l - min (l / 36524) 3 * 36524 ≤ 36524 := by omega
  generalize min (l / 36524) 3 = h at *
  rw [w64 (x := h * 36524) (by omega) (by omega), w64 (x := l - h * 36524) (by omega) (by omega), tdiv_pos (l - h * 36524) _ hh.2.2.1, w64 (x := (l - h * 36524) / 1461) (by omega) (by omega)]
  have hf : 0 ≤ (l - h * 36524) / 1461 ∧ (l - h * 36524) / 1461 ≤ 25 ∧ 0 ≤ l - h * 36524 - (l - h * 36524) / 1461 * 1461 ∧ l - h * 36524 - (l - h * 36524) / 1461 * 1461 ≤ 1461 := by omega
  generalize (l - h * 36524) / 1461 = f at *
  rw [w64 (x := f * 1461) (by omega) (by omega), w64 (x := l - h * 36524 - f * 1461) (by omega) (by omega), tdiv_pos (l - h * 36524 - f * 1461) _ hf.2.2.1, mn_min, w64 (x := (l - h * 36524 - f * 1461) / 365) (by omega) (by omega)]
  have hg : 0 ≤ min ((l - h * 36524 - f * 1461) / 365) 3 ∧ min ((l - h * 36524 - f * 1461) / 365) 3 ≤ 3 := by omega
  generalize min ((l - h * 36524 - f * 1461) / 365) 3 = g at *
  rw [w64 (x := 400 * c) (by omega) (by omega), w64 (x := 1 + 400 * c) (by omega) (by omega), w64 (x := 100 * h) (by omega) (by omega), w64 (x := 1 + 400 * c + 100 * h) (by omega) (by omega), w64 (x := 4 * f) (by omega) (by omega), w64 (x := 1 + 400 * c + 100 * h + 4 * f) (by omega) (by omega), w64 (x := 1 + 400 * c + 100 * h + 4 * f + g) (by omega) (by omega)]
theorem tmod7 (n : Int) : -7 < Int.tmod n 7 ∧ Int.tmod n 7 < 7 ∧ (Int.tmod n 7 - n) % 7 = 0 := by
  have h1 := Int.mul_tdiv_add_tmod n 7
  have h2 : Int.tmod n 7 < 7 := Int.tmod_lt_of_pos n (by omega)
  have h3 : -7 < Int.tmod n 7 := by
    have := Int.tmod_lt_of_pos (-n) (show (0 : Int) < 7 by omega)
    rw [Int.neg_tmod] at this
    omega
  exact ⟨h3, h2, by omega⟩
theorem Weekday_f (n : Int) : civil_Weekday.f n = some (wdF n) := by
  have h := tmod7 n
  unfold civil_Weekday.f wdF
  generalize Int.tmod n 7 = t at *
  rw [w64 (x := t + 3) (by omega) (by omega), floor_f _ 7 (by omega) (by omega) (by omega) (by omega)]
  simp only [Option.bind_some]
  rw [w64 (x := (t + 3) % 7 + 1) (by omega) (by omega)]
  congr 1
  omega
theorem wdF_bd (n : Int) : 1 ≤ wdF n ∧ wdF n ≤ 7 := by unfold wdF; omega
end Go.Proofs.YtcinojbfjiohjaaGreatDoor.Civ
end
