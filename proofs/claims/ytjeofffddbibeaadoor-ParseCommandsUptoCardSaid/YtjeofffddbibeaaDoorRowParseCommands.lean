/-
  The law ParseCommands, where what it reads is of bulk at most 1048576: it returns true and leaves its input as it was; the tied card of the second form.
-/
import Derived.Test.YtjeofffddbibeaaDoorPmJ
import Derived.WalkKit
import Derived.ProofKit
import Derived.OpenShut
import Derived.Below
import Derived.Carry
import Derived.SizedLaws
import Derived.LaidMore
import Derived.Lay
import Derived.Stop.Joined
import Derived.SevenTiedAt
import Derived.Deep.DeepHandedRow
import Derived.Deep.DeepWitnessRowRef
import Derived.Test.YtjeofffddbibeaaDoorCards
import Derived.Test.YtjeofffddbibeaaDoorTie
namespace Go.Proofs.YtjeofffddbibeaaDoor.parseCommands
open Go Go.ChangeShapes Go.WideShapes Go.ChangeAt Go.RowKit Go.Proofs.YtjeofffddbibeaaDoor.Ex Go.Proofs.YtjeofffddbibeaaDoor.Pa
open Go.ChangeMaps (open_string shut_string)
set_option linter.unusedVariables false
theorem laidOut : laidOutB Tryd.prog = true := by kernel_rfl
abbrev laidL : List (String × DataW Unit) := PLaid.laidL
abbrev emptyX : Value := .agg #[.int .u8 0, .string ByteArray.empty, .slice none 0 0, .slice none 0 0]
abbrev emptyC : Value := .agg #[.string ByteArray.empty, .slice none 0 0, .slice none 0 0, .int .i64 0, .int .i64 0, .bool false, .bool false, .int .u8 0, .string ByteArray.empty, .slice none 0 0, .slice none 0 0]
set_option maxHeartbeats 4000000 in
set_option maxRecDepth 100000 in
theorem contract (H : Type) (enc : TypeId × Value → H) (W : World) (base : Nat) (args : Array Value) (ds gs : List (DataW H)) (before : List MemPlace)
    (hval : ∀ (j : Nat) t v, Tryd.f9.params[j]? = some t → args[j]? = some v → Value.okWide Tryd.prog W .any base t v)
    (hW : DataW.Whole enc Tryd.prog Tryd.f9.params.toList Rows.parseCommandsSpec.vars false W args.toList ds gs before) (hk : Rows.uptoSmall H (ds ++ gs) = true) (hM : Pa.Cal W) :
    Calls Tryd.prog 9 args W fun e W' => ∃ v, e = .returned v ∧ Rows.parseCommandsSpec.post enc Tryd.prog Tryd.f9 false true false false W args v W' := by
  have hW' := hW
  obtain ⟨p, q, hA0, hV, rfl, hfz, hnd⟩ := hW
  have hA : DataW.TrodAll enc Tryd.prog W 0 (fun _ => true) true Tryd.f9.params.toList args.toList ds p := hA0
  rw [Tryd.params9] at hA hval
  obtain ⟨v0, vs0, d0, ds0, p0, q0, hargs, rfl, rfl, g0, r0⟩ := trodAll_cons hA
  obtain ⟨v1, vs1, d1, ds1, p1, q1, rfl, rfl, rfl, g1, r1⟩ := trodAll_cons r0
  obtain ⟨rfl, rfl, rfl⟩ := trodAll_nil r1
  obtain rfl : args = #[v0, v1] := by cases args; simp_all
  obtain ⟨rfl, rfl⟩ := trodVars_none hV
  have hbulk : Rows.uptoBulkAll [d0, d1] ≤ 1048576 := of_decide_eq_true hk
  rw [qV, qV, iA] at hbulk
  have hlt := fun z hz => hW'.lt z hz
  obtain ⟨cs0, rfl, hs0⟩ := okWide_struct Tryd.underlying54 (hval 0 54 v0 rfl rfl)
  have t0 := g0
  obtain ⟨m0, e0⟩ := g0
  obtain ⟨a0, AN0, cN0, AM0, cM0, A0, c0, B0, n0, z0, h0, hc0, hf0, hs0⟩ := cmd_of_trod e0 (by show Rows.uptoBulk d0 ≤ _; omega)
  obtain rfl : cs0 = cmA a0 AN0 cN0 AM0 cM0 A0 c0 B0 n0 := by
    have : cs0.toList = _ := z0
    rw [← Array.toArray_toList (xs := cs0), this]
  have k0 : cnt a0.x ≤ 1048576 := Nat.le_trans hc0 (by show Rows.uptoBulk d0 ≤ _; omega)
  have l0 : ∀ z ∈ p0, z.block < W.heap.size := fun z hz => by simpa using hlt z (by simp [hz])
  obtain ⟨a1, rfl, rfl, rfl, y1⟩ := open_string Tryd.underlying9 (hval 1 9 v1 rfl rfl) g1
  have w1 : a1.size ≤ 1048576 := by
    have z : Rows.uptoBulk (.lit (.string a1.data.toList) : DataW H) ≤ 1048576 := by omega
    rw [dS] at z
    have : a1.size = a1.data.toList.length := by simp
    omega
  refine (zTW a0 AN0 cN0 AM0 cM0 A0 c0 B0 n0 a1 w1 W hM h0 k0).mono fun e W' ⟨he, hl⟩ => ?_
  subst he
  exact ⟨_, rfl, _, _, _, [], _, [], hW', trodAll_mk1 (shut_bool Tryd.underlying4 _), (trodAll_cons_mk (Below.trod laidOut (by kernel_rfl) (of_decide_eq_true (by kernel_rfl)) t0 hl l0) (trodAll_cons_mk (shut_string Tryd.underlying9 y1) trodAll_mk0)), rfl, hl.frame _, fun h => by cases h⟩
theorem reads (os : Os) {H : Type} (enc : TypeId × Value → H) : ∃ places, DataW.whole enc Tryd.prog ((World.laidAll Tryd.prog os laidL).forCall (fun _ _ => 0) ⟨#[], #[emptyC, .string ByteArray.empty], []⟩).memory Tryd.f9.params.toList Rows.parseCommandsSpec.vars false (#[emptyC, .string ByteArray.empty] : Array Value).toList 8 = some ([.agg [.lit (.string []), .nil, .nil, .agg [.lit (.int .i64 0), .lit (.int .i64 0), .lit (.bool false), .lit (.bool false)], .agg [.lit (.int .u8 0), .lit (.string []), .nil, .nil]], .lit (.string [])], [], places) :=
  ⟨[], by kernel_rfl⟩
set_option maxRecDepth 100000 in
theorem liftedUpto (os : Os) (started : os.Started) (H : Type) (enc : TypeId × Value → H) (F : Stop.Interp) :
    ReturnsInHanded {} Tryd.checked os 9 .any ((Rows.OpenSpec.upto Rows.parseCommandsSpec).preRow enc Tryd.prog Tryd.f9 Rows.parseCommandsUptoRow.domain false Rows.parseCommandsUptoRow.laid) (((Rows.OpenSpec.upto Rows.parseCommandsSpec).at F).post enc Tryd.prog Tryd.f9 false true false false) := by
  obtain ⟨places, hx⟩ := reads os enc
  refine returnsInHanded_of_row (C := Tryd.checked) (s := Rows.OpenSpec.upto Rows.parseCommandsSpec) PLaid.own started (by kernel_rfl) Tryd.func9
    (witness_row_atRef (enc := enc) (C := Tryd.checked) false (World.laidAll Tryd.prog os laidL) #[emptyC, .string ByteArray.empty] (World.laidAll_os _ _ _) (by kernel_rfl) (by kernel_rfl) (by kernel_rfl)
      (OpenSpec.preRow_of_cond 8 hx (by kernel_rfl) (fun k hk => by cases hk; kernel_rfl) (by kernel_rfl) (PLaid.door_met os _))) ?_
  intro W base args ds gs before hval hW _ hcond _ hL hsh _
  exact contract H enc W base args ds gs before hval hW (hcond _ rfl) (PLaid.cal_of hL hsh)
theorem saidUpto : Rows.ParseCommandsUptoSaid :=
  OpenClaim.holds_of_cond 9 Tryd.f9 rfl rfl rfl rfl rfl rfl rfl ⟨rfl, rfl, rfl, rfl, rfl⟩ rfl rfl rfl rfl rfl (by kernel_rfl) Tryd.func9 (by kernel_rfl)
    (of_decide_eq_true (by kernel_rfl)) (by unfold Func.isWrapper; first | (rw [if_pos (by decide +kernel)]; kernel_rfl) | (rw [if_neg (by decide +kernel)]; exact ⟨rfl, rfl⟩))
    (fun os started H enc _ F => by rw [OpenClaim.pre_eq_preRow]; exact liftedUpto os started H enc F)
theorem plain (f : FuncId) (fn : Func) (hf : Tryd.pinned.checked.prog.funcNamed "epact/epactlaw11.ParseCommands" = some f) (hfn : Tryd.pinned.checked.prog.funcs[f]? = some fn) :
    false = Tryd.pinned.checked.prog.looks [] ∧ ∀ (j : Nat) t, fn.params[j]? = some t → Tryd.pinned.checked.prog.wantsStandIn t = false := by
  obtain rfl : f = 9 := Option.some.inj ((show Tryd.prog.funcNamed "epact/epactlaw11.ParseCommands" = some 9 by kernel_rfl).symm.trans hf) |>.symm
  obtain rfl : fn = Tryd.f9 := (Option.some.inj (Tryd.func9.symm.trans hfn)).symm
  refine ⟨by kernel_rfl, fun j t ht => ?_⟩
  rw [Tryd.params9] at ht
  have hm : t ∈ [54, 9] := by simpa using Array.mem_of_getElem? ht
  have hall : ([54, 9].all fun u => !Tryd.prog.wantsStandIn u) = true := by kernel_rfl
  exact (show Tryd.prog.wantsStandIn t = false by simpa using List.all_eq_true.1 hall t hm)
theorem cardUpto : Rows.ParseCommandsUptoCardSaid :=
  Claim7.holds_tied_plain_at .later [] _ _ _ _ saidUpto (fun _ h => by cases h) (by kernel_rfl) (fun _ h => by cases h) parseCommandsUpto_row_tie rfl ⟨rfl, rfl⟩ (by kernel_rfl) rfl plain (by kernel_rfl)
end Go.Proofs.YtjeofffddbibeaaDoor.parseCommands
namespace Go.Proofs.YtjeofffddbibeaaDoor
theorem parseCommands_holds : Rows.ParseCommandsUptoCardSaid := parseCommands.cardUpto
#print axioms parseCommands_holds
end Go.Proofs.YtjeofffddbibeaaDoor
