/-
  The law PrintCommands, where what it reads is of bulk at most 1048576: it returns true and leaves its input as it was; the tied card of the second form.
-/
import Derived.Test.YtcinojbfjiohjaaGreatDoorPwG
import Derived.WalkKit
import Derived.ProofKit
import Derived.OpenShut
import Derived.Below
import Derived.Carry
import Derived.SizedLaws
import Derived.LaidMore
import Derived.Lay
import Derived.Stop.Joined
import Derived.SevenTiedAt
import Derived.Deep.DeepHandedRow
import Derived.Deep.DeepWitnessRowRef
import Derived.Test.YtcinojbfjiohjaaGreatDoorCards
import Derived.Test.YtcinojbfjiohjaaGreatDoorTie
namespace Go.Proofs.YtcinojbfjiohjaaGreatDoor.printCommands
open Go Go.ChangeShapes Go.WideShapes Go.ChangeAt Go.RowKit Go.Proofs.YtcinojbfjiohjaaGreatDoor.Ex Go.Proofs.YtcinojbfjiohjaaGreatDoor.Pr
open Go.ChangeMaps (open_string shut_string)
set_option linter.unusedVariables false
theorem laidOut : laidOutB Tryz.prog = true := by kernel_rfl
abbrev laidL : List (String × DataW Unit) := PlLaid.laidL
abbrev emptyX : Value := .agg #[.int .u8 0, .string ByteArray.empty, .slice none 0 0, .slice none 0 0]
abbrev emptyC : Value := .agg #[.string ByteArray.empty, .slice none 0 0, .slice none 0 0, .int .i64 0, .int .i64 0, .bool false, .bool false, .int .u8 0, .string ByteArray.empty, .slice none 0 0, .slice none 0 0]
set_option maxHeartbeats 4000000 in
set_option maxRecDepth 100000 in
theorem contract (H : Type) (enc : TypeId × Value → H) (W : World) (base : Nat) (args : Array Value) (ds gs : List (DataW H)) (before : List MemPlace)
    (hval : ∀ (j : Nat) t v, Tryz.f4.params[j]? = some t → args[j]? = some v → Value.okWide Tryz.prog W .any base t v)
    (hW : DataW.Whole enc Tryz.prog Tryz.f4.params.toList Rows.printCommandsSpec.vars false W args.toList ds gs before) (hk : Rows.uptoSmall H (ds ++ gs) = true) (hM : Pr.Cal W) :
    Calls Tryz.prog 4 args W fun e W' => ∃ v, e = .returned v ∧ Rows.printCommandsSpec.post enc Tryz.prog Tryz.f4 false true false false W args v W' := by
  have hW' := hW
  obtain ⟨p, q, hA0, hV, rfl, hfz, hnd⟩ := hW
  have hA : DataW.TrodAll enc Tryz.prog W 0 (fun _ => true) true Tryz.f4.params.toList args.toList ds p := hA0
  rw [Tryz.params4] at hA hval
  obtain ⟨v0, vs0, d0, ds0, p0, q0, hargs, rfl, rfl, g0, r0⟩ := trodAll_cons hA
  obtain ⟨v1, vs1, d1, ds1, p1, q1, rfl, rfl, rfl, g1, r1⟩ := trodAll_cons r0
  obtain ⟨v2, vs2, d2, ds2, p2, q2, rfl, rfl, rfl, g2, r2⟩ := trodAll_cons r1
  obtain ⟨rfl, rfl, rfl⟩ := trodAll_nil r2
  obtain rfl : args = #[v0, v1, v2] := by cases args; simp_all
  obtain ⟨rfl, rfl⟩ := trodVars_none hV
  have hbulk : Rows.uptoBulkAll [d0, d1, d2] ≤ 1048576 := of_decide_eq_true hk
  rw [bulk_cons, bulk_cons, bulk_cons, bulk_nil] at hbulk
  have hlt := fun z hz => hW'.lt z hz
  obtain ⟨cs0, rfl, hs0⟩ := okWide_struct Tryz.underlying42 (hval 0 42 v0 rfl rfl)
  have t0 := g0
  obtain ⟨m0, e0⟩ := g0
  obtain ⟨a0, AN0, cN0, AM0, cM0, A0, c0, B0, n0, z0, h0, hc0, hf0, hs0⟩ := cmd_of_trod e0 (by show Rows.uptoBulk d0 ≤ _; omega)
  obtain rfl : cs0 = cmA a0 AN0 cN0 AM0 cM0 A0 c0 B0 n0 := by
    have : cs0.toList = _ := z0
    rw [← Array.toArray_toList (xs := cs0), this]
  have k0 : cnt a0.x ≤ 1048576 := Nat.le_trans hc0 (by show Rows.uptoBulk d0 ≤ _; omega)
  have l0 : ∀ z ∈ p0, z.block < W.heap.size := fun z hz => by simpa using hlt z (by simp [hz])
  obtain ⟨cs1, rfl, hs1⟩ := okWide_struct Tryz.underlying42 (hval 1 42 v1 rfl rfl)
  have t1 := g1
  obtain ⟨m1, e1⟩ := g1
  obtain ⟨a1, AN1, cN1, AM1, cM1, A1, c1, B1, n1, z1, h1, hc1, hf1, hs1⟩ := cmd_of_trod e1 (by show Rows.uptoBulk d1 ≤ _; omega)
  obtain rfl : cs1 = cmA a1 AN1 cN1 AM1 cM1 A1 c1 B1 n1 := by
    have : cs1.toList = _ := z1
    rw [← Array.toArray_toList (xs := cs1), this]
  have k1 : cnt a1.x ≤ 1048576 := Nat.le_trans hc1 (by show Rows.uptoBulk d1 ≤ _; omega)
  have l1 : ∀ z ∈ p1, z.block < W.heap.size := fun z hz => by simpa using hlt z (by simp [hz])
  obtain ⟨a2, rfl, rfl, rfl, y2⟩ := open_string Tryz.underlying9 (hval 2 9 v2 rfl rfl) g2
  have w2 : a2.size ≤ 1048576 := by
    have z : Rows.uptoBulk (.lit (.string a2.data.toList) : DataW H) ≤ 1048576 := by omega
    rw [bulk_string] at z
    have : a2.size = a2.data.toList.length := by simp
    omega
  refine (PrintCommands_walk a0 AN0 cN0 AM0 cM0 A0 c0 B0 n0 a1 AN1 cN1 AM1 cM1 A1 c1 B1 n1 a2 w2 W hM h0 k0 (by omega) (by have := len_cntL a0.x.f3; have := cnt_eq a0.x; omega) h1 k1 (by omega) (by have := len_cntL a1.x.f3; have := cnt_eq a1.x; omega)).mono fun e W' ⟨he, hl⟩ => ?_
  subst he
  exact ⟨_, rfl, _, _, _, [], _, [], hW', trodAll_mk1 (shut_bool Tryz.underlying4 _), (trodAll_cons_mk (Below.trod laidOut (by kernel_rfl) (of_decide_eq_true (by kernel_rfl)) t0 hl l0) (trodAll_cons_mk (Below.trod laidOut (by kernel_rfl) (of_decide_eq_true (by kernel_rfl)) t1 hl l1) (trodAll_cons_mk (shut_string Tryz.underlying9 y2) trodAll_mk0))), rfl, hl.frame _, fun h => by cases h⟩
theorem reads (os : Os) {H : Type} (enc : TypeId × Value → H) : ∃ places, DataW.whole enc Tryz.prog ((World.laidAll Tryz.prog os laidL).forCall (fun _ _ => 0) ⟨#[], #[emptyC, emptyC, .string ByteArray.empty], []⟩).memory Tryz.f4.params.toList Rows.printCommandsSpec.vars false (#[emptyC, emptyC, .string ByteArray.empty] : Array Value).toList 8 = some ([.agg [.lit (.string []), .nil, .nil, .agg [.lit (.int .i64 0), .lit (.int .i64 0), .lit (.bool false), .lit (.bool false)], .agg [.lit (.int .u8 0), .lit (.string []), .nil, .nil]], .agg [.lit (.string []), .nil, .nil, .agg [.lit (.int .i64 0), .lit (.int .i64 0), .lit (.bool false), .lit (.bool false)], .agg [.lit (.int .u8 0), .lit (.string []), .nil, .nil]], .lit (.string [])], [], places) :=
  ⟨[], by kernel_rfl⟩
set_option maxRecDepth 100000 in
theorem liftedUpto (os : Os) (started : os.Started) (H : Type) (enc : TypeId × Value → H) (F : Stop.Interp) :
    ReturnsInHanded {} Tryz.checked os 4 .any ((Rows.OpenSpec.upto Rows.printCommandsSpec).preRow enc Tryz.prog Tryz.f4 Rows.printCommandsUptoRow.domain false Rows.printCommandsUptoRow.laid) (((Rows.OpenSpec.upto Rows.printCommandsSpec).at F).post enc Tryz.prog Tryz.f4 false true false false) := by
  obtain ⟨places, hx⟩ := reads os enc
  refine returnsInHanded_of_row (C := Tryz.checked) (s := Rows.OpenSpec.upto Rows.printCommandsSpec) PlLaid.own started (by kernel_rfl) Tryz.func4
    (witness_row_atRef (enc := enc) (C := Tryz.checked) false (World.laidAll Tryz.prog os laidL) #[emptyC, emptyC, .string ByteArray.empty] (World.laidAll_os _ _ _) (by kernel_rfl) (by kernel_rfl) (by kernel_rfl)
      (OpenSpec.preRow_of_cond 8 hx (by kernel_rfl) (fun k hk => by cases hk; kernel_rfl) (by kernel_rfl) (PlLaid.door_met os _))) ?_
  intro W base args ds gs before hval hW _ hcond _ hL hsh _
  exact contract H enc W base args ds gs before hval hW (hcond _ rfl) (PlLaid.cal_of hL hsh)
theorem saidUpto : Rows.PrintCommandsUptoSaid :=
  OpenClaim.holds_of_cond 4 Tryz.f4 rfl rfl rfl rfl rfl rfl rfl ⟨rfl, rfl, rfl, rfl, rfl⟩ rfl rfl rfl rfl rfl (by kernel_rfl) Tryz.func4 (by kernel_rfl)
    (of_decide_eq_true (by kernel_rfl)) (by unfold Func.isWrapper; first | (rw [if_pos (by decide +kernel)]; kernel_rfl) | (rw [if_neg (by decide +kernel)]; exact ⟨rfl, rfl⟩))
    (fun os started H enc _ F => by rw [OpenClaim.pre_eq_preRow]; exact liftedUpto os started H enc F)
theorem plain (f : FuncId) (fn : Func) (hf : Tryz.pinned.checked.prog.funcNamed "epact/epactlaw12.PrintCommands" = some f) (hfn : Tryz.pinned.checked.prog.funcs[f]? = some fn) :
    true = Tryz.pinned.checked.prog.looks [] ∧ ∀ (j : Nat) t, fn.params[j]? = some t → Tryz.pinned.checked.prog.wantsStandIn t = false := by
  obtain rfl : f = 4 := Option.some.inj ((show Tryz.prog.funcNamed "epact/epactlaw12.PrintCommands" = some 4 by kernel_rfl).symm.trans hf) |>.symm
  obtain rfl : fn = Tryz.f4 := (Option.some.inj (Tryz.func4.symm.trans hfn)).symm
  refine ⟨by kernel_rfl, fun j t ht => ?_⟩
  rw [Tryz.params4] at ht
  have hm : t ∈ [42, 42, 9] := by simpa using Array.mem_of_getElem? ht
  have hall : ([42, 42, 9].all fun u => !Tryz.prog.wantsStandIn u) = true := by kernel_rfl
  exact (show Tryz.prog.wantsStandIn t = false by simpa using List.all_eq_true.1 hall t hm)
theorem cardUpto : Rows.PrintCommandsUptoCardSaid :=
  Claim7.holds_tied_plain_at .later [] _ _ _ _ saidUpto (fun _ h => by cases h) (by kernel_rfl) (fun _ h => by cases h) printCommandsUpto_row_tie rfl ⟨rfl, rfl⟩ (by kernel_rfl) rfl plain (by kernel_rfl)
end Go.Proofs.YtcinojbfjiohjaaGreatDoor.printCommands
namespace Go.Proofs.YtcinojbfjiohjaaGreatDoor
theorem printCommands_holds : Rows.PrintCommandsUptoCardSaid := printCommands.cardUpto
#print axioms printCommands_holds
end Go.Proofs.YtcinojbfjiohjaaGreatDoor
