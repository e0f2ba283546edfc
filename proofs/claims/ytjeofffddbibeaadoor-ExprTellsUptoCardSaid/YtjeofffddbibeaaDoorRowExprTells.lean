/-
  The law ExprTells, where what it reads is of bulk at most 1048576: it returns true and leaves its input as it was; the tied card of the second form.
-/
import Derived.Test.YtjeofffddbibeaaDoorTells
import Derived.Test.YtjeofffddbibeaaDoorHasW
import Derived.WalkKit
import Derived.ProofKit
import Derived.OpenShut
import Derived.Below
import Derived.Carry
import Derived.SizedLaws
import Derived.LaidMore
import Derived.Lay
import Derived.Stop.Joined
import Derived.SevenTiedAt
import Derived.Deep.DeepHandedRow
import Derived.Deep.DeepWitnessRowRef
import Derived.Test.YtjeofffddbibeaaDoorCards
import Derived.Test.YtjeofffddbibeaaDoorTie
namespace Go.Proofs.YtjeofffddbibeaaDoor.exprTells
open Go Go.ChangeShapes Go.WideShapes Go.ChangeAt Go.RowKit Go.Proofs.YtjeofffddbibeaaDoor.Ex
open Go.ChangeMaps (open_string shut_string)
set_option linter.unusedVariables false
theorem own : ownKnob Tryd.prog.godebug = none := by kernel_rfl
theorem laidOut : laidOutB Tryd.prog = true := by kernel_rfl
abbrev laidL : List (String × DataW Unit) := [("unicode/utf8.acceptRanges", Rows.laid_unicode_utf8_acceptRanges), ("unicode/utf8.first", Rows.laid_unicode_utf8_first)]
abbrev emptyX : Value := .agg #[.int .u8 0, .string ByteArray.empty, .slice none 0 0, .slice none 0 0]
set_option maxRecDepth 100000 in
theorem door_met (os : Os) (args : Array Value) : laidMetH Tryd.prog laidL ((World.laidAll Tryd.prog os laidL).forCall (fun _ _ => 0) ⟨#[], args, []⟩).memory := by
  rw [MakeChecks.laidMetH_plain _ _ _ (by kernel_rfl)]
  exact laidMet_laidAll _ (by kernel_rfl) (by kernel_rfl)
set_option maxRecDepth 100000 in
theorem contract (H : Type) (enc : TypeId × Value → H) (W : World) (base : Nat) (args : Array Value) (ds gs : List (DataW H)) (before : List MemPlace)
    (hval : ∀ (j : Nat) t v, Tryd.f4.params[j]? = some t → args[j]? = some v → Value.okWide Tryd.prog W .any base t v)
    (hW : DataW.Whole enc Tryd.prog Tryd.f4.params.toList Rows.exprTellsSpec.vars false W args.toList ds gs before) (hk : Rows.uptoSmall H (ds ++ gs) = true) :
    Calls Tryd.prog 4 args W fun e W' => ∃ v, e = .returned v ∧ Rows.exprTellsSpec.post enc Tryd.prog Tryd.f4 false true false false W args v W' := by
  have hW' := hW
  obtain ⟨p, q, hA0, hV, rfl, hfz, hnd⟩ := hW
  have hA : DataW.TrodAll enc Tryd.prog W 0 (fun _ => true) true Tryd.f4.params.toList args.toList ds p := hA0
  rw [Tryd.params4] at hA hval
  obtain ⟨v0, vs0, d0, ds0, p0, q0, hargs, rfl, rfl, g0, r0⟩ := trodAll_cons hA
  obtain ⟨v1, vs1, d1, ds1, p1, q1, rfl, rfl, rfl, g1, r1⟩ := trodAll_cons r0
  obtain ⟨v2, vs2, d2, ds2, p2, q2, rfl, rfl, rfl, g2, r2⟩ := trodAll_cons r1
  obtain ⟨rfl, rfl, rfl⟩ := trodAll_nil r2
  obtain rfl : args = #[v0, v1, v2] := by cases args; simp_all
  obtain ⟨rfl, rfl⟩ := trodVars_none hV
  have hbulk : Rows.uptoBulkAll [d0, d1, d2] ≤ 1048576 := of_decide_eq_true hk
  rw [bulk_cons, bulk_cons, bulk_cons, bulk_nil] at hbulk
  obtain ⟨a0, rfl, rfl, rfl, w0⟩ := open_int Tryd.underlying5 (hval 0 5 v0 rfl rfl) g0
  have b0 := bounds_u8 w0
  obtain ⟨cs1, rfl, hs1⟩ := okWide_struct Tryd.underlying25 (hval 1 25 v1 rfl rfl)
  have t1 := g1
  obtain ⟨m1, e1⟩ := g1
  obtain ⟨x1, A1, c1, B1, n1, z1, h1, hc1⟩ := has_of_trodW m1 m1 (Nat.le_refl _) _ _ e1 (by show Rows.uptoBulk d1 ≤ _; omega)
  obtain rfl : cs1 = #[.int .u8 x1.f0, .string x1.f1, .slice A1 x1.f2.length c1, .slice B1 x1.f3.length n1] := by
    have : cs1.toList = _ := z1
    rw [← Array.toArray_toList (xs := cs1), this]
  obtain ⟨cs2, rfl, hs2⟩ := okWide_struct Tryd.underlying25 (hval 2 25 v2 rfl rfl)
  have t2 := g2
  obtain ⟨m2, e2⟩ := g2
  obtain ⟨x2, A2, c2, B2, n2, z2, h2, hc2⟩ := has_of_trodW m2 m2 (Nat.le_refl _) _ _ e2 (by show Rows.uptoBulk d2 ≤ _; omega)
  obtain rfl : cs2 = #[.int .u8 x2.f0, .string x2.f1, .slice A2 x2.f2.length c2, .slice B2 x2.f3.length n2] := by
    have : cs2.toList = _ := z2
    rw [← Array.toArray_toList (xs := cs2), this]
  have hlt := fun z hz => hW'.lt z hz
  have l1 : ∀ z ∈ p1, z.block < W.heap.size := fun z hz => by simpa using hlt z (by simp [hz])
  have k1 : wt x1 ≤ 1048576 := Nat.le_trans hc1 (by show Rows.uptoBulk d1 ≤ _; omega)
  have l2 : ∀ z ∈ p2, z.block < W.heap.size := fun z hz => by simpa using hlt z (by simp [hz])
  have k2 : wt x2 ≤ 1048576 := Nat.le_trans hc2 (by show Rows.uptoBulk d2 ≤ _; omega)
  refine (ExprTells_walk a0 x1 x2 A1 c1 B1 n1 A2 c2 B2 n2 W h1 h2 b0.1 b0.2 k1 k2).mono fun e W' ⟨he, hl⟩ => ?_
  subst he
  exact ⟨_, rfl, _, _, _, [], _, [], hW', trodAll_mk1 (shut_bool Tryd.underlying4 _), (trodAll_cons_mk (shut_int Tryd.underlying5 w0) (trodAll_cons_mk (Below.trod laidOut (by kernel_rfl) (of_decide_eq_true (by kernel_rfl)) t1 hl l1) (trodAll_cons_mk (Below.trod laidOut (by kernel_rfl) (of_decide_eq_true (by kernel_rfl)) t2 hl l2) trodAll_mk0))), rfl, hl.frame _, fun h => by cases h⟩
theorem reads (os : Os) {H : Type} (enc : TypeId × Value → H) : ∃ places, DataW.whole enc Tryd.prog ((World.laidAll Tryd.prog os laidL).forCall (fun _ _ => 0) ⟨#[], #[.int .u8 0, emptyX, emptyX], []⟩).memory Tryd.f4.params.toList Rows.exprTellsSpec.vars false (#[.int .u8 0, emptyX, emptyX] : Array Value).toList 8 = some ([.lit (.int .u8 0), .agg [.lit (.int .u8 0), .lit (.string []), .nil, .nil], .agg [.lit (.int .u8 0), .lit (.string []), .nil, .nil]], [], places) :=
  ⟨[], by kernel_rfl⟩
set_option maxRecDepth 100000 in
theorem liftedUpto (os : Os) (started : os.Started) (H : Type) (enc : TypeId × Value → H) (F : Stop.Interp) :
    ReturnsInHanded {} Tryd.checked os 4 .any ((Rows.OpenSpec.upto Rows.exprTellsSpec).preRow enc Tryd.prog Tryd.f4 Rows.exprTellsUptoRow.domain false Rows.exprTellsUptoRow.laid) (((Rows.OpenSpec.upto Rows.exprTellsSpec).at F).post enc Tryd.prog Tryd.f4 false true false false) := by
  obtain ⟨places, hx⟩ := reads os enc
  refine returnsInHanded_of_row (C := Tryd.checked) (s := Rows.OpenSpec.upto Rows.exprTellsSpec) own started (by kernel_rfl) Tryd.func4
    (witness_row_atRef (enc := enc) (C := Tryd.checked) false (World.laidAll Tryd.prog os laidL) #[.int .u8 0, emptyX, emptyX] (World.laidAll_os _ _ _) (by kernel_rfl) (by kernel_rfl) (by kernel_rfl)
      (OpenSpec.preRow_of_cond 8 hx (by kernel_rfl) (fun k hk => by cases hk; kernel_rfl) (by kernel_rfl) (door_met os _))) ?_
  intro W base args ds gs before hval hW _ hcond _ hL _ _
  exact contract H enc W base args ds gs before hval hW (hcond _ rfl)
theorem saidUpto : Rows.ExprTellsUptoSaid :=
  OpenClaim.holds_of_cond 4 Tryd.f4 rfl rfl rfl rfl rfl rfl rfl ⟨rfl, rfl, rfl, rfl, rfl⟩ rfl rfl rfl rfl rfl (by kernel_rfl) Tryd.func4 (by kernel_rfl)
    (of_decide_eq_true (by kernel_rfl)) (by unfold Func.isWrapper; first | (rw [if_pos (by decide +kernel)]; kernel_rfl) | (rw [if_neg (by decide +kernel)]; exact ⟨rfl, rfl⟩))
    (fun os started H enc _ F => by rw [OpenClaim.pre_eq_preRow]; exact liftedUpto os started H enc F)
theorem plain (f : FuncId) (fn : Func) (hf : Tryd.pinned.checked.prog.funcNamed "epact/epactlaw09.ExprTells" = some f) (hfn : Tryd.pinned.checked.prog.funcs[f]? = some fn) :
    false = Tryd.pinned.checked.prog.looks [] ∧ ∀ (j : Nat) t, fn.params[j]? = some t → Tryd.pinned.checked.prog.wantsStandIn t = false := by
  obtain rfl : f = 4 := Option.some.inj ((show Tryd.prog.funcNamed "epact/epactlaw09.ExprTells" = some 4 by kernel_rfl).symm.trans hf) |>.symm
  obtain rfl : fn = Tryd.f4 := (Option.some.inj (Tryd.func4.symm.trans hfn)).symm
  refine ⟨by kernel_rfl, fun j t ht => ?_⟩
  rw [Tryd.params4] at ht
  have hm : t ∈ [5, 25, 25] := by simpa using Array.mem_of_getElem? ht
  have hall : ([5, 25, 25].all fun u => !Tryd.prog.wantsStandIn u) = true := by kernel_rfl
  exact (show Tryd.prog.wantsStandIn t = false by simpa using List.all_eq_true.1 hall t hm)
theorem cardUpto : Rows.ExprTellsUptoCardSaid :=
  Claim7.holds_tied_plain_at .later [] _ _ _ _ saidUpto (fun _ h => by cases h) (by kernel_rfl) (fun _ h => by cases h) exprTellsUpto_row_tie rfl ⟨rfl, rfl⟩ (by kernel_rfl) rfl plain (by kernel_rfl)
end Go.Proofs.YtjeofffddbibeaaDoor.exprTells
namespace Go.Proofs.YtjeofffddbibeaaDoor
theorem exprTells_holds : Rows.ExprTellsUptoCardSaid := exprTells.cardUpto
#print axioms exprTells_holds
end Go.Proofs.YtjeofffddbibeaaDoor
