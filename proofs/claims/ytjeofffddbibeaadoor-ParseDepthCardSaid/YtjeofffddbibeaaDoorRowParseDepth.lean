/-
  The law ParseDepth: whatever the input, it returns true and leaves its input as it was; the tied card (the listed variables are what the program's own text lays).
-/
import Derived.Test.YtjeofffddbibeaaDoorPdE
import Derived.WalkKit
import Derived.ProofKit
import Derived.OpenShut
import Derived.ShutString
import Derived.Below
import Derived.SizedLaws
import Derived.LaidMore
import Derived.Stop.Joined
import Derived.SevenTiedAt
import Derived.Deep.DeepHandedRow
import Derived.Deep.DeepWitnessRowRef
import Derived.Lay
import Derived.Carry
import Derived.Test.YtjeofffddbibeaaDoorCards
import Derived.Test.YtjeofffddbibeaaDoorTie
namespace Go.Proofs.YtjeofffddbibeaaDoor.parseDepth
open Go.ChangeShapes Go.WideShapes Go.ChangeAt Go.RowKit
open Go.ChangeMaps (open_string shut_string)
set_option linter.unusedVariables false
theorem laidOut : laidOutB Tryd.prog = true := by kernel_rfl
abbrev laidL : List (String × DataW Unit) := PLaid.laidL
theorem reads (os : Os) {H : Type} (enc : TypeId × Value → H) : ∃ places, DataW.whole enc Tryd.prog ((World.laidAll Tryd.prog os laidL).forCall (fun _ _ => 0) ⟨#[], #[.int .u8 0, .slice none 0 0], []⟩).memory Tryd.f8.params.toList (OpenSpec.ofChange Rows.parseDepthSpec).vars false (#[.int .u8 0, .slice none 0 0] : Array Value).toList 8 = some ([.lit (.int .u8 0), .nil], [], places) :=
  ⟨[], by kernel_rfl⟩
set_option maxRecDepth 100000 in
set_option maxHeartbeats 1000000 in
theorem lifted (os : Os) (started : os.Started) (H : Type) (enc : TypeId × Value → H) (F : Stop.Interp) :
    ReturnsInHanded {} Tryd.checked os 8 .any ((OpenSpec.ofChange Rows.parseDepthSpec).preRow enc Tryd.prog Tryd.f8 Rows.parseDepthRow.domain false Rows.parseDepthRow.laid) (((OpenSpec.ofChange Rows.parseDepthSpec).at F).post enc Tryd.prog Tryd.f8 false true false false) := by
  obtain ⟨places, hx⟩ := reads os enc
  refine returnsInHanded_of_row (C := Tryd.checked) (s := OpenSpec.ofChange Rows.parseDepthSpec) PLaid.own started (by kernel_rfl) Tryd.func8
    (witness_row_atRef (enc := enc) (C := Tryd.checked) false (World.laidAll Tryd.prog os laidL) #[.int .u8 0, .slice none 0 0] (World.laidAll_os _ _ _) (by kernel_rfl) (by kernel_rfl) (by kernel_rfl)
      (OpenSpec.preRow_of_cond 8 hx (by kernel_rfl) (fun k hk => by cases hk) (by kernel_rfl) (PLaid.door_met os _))) ?_
  intro W base args ds gs before hval0 hW _ _ hsz0 hL hsh _
  have hval : ∀ (j : Nat) t v, Tryd.f8.params[j]? = some t → args[j]? = some v → Value.okWide Tryd.prog W .any base t v := hval0
  have hW' := hW
  obtain ⟨p, q, hA0, hV, rfl, hfz, hnd⟩ := hW
  have hA : DataW.TrodAll enc Tryd.prog W 0 (fun _ => true) true Tryd.f8.params.toList args.toList ds p := hA0
  rw [Tryd.params8] at hA hval
  obtain ⟨v0, vs0, d0, ds0, p0, q0, hargs, rfl, rfl, h0, r0⟩ := trodAll_cons hA
  obtain ⟨v1, vs1, d1, ds1, p1, q1, rfl, rfl, rfl, h1, r1⟩ := trodAll_cons r0
  obtain ⟨rfl, rfl, rfl⟩ := trodAll_nil r1
  obtain rfl : args = #[v0, v1] := by cases args; simp_all
  obtain ⟨rfl, rfl⟩ := trodVars_none hV
  have hlt := fun z hz => hW'.lt z hz
  obtain ⟨a0, rfl, rfl, rfl, w0⟩ := open_int Tryd.underlying5 (hval 0 5 v0 rfl rfl) h0
  obtain ⟨sa1, sl1, sc1, rfl⟩ := okWide_slice Tryd.underlying43 (hval 1 43 v1 rfl rfl)
  have t1 := h1
  obtain ⟨m1, e1⟩ := h1
  obtain ⟨A1, c1, a1, z1, hc1, hC1⟩ := PLaid.toks_of_trod e1
  have zy1 : [Value.slice sa1 sl1 sc1] = [.slice A1 a1.length c1] := z1
  have zz1 := (List.cons.inj zy1).1
  injection zz1 with y1 y'1 y''1
  replace y1 := y1.symm
  replace y''1 := y''1.symm
  subst y1
  subst y'1
  subst y''1
  have l1 : ∀ z ∈ p1, z.block < W.heap.size := fun z hz => by simpa using hlt z (by simp [hz])
  have hM := PLaid.cal_of hL hsh
  clear hA0 hval0
  refine (Pa.ParseDepth_walk a0 (bounds_u8 w0).1 (bounds_u8 w0).2 a1 _ _ _ W hM rfl hC1 hc1).mono fun e W' ⟨he, hl⟩ => ?_
  subst he
  exact ⟨_, rfl, _, _, _, [], _, [], hW', trodAll_mk1 (shut_bool Tryd.underlying4 _), (trodAll_cons_mk (shut_int Tryd.underlying5 w0) (trodAll_cons_mk (Below.trod laidOut (by kernel_rfl) (of_decide_eq_true (by kernel_rfl)) t1 hl l1) trodAll_mk0)), rfl, hl.frame _, fun h => by cases h⟩
theorem over : Rows.parseDepthRow.holds Tryd.pinned (OpenSpec.ofChange Rows.parseDepthSpec) :=
  OpenClaim.holds_of_cond 8 Tryd.f8 rfl rfl rfl rfl rfl rfl rfl ⟨rfl, rfl, rfl, rfl, rfl⟩ rfl rfl rfl rfl rfl (by kernel_rfl) Tryd.func8 (by kernel_rfl)
    (of_decide_eq_true (by kernel_rfl)) (by unfold Func.isWrapper; first | (rw [if_pos (by decide +kernel)]; kernel_rfl) | (rw [if_neg (by decide +kernel)]; exact ⟨rfl, rfl⟩))
    (fun os started H enc _ F => by rw [OpenClaim.pre_eq_preRow]; exact lifted os started H enc F)
theorem card : Rows.ParseDepthCardSaid :=
  Claim7.holds_tied_plain_at .later [] [.listed, .data] true (true, "0bc9eadbf310cb7d22738444cf39bf9689a49015a3ccdf421ed2f708e206e67a") false
    over (fun _ h => by cases h) (by kernel_rfl) (fun _ h => by cases h) parseDepth_row_tie rfl ⟨rfl, rfl⟩ (by kernel_rfl) rfl
    (fun f fn hf hfn => by
      obtain rfl : f = 8 := Option.some.inj ((show Tryd.prog.funcNamed "epact/epactlaw11.ParseDepth" = some 8 by kernel_rfl).symm.trans hf) |>.symm
      obtain rfl : fn = Tryd.f8 := (Option.some.inj (Tryd.func8.symm.trans hfn)).symm
      exact ⟨by kernel_rfl, fun j t ht => by
        rw [Tryd.params8] at ht
        have hm : t ∈ [5, 43] := by simpa using Array.mem_of_getElem? ht
        have hall : ([5, 43].all fun u => !Tryd.prog.wantsStandIn u) = true := by kernel_rfl
        exact (show Tryd.prog.wantsStandIn t = false by simpa using List.all_eq_true.1 hall t hm)⟩)
    (by kernel_rfl)
end Go.Proofs.YtjeofffddbibeaaDoor.parseDepth
namespace Go.Proofs.YtjeofffddbibeaaDoor
theorem parseDepth_holds : Rows.ParseDepthCardSaid := parseDepth.card
#print axioms parseDepth_holds
end Go.Proofs.YtjeofffddbibeaaDoor
