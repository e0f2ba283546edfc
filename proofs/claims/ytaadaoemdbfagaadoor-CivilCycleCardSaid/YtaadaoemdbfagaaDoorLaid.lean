/-
  What the row's condition on the listed variable gives the walks: the table of months' cells; and that the program's own start meets it.
-/
import Derived.Test.YtaadaoemdbfagaaDoorCivD
import Derived.Test.YtaadaoemdbfagaaDoorRows
import Derived.ProofKit
import Derived.LaidMore
import Derived.OpenShut
import Derived.Stop.Joined
namespace Go.Proofs.YtaadaoemdbfagaaDoor.Laid
open Go Go.ChangeShapes Go.WideShapes Go.ChangeAt Go.RowKit
set_option linter.unusedVariables false
theorem own : ownKnob Tryd.prog.godebug = none := by kernel_rfl
abbrev laidL : List (String × DataW Unit) := [("epact/civil.ahead", Rows.laid_epact_civil_ahead)]
theorem gAhead : Tryd.prog.globalNamed "epact/civil.ahead" = some 0 := by kernel_rfl
theorem tAhead : (Tryd.prog.globals[0]?).map (·.type) = some 40 := by kernel_rfl
theorem cellsI : Tryd.prog.cellsOf 3 = 1 := by kernel_rfl
theorem door_met (os : Os) (args : Array Value) : laidMetH Tryd.prog laidL ((World.doorLaid Tryd.prog 400 os).forCall (fun _ _ => 0) ⟨#[], args, []⟩).memory :=
  laidMetH_of_parts3 (fuel := 8) (laidMet_of_run' 8 (by kernel_rfl) (by kernel_rfl)) (by kernel_rfl) (by kernel_rfl)
theorem of_laid {W : World} (h : laidMetH Tryd.prog laidL W) : Civ.Months W := by
  rw [MakeChecks.laidMetH_plain _ _ _ (by kernel_rfl)] at h
  obtain ⟨ps, ⟨g0, t0, cs0, f0, p0, q0, hg0, ht0, hv0, hd0, _, _⟩, _, _⟩ := h
  obtain rfl := Option.some.inj (gAhead.symm.trans hg0)
  obtain rfl := Option.some.inj (tAhead.symm.trans ht0)
  obtain ⟨xs, m1, rfl, hx1, hlen, hn3, hel⟩ := DataW.trod_array Tryd.underlying40 hd0
  rw [cellsI] at hel
  have hm : xs.map (·.1) = [.lit (.int .i64 0), .lit (.int .i64 31), .lit (.int .i64 59), .lit (.int .i64 90), .lit (.int .i64 120), .lit (.int .i64 151), .lit (.int .i64 181), .lit (.int .i64 212), .lit (.int .i64 243), .lit (.int .i64 273), .lit (.int .i64 304), .lit (.int .i64 334), .lit (.int .i64 365)] := by
    have h1 := (Prod.mk.inj hx1).1
    exact (DataW.agg.inj h1).symm
  refine ⟨fun i hi => ?_⟩
  rw [World.var?_cell hg0 hv0 i]
  have hd : (xs.map (·.1))[i]? = some (.lit (.int .i64 (Civ.tab i))) := by
    rw [hm]
    rcases (show i = 0 ∨ i = 1 ∨ i = 2 ∨ i = 3 ∨ i = 4 ∨ i = 5 ∨ i = 6 ∨ i = 7 ∨ i = 8 ∨ i = 9 ∨ i = 10 ∨ i = 11 ∨ i = 12 by omega) with rfl | rfl | rfl | rfl | rfl | rfl | rfl | rfl | rfl | rfl | rfl | rfl | rfl <;> rfl
  rw [List.getElem?_map, Option.map_eq_some_iff] at hd
  obtain ⟨x, hx, hx'⟩ := hd
  have he := (hel i hi).trans hx
  obtain ⟨k, e1, e2, _⟩ := DataW.trod_int Tryd.underlying3 he
  rw [e2] at hx'
  obtain rfl : k = Civ.tab i := by simpa using hx'
  rw [Nat.mul_one] at e1
  have h3 : (cs0.toList.drop i)[0]? = some (.int .i64 (Civ.tab i)) := by
    cases hl : cs0.toList.drop i with
    | nil => rw [hl] at e1; cases e1
    | cons c cs =>
      rw [hl] at e1
      simp at e1
      simp [e1]
  rw [List.getElem?_drop] at h3
  simpa using h3
end Go.Proofs.YtaadaoemdbfagaaDoor.Laid
