/-
  NARROWER THAN 'FOR EVERY INPUT', by the rows' own cells (each row's printed sentence says how): CivilTells: laid · CivilBack: laid · CivilCycle: laid · CivilOrder: laid · CivilWeek: laid.
  DERIVED. THE GIVEN ROWS OF THIS SEAT. 5 by the template 'for every input the law returns true; each argument reads behind the call as it read before'; 0 by the template 'total and deterministic' (their statements: YtaadaoemdbfagaaDoorTotals.lean).
  GIVEN WITH THE SEED: the statements are not yours to turn. If you find one false, say at which input.
  Laid BY PROGRAM, IN A SANDBOX (cutbox-rows.mjs): the forced cells as the released guide's own fill.sh prints them over the translation c2d5eaef2768874d… (all of the seat's roots in one cut). By AI agents, Wed Nov 11 2026. No macro, syntax, notation, axiom, sorry.
-/
import Derived.Test.YtaadaoemdbfagaaDoorChecked
import GoSem.Claim
import GoSem.ClaimJoined
import GoSem.ClaimMapViews
import Derived.JoinedTies
import Derived.KernelRfl
namespace Go.Proofs.YtaadaoemdbfagaaDoor
/- THE CELL 'sum', in the pinned program and in every row, IS THE sha256 OF THE DUMP (.gsa) THAT YtaadaoemdbfagaaDoorProg.lean LOADS. Nothing in Lean hashes anything: it is a label: what it is worth is what the hold of that sum in a sandbox is worth. -/
noncomputable def Tryd.pinned : Pinned := { name := "ytaadaoemdbfagaadoor", sum := "c2d5eaef2768874d53d17aa17ba463711a267cdf0fa11f132be1d9443b9875a6", checked := Tryd.checked }
namespace Rows
def none {H : Type} : Left H := { results := [], args := [] }

/- WHAT THE LISTED PACKAGE-LEVEL VARIABLES READ AS WHEN THE CALL BEGINS. Each datum BY PROGRAM (the guide's laid-datum.mjs) off the statement by which the dump's own 'gosem.cut.vars' lays the variable. In a bare row this is a premise. The card (YtaadaoemdbfagaaDoorCards.lean) ties it to the program's text. -/
def laid_epact_civil_ahead {H : Type} : DataW H := .agg [.lit (.int .i64 0), .lit (.int .i64 31), .lit (.int .i64 59), .lit (.int .i64 90), .lit (.int .i64 120), .lit (.int .i64 151), .lit (.int .i64 181), .lit (.int .i64 212), .lit (.int .i64 243), .lit (.int .i64 273), .lit (.int .i64 304), .lit (.int .i64 334), .lit (.int .i64 365)]

/-- 'epactlaw03.CivilTells': WHATEVER THE INPUT: true; the input reads as it did. -/
def civilTellsSpec : ChangeSpec := { name := "civilTells", fn := fun _ => fun
  | [d1, d2, d3, d4] => { results := [.lit (.bool true)], args := [d1, d2, d3, d4] }
  | _ => none }
def civilTellsRow : OpenClaim := { program := "ytaadaoemdbfagaadoor", sum := "c2d5eaef2768874d53d17aa17ba463711a267cdf0fa11f132be1d9443b9875a6", func := "epact/epactlaw03.CivilTells", spec := "civilTells", unfollowed := true, recurses := true, named := ["epact/civil.ahead"], apart := false, laid := [("epact/civil.ahead", laid_epact_civil_ahead)] }
def CivilTellsSaid : Prop := civilTellsRow.holds Tryd.pinned (OpenSpec.ofChange civilTellsSpec)

/-- ITS FALSE NEIGHBOUR: 'it returns false'. Refute it at one input. -/
def civilTellsWrong : ChangeSpec := { name := "civilTells", fn := fun _ => fun
  | [d1, d2, d3, d4] => { results := [.lit (.bool false)], args := [d1, d2, d3, d4] }
  | _ => none }
def CivilTellsWrongFalsely : Prop := civilTellsRow.holds Tryd.pinned (OpenSpec.ofChange civilTellsWrong)

/-- 'epactlaw03.CivilBack': WHATEVER THE INPUT: true; the input reads as it did. -/
def civilBackSpec : ChangeSpec := { name := "civilBack", fn := fun _ => fun
  | [d1, d2, d3, d4] => { results := [.lit (.bool true)], args := [d1, d2, d3, d4] }
  | _ => none }
def civilBackRow : OpenClaim := { program := "ytaadaoemdbfagaadoor", sum := "c2d5eaef2768874d53d17aa17ba463711a267cdf0fa11f132be1d9443b9875a6", func := "epact/epactlaw03.CivilBack", spec := "civilBack", unfollowed := true, recurses := true, named := ["epact/civil.ahead"], apart := false, laid := [("epact/civil.ahead", laid_epact_civil_ahead)] }
def CivilBackSaid : Prop := civilBackRow.holds Tryd.pinned (OpenSpec.ofChange civilBackSpec)

/-- ITS FALSE NEIGHBOUR: 'it returns false'. Refute it at one input. -/
def civilBackWrong : ChangeSpec := { name := "civilBack", fn := fun _ => fun
  | [d1, d2, d3, d4] => { results := [.lit (.bool false)], args := [d1, d2, d3, d4] }
  | _ => none }
def CivilBackWrongFalsely : Prop := civilBackRow.holds Tryd.pinned (OpenSpec.ofChange civilBackWrong)

/-- 'epactlaw03.CivilCycle': WHATEVER THE INPUT: true; the input reads as it did. -/
def civilCycleSpec : ChangeSpec := { name := "civilCycle", fn := fun _ => fun
  | [d1, d2, d3] => { results := [.lit (.bool true)], args := [d1, d2, d3] }
  | _ => none }
def civilCycleRow : OpenClaim := { program := "ytaadaoemdbfagaadoor", sum := "c2d5eaef2768874d53d17aa17ba463711a267cdf0fa11f132be1d9443b9875a6", func := "epact/epactlaw03.CivilCycle", spec := "civilCycle", unfollowed := true, recurses := true, named := ["epact/civil.ahead"], apart := false, laid := [("epact/civil.ahead", laid_epact_civil_ahead)] }
def CivilCycleSaid : Prop := civilCycleRow.holds Tryd.pinned (OpenSpec.ofChange civilCycleSpec)

/-- ITS FALSE NEIGHBOUR: 'it returns false'. Refute it at one input. -/
def civilCycleWrong : ChangeSpec := { name := "civilCycle", fn := fun _ => fun
  | [d1, d2, d3] => { results := [.lit (.bool false)], args := [d1, d2, d3] }
  | _ => none }
def CivilCycleWrongFalsely : Prop := civilCycleRow.holds Tryd.pinned (OpenSpec.ofChange civilCycleWrong)

/-- 'epactlaw03.CivilOrder': WHATEVER THE INPUT: true; the input reads as it did. -/
def civilOrderSpec : ChangeSpec := { name := "civilOrder", fn := fun _ => fun
  | [d1, d2, d3, d4, d5, d6] => { results := [.lit (.bool true)], args := [d1, d2, d3, d4, d5, d6] }
  | _ => none }
def civilOrderRow : OpenClaim := { program := "ytaadaoemdbfagaadoor", sum := "c2d5eaef2768874d53d17aa17ba463711a267cdf0fa11f132be1d9443b9875a6", func := "epact/epactlaw03.CivilOrder", spec := "civilOrder", unfollowed := true, recurses := true, named := ["epact/civil.ahead"], apart := false, laid := [("epact/civil.ahead", laid_epact_civil_ahead)] }
def CivilOrderSaid : Prop := civilOrderRow.holds Tryd.pinned (OpenSpec.ofChange civilOrderSpec)

/-- ITS FALSE NEIGHBOUR: 'it returns false'. Refute it at one input. -/
def civilOrderWrong : ChangeSpec := { name := "civilOrder", fn := fun _ => fun
  | [d1, d2, d3, d4, d5, d6] => { results := [.lit (.bool false)], args := [d1, d2, d3, d4, d5, d6] }
  | _ => none }
def CivilOrderWrongFalsely : Prop := civilOrderRow.holds Tryd.pinned (OpenSpec.ofChange civilOrderWrong)

/-- 'epactlaw03.CivilWeek': WHATEVER THE INPUT: true; the input reads as it did. -/
def civilWeekSpec : ChangeSpec := { name := "civilWeek", fn := fun _ => fun
  | [d] => { results := [.lit (.bool true)], args := [d] }
  | _ => none }
def civilWeekRow : OpenClaim := { program := "ytaadaoemdbfagaadoor", sum := "c2d5eaef2768874d53d17aa17ba463711a267cdf0fa11f132be1d9443b9875a6", func := "epact/epactlaw03.CivilWeek", spec := "civilWeek", unfollowed := true, recurses := true, named := ["epact/civil.ahead"], apart := false, laid := [("epact/civil.ahead", laid_epact_civil_ahead)] }
def CivilWeekSaid : Prop := civilWeekRow.holds Tryd.pinned (OpenSpec.ofChange civilWeekSpec)

/-- ITS FALSE NEIGHBOUR: 'it returns false'. Refute it at one input. -/
def civilWeekWrong : ChangeSpec := { name := "civilWeek", fn := fun _ => fun
  | [d] => { results := [.lit (.bool false)], args := [d] }
  | _ => none }
def CivilWeekWrongFalsely : Prop := civilWeekRow.holds Tryd.pinned (OpenSpec.ofChange civilWeekWrong)

/- THE SECOND FORM. 'bulk': how many values and letters a reading holds, each counted each time it is reached (what is shared counts as often as it is met; a slice's spare places count too). A statement '..UptoSaid' is the law's where the arguments, and the package variables that the reading takes, are together of bulk at most 1048576: NARROWER than '..Said'. Prove '..Said' where nothing that the law and all that it calls make is longer than what came in: it says more and counts as full. Else prove '..UptoSaid'. A law counts once. -/
mutual
def uptoBulk {H : Type} : DataW H → Nat
  | .lit (.string bytes) => bytes.length + 1
  | .lit _ => 1
  | .nil => 1
  | .ptr d => uptoBulk d + 1
  | .slice elems spare => uptoBulkAll elems + uptoBulkAll spare + 1
  | .agg parts => uptoBulkAll parts + 1
  | .iface _ d => uptoBulk d + 1
  | .map entries => uptoBulkEntries entries + 1
  | .held _ => 1
def uptoBulkAll {H : Type} : List (DataW H) → Nat
  | [] => 0
  | d :: r => uptoBulk d + uptoBulkAll r
def uptoBulkEntries {H : Type} : List (Lit × DataW H) → Nat
  | [] => 0
  | x :: r => uptoBulkEntry x + uptoBulkEntries r
def uptoBulkEntry {H : Type} : Lit × DataW H → Nat
  | (.string bytes, d) => bytes.length + uptoBulk d + 1
  | (_, d) => uptoBulk d + 1
 end
def uptoSmall : (H : Type) → List (DataW H) → Bool := fun _ ds => decide (uptoBulkAll ds ≤ 1048576)
def OpenSpec.upto (s : _root_.Go.ChangeSpec) : _root_.Go.OpenSpec := { _root_.Go.OpenSpec.ofChange s with cond := some uptoSmall }

/-- 'epactlaw03.CivilTells', WHERE WHAT IT READS IS OF BULK AT MOST 1048576: true; the input reads as it did. -/
def civilTellsUptoRow : OpenClaim := { program := "ytaadaoemdbfagaadoor", sum := "c2d5eaef2768874d53d17aa17ba463711a267cdf0fa11f132be1d9443b9875a6", func := "epact/epactlaw03.CivilTells", spec := "civilTells", unfollowed := true, recurses := true, named := ["epact/civil.ahead"], apart := false, laid := [("epact/civil.ahead", laid_epact_civil_ahead)], narrowed := true }
def CivilTellsUptoSaid : Prop := civilTellsUptoRow.holds Tryd.pinned (OpenSpec.upto civilTellsSpec)

/-- 'epactlaw03.CivilBack', WHERE WHAT IT READS IS OF BULK AT MOST 1048576: true; the input reads as it did. -/
def civilBackUptoRow : OpenClaim := { program := "ytaadaoemdbfagaadoor", sum := "c2d5eaef2768874d53d17aa17ba463711a267cdf0fa11f132be1d9443b9875a6", func := "epact/epactlaw03.CivilBack", spec := "civilBack", unfollowed := true, recurses := true, named := ["epact/civil.ahead"], apart := false, laid := [("epact/civil.ahead", laid_epact_civil_ahead)], narrowed := true }
def CivilBackUptoSaid : Prop := civilBackUptoRow.holds Tryd.pinned (OpenSpec.upto civilBackSpec)

/-- 'epactlaw03.CivilCycle', WHERE WHAT IT READS IS OF BULK AT MOST 1048576: true; the input reads as it did. -/
def civilCycleUptoRow : OpenClaim := { program := "ytaadaoemdbfagaadoor", sum := "c2d5eaef2768874d53d17aa17ba463711a267cdf0fa11f132be1d9443b9875a6", func := "epact/epactlaw03.CivilCycle", spec := "civilCycle", unfollowed := true, recurses := true, named := ["epact/civil.ahead"], apart := false, laid := [("epact/civil.ahead", laid_epact_civil_ahead)], narrowed := true }
def CivilCycleUptoSaid : Prop := civilCycleUptoRow.holds Tryd.pinned (OpenSpec.upto civilCycleSpec)

/-- 'epactlaw03.CivilOrder', WHERE WHAT IT READS IS OF BULK AT MOST 1048576: true; the input reads as it did. -/
def civilOrderUptoRow : OpenClaim := { program := "ytaadaoemdbfagaadoor", sum := "c2d5eaef2768874d53d17aa17ba463711a267cdf0fa11f132be1d9443b9875a6", func := "epact/epactlaw03.CivilOrder", spec := "civilOrder", unfollowed := true, recurses := true, named := ["epact/civil.ahead"], apart := false, laid := [("epact/civil.ahead", laid_epact_civil_ahead)], narrowed := true }
def CivilOrderUptoSaid : Prop := civilOrderUptoRow.holds Tryd.pinned (OpenSpec.upto civilOrderSpec)

/-- 'epactlaw03.CivilWeek', WHERE WHAT IT READS IS OF BULK AT MOST 1048576: true; the input reads as it did. -/
def civilWeekUptoRow : OpenClaim := { program := "ytaadaoemdbfagaadoor", sum := "c2d5eaef2768874d53d17aa17ba463711a267cdf0fa11f132be1d9443b9875a6", func := "epact/epactlaw03.CivilWeek", spec := "civilWeek", unfollowed := true, recurses := true, named := ["epact/civil.ahead"], apart := false, laid := [("epact/civil.ahead", laid_epact_civil_ahead)], narrowed := true }
def CivilWeekUptoSaid : Prop := civilWeekUptoRow.holds Tryd.pinned (OpenSpec.upto civilWeekSpec)

end Rows
end Go.Proofs.YtaadaoemdbfagaaDoor
