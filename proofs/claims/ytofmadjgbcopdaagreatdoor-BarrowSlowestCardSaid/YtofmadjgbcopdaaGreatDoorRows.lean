/-
  NARROWER THAN 'FOR EVERY INPUT', by the rows' own cells (each row's printed sentence says how): BarrowChecks: laid · BarrowJobs: laid · BarrowRides: laid · BarrowFaster: laid · BarrowLater: laid · BarrowVerdict: laid · BarrowFewests: laid · BarrowFewest: laid · BarrowAlone: laid · BarrowLoad: laid · BarrowRule: laid · BarrowVerdicts: laid · BarrowSlowest: laid · BarrowPlans: laid · BarrowAll: laid · BarrowKnown: laid.
  DERIVED. THE GIVEN ROWS OF THIS SEAT. 16 by the template 'for every input the law returns true; each argument reads behind the call as it read before'; 0 by the template 'total and deterministic' (their statements: YtofmadjgbcopdaaGreatDoorTotals.lean).
  GIVEN WITH THE SEED: the statements are not yours to turn. If you find one false, say at which input.
  Laid BY PROGRAM, IN A SANDBOX (cutbox-rows.mjs): the forced cells as the released guide's own fill.sh prints them over the translation 418b16c4d32f1556… (all of the seat's roots in one cut). By AI agents, Wed Nov 11 2026. No macro, syntax, notation, axiom, sorry.
-/
import Derived.Test.YtofmadjgbcopdaaGreatDoorChecked
import GoSem.Claim
import GoSem.ClaimJoined
import GoSem.ClaimMapViews
import Derived.JoinedTies
import Derived.KernelRfl
namespace Go.Proofs.YtofmadjgbcopdaaGreatDoor
/- THE CELL 'sum', in the pinned program and in every row, IS THE sha256 OF THE DUMP (.gsa) THAT YtofmadjgbcopdaaGreatDoorProg.lean LOADS. Nothing in Lean hashes anything: it is a label: what it is worth is what the hold of that sum in a sandbox is worth. -/
noncomputable def Tryz.pinned : Pinned := { name := "ytofmadjgbcopdaagreatdoor", sum := "418b16c4d32f1556207f7742fbc2a5d97671f8dc8f7eb1f09e6b5cce4c0d2339", checked := Tryz.checked }
namespace Rows
def none {H : Type} : Left H := { results := [], args := [] }

/- WHAT THE LISTED PACKAGE-LEVEL VARIABLES READ AS WHEN THE CALL BEGINS. Each datum BY PROGRAM (the guide's laid-datum.mjs) off the statement by which the dump's own 'gosem.cut.vars' lays the variable. In a bare row this is a premise. The card (YtofmadjgbcopdaaGreatDoorCards.lean) ties it to the program's text. -/
def laid_errors_errorType {H : Type} : DataW H := .iface "internal/reflectlite.rtype" (.agg [.ptr (.lit (.string [101, 114, 114, 111, 114]))])

/-- 'gladstonelaw06.BarrowChecks': WHATEVER THE INPUT: true; the input reads as it did. -/
def barrowChecksSpec : ChangeSpec := { name := "barrowChecks", fn := fun _ => fun
  | [d1, d2, d3, d4, d5] => { results := [.lit (.bool true)], args := [d1, d2, d3, d4, d5] }
  | _ => none }
def barrowChecksRow : OpenClaim := { program := "ytofmadjgbcopdaagreatdoor", sum := "418b16c4d32f1556207f7742fbc2a5d97671f8dc8f7eb1f09e6b5cce4c0d2339", func := "gladstone/gladstonelaw06.BarrowChecks", spec := "barrowChecks", inPlace := ["internal/reflectlite.ValueOf", "(internal/reflectlite.Value).Type", "(internal/reflectlite.Value).IsNil", "internal/reflectlite.TypeOf", "(internal/reflectlite.Value).Elem", "(internal/reflectlite.Value).Set"], unfollowed := true, recurses := true, named := ["errors.errorType"], plainKeys := false, leaving := true, apart := false, laid := [("errors.errorType", laid_errors_errorType)] }
def BarrowChecksSaid : Prop := barrowChecksRow.holds Tryz.pinned (OpenSpec.ofChange barrowChecksSpec)

/-- ITS FALSE NEIGHBOUR: 'it returns false'. Refute it at one input. -/
def barrowChecksWrong : ChangeSpec := { name := "barrowChecks", fn := fun _ => fun
  | [d1, d2, d3, d4, d5] => { results := [.lit (.bool false)], args := [d1, d2, d3, d4, d5] }
  | _ => none }
def BarrowChecksWrongFalsely : Prop := barrowChecksRow.holds Tryz.pinned (OpenSpec.ofChange barrowChecksWrong)

/-- 'gladstonelaw06.BarrowJobs': WHATEVER THE INPUT: true; the input reads as it did. -/
def barrowJobsSpec : ChangeSpec := { name := "barrowJobs", fn := fun _ => fun
  | [d] => { results := [.lit (.bool true)], args := [d] }
  | _ => none }
def barrowJobsRow : OpenClaim := { program := "ytofmadjgbcopdaagreatdoor", sum := "418b16c4d32f1556207f7742fbc2a5d97671f8dc8f7eb1f09e6b5cce4c0d2339", func := "gladstone/gladstonelaw06.BarrowJobs", spec := "barrowJobs", inPlace := ["internal/reflectlite.ValueOf", "(internal/reflectlite.Value).Type", "(internal/reflectlite.Value).IsNil", "internal/reflectlite.TypeOf", "(internal/reflectlite.Value).Elem", "(internal/reflectlite.Value).Set"], unfollowed := true, recurses := true, named := ["errors.errorType"], plainKeys := false, leaving := true, apart := false, laid := [("errors.errorType", laid_errors_errorType)] }
def BarrowJobsSaid : Prop := barrowJobsRow.holds Tryz.pinned (OpenSpec.ofChange barrowJobsSpec)

/-- ITS FALSE NEIGHBOUR: 'it returns false'. Refute it at one input. -/
def barrowJobsWrong : ChangeSpec := { name := "barrowJobs", fn := fun _ => fun
  | [d] => { results := [.lit (.bool false)], args := [d] }
  | _ => none }
def BarrowJobsWrongFalsely : Prop := barrowJobsRow.holds Tryz.pinned (OpenSpec.ofChange barrowJobsWrong)

/-- 'gladstonelaw06.BarrowRides': WHATEVER THE INPUT: true; the input reads as it did. -/
def barrowRidesSpec : ChangeSpec := { name := "barrowRides", fn := fun _ => fun
  | [d] => { results := [.lit (.bool true)], args := [d] }
  | _ => none }
def barrowRidesRow : OpenClaim := { program := "ytofmadjgbcopdaagreatdoor", sum := "418b16c4d32f1556207f7742fbc2a5d97671f8dc8f7eb1f09e6b5cce4c0d2339", func := "gladstone/gladstonelaw06.BarrowRides", spec := "barrowRides", inPlace := ["internal/reflectlite.ValueOf", "(internal/reflectlite.Value).Type", "(internal/reflectlite.Value).IsNil", "internal/reflectlite.TypeOf", "(internal/reflectlite.Value).Elem", "(internal/reflectlite.Value).Set"], unfollowed := true, recurses := true, named := ["errors.errorType"], plainKeys := false, leaving := true, apart := false, laid := [("errors.errorType", laid_errors_errorType)] }
def BarrowRidesSaid : Prop := barrowRidesRow.holds Tryz.pinned (OpenSpec.ofChange barrowRidesSpec)

/-- ITS FALSE NEIGHBOUR: 'it returns false'. Refute it at one input. -/
def barrowRidesWrong : ChangeSpec := { name := "barrowRides", fn := fun _ => fun
  | [d] => { results := [.lit (.bool false)], args := [d] }
  | _ => none }
def BarrowRidesWrongFalsely : Prop := barrowRidesRow.holds Tryz.pinned (OpenSpec.ofChange barrowRidesWrong)

/-- 'gladstonelaw06.BarrowFaster': WHATEVER THE INPUT: true; the input reads as it did. -/
def barrowFasterSpec : ChangeSpec := { name := "barrowFaster", fn := fun _ => fun
  | [d] => { results := [.lit (.bool true)], args := [d] }
  | _ => none }
def barrowFasterRow : OpenClaim := { program := "ytofmadjgbcopdaagreatdoor", sum := "418b16c4d32f1556207f7742fbc2a5d97671f8dc8f7eb1f09e6b5cce4c0d2339", func := "gladstone/gladstonelaw06.BarrowFaster", spec := "barrowFaster", inPlace := ["internal/reflectlite.ValueOf", "(internal/reflectlite.Value).Type", "(internal/reflectlite.Value).IsNil", "internal/reflectlite.TypeOf", "(internal/reflectlite.Value).Elem", "(internal/reflectlite.Value).Set"], unfollowed := true, recurses := true, named := ["errors.errorType"], plainKeys := false, leaving := true, apart := false, laid := [("errors.errorType", laid_errors_errorType)] }
def BarrowFasterSaid : Prop := barrowFasterRow.holds Tryz.pinned (OpenSpec.ofChange barrowFasterSpec)

/-- ITS FALSE NEIGHBOUR: 'it returns false'. Refute it at one input. -/
def barrowFasterWrong : ChangeSpec := { name := "barrowFaster", fn := fun _ => fun
  | [d] => { results := [.lit (.bool false)], args := [d] }
  | _ => none }
def BarrowFasterWrongFalsely : Prop := barrowFasterRow.holds Tryz.pinned (OpenSpec.ofChange barrowFasterWrong)

/-- 'gladstonelaw06.BarrowLater': WHATEVER THE INPUT: true; the input reads as it did. -/
def barrowLaterSpec : ChangeSpec := { name := "barrowLater", fn := fun _ => fun
  | [d] => { results := [.lit (.bool true)], args := [d] }
  | _ => none }
def barrowLaterRow : OpenClaim := { program := "ytofmadjgbcopdaagreatdoor", sum := "418b16c4d32f1556207f7742fbc2a5d97671f8dc8f7eb1f09e6b5cce4c0d2339", func := "gladstone/gladstonelaw06.BarrowLater", spec := "barrowLater", inPlace := ["internal/reflectlite.ValueOf", "(internal/reflectlite.Value).Type", "(internal/reflectlite.Value).IsNil", "internal/reflectlite.TypeOf", "(internal/reflectlite.Value).Elem", "(internal/reflectlite.Value).Set"], unfollowed := true, recurses := true, named := ["errors.errorType"], plainKeys := false, leaving := true, apart := false, laid := [("errors.errorType", laid_errors_errorType)] }
def BarrowLaterSaid : Prop := barrowLaterRow.holds Tryz.pinned (OpenSpec.ofChange barrowLaterSpec)

/-- ITS FALSE NEIGHBOUR: 'it returns false'. Refute it at one input. -/
def barrowLaterWrong : ChangeSpec := { name := "barrowLater", fn := fun _ => fun
  | [d] => { results := [.lit (.bool false)], args := [d] }
  | _ => none }
def BarrowLaterWrongFalsely : Prop := barrowLaterRow.holds Tryz.pinned (OpenSpec.ofChange barrowLaterWrong)

/-- 'gladstonelaw06.BarrowVerdict': WHATEVER THE INPUT: true; the input reads as it did. -/
def barrowVerdictSpec : ChangeSpec := { name := "barrowVerdict", fn := fun _ => fun
  | [d] => { results := [.lit (.bool true)], args := [d] }
  | _ => none }
def barrowVerdictRow : OpenClaim := { program := "ytofmadjgbcopdaagreatdoor", sum := "418b16c4d32f1556207f7742fbc2a5d97671f8dc8f7eb1f09e6b5cce4c0d2339", func := "gladstone/gladstonelaw06.BarrowVerdict", spec := "barrowVerdict", inPlace := ["internal/reflectlite.ValueOf", "(internal/reflectlite.Value).Type", "(internal/reflectlite.Value).IsNil", "internal/reflectlite.TypeOf", "(internal/reflectlite.Value).Elem", "(internal/reflectlite.Value).Set"], unfollowed := true, recurses := true, named := ["errors.errorType"], plainKeys := false, leaving := true, apart := false, laid := [("errors.errorType", laid_errors_errorType)] }
def BarrowVerdictSaid : Prop := barrowVerdictRow.holds Tryz.pinned (OpenSpec.ofChange barrowVerdictSpec)

/-- ITS FALSE NEIGHBOUR: 'it returns false'. Refute it at one input. -/
def barrowVerdictWrong : ChangeSpec := { name := "barrowVerdict", fn := fun _ => fun
  | [d] => { results := [.lit (.bool false)], args := [d] }
  | _ => none }
def BarrowVerdictWrongFalsely : Prop := barrowVerdictRow.holds Tryz.pinned (OpenSpec.ofChange barrowVerdictWrong)

/-- 'gladstonelaw06.BarrowFewests': WHATEVER THE INPUT: true; the input reads as it did. -/
def barrowFewestsSpec : ChangeSpec := { name := "barrowFewests", fn := fun _ => fun
  | [d1, d2, d3] => { results := [.lit (.bool true)], args := [d1, d2, d3] }
  | _ => none }
def barrowFewestsRow : OpenClaim := { program := "ytofmadjgbcopdaagreatdoor", sum := "418b16c4d32f1556207f7742fbc2a5d97671f8dc8f7eb1f09e6b5cce4c0d2339", func := "gladstone/gladstonelaw06.BarrowFewests", spec := "barrowFewests", inPlace := ["internal/reflectlite.ValueOf", "(internal/reflectlite.Value).Type", "(internal/reflectlite.Value).IsNil", "internal/reflectlite.TypeOf", "(internal/reflectlite.Value).Elem", "(internal/reflectlite.Value).Set"], unfollowed := true, recurses := true, named := ["errors.errorType"], plainKeys := false, leaving := true, apart := false, laid := [("errors.errorType", laid_errors_errorType)] }
def BarrowFewestsSaid : Prop := barrowFewestsRow.holds Tryz.pinned (OpenSpec.ofChange barrowFewestsSpec)

/-- ITS FALSE NEIGHBOUR: 'it returns false'. Refute it at one input. -/
def barrowFewestsWrong : ChangeSpec := { name := "barrowFewests", fn := fun _ => fun
  | [d1, d2, d3] => { results := [.lit (.bool false)], args := [d1, d2, d3] }
  | _ => none }
def BarrowFewestsWrongFalsely : Prop := barrowFewestsRow.holds Tryz.pinned (OpenSpec.ofChange barrowFewestsWrong)

/-- 'gladstonelaw06.BarrowFewest': WHATEVER THE INPUT: true; the input reads as it did. -/
def barrowFewestSpec : ChangeSpec := { name := "barrowFewest", fn := fun _ => fun
  | [d] => { results := [.lit (.bool true)], args := [d] }
  | _ => none }
def barrowFewestRow : OpenClaim := { program := "ytofmadjgbcopdaagreatdoor", sum := "418b16c4d32f1556207f7742fbc2a5d97671f8dc8f7eb1f09e6b5cce4c0d2339", func := "gladstone/gladstonelaw06.BarrowFewest", spec := "barrowFewest", inPlace := ["internal/reflectlite.ValueOf", "(internal/reflectlite.Value).Type", "(internal/reflectlite.Value).IsNil", "internal/reflectlite.TypeOf", "(internal/reflectlite.Value).Elem", "(internal/reflectlite.Value).Set"], unfollowed := true, recurses := true, named := ["errors.errorType"], plainKeys := false, leaving := true, apart := false, laid := [("errors.errorType", laid_errors_errorType)] }
def BarrowFewestSaid : Prop := barrowFewestRow.holds Tryz.pinned (OpenSpec.ofChange barrowFewestSpec)

/-- ITS FALSE NEIGHBOUR: 'it returns false'. Refute it at one input. -/
def barrowFewestWrong : ChangeSpec := { name := "barrowFewest", fn := fun _ => fun
  | [d] => { results := [.lit (.bool false)], args := [d] }
  | _ => none }
def BarrowFewestWrongFalsely : Prop := barrowFewestRow.holds Tryz.pinned (OpenSpec.ofChange barrowFewestWrong)

/-- 'gladstonelaw06.BarrowAlone': WHATEVER THE INPUT: true; the input reads as it did. -/
def barrowAloneSpec : ChangeSpec := { name := "barrowAlone", fn := fun _ => fun
  | [d] => { results := [.lit (.bool true)], args := [d] }
  | _ => none }
def barrowAloneRow : OpenClaim := { program := "ytofmadjgbcopdaagreatdoor", sum := "418b16c4d32f1556207f7742fbc2a5d97671f8dc8f7eb1f09e6b5cce4c0d2339", func := "gladstone/gladstonelaw06.BarrowAlone", spec := "barrowAlone", inPlace := ["internal/reflectlite.ValueOf", "(internal/reflectlite.Value).Type", "(internal/reflectlite.Value).IsNil", "internal/reflectlite.TypeOf", "(internal/reflectlite.Value).Elem", "(internal/reflectlite.Value).Set"], unfollowed := true, recurses := true, named := ["errors.errorType"], plainKeys := false, leaving := true, apart := false, laid := [("errors.errorType", laid_errors_errorType)] }
def BarrowAloneSaid : Prop := barrowAloneRow.holds Tryz.pinned (OpenSpec.ofChange barrowAloneSpec)

/-- ITS FALSE NEIGHBOUR: 'it returns false'. Refute it at one input. -/
def barrowAloneWrong : ChangeSpec := { name := "barrowAlone", fn := fun _ => fun
  | [d] => { results := [.lit (.bool false)], args := [d] }
  | _ => none }
def BarrowAloneWrongFalsely : Prop := barrowAloneRow.holds Tryz.pinned (OpenSpec.ofChange barrowAloneWrong)

/-- 'gladstonelaw06.BarrowLoad': WHATEVER THE INPUT: true; the input reads as it did. -/
def barrowLoadSpec : ChangeSpec := { name := "barrowLoad", fn := fun _ => fun
  | [d] => { results := [.lit (.bool true)], args := [d] }
  | _ => none }
def barrowLoadRow : OpenClaim := { program := "ytofmadjgbcopdaagreatdoor", sum := "418b16c4d32f1556207f7742fbc2a5d97671f8dc8f7eb1f09e6b5cce4c0d2339", func := "gladstone/gladstonelaw06.BarrowLoad", spec := "barrowLoad", inPlace := ["internal/reflectlite.ValueOf", "(internal/reflectlite.Value).Type", "(internal/reflectlite.Value).IsNil", "internal/reflectlite.TypeOf", "(internal/reflectlite.Value).Elem", "(internal/reflectlite.Value).Set"], unfollowed := true, recurses := true, named := ["errors.errorType"], plainKeys := false, leaving := true, apart := false, laid := [("errors.errorType", laid_errors_errorType)] }
def BarrowLoadSaid : Prop := barrowLoadRow.holds Tryz.pinned (OpenSpec.ofChange barrowLoadSpec)

/-- ITS FALSE NEIGHBOUR: 'it returns false'. Refute it at one input. -/
def barrowLoadWrong : ChangeSpec := { name := "barrowLoad", fn := fun _ => fun
  | [d] => { results := [.lit (.bool false)], args := [d] }
  | _ => none }
def BarrowLoadWrongFalsely : Prop := barrowLoadRow.holds Tryz.pinned (OpenSpec.ofChange barrowLoadWrong)

/-- 'gladstonelaw06.BarrowRule': WHATEVER THE INPUT: true; the input reads as it did. -/
def barrowRuleSpec : ChangeSpec := { name := "barrowRule", fn := fun _ => fun
  | [d] => { results := [.lit (.bool true)], args := [d] }
  | _ => none }
def barrowRuleRow : OpenClaim := { program := "ytofmadjgbcopdaagreatdoor", sum := "418b16c4d32f1556207f7742fbc2a5d97671f8dc8f7eb1f09e6b5cce4c0d2339", func := "gladstone/gladstonelaw06.BarrowRule", spec := "barrowRule", inPlace := ["internal/reflectlite.ValueOf", "(internal/reflectlite.Value).Type", "(internal/reflectlite.Value).IsNil", "internal/reflectlite.TypeOf", "(internal/reflectlite.Value).Elem", "(internal/reflectlite.Value).Set"], unfollowed := true, recurses := true, named := ["errors.errorType"], plainKeys := false, leaving := true, apart := false, laid := [("errors.errorType", laid_errors_errorType)] }
def BarrowRuleSaid : Prop := barrowRuleRow.holds Tryz.pinned (OpenSpec.ofChange barrowRuleSpec)

/-- ITS FALSE NEIGHBOUR: 'it returns false'. Refute it at one input. -/
def barrowRuleWrong : ChangeSpec := { name := "barrowRule", fn := fun _ => fun
  | [d] => { results := [.lit (.bool false)], args := [d] }
  | _ => none }
def BarrowRuleWrongFalsely : Prop := barrowRuleRow.holds Tryz.pinned (OpenSpec.ofChange barrowRuleWrong)

/-- 'gladstonelaw06.BarrowVerdicts': WHATEVER THE INPUT: true; the input reads as it did. -/
def barrowVerdictsSpec : ChangeSpec := { name := "barrowVerdicts", fn := fun _ => fun
  | [d1, d2, d3, d4] => { results := [.lit (.bool true)], args := [d1, d2, d3, d4] }
  | _ => none }
def barrowVerdictsRow : OpenClaim := { program := "ytofmadjgbcopdaagreatdoor", sum := "418b16c4d32f1556207f7742fbc2a5d97671f8dc8f7eb1f09e6b5cce4c0d2339", func := "gladstone/gladstonelaw06.BarrowVerdicts", spec := "barrowVerdicts", inPlace := ["internal/reflectlite.ValueOf", "(internal/reflectlite.Value).Type", "(internal/reflectlite.Value).IsNil", "internal/reflectlite.TypeOf", "(internal/reflectlite.Value).Elem", "(internal/reflectlite.Value).Set"], unfollowed := true, recurses := true, named := ["errors.errorType"], plainKeys := false, leaving := true, apart := false, laid := [("errors.errorType", laid_errors_errorType)] }
def BarrowVerdictsSaid : Prop := barrowVerdictsRow.holds Tryz.pinned (OpenSpec.ofChange barrowVerdictsSpec)

/-- ITS FALSE NEIGHBOUR: 'it returns false'. Refute it at one input. -/
def barrowVerdictsWrong : ChangeSpec := { name := "barrowVerdicts", fn := fun _ => fun
  | [d1, d2, d3, d4] => { results := [.lit (.bool false)], args := [d1, d2, d3, d4] }
  | _ => none }
def BarrowVerdictsWrongFalsely : Prop := barrowVerdictsRow.holds Tryz.pinned (OpenSpec.ofChange barrowVerdictsWrong)

/-- 'gladstonelaw06.BarrowSlowest': WHATEVER THE INPUT: true; the input reads as it did. -/
def barrowSlowestSpec : ChangeSpec := { name := "barrowSlowest", fn := fun _ => fun
  | [d] => { results := [.lit (.bool true)], args := [d] }
  | _ => none }
def barrowSlowestRow : OpenClaim := { program := "ytofmadjgbcopdaagreatdoor", sum := "418b16c4d32f1556207f7742fbc2a5d97671f8dc8f7eb1f09e6b5cce4c0d2339", func := "gladstone/gladstonelaw06.BarrowSlowest", spec := "barrowSlowest", inPlace := ["internal/reflectlite.ValueOf", "(internal/reflectlite.Value).Type", "(internal/reflectlite.Value).IsNil", "internal/reflectlite.TypeOf", "(internal/reflectlite.Value).Elem", "(internal/reflectlite.Value).Set"], unfollowed := true, recurses := true, named := ["errors.errorType"], plainKeys := false, leaving := true, apart := false, laid := [("errors.errorType", laid_errors_errorType)] }
def BarrowSlowestSaid : Prop := barrowSlowestRow.holds Tryz.pinned (OpenSpec.ofChange barrowSlowestSpec)

/-- ITS FALSE NEIGHBOUR: 'it returns false'. Refute it at one input. -/
def barrowSlowestWrong : ChangeSpec := { name := "barrowSlowest", fn := fun _ => fun
  | [d] => { results := [.lit (.bool false)], args := [d] }
  | _ => none }
def BarrowSlowestWrongFalsely : Prop := barrowSlowestRow.holds Tryz.pinned (OpenSpec.ofChange barrowSlowestWrong)

/-- 'gladstonelaw06.BarrowPlans': WHATEVER THE INPUT: true; the input reads as it did. -/
def barrowPlansSpec : ChangeSpec := { name := "barrowPlans", fn := fun _ => fun
  | [d1, d2, d3] => { results := [.lit (.bool true)], args := [d1, d2, d3] }
  | _ => none }
def barrowPlansRow : OpenClaim := { program := "ytofmadjgbcopdaagreatdoor", sum := "418b16c4d32f1556207f7742fbc2a5d97671f8dc8f7eb1f09e6b5cce4c0d2339", func := "gladstone/gladstonelaw06.BarrowPlans", spec := "barrowPlans", inPlace := ["internal/reflectlite.ValueOf", "(internal/reflectlite.Value).Type", "(internal/reflectlite.Value).IsNil", "internal/reflectlite.TypeOf", "(internal/reflectlite.Value).Elem", "(internal/reflectlite.Value).Set"], unfollowed := true, recurses := true, named := ["errors.errorType"], plainKeys := false, leaving := true, apart := false, laid := [("errors.errorType", laid_errors_errorType)] }
def BarrowPlansSaid : Prop := barrowPlansRow.holds Tryz.pinned (OpenSpec.ofChange barrowPlansSpec)

/-- ITS FALSE NEIGHBOUR: 'it returns false'. Refute it at one input. -/
def barrowPlansWrong : ChangeSpec := { name := "barrowPlans", fn := fun _ => fun
  | [d1, d2, d3] => { results := [.lit (.bool false)], args := [d1, d2, d3] }
  | _ => none }
def BarrowPlansWrongFalsely : Prop := barrowPlansRow.holds Tryz.pinned (OpenSpec.ofChange barrowPlansWrong)

/-- 'gladstonelaw06.BarrowAll': WHATEVER THE INPUT: true; the input reads as it did. -/
def barrowAllSpec : ChangeSpec := { name := "barrowAll", fn := fun _ => fun
  | [d] => { results := [.lit (.bool true)], args := [d] }
  | _ => none }
def barrowAllRow : OpenClaim := { program := "ytofmadjgbcopdaagreatdoor", sum := "418b16c4d32f1556207f7742fbc2a5d97671f8dc8f7eb1f09e6b5cce4c0d2339", func := "gladstone/gladstonelaw06.BarrowAll", spec := "barrowAll", inPlace := ["internal/reflectlite.ValueOf", "(internal/reflectlite.Value).Type", "(internal/reflectlite.Value).IsNil", "internal/reflectlite.TypeOf", "(internal/reflectlite.Value).Elem", "(internal/reflectlite.Value).Set"], unfollowed := true, recurses := true, named := ["errors.errorType"], plainKeys := false, leaving := true, apart := false, laid := [("errors.errorType", laid_errors_errorType)] }
def BarrowAllSaid : Prop := barrowAllRow.holds Tryz.pinned (OpenSpec.ofChange barrowAllSpec)

/-- ITS FALSE NEIGHBOUR: 'it returns false'. Refute it at one input. -/
def barrowAllWrong : ChangeSpec := { name := "barrowAll", fn := fun _ => fun
  | [d] => { results := [.lit (.bool false)], args := [d] }
  | _ => none }
def BarrowAllWrongFalsely : Prop := barrowAllRow.holds Tryz.pinned (OpenSpec.ofChange barrowAllWrong)

/-- 'gladstonelaw06.BarrowKnown': WHATEVER THE INPUT: true; the input reads as it did. -/
def barrowKnownSpec : ChangeSpec := { name := "barrowKnown", fn := fun _ => fun
  | [] => { results := [.lit (.bool true)], args := [] }
  | _ => none }
def barrowKnownRow : OpenClaim := { program := "ytofmadjgbcopdaagreatdoor", sum := "418b16c4d32f1556207f7742fbc2a5d97671f8dc8f7eb1f09e6b5cce4c0d2339", func := "gladstone/gladstonelaw06.BarrowKnown", spec := "barrowKnown", inPlace := ["internal/reflectlite.ValueOf", "(internal/reflectlite.Value).Type", "(internal/reflectlite.Value).IsNil", "internal/reflectlite.TypeOf", "(internal/reflectlite.Value).Elem", "(internal/reflectlite.Value).Set"], unfollowed := true, recurses := true, named := ["errors.errorType"], plainKeys := false, leaving := true, apart := false, laid := [("errors.errorType", laid_errors_errorType)] }
def BarrowKnownSaid : Prop := barrowKnownRow.holds Tryz.pinned (OpenSpec.ofChange barrowKnownSpec)

/-- ITS FALSE NEIGHBOUR: 'it returns false'. Refute it at one input. -/
def barrowKnownWrong : ChangeSpec := { name := "barrowKnown", fn := fun _ => fun
  | [] => { results := [.lit (.bool false)], args := [] }
  | _ => none }
def BarrowKnownWrongFalsely : Prop := barrowKnownRow.holds Tryz.pinned (OpenSpec.ofChange barrowKnownWrong)

/- THE SECOND FORM. 'bulk': how many values and letters a reading holds, each counted each time it is reached (what is shared counts as often as it is met; a slice's spare places count too). A statement '..UptoSaid' is the law's where the arguments, and the package variables that the reading takes, are together of bulk at most 1048576: NARROWER than '..Said'. Prove '..Said' where nothing that the law and all that it calls make is longer than what came in: it says more and counts as full. Else prove '..UptoSaid'. A law counts once. -/
mutual
def uptoBulk {H : Type} : DataW H → Nat
  | .lit (.string bytes) => bytes.length + 1
  | .lit _ => 1
  | .nil => 1
  | .ptr d => uptoBulk d + 1
  | .slice elems spare => uptoBulkAll elems + uptoBulkAll spare + 1
  | .agg parts => uptoBulkAll parts + 1
  | .iface _ d => uptoBulk d + 1
  | .map entries => uptoBulkEntries entries + 1
  | .held _ => 1
def uptoBulkAll {H : Type} : List (DataW H) → Nat
  | [] => 0
  | d :: r => uptoBulk d + uptoBulkAll r
def uptoBulkEntries {H : Type} : List (Lit × DataW H) → Nat
  | [] => 0
  | x :: r => uptoBulkEntry x + uptoBulkEntries r
def uptoBulkEntry {H : Type} : Lit × DataW H → Nat
  | (.string bytes, d) => bytes.length + uptoBulk d + 1
  | (_, d) => uptoBulk d + 1
 end
def uptoSmall : (H : Type) → List (DataW H) → Bool := fun _ ds => decide (uptoBulkAll ds ≤ 1048576)
def OpenSpec.upto (s : _root_.Go.ChangeSpec) : _root_.Go.OpenSpec := { _root_.Go.OpenSpec.ofChange s with cond := some uptoSmall }

/-- 'gladstonelaw06.BarrowChecks', WHERE WHAT IT READS IS OF BULK AT MOST 1048576: true; the input reads as it did. -/
def barrowChecksUptoRow : OpenClaim := { program := "ytofmadjgbcopdaagreatdoor", sum := "418b16c4d32f1556207f7742fbc2a5d97671f8dc8f7eb1f09e6b5cce4c0d2339", func := "gladstone/gladstonelaw06.BarrowChecks", spec := "barrowChecks", inPlace := ["internal/reflectlite.ValueOf", "(internal/reflectlite.Value).Type", "(internal/reflectlite.Value).IsNil", "internal/reflectlite.TypeOf", "(internal/reflectlite.Value).Elem", "(internal/reflectlite.Value).Set"], unfollowed := true, recurses := true, named := ["errors.errorType"], plainKeys := false, leaving := true, apart := false, laid := [("errors.errorType", laid_errors_errorType)], narrowed := true }
def BarrowChecksUptoSaid : Prop := barrowChecksUptoRow.holds Tryz.pinned (OpenSpec.upto barrowChecksSpec)

/-- 'gladstonelaw06.BarrowJobs', WHERE WHAT IT READS IS OF BULK AT MOST 1048576: true; the input reads as it did. -/
def barrowJobsUptoRow : OpenClaim := { program := "ytofmadjgbcopdaagreatdoor", sum := "418b16c4d32f1556207f7742fbc2a5d97671f8dc8f7eb1f09e6b5cce4c0d2339", func := "gladstone/gladstonelaw06.BarrowJobs", spec := "barrowJobs", inPlace := ["internal/reflectlite.ValueOf", "(internal/reflectlite.Value).Type", "(internal/reflectlite.Value).IsNil", "internal/reflectlite.TypeOf", "(internal/reflectlite.Value).Elem", "(internal/reflectlite.Value).Set"], unfollowed := true, recurses := true, named := ["errors.errorType"], plainKeys := false, leaving := true, apart := false, laid := [("errors.errorType", laid_errors_errorType)], narrowed := true }
def BarrowJobsUptoSaid : Prop := barrowJobsUptoRow.holds Tryz.pinned (OpenSpec.upto barrowJobsSpec)

/-- 'gladstonelaw06.BarrowRides', WHERE WHAT IT READS IS OF BULK AT MOST 1048576: true; the input reads as it did. -/
def barrowRidesUptoRow : OpenClaim := { program := "ytofmadjgbcopdaagreatdoor", sum := "418b16c4d32f1556207f7742fbc2a5d97671f8dc8f7eb1f09e6b5cce4c0d2339", func := "gladstone/gladstonelaw06.BarrowRides", spec := "barrowRides", inPlace := ["internal/reflectlite.ValueOf", "(internal/reflectlite.Value).Type", "(internal/reflectlite.Value).IsNil", "internal/reflectlite.TypeOf", "(internal/reflectlite.Value).Elem", "(internal/reflectlite.Value).Set"], unfollowed := true, recurses := true, named := ["errors.errorType"], plainKeys := false, leaving := true, apart := false, laid := [("errors.errorType", laid_errors_errorType)], narrowed := true }
def BarrowRidesUptoSaid : Prop := barrowRidesUptoRow.holds Tryz.pinned (OpenSpec.upto barrowRidesSpec)

/-- 'gladstonelaw06.BarrowFaster', WHERE WHAT IT READS IS OF BULK AT MOST 1048576: true; the input reads as it did. -/
def barrowFasterUptoRow : OpenClaim := { program := "ytofmadjgbcopdaagreatdoor", sum := "418b16c4d32f1556207f7742fbc2a5d97671f8dc8f7eb1f09e6b5cce4c0d2339", func := "gladstone/gladstonelaw06.BarrowFaster", spec := "barrowFaster", inPlace := ["internal/reflectlite.ValueOf", "(internal/reflectlite.Value).Type", "(internal/reflectlite.Value).IsNil", "internal/reflectlite.TypeOf", "(internal/reflectlite.Value).Elem", "(internal/reflectlite.Value).Set"], unfollowed := true, recurses := true, named := ["errors.errorType"], plainKeys := false, leaving := true, apart := false, laid := [("errors.errorType", laid_errors_errorType)], narrowed := true }
def BarrowFasterUptoSaid : Prop := barrowFasterUptoRow.holds Tryz.pinned (OpenSpec.upto barrowFasterSpec)

/-- 'gladstonelaw06.BarrowLater', WHERE WHAT IT READS IS OF BULK AT MOST 1048576: true; the input reads as it did. -/
def barrowLaterUptoRow : OpenClaim := { program := "ytofmadjgbcopdaagreatdoor", sum := "418b16c4d32f1556207f7742fbc2a5d97671f8dc8f7eb1f09e6b5cce4c0d2339", func := "gladstone/gladstonelaw06.BarrowLater", spec := "barrowLater", inPlace := ["internal/reflectlite.ValueOf", "(internal/reflectlite.Value).Type", "(internal/reflectlite.Value).IsNil", "internal/reflectlite.TypeOf", "(internal/reflectlite.Value).Elem", "(internal/reflectlite.Value).Set"], unfollowed := true, recurses := true, named := ["errors.errorType"], plainKeys := false, leaving := true, apart := false, laid := [("errors.errorType", laid_errors_errorType)], narrowed := true }
def BarrowLaterUptoSaid : Prop := barrowLaterUptoRow.holds Tryz.pinned (OpenSpec.upto barrowLaterSpec)

/-- 'gladstonelaw06.BarrowVerdict', WHERE WHAT IT READS IS OF BULK AT MOST 1048576: true; the input reads as it did. -/
def barrowVerdictUptoRow : OpenClaim := { program := "ytofmadjgbcopdaagreatdoor", sum := "418b16c4d32f1556207f7742fbc2a5d97671f8dc8f7eb1f09e6b5cce4c0d2339", func := "gladstone/gladstonelaw06.BarrowVerdict", spec := "barrowVerdict", inPlace := ["internal/reflectlite.ValueOf", "(internal/reflectlite.Value).Type", "(internal/reflectlite.Value).IsNil", "internal/reflectlite.TypeOf", "(internal/reflectlite.Value).Elem", "(internal/reflectlite.Value).Set"], unfollowed := true, recurses := true, named := ["errors.errorType"], plainKeys := false, leaving := true, apart := false, laid := [("errors.errorType", laid_errors_errorType)], narrowed := true }
def BarrowVerdictUptoSaid : Prop := barrowVerdictUptoRow.holds Tryz.pinned (OpenSpec.upto barrowVerdictSpec)

/-- 'gladstonelaw06.BarrowFewests', WHERE WHAT IT READS IS OF BULK AT MOST 1048576: true; the input reads as it did. -/
def barrowFewestsUptoRow : OpenClaim := { program := "ytofmadjgbcopdaagreatdoor", sum := "418b16c4d32f1556207f7742fbc2a5d97671f8dc8f7eb1f09e6b5cce4c0d2339", func := "gladstone/gladstonelaw06.BarrowFewests", spec := "barrowFewests", inPlace := ["internal/reflectlite.ValueOf", "(internal/reflectlite.Value).Type", "(internal/reflectlite.Value).IsNil", "internal/reflectlite.TypeOf", "(internal/reflectlite.Value).Elem", "(internal/reflectlite.Value).Set"], unfollowed := true, recurses := true, named := ["errors.errorType"], plainKeys := false, leaving := true, apart := false, laid := [("errors.errorType", laid_errors_errorType)], narrowed := true }
def BarrowFewestsUptoSaid : Prop := barrowFewestsUptoRow.holds Tryz.pinned (OpenSpec.upto barrowFewestsSpec)

/-- 'gladstonelaw06.BarrowFewest', WHERE WHAT IT READS IS OF BULK AT MOST 1048576: true; the input reads as it did. -/
def barrowFewestUptoRow : OpenClaim := { program := "ytofmadjgbcopdaagreatdoor", sum := "418b16c4d32f1556207f7742fbc2a5d97671f8dc8f7eb1f09e6b5cce4c0d2339", func := "gladstone/gladstonelaw06.BarrowFewest", spec := "barrowFewest", inPlace := ["internal/reflectlite.ValueOf", "(internal/reflectlite.Value).Type", "(internal/reflectlite.Value).IsNil", "internal/reflectlite.TypeOf", "(internal/reflectlite.Value).Elem", "(internal/reflectlite.Value).Set"], unfollowed := true, recurses := true, named := ["errors.errorType"], plainKeys := false, leaving := true, apart := false, laid := [("errors.errorType", laid_errors_errorType)], narrowed := true }
def BarrowFewestUptoSaid : Prop := barrowFewestUptoRow.holds Tryz.pinned (OpenSpec.upto barrowFewestSpec)

/-- 'gladstonelaw06.BarrowAlone', WHERE WHAT IT READS IS OF BULK AT MOST 1048576: true; the input reads as it did. -/
def barrowAloneUptoRow : OpenClaim := { program := "ytofmadjgbcopdaagreatdoor", sum := "418b16c4d32f1556207f7742fbc2a5d97671f8dc8f7eb1f09e6b5cce4c0d2339", func := "gladstone/gladstonelaw06.BarrowAlone", spec := "barrowAlone", inPlace := ["internal/reflectlite.ValueOf", "(internal/reflectlite.Value).Type", "(internal/reflectlite.Value).IsNil", "internal/reflectlite.TypeOf", "(internal/reflectlite.Value).Elem", "(internal/reflectlite.Value).Set"], unfollowed := true, recurses := true, named := ["errors.errorType"], plainKeys := false, leaving := true, apart := false, laid := [("errors.errorType", laid_errors_errorType)], narrowed := true }
def BarrowAloneUptoSaid : Prop := barrowAloneUptoRow.holds Tryz.pinned (OpenSpec.upto barrowAloneSpec)

/-- 'gladstonelaw06.BarrowLoad', WHERE WHAT IT READS IS OF BULK AT MOST 1048576: true; the input reads as it did. -/
def barrowLoadUptoRow : OpenClaim := { program := "ytofmadjgbcopdaagreatdoor", sum := "418b16c4d32f1556207f7742fbc2a5d97671f8dc8f7eb1f09e6b5cce4c0d2339", func := "gladstone/gladstonelaw06.BarrowLoad", spec := "barrowLoad", inPlace := ["internal/reflectlite.ValueOf", "(internal/reflectlite.Value).Type", "(internal/reflectlite.Value).IsNil", "internal/reflectlite.TypeOf", "(internal/reflectlite.Value).Elem", "(internal/reflectlite.Value).Set"], unfollowed := true, recurses := true, named := ["errors.errorType"], plainKeys := false, leaving := true, apart := false, laid := [("errors.errorType", laid_errors_errorType)], narrowed := true }
def BarrowLoadUptoSaid : Prop := barrowLoadUptoRow.holds Tryz.pinned (OpenSpec.upto barrowLoadSpec)

/-- 'gladstonelaw06.BarrowRule', WHERE WHAT IT READS IS OF BULK AT MOST 1048576: true; the input reads as it did. -/
def barrowRuleUptoRow : OpenClaim := { program := "ytofmadjgbcopdaagreatdoor", sum := "418b16c4d32f1556207f7742fbc2a5d97671f8dc8f7eb1f09e6b5cce4c0d2339", func := "gladstone/gladstonelaw06.BarrowRule", spec := "barrowRule", inPlace := ["internal/reflectlite.ValueOf", "(internal/reflectlite.Value).Type", "(internal/reflectlite.Value).IsNil", "internal/reflectlite.TypeOf", "(internal/reflectlite.Value).Elem", "(internal/reflectlite.Value).Set"], unfollowed := true, recurses := true, named := ["errors.errorType"], plainKeys := false, leaving := true, apart := false, laid := [("errors.errorType", laid_errors_errorType)], narrowed := true }
def BarrowRuleUptoSaid : Prop := barrowRuleUptoRow.holds Tryz.pinned (OpenSpec.upto barrowRuleSpec)

/-- 'gladstonelaw06.BarrowVerdicts', WHERE WHAT IT READS IS OF BULK AT MOST 1048576: true; the input reads as it did. -/
def barrowVerdictsUptoRow : OpenClaim := { program := "ytofmadjgbcopdaagreatdoor", sum := "418b16c4d32f1556207f7742fbc2a5d97671f8dc8f7eb1f09e6b5cce4c0d2339", func := "gladstone/gladstonelaw06.BarrowVerdicts", spec := "barrowVerdicts", inPlace := ["internal/reflectlite.ValueOf", "(internal/reflectlite.Value).Type", "(internal/reflectlite.Value).IsNil", "internal/reflectlite.TypeOf", "(internal/reflectlite.Value).Elem", "(internal/reflectlite.Value).Set"], unfollowed := true, recurses := true, named := ["errors.errorType"], plainKeys := false, leaving := true, apart := false, laid := [("errors.errorType", laid_errors_errorType)], narrowed := true }
def BarrowVerdictsUptoSaid : Prop := barrowVerdictsUptoRow.holds Tryz.pinned (OpenSpec.upto barrowVerdictsSpec)

/-- 'gladstonelaw06.BarrowSlowest', WHERE WHAT IT READS IS OF BULK AT MOST 1048576: true; the input reads as it did. -/
def barrowSlowestUptoRow : OpenClaim := { program := "ytofmadjgbcopdaagreatdoor", sum := "418b16c4d32f1556207f7742fbc2a5d97671f8dc8f7eb1f09e6b5cce4c0d2339", func := "gladstone/gladstonelaw06.BarrowSlowest", spec := "barrowSlowest", inPlace := ["internal/reflectlite.ValueOf", "(internal/reflectlite.Value).Type", "(internal/reflectlite.Value).IsNil", "internal/reflectlite.TypeOf", "(internal/reflectlite.Value).Elem", "(internal/reflectlite.Value).Set"], unfollowed := true, recurses := true, named := ["errors.errorType"], plainKeys := false, leaving := true, apart := false, laid := [("errors.errorType", laid_errors_errorType)], narrowed := true }
def BarrowSlowestUptoSaid : Prop := barrowSlowestUptoRow.holds Tryz.pinned (OpenSpec.upto barrowSlowestSpec)

/-- 'gladstonelaw06.BarrowPlans', WHERE WHAT IT READS IS OF BULK AT MOST 1048576: true; the input reads as it did. -/
def barrowPlansUptoRow : OpenClaim := { program := "ytofmadjgbcopdaagreatdoor", sum := "418b16c4d32f1556207f7742fbc2a5d97671f8dc8f7eb1f09e6b5cce4c0d2339", func := "gladstone/gladstonelaw06.BarrowPlans", spec := "barrowPlans", inPlace := ["internal/reflectlite.ValueOf", "(internal/reflectlite.Value).Type", "(internal/reflectlite.Value).IsNil", "internal/reflectlite.TypeOf", "(internal/reflectlite.Value).Elem", "(internal/reflectlite.Value).Set"], unfollowed := true, recurses := true, named := ["errors.errorType"], plainKeys := false, leaving := true, apart := false, laid := [("errors.errorType", laid_errors_errorType)], narrowed := true }
def BarrowPlansUptoSaid : Prop := barrowPlansUptoRow.holds Tryz.pinned (OpenSpec.upto barrowPlansSpec)

/-- 'gladstonelaw06.BarrowAll', WHERE WHAT IT READS IS OF BULK AT MOST 1048576: true; the input reads as it did. -/
def barrowAllUptoRow : OpenClaim := { program := "ytofmadjgbcopdaagreatdoor", sum := "418b16c4d32f1556207f7742fbc2a5d97671f8dc8f7eb1f09e6b5cce4c0d2339", func := "gladstone/gladstonelaw06.BarrowAll", spec := "barrowAll", inPlace := ["internal/reflectlite.ValueOf", "(internal/reflectlite.Value).Type", "(internal/reflectlite.Value).IsNil", "internal/reflectlite.TypeOf", "(internal/reflectlite.Value).Elem", "(internal/reflectlite.Value).Set"], unfollowed := true, recurses := true, named := ["errors.errorType"], plainKeys := false, leaving := true, apart := false, laid := [("errors.errorType", laid_errors_errorType)], narrowed := true }
def BarrowAllUptoSaid : Prop := barrowAllUptoRow.holds Tryz.pinned (OpenSpec.upto barrowAllSpec)

/-- 'gladstonelaw06.BarrowKnown', WHERE WHAT IT READS IS OF BULK AT MOST 1048576: true; the input reads as it did. -/
def barrowKnownUptoRow : OpenClaim := { program := "ytofmadjgbcopdaagreatdoor", sum := "418b16c4d32f1556207f7742fbc2a5d97671f8dc8f7eb1f09e6b5cce4c0d2339", func := "gladstone/gladstonelaw06.BarrowKnown", spec := "barrowKnown", inPlace := ["internal/reflectlite.ValueOf", "(internal/reflectlite.Value).Type", "(internal/reflectlite.Value).IsNil", "internal/reflectlite.TypeOf", "(internal/reflectlite.Value).Elem", "(internal/reflectlite.Value).Set"], unfollowed := true, recurses := true, named := ["errors.errorType"], plainKeys := false, leaving := true, apart := false, laid := [("errors.errorType", laid_errors_errorType)], narrowed := true }
def BarrowKnownUptoSaid : Prop := barrowKnownUptoRow.holds Tryz.pinned (OpenSpec.upto barrowKnownSpec)

end Rows
end Go.Proofs.YtofmadjgbcopdaaGreatDoor
