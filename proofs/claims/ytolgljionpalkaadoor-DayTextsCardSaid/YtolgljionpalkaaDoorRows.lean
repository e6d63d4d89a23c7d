/-
  NARROWER THAN 'FOR EVERY INPUT', by the rows' own cells (each row's printed sentence says how): DayYears: laid · DayNumbers: laid · DayDues: laid · DayTexts: laid · DayMoves: laid · DayAges: laid · DayWorks: laid · DayMonths: laid · DayOlder: laid · DayBetween: laid · DayBack: laid.
  DERIVED. THE GIVEN ROWS OF THIS SEAT. 11 by the template 'for every input the law returns true; each argument reads behind the call as it read before'; 0 by the template 'total and deterministic' (their statements: YtolgljionpalkaaDoorTotals.lean).
  GIVEN WITH THE SEED: the statements are not yours to turn. If you find one false, say at which input.
  Laid BY PROGRAM, IN A SANDBOX (cutbox-rows.mjs): the forced cells as the released guide's own fill.sh prints them over the translation fce2450b2b7b5d6f… (all of the seat's roots in one cut). By AI agents, Wed Nov 11 2026. No macro, syntax, notation, axiom, sorry.
-/
import Derived.Test.YtolgljionpalkaaDoorChecked
import GoSem.Claim
import GoSem.ClaimJoined
import GoSem.ClaimMapViews
import Derived.JoinedTies
import Derived.KernelRfl
namespace Go.Proofs.YtolgljionpalkaaDoor
/- THE CELL 'sum', in the pinned program and in every row, IS THE sha256 OF THE DUMP (.gsa) THAT YtolgljionpalkaaDoorProg.lean LOADS. Nothing in Lean hashes anything: it is a label: what it is worth is what the hold of that sum in a sandbox is worth. -/
noncomputable def Tryd.pinned : Pinned := { name := "ytolgljionpalkaadoor", sum := "fce2450b2b7b5d6f2139a548000c54a65213e7e19fa8fbcf7e7975ba6157b34d", checked := Tryd.checked }
namespace Rows
def none {H : Type} : Left H := { results := [], args := [] }

/- WHAT THE LISTED PACKAGE-LEVEL VARIABLES READ AS WHEN THE CALL BEGINS. Each datum BY PROGRAM (the guide's laid-datum.mjs) off the statement by which the dump's own 'gosem.cut.vars' lays the variable. In a bare row this is a premise. The card (YtolgljionpalkaaDoorCards.lean) ties it to the program's text. -/
def laid_tontine_day_lengths {H : Type} : DataW H := .agg [.lit (.int .i64 0), .lit (.int .i64 31), .lit (.int .i64 28), .lit (.int .i64 31), .lit (.int .i64 30), .lit (.int .i64 31), .lit (.int .i64 30), .lit (.int .i64 31), .lit (.int .i64 31), .lit (.int .i64 30), .lit (.int .i64 31), .lit (.int .i64 30), .lit (.int .i64 31)]

/-- 'tontinelaw07.DayYears': WHATEVER THE INPUT: true; the input reads as it did. -/
def dayYearsSpec : ChangeSpec := { name := "dayYears", fn := fun _ => fun
  | [d1, d2] => { results := [.lit (.bool true)], args := [d1, d2] }
  | _ => none }
def dayYearsRow : OpenClaim := { program := "ytolgljionpalkaadoor", sum := "fce2450b2b7b5d6f2139a548000c54a65213e7e19fa8fbcf7e7975ba6157b34d", func := "tontine/tontinelaw07.DayYears", spec := "dayYears", named := ["tontine/day.lengths"], apart := false, laid := [("tontine/day.lengths", laid_tontine_day_lengths)] }
def DayYearsSaid : Prop := dayYearsRow.holds Tryd.pinned (OpenSpec.ofChange dayYearsSpec)

/-- ITS FALSE NEIGHBOUR: 'it returns false'. Refute it at one input. -/
def dayYearsWrong : ChangeSpec := { name := "dayYears", fn := fun _ => fun
  | [d1, d2] => { results := [.lit (.bool false)], args := [d1, d2] }
  | _ => none }
def DayYearsWrongFalsely : Prop := dayYearsRow.holds Tryd.pinned (OpenSpec.ofChange dayYearsWrong)

/-- 'tontinelaw07.DayNumbers': WHATEVER THE INPUT: true; the input reads as it did. -/
def dayNumbersSpec : ChangeSpec := { name := "dayNumbers", fn := fun _ => fun
  | [d1, d2] => { results := [.lit (.bool true)], args := [d1, d2] }
  | _ => none }
def dayNumbersRow : OpenClaim := { program := "ytolgljionpalkaadoor", sum := "fce2450b2b7b5d6f2139a548000c54a65213e7e19fa8fbcf7e7975ba6157b34d", func := "tontine/tontinelaw07.DayNumbers", spec := "dayNumbers", named := ["tontine/day.lengths"], apart := false, laid := [("tontine/day.lengths", laid_tontine_day_lengths)] }
def DayNumbersSaid : Prop := dayNumbersRow.holds Tryd.pinned (OpenSpec.ofChange dayNumbersSpec)

/-- ITS FALSE NEIGHBOUR: 'it returns false'. Refute it at one input. -/
def dayNumbersWrong : ChangeSpec := { name := "dayNumbers", fn := fun _ => fun
  | [d1, d2] => { results := [.lit (.bool false)], args := [d1, d2] }
  | _ => none }
def DayNumbersWrongFalsely : Prop := dayNumbersRow.holds Tryd.pinned (OpenSpec.ofChange dayNumbersWrong)

/-- 'tontinelaw07.DayDues': WHATEVER THE INPUT: true; the input reads as it did. -/
def dayDuesSpec : ChangeSpec := { name := "dayDues", fn := fun _ => fun
  | [d1, d2, d3] => { results := [.lit (.bool true)], args := [d1, d2, d3] }
  | _ => none }
def dayDuesRow : OpenClaim := { program := "ytolgljionpalkaadoor", sum := "fce2450b2b7b5d6f2139a548000c54a65213e7e19fa8fbcf7e7975ba6157b34d", func := "tontine/tontinelaw07.DayDues", spec := "dayDues", named := ["tontine/day.lengths"], apart := false, laid := [("tontine/day.lengths", laid_tontine_day_lengths)] }
def DayDuesSaid : Prop := dayDuesRow.holds Tryd.pinned (OpenSpec.ofChange dayDuesSpec)

/-- ITS FALSE NEIGHBOUR: 'it returns false'. Refute it at one input. -/
def dayDuesWrong : ChangeSpec := { name := "dayDues", fn := fun _ => fun
  | [d1, d2, d3] => { results := [.lit (.bool false)], args := [d1, d2, d3] }
  | _ => none }
def DayDuesWrongFalsely : Prop := dayDuesRow.holds Tryd.pinned (OpenSpec.ofChange dayDuesWrong)

/-- 'tontinelaw07.DayTexts': WHATEVER THE INPUT: true; the input reads as it did. -/
def dayTextsSpec : ChangeSpec := { name := "dayTexts", fn := fun _ => fun
  | [d1, d2] => { results := [.lit (.bool true)], args := [d1, d2] }
  | _ => none }
def dayTextsRow : OpenClaim := { program := "ytolgljionpalkaadoor", sum := "fce2450b2b7b5d6f2139a548000c54a65213e7e19fa8fbcf7e7975ba6157b34d", func := "tontine/tontinelaw07.DayTexts", spec := "dayTexts", named := ["tontine/day.lengths"], apart := false, laid := [("tontine/day.lengths", laid_tontine_day_lengths)] }
def DayTextsSaid : Prop := dayTextsRow.holds Tryd.pinned (OpenSpec.ofChange dayTextsSpec)

/-- ITS FALSE NEIGHBOUR: 'it returns false'. Refute it at one input. -/
def dayTextsWrong : ChangeSpec := { name := "dayTexts", fn := fun _ => fun
  | [d1, d2] => { results := [.lit (.bool false)], args := [d1, d2] }
  | _ => none }
def DayTextsWrongFalsely : Prop := dayTextsRow.holds Tryd.pinned (OpenSpec.ofChange dayTextsWrong)

/-- 'tontinelaw07.DayMoves': WHATEVER THE INPUT: true; the input reads as it did. -/
def dayMovesSpec : ChangeSpec := { name := "dayMoves", fn := fun _ => fun
  | [d1, d2] => { results := [.lit (.bool true)], args := [d1, d2] }
  | _ => none }
def dayMovesRow : OpenClaim := { program := "ytolgljionpalkaadoor", sum := "fce2450b2b7b5d6f2139a548000c54a65213e7e19fa8fbcf7e7975ba6157b34d", func := "tontine/tontinelaw07.DayMoves", spec := "dayMoves", named := ["tontine/day.lengths"], apart := false, laid := [("tontine/day.lengths", laid_tontine_day_lengths)] }
def DayMovesSaid : Prop := dayMovesRow.holds Tryd.pinned (OpenSpec.ofChange dayMovesSpec)

/-- ITS FALSE NEIGHBOUR: 'it returns false'. Refute it at one input. -/
def dayMovesWrong : ChangeSpec := { name := "dayMoves", fn := fun _ => fun
  | [d1, d2] => { results := [.lit (.bool false)], args := [d1, d2] }
  | _ => none }
def DayMovesWrongFalsely : Prop := dayMovesRow.holds Tryd.pinned (OpenSpec.ofChange dayMovesWrong)

/-- 'tontinelaw07.DayAges': WHATEVER THE INPUT: true; the input reads as it did. -/
def dayAgesSpec : ChangeSpec := { name := "dayAges", fn := fun _ => fun
  | [d1, d2, d3] => { results := [.lit (.bool true)], args := [d1, d2, d3] }
  | _ => none }
def dayAgesRow : OpenClaim := { program := "ytolgljionpalkaadoor", sum := "fce2450b2b7b5d6f2139a548000c54a65213e7e19fa8fbcf7e7975ba6157b34d", func := "tontine/tontinelaw07.DayAges", spec := "dayAges", named := ["tontine/day.lengths"], apart := false, laid := [("tontine/day.lengths", laid_tontine_day_lengths)] }
def DayAgesSaid : Prop := dayAgesRow.holds Tryd.pinned (OpenSpec.ofChange dayAgesSpec)

/-- ITS FALSE NEIGHBOUR: 'it returns false'. Refute it at one input. -/
def dayAgesWrong : ChangeSpec := { name := "dayAges", fn := fun _ => fun
  | [d1, d2, d3] => { results := [.lit (.bool false)], args := [d1, d2, d3] }
  | _ => none }
def DayAgesWrongFalsely : Prop := dayAgesRow.holds Tryd.pinned (OpenSpec.ofChange dayAgesWrong)

/-- 'tontinelaw07.DayWorks': WHATEVER THE INPUT: true; the input reads as it did. -/
def dayWorksSpec : ChangeSpec := { name := "dayWorks", fn := fun _ => fun
  | [d1, d2, d3] => { results := [.lit (.bool true)], args := [d1, d2, d3] }
  | _ => none }
def dayWorksRow : OpenClaim := { program := "ytolgljionpalkaadoor", sum := "fce2450b2b7b5d6f2139a548000c54a65213e7e19fa8fbcf7e7975ba6157b34d", func := "tontine/tontinelaw07.DayWorks", spec := "dayWorks", unfollowed := true, recurses := true, named := ["tontine/day.lengths"], apart := false, laid := [("tontine/day.lengths", laid_tontine_day_lengths)] }
def DayWorksSaid : Prop := dayWorksRow.holds Tryd.pinned (OpenSpec.ofChange dayWorksSpec)

/-- ITS FALSE NEIGHBOUR: 'it returns false'. Refute it at one input. -/
def dayWorksWrong : ChangeSpec := { name := "dayWorks", fn := fun _ => fun
  | [d1, d2, d3] => { results := [.lit (.bool false)], args := [d1, d2, d3] }
  | _ => none }
def DayWorksWrongFalsely : Prop := dayWorksRow.holds Tryd.pinned (OpenSpec.ofChange dayWorksWrong)

/-- 'tontinelaw07.DayMonths': WHATEVER THE INPUT: true; the input reads as it did. -/
def dayMonthsSpec : ChangeSpec := { name := "dayMonths", fn := fun _ => fun
  | [d1, d2, d3] => { results := [.lit (.bool true)], args := [d1, d2, d3] }
  | _ => none }
def dayMonthsRow : OpenClaim := { program := "ytolgljionpalkaadoor", sum := "fce2450b2b7b5d6f2139a548000c54a65213e7e19fa8fbcf7e7975ba6157b34d", func := "tontine/tontinelaw07.DayMonths", spec := "dayMonths", named := ["tontine/day.lengths"], apart := false, laid := [("tontine/day.lengths", laid_tontine_day_lengths)] }
def DayMonthsSaid : Prop := dayMonthsRow.holds Tryd.pinned (OpenSpec.ofChange dayMonthsSpec)

/-- ITS FALSE NEIGHBOUR: 'it returns false'. Refute it at one input. -/
def dayMonthsWrong : ChangeSpec := { name := "dayMonths", fn := fun _ => fun
  | [d1, d2, d3] => { results := [.lit (.bool false)], args := [d1, d2, d3] }
  | _ => none }
def DayMonthsWrongFalsely : Prop := dayMonthsRow.holds Tryd.pinned (OpenSpec.ofChange dayMonthsWrong)

/-- 'tontinelaw07.DayOlder': WHATEVER THE INPUT: true; the input reads as it did. -/
def dayOlderSpec : ChangeSpec := { name := "dayOlder", fn := fun _ => fun
  | [d1, d2] => { results := [.lit (.bool true)], args := [d1, d2] }
  | _ => none }
def dayOlderRow : OpenClaim := { program := "ytolgljionpalkaadoor", sum := "fce2450b2b7b5d6f2139a548000c54a65213e7e19fa8fbcf7e7975ba6157b34d", func := "tontine/tontinelaw07.DayOlder", spec := "dayOlder", named := ["tontine/day.lengths"], apart := false, laid := [("tontine/day.lengths", laid_tontine_day_lengths)] }
def DayOlderSaid : Prop := dayOlderRow.holds Tryd.pinned (OpenSpec.ofChange dayOlderSpec)

/-- ITS FALSE NEIGHBOUR: 'it returns false'. Refute it at one input. -/
def dayOlderWrong : ChangeSpec := { name := "dayOlder", fn := fun _ => fun
  | [d1, d2] => { results := [.lit (.bool false)], args := [d1, d2] }
  | _ => none }
def DayOlderWrongFalsely : Prop := dayOlderRow.holds Tryd.pinned (OpenSpec.ofChange dayOlderWrong)

/-- 'tontinelaw07.DayBetween': WHATEVER THE INPUT: true; the input reads as it did. -/
def dayBetweenSpec : ChangeSpec := { name := "dayBetween", fn := fun _ => fun
  | [d1, d2] => { results := [.lit (.bool true)], args := [d1, d2] }
  | _ => none }
def dayBetweenRow : OpenClaim := { program := "ytolgljionpalkaadoor", sum := "fce2450b2b7b5d6f2139a548000c54a65213e7e19fa8fbcf7e7975ba6157b34d", func := "tontine/tontinelaw07.DayBetween", spec := "dayBetween", named := ["tontine/day.lengths"], apart := false, laid := [("tontine/day.lengths", laid_tontine_day_lengths)] }
def DayBetweenSaid : Prop := dayBetweenRow.holds Tryd.pinned (OpenSpec.ofChange dayBetweenSpec)

/-- ITS FALSE NEIGHBOUR: 'it returns false'. Refute it at one input. -/
def dayBetweenWrong : ChangeSpec := { name := "dayBetween", fn := fun _ => fun
  | [d1, d2] => { results := [.lit (.bool false)], args := [d1, d2] }
  | _ => none }
def DayBetweenWrongFalsely : Prop := dayBetweenRow.holds Tryd.pinned (OpenSpec.ofChange dayBetweenWrong)

/-- 'tontinelaw07.DayBack': WHATEVER THE INPUT: true; the input reads as it did. -/
def dayBackSpec : ChangeSpec := { name := "dayBack", fn := fun _ => fun
  | [d1, d2] => { results := [.lit (.bool true)], args := [d1, d2] }
  | _ => none }
def dayBackRow : OpenClaim := { program := "ytolgljionpalkaadoor", sum := "fce2450b2b7b5d6f2139a548000c54a65213e7e19fa8fbcf7e7975ba6157b34d", func := "tontine/tontinelaw07.DayBack", spec := "dayBack", named := ["tontine/day.lengths"], apart := false, laid := [("tontine/day.lengths", laid_tontine_day_lengths)] }
def DayBackSaid : Prop := dayBackRow.holds Tryd.pinned (OpenSpec.ofChange dayBackSpec)

/-- ITS FALSE NEIGHBOUR: 'it returns false'. Refute it at one input. -/
def dayBackWrong : ChangeSpec := { name := "dayBack", fn := fun _ => fun
  | [d1, d2] => { results := [.lit (.bool false)], args := [d1, d2] }
  | _ => none }
def DayBackWrongFalsely : Prop := dayBackRow.holds Tryd.pinned (OpenSpec.ofChange dayBackWrong)

/- THE SECOND FORM. 'bulk': how many values and letters a reading holds, each counted each time it is reached (what is shared counts as often as it is met; a slice's spare places count too). A statement '..UptoSaid' is the law's where the arguments, and the package variables that the reading takes, are together of bulk at most 1048576: NARROWER than '..Said'. Prove '..Said' where nothing that the law and all that it calls make is longer than what came in: it says more and counts as full. Else prove '..UptoSaid'. A law counts once. -/
mutual
def uptoBulk {H : Type} : DataW H → Nat
  | .lit (.string bytes) => bytes.length + 1
  | .lit _ => 1
  | .nil => 1
  | .ptr d => uptoBulk d + 1
  | .slice elems spare => uptoBulkAll elems + uptoBulkAll spare + 1
  | .agg parts => uptoBulkAll parts + 1
  | .iface _ d => uptoBulk d + 1
  | .map entries => uptoBulkEntries entries + 1
  | .held _ => 1
def uptoBulkAll {H : Type} : List (DataW H) → Nat
  | [] => 0
  | d :: r => uptoBulk d + uptoBulkAll r
def uptoBulkEntries {H : Type} : List (Lit × DataW H) → Nat
  | [] => 0
  | x :: r => uptoBulkEntry x + uptoBulkEntries r
def uptoBulkEntry {H : Type} : Lit × DataW H → Nat
  | (.string bytes, d) => bytes.length + uptoBulk d + 1
  | (_, d) => uptoBulk d + 1
 end
def uptoSmall : (H : Type) → List (DataW H) → Bool := fun _ ds => decide (uptoBulkAll ds ≤ 1048576)
def OpenSpec.upto (s : _root_.Go.ChangeSpec) : _root_.Go.OpenSpec := { _root_.Go.OpenSpec.ofChange s with cond := some uptoSmall }

/-- 'tontinelaw07.DayYears', WHERE WHAT IT READS IS OF BULK AT MOST 1048576: true; the input reads as it did. -/
def dayYearsUptoRow : OpenClaim := { program := "ytolgljionpalkaadoor", sum := "fce2450b2b7b5d6f2139a548000c54a65213e7e19fa8fbcf7e7975ba6157b34d", func := "tontine/tontinelaw07.DayYears", spec := "dayYears", named := ["tontine/day.lengths"], apart := false, laid := [("tontine/day.lengths", laid_tontine_day_lengths)], narrowed := true }
def DayYearsUptoSaid : Prop := dayYearsUptoRow.holds Tryd.pinned (OpenSpec.upto dayYearsSpec)

/-- 'tontinelaw07.DayNumbers', WHERE WHAT IT READS IS OF BULK AT MOST 1048576: true; the input reads as it did. -/
def dayNumbersUptoRow : OpenClaim := { program := "ytolgljionpalkaadoor", sum := "fce2450b2b7b5d6f2139a548000c54a65213e7e19fa8fbcf7e7975ba6157b34d", func := "tontine/tontinelaw07.DayNumbers", spec := "dayNumbers", named := ["tontine/day.lengths"], apart := false, laid := [("tontine/day.lengths", laid_tontine_day_lengths)], narrowed := true }
def DayNumbersUptoSaid : Prop := dayNumbersUptoRow.holds Tryd.pinned (OpenSpec.upto dayNumbersSpec)

/-- 'tontinelaw07.DayDues', WHERE WHAT IT READS IS OF BULK AT MOST 1048576: true; the input reads as it did. -/
def dayDuesUptoRow : OpenClaim := { program := "ytolgljionpalkaadoor", sum := "fce2450b2b7b5d6f2139a548000c54a65213e7e19fa8fbcf7e7975ba6157b34d", func := "tontine/tontinelaw07.DayDues", spec := "dayDues", named := ["tontine/day.lengths"], apart := false, laid := [("tontine/day.lengths", laid_tontine_day_lengths)], narrowed := true }
def DayDuesUptoSaid : Prop := dayDuesUptoRow.holds Tryd.pinned (OpenSpec.upto dayDuesSpec)

/-- 'tontinelaw07.DayTexts', WHERE WHAT IT READS IS OF BULK AT MOST 1048576: true; the input reads as it did. -/
def dayTextsUptoRow : OpenClaim := { program := "ytolgljionpalkaadoor", sum := "fce2450b2b7b5d6f2139a548000c54a65213e7e19fa8fbcf7e7975ba6157b34d", func := "tontine/tontinelaw07.DayTexts", spec := "dayTexts", named := ["tontine/day.lengths"], apart := false, laid := [("tontine/day.lengths", laid_tontine_day_lengths)], narrowed := true }
def DayTextsUptoSaid : Prop := dayTextsUptoRow.holds Tryd.pinned (OpenSpec.upto dayTextsSpec)

/-- 'tontinelaw07.DayMoves', WHERE WHAT IT READS IS OF BULK AT MOST 1048576: true; the input reads as it did. -/
def dayMovesUptoRow : OpenClaim := { program := "ytolgljionpalkaadoor", sum := "fce2450b2b7b5d6f2139a548000c54a65213e7e19fa8fbcf7e7975ba6157b34d", func := "tontine/tontinelaw07.DayMoves", spec := "dayMoves", named := ["tontine/day.lengths"], apart := false, laid := [("tontine/day.lengths", laid_tontine_day_lengths)], narrowed := true }
def DayMovesUptoSaid : Prop := dayMovesUptoRow.holds Tryd.pinned (OpenSpec.upto dayMovesSpec)

/-- 'tontinelaw07.DayAges', WHERE WHAT IT READS IS OF BULK AT MOST 1048576: true; the input reads as it did. -/
def dayAgesUptoRow : OpenClaim := { program := "ytolgljionpalkaadoor", sum := "fce2450b2b7b5d6f2139a548000c54a65213e7e19fa8fbcf7e7975ba6157b34d", func := "tontine/tontinelaw07.DayAges", spec := "dayAges", named := ["tontine/day.lengths"], apart := false, laid := [("tontine/day.lengths", laid_tontine_day_lengths)], narrowed := true }
def DayAgesUptoSaid : Prop := dayAgesUptoRow.holds Tryd.pinned (OpenSpec.upto dayAgesSpec)

/-- 'tontinelaw07.DayWorks', WHERE WHAT IT READS IS OF BULK AT MOST 1048576: true; the input reads as it did. -/
def dayWorksUptoRow : OpenClaim := { program := "ytolgljionpalkaadoor", sum := "fce2450b2b7b5d6f2139a548000c54a65213e7e19fa8fbcf7e7975ba6157b34d", func := "tontine/tontinelaw07.DayWorks", spec := "dayWorks", unfollowed := true, recurses := true, named := ["tontine/day.lengths"], apart := false, laid := [("tontine/day.lengths", laid_tontine_day_lengths)], narrowed := true }
def DayWorksUptoSaid : Prop := dayWorksUptoRow.holds Tryd.pinned (OpenSpec.upto dayWorksSpec)

/-- 'tontinelaw07.DayMonths', WHERE WHAT IT READS IS OF BULK AT MOST 1048576: true; the input reads as it did. -/
def dayMonthsUptoRow : OpenClaim := { program := "ytolgljionpalkaadoor", sum := "fce2450b2b7b5d6f2139a548000c54a65213e7e19fa8fbcf7e7975ba6157b34d", func := "tontine/tontinelaw07.DayMonths", spec := "dayMonths", named := ["tontine/day.lengths"], apart := false, laid := [("tontine/day.lengths", laid_tontine_day_lengths)], narrowed := true }
def DayMonthsUptoSaid : Prop := dayMonthsUptoRow.holds Tryd.pinned (OpenSpec.upto dayMonthsSpec)

/-- 'tontinelaw07.DayOlder', WHERE WHAT IT READS IS OF BULK AT MOST 1048576: true; the input reads as it did. -/
def dayOlderUptoRow : OpenClaim := { program := "ytolgljionpalkaadoor", sum := "fce2450b2b7b5d6f2139a548000c54a65213e7e19fa8fbcf7e7975ba6157b34d", func := "tontine/tontinelaw07.DayOlder", spec := "dayOlder", named := ["tontine/day.lengths"], apart := false, laid := [("tontine/day.lengths", laid_tontine_day_lengths)], narrowed := true }
def DayOlderUptoSaid : Prop := dayOlderUptoRow.holds Tryd.pinned (OpenSpec.upto dayOlderSpec)

/-- 'tontinelaw07.DayBetween', WHERE WHAT IT READS IS OF BULK AT MOST 1048576: true; the input reads as it did. -/
def dayBetweenUptoRow : OpenClaim := { program := "ytolgljionpalkaadoor", sum := "fce2450b2b7b5d6f2139a548000c54a65213e7e19fa8fbcf7e7975ba6157b34d", func := "tontine/tontinelaw07.DayBetween", spec := "dayBetween", named := ["tontine/day.lengths"], apart := false, laid := [("tontine/day.lengths", laid_tontine_day_lengths)], narrowed := true }
def DayBetweenUptoSaid : Prop := dayBetweenUptoRow.holds Tryd.pinned (OpenSpec.upto dayBetweenSpec)

/-- 'tontinelaw07.DayBack', WHERE WHAT IT READS IS OF BULK AT MOST 1048576: true; the input reads as it did. -/
def dayBackUptoRow : OpenClaim := { program := "ytolgljionpalkaadoor", sum := "fce2450b2b7b5d6f2139a548000c54a65213e7e19fa8fbcf7e7975ba6157b34d", func := "tontine/tontinelaw07.DayBack", spec := "dayBack", named := ["tontine/day.lengths"], apart := false, laid := [("tontine/day.lengths", laid_tontine_day_lengths)], narrowed := true }
def DayBackUptoSaid : Prop := dayBackUptoRow.holds Tryd.pinned (OpenSpec.upto dayBackSpec)

end Rows
end Go.Proofs.YtolgljionpalkaaDoor
