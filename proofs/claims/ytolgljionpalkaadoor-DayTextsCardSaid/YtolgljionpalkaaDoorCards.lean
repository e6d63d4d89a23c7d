/-
  DERIVED. GIVEN WITH THE SEED: THE CARDS: each row of YtolgljionpalkaaDoorRows.lean that lists a variable, with what it lists TIED to the program's text (the seventh form; the later family's looks); each row that meets fmt, with fmt's text TOLD by the authors' own Lean function (tested against real Go, not proved from fmt's source: count such statements apart). THE CARD IS WHAT COUNTS. Prove the row's statement (the work); the ties are given (YtolgljionpalkaaDoorTie.lean); close each card by the builder's one call (the guide's Derived/Test/ToyasCard.lean, 'card_holds'). Laid BY PROGRAM, IN A SANDBOX (cutbox-door.mjs). By AI agents, Wed Nov 11 2026. No macro, syntax, notation, axiom, sorry.
-/
import Derived.Test.YtolgljionpalkaaDoorRows
import GoSem.ClaimSeven
namespace Go.Proofs.YtolgljionpalkaaDoor
namespace Rows

/-- THE TIED CARD OF 'tontinelaw07.DayYears'. -/
def dayYearsCard : Claim7 := { stood := { row := dayYearsRow, standIns := [], harness := (true, "f23c4ff82f8a929295abb0c6248a32ec7b0c5eb2f2d984918ce37aad874fa148"), looks := false }, kinds := [], alts := [], laidByText := true, laidKinds := [.data], laidTests := true, laidLooks := .later }
def DayYearsCardSaid : Prop := Claim7.holds Tryd.pinned (.plain (OpenSpec.ofChange dayYearsSpec)) dayYearsCard

/-- THE TIED CARD OF 'tontinelaw07.DayNumbers'. -/
def dayNumbersCard : Claim7 := { stood := { row := dayNumbersRow, standIns := [], harness := (true, "f23c4ff82f8a929295abb0c6248a32ec7b0c5eb2f2d984918ce37aad874fa148"), looks := false }, kinds := [], alts := [], laidByText := true, laidKinds := [.data], laidTests := true, laidLooks := .later }
def DayNumbersCardSaid : Prop := Claim7.holds Tryd.pinned (.plain (OpenSpec.ofChange dayNumbersSpec)) dayNumbersCard

/-- THE TIED CARD OF 'tontinelaw07.DayDues'. -/
def dayDuesCard : Claim7 := { stood := { row := dayDuesRow, standIns := [], harness := (true, "f23c4ff82f8a929295abb0c6248a32ec7b0c5eb2f2d984918ce37aad874fa148"), looks := false }, kinds := [], alts := [], laidByText := true, laidKinds := [.data], laidTests := true, laidLooks := .later }
def DayDuesCardSaid : Prop := Claim7.holds Tryd.pinned (.plain (OpenSpec.ofChange dayDuesSpec)) dayDuesCard

/-- THE TIED CARD OF 'tontinelaw07.DayTexts'. -/
def dayTextsCard : Claim7 := { stood := { row := dayTextsRow, standIns := [], harness := (true, "f23c4ff82f8a929295abb0c6248a32ec7b0c5eb2f2d984918ce37aad874fa148"), looks := false }, kinds := [], alts := [], laidByText := true, laidKinds := [.data], laidTests := true, laidLooks := .later }
def DayTextsCardSaid : Prop := Claim7.holds Tryd.pinned (.plain (OpenSpec.ofChange dayTextsSpec)) dayTextsCard

/-- THE TIED CARD OF 'tontinelaw07.DayMoves'. -/
def dayMovesCard : Claim7 := { stood := { row := dayMovesRow, standIns := [], harness := (true, "f23c4ff82f8a929295abb0c6248a32ec7b0c5eb2f2d984918ce37aad874fa148"), looks := false }, kinds := [], alts := [], laidByText := true, laidKinds := [.data], laidTests := true, laidLooks := .later }
def DayMovesCardSaid : Prop := Claim7.holds Tryd.pinned (.plain (OpenSpec.ofChange dayMovesSpec)) dayMovesCard

/-- THE TIED CARD OF 'tontinelaw07.DayAges'. -/
def dayAgesCard : Claim7 := { stood := { row := dayAgesRow, standIns := [], harness := (true, "f23c4ff82f8a929295abb0c6248a32ec7b0c5eb2f2d984918ce37aad874fa148"), looks := false }, kinds := [], alts := [], laidByText := true, laidKinds := [.data], laidTests := true, laidLooks := .later }
def DayAgesCardSaid : Prop := Claim7.holds Tryd.pinned (.plain (OpenSpec.ofChange dayAgesSpec)) dayAgesCard

/-- THE TIED CARD OF 'tontinelaw07.DayWorks'. -/
def dayWorksCard : Claim7 := { stood := { row := dayWorksRow, standIns := [], harness := (true, "f23c4ff82f8a929295abb0c6248a32ec7b0c5eb2f2d984918ce37aad874fa148"), looks := false }, kinds := [], alts := [], laidByText := true, laidKinds := [.data], laidTests := true, laidLooks := .later }
def DayWorksCardSaid : Prop := Claim7.holds Tryd.pinned (.plain (OpenSpec.ofChange dayWorksSpec)) dayWorksCard

/-- THE TIED CARD OF 'tontinelaw07.DayMonths'. -/
def dayMonthsCard : Claim7 := { stood := { row := dayMonthsRow, standIns := [], harness := (true, "f23c4ff82f8a929295abb0c6248a32ec7b0c5eb2f2d984918ce37aad874fa148"), looks := false }, kinds := [], alts := [], laidByText := true, laidKinds := [.data], laidTests := true, laidLooks := .later }
def DayMonthsCardSaid : Prop := Claim7.holds Tryd.pinned (.plain (OpenSpec.ofChange dayMonthsSpec)) dayMonthsCard

/-- THE TIED CARD OF 'tontinelaw07.DayOlder'. -/
def dayOlderCard : Claim7 := { stood := { row := dayOlderRow, standIns := [], harness := (true, "f23c4ff82f8a929295abb0c6248a32ec7b0c5eb2f2d984918ce37aad874fa148"), looks := false }, kinds := [], alts := [], laidByText := true, laidKinds := [.data], laidTests := true, laidLooks := .later }
def DayOlderCardSaid : Prop := Claim7.holds Tryd.pinned (.plain (OpenSpec.ofChange dayOlderSpec)) dayOlderCard

/-- THE TIED CARD OF 'tontinelaw07.DayBetween'. -/
def dayBetweenCard : Claim7 := { stood := { row := dayBetweenRow, standIns := [], harness := (true, "f23c4ff82f8a929295abb0c6248a32ec7b0c5eb2f2d984918ce37aad874fa148"), looks := false }, kinds := [], alts := [], laidByText := true, laidKinds := [.data], laidTests := true, laidLooks := .later }
def DayBetweenCardSaid : Prop := Claim7.holds Tryd.pinned (.plain (OpenSpec.ofChange dayBetweenSpec)) dayBetweenCard

/-- THE TIED CARD OF 'tontinelaw07.DayBack'. -/
def dayBackCard : Claim7 := { stood := { row := dayBackRow, standIns := [], harness := (true, "f23c4ff82f8a929295abb0c6248a32ec7b0c5eb2f2d984918ce37aad874fa148"), looks := false }, kinds := [], alts := [], laidByText := true, laidKinds := [.data], laidTests := true, laidLooks := .later }
def DayBackCardSaid : Prop := Claim7.holds Tryd.pinned (.plain (OpenSpec.ofChange dayBackSpec)) dayBackCard

/-- THE SECOND FORM's CARD OF 'tontinelaw07.DayYears'. -/
def dayYearsUptoCard : Claim7 := { stood := { row := dayYearsUptoRow, standIns := [], harness := (true, "f23c4ff82f8a929295abb0c6248a32ec7b0c5eb2f2d984918ce37aad874fa148"), looks := false }, kinds := [], alts := [], laidByText := true, laidKinds := [.data], laidTests := true, laidLooks := .later }
def DayYearsUptoCardSaid : Prop := Claim7.holds Tryd.pinned (.plain (OpenSpec.upto dayYearsSpec)) dayYearsUptoCard

/-- THE SECOND FORM's CARD OF 'tontinelaw07.DayNumbers'. -/
def dayNumbersUptoCard : Claim7 := { stood := { row := dayNumbersUptoRow, standIns := [], harness := (true, "f23c4ff82f8a929295abb0c6248a32ec7b0c5eb2f2d984918ce37aad874fa148"), looks := false }, kinds := [], alts := [], laidByText := true, laidKinds := [.data], laidTests := true, laidLooks := .later }
def DayNumbersUptoCardSaid : Prop := Claim7.holds Tryd.pinned (.plain (OpenSpec.upto dayNumbersSpec)) dayNumbersUptoCard

/-- THE SECOND FORM's CARD OF 'tontinelaw07.DayDues'. -/
def dayDuesUptoCard : Claim7 := { stood := { row := dayDuesUptoRow, standIns := [], harness := (true, "f23c4ff82f8a929295abb0c6248a32ec7b0c5eb2f2d984918ce37aad874fa148"), looks := false }, kinds := [], alts := [], laidByText := true, laidKinds := [.data], laidTests := true, laidLooks := .later }
def DayDuesUptoCardSaid : Prop := Claim7.holds Tryd.pinned (.plain (OpenSpec.upto dayDuesSpec)) dayDuesUptoCard

/-- THE SECOND FORM's CARD OF 'tontinelaw07.DayTexts'. -/
def dayTextsUptoCard : Claim7 := { stood := { row := dayTextsUptoRow, standIns := [], harness := (true, "f23c4ff82f8a929295abb0c6248a32ec7b0c5eb2f2d984918ce37aad874fa148"), looks := false }, kinds := [], alts := [], laidByText := true, laidKinds := [.data], laidTests := true, laidLooks := .later }
def DayTextsUptoCardSaid : Prop := Claim7.holds Tryd.pinned (.plain (OpenSpec.upto dayTextsSpec)) dayTextsUptoCard

/-- THE SECOND FORM's CARD OF 'tontinelaw07.DayMoves'. -/
def dayMovesUptoCard : Claim7 := { stood := { row := dayMovesUptoRow, standIns := [], harness := (true, "f23c4ff82f8a929295abb0c6248a32ec7b0c5eb2f2d984918ce37aad874fa148"), looks := false }, kinds := [], alts := [], laidByText := true, laidKinds := [.data], laidTests := true, laidLooks := .later }
def DayMovesUptoCardSaid : Prop := Claim7.holds Tryd.pinned (.plain (OpenSpec.upto dayMovesSpec)) dayMovesUptoCard

/-- THE SECOND FORM's CARD OF 'tontinelaw07.DayAges'. -/
def dayAgesUptoCard : Claim7 := { stood := { row := dayAgesUptoRow, standIns := [], harness := (true, "f23c4ff82f8a929295abb0c6248a32ec7b0c5eb2f2d984918ce37aad874fa148"), looks := false }, kinds := [], alts := [], laidByText := true, laidKinds := [.data], laidTests := true, laidLooks := .later }
def DayAgesUptoCardSaid : Prop := Claim7.holds Tryd.pinned (.plain (OpenSpec.upto dayAgesSpec)) dayAgesUptoCard

/-- THE SECOND FORM's CARD OF 'tontinelaw07.DayWorks'. -/
def dayWorksUptoCard : Claim7 := { stood := { row := dayWorksUptoRow, standIns := [], harness := (true, "f23c4ff82f8a929295abb0c6248a32ec7b0c5eb2f2d984918ce37aad874fa148"), looks := false }, kinds := [], alts := [], laidByText := true, laidKinds := [.data], laidTests := true, laidLooks := .later }
def DayWorksUptoCardSaid : Prop := Claim7.holds Tryd.pinned (.plain (OpenSpec.upto dayWorksSpec)) dayWorksUptoCard

/-- THE SECOND FORM's CARD OF 'tontinelaw07.DayMonths'. -/
def dayMonthsUptoCard : Claim7 := { stood := { row := dayMonthsUptoRow, standIns := [], harness := (true, "f23c4ff82f8a929295abb0c6248a32ec7b0c5eb2f2d984918ce37aad874fa148"), looks := false }, kinds := [], alts := [], laidByText := true, laidKinds := [.data], laidTests := true, laidLooks := .later }
def DayMonthsUptoCardSaid : Prop := Claim7.holds Tryd.pinned (.plain (OpenSpec.upto dayMonthsSpec)) dayMonthsUptoCard

/-- THE SECOND FORM's CARD OF 'tontinelaw07.DayOlder'. -/
def dayOlderUptoCard : Claim7 := { stood := { row := dayOlderUptoRow, standIns := [], harness := (true, "f23c4ff82f8a929295abb0c6248a32ec7b0c5eb2f2d984918ce37aad874fa148"), looks := false }, kinds := [], alts := [], laidByText := true, laidKinds := [.data], laidTests := true, laidLooks := .later }
def DayOlderUptoCardSaid : Prop := Claim7.holds Tryd.pinned (.plain (OpenSpec.upto dayOlderSpec)) dayOlderUptoCard

/-- THE SECOND FORM's CARD OF 'tontinelaw07.DayBetween'. -/
def dayBetweenUptoCard : Claim7 := { stood := { row := dayBetweenUptoRow, standIns := [], harness := (true, "f23c4ff82f8a929295abb0c6248a32ec7b0c5eb2f2d984918ce37aad874fa148"), looks := false }, kinds := [], alts := [], laidByText := true, laidKinds := [.data], laidTests := true, laidLooks := .later }
def DayBetweenUptoCardSaid : Prop := Claim7.holds Tryd.pinned (.plain (OpenSpec.upto dayBetweenSpec)) dayBetweenUptoCard

/-- THE SECOND FORM's CARD OF 'tontinelaw07.DayBack'. -/
def dayBackUptoCard : Claim7 := { stood := { row := dayBackUptoRow, standIns := [], harness := (true, "f23c4ff82f8a929295abb0c6248a32ec7b0c5eb2f2d984918ce37aad874fa148"), looks := false }, kinds := [], alts := [], laidByText := true, laidKinds := [.data], laidTests := true, laidLooks := .later }
def DayBackUptoCardSaid : Prop := Claim7.holds Tryd.pinned (.plain (OpenSpec.upto dayBackSpec)) dayBackUptoCard
end Rows
end Go.Proofs.YtolgljionpalkaaDoor
