/-
  DERIVED. GIVEN WITH THE SEED: THE CARDS: each row of YtidjipcdnkgigaaDoorRows.lean that lists a variable, with what it lists TIED to the program's text (the seventh form; the later family's looks); each row that meets fmt, with fmt's text TOLD by the authors' own Lean function (tested against real Go, not proved from fmt's source: count such statements apart). THE CARD IS WHAT COUNTS. Prove the row's statement (the work); the ties are given (YtidjipcdnkgigaaDoorTie.lean); close each card by the builder's one call (the guide's Derived/Test/ToyasCard.lean, 'card_holds'). Laid BY PROGRAM, IN A SANDBOX (cutbox-door.mjs). By AI agents, Wed Nov 11 2026. No macro, syntax, notation, axiom, sorry.
-/
import Derived.Test.YtidjipcdnkgigaaDoorRows
import GoSem.ClaimSeven
namespace Go.Proofs.YtidjipcdnkgigaaDoor
namespace Rows

/-- THE TIED CARD OF 'daybooklaw02.DayMonths'. -/
def dayMonthsCard : Claim7 := { stood := { row := dayMonthsRow, standIns := [], harness := (true, "5e6354c0837dff837a3e4f9a64f03108515b2b33f24e5e77ad50c00e9afc87df"), looks := false }, kinds := [], alts := [], laidByText := true, laidKinds := [.data], laidTests := true, laidLooks := .later }
def DayMonthsCardSaid : Prop := Claim7.holds Tryd.pinned (.plain (OpenSpec.ofChange dayMonthsSpec)) dayMonthsCard

/-- THE TIED CARD OF 'daybooklaw02.DayDates'. -/
def dayDatesCard : Claim7 := { stood := { row := dayDatesRow, standIns := [], harness := (true, "5e6354c0837dff837a3e4f9a64f03108515b2b33f24e5e77ad50c00e9afc87df"), looks := false }, kinds := [], alts := [], laidByText := true, laidKinds := [.data], laidTests := true, laidLooks := .later }
def DayDatesCardSaid : Prop := Claim7.holds Tryd.pinned (.plain (OpenSpec.ofChange dayDatesSpec)) dayDatesCard

/-- THE TIED CARD OF 'daybooklaw02.DayNumbers'. -/
def dayNumbersCard : Claim7 := { stood := { row := dayNumbersRow, standIns := [], harness := (true, "5e6354c0837dff837a3e4f9a64f03108515b2b33f24e5e77ad50c00e9afc87df"), looks := false }, kinds := [], alts := [], laidByText := true, laidKinds := [.data], laidTests := true, laidLooks := .later }
def DayNumbersCardSaid : Prop := Claim7.holds Tryd.pinned (.plain (OpenSpec.ofChange dayNumbersSpec)) dayNumbersCard

/-- THE TIED CARD OF 'daybooklaw02.DayAdds'. -/
def dayAddsCard : Claim7 := { stood := { row := dayAddsRow, standIns := [], harness := (true, "5e6354c0837dff837a3e4f9a64f03108515b2b33f24e5e77ad50c00e9afc87df"), looks := false }, kinds := [], alts := [], laidByText := true, laidKinds := [.data], laidTests := true, laidLooks := .later }
def DayAddsCardSaid : Prop := Claim7.holds Tryd.pinned (.plain (OpenSpec.ofChange dayAddsSpec)) dayAddsCard

/-- THE TIED CARD OF 'daybooklaw02.DayThere'. -/
def dayThereCard : Claim7 := { stood := { row := dayThereRow, standIns := [], harness := (true, "5e6354c0837dff837a3e4f9a64f03108515b2b33f24e5e77ad50c00e9afc87df"), looks := false }, kinds := [], alts := [], laidByText := true, laidKinds := [.data, .data, .data, .data], laidTests := true, laidLooks := .later }
def DayThereCardSaid : Prop := Claim7.holds Tryd.pinned (.plain (OpenSpec.ofChange dayThereSpec)) dayThereCard

/-- THE TIED CARD OF 'daybooklaw02.DaySteps'. -/
def dayStepsCard : Claim7 := { stood := { row := dayStepsRow, standIns := [], harness := (true, "5e6354c0837dff837a3e4f9a64f03108515b2b33f24e5e77ad50c00e9afc87df"), looks := false }, kinds := [], alts := [], laidByText := true, laidKinds := [.data, .data, .data, .data], laidTests := true, laidLooks := .later }
def DayStepsCardSaid : Prop := Claim7.holds Tryd.pinned (.plain (OpenSpec.ofChange dayStepsSpec)) dayStepsCard

/-- THE TIED CARD OF 'daybooklaw02.DayRows'. -/
def dayRowsCard : Claim7 := { stood := { row := dayRowsRow, standIns := [], harness := (true, "5e6354c0837dff837a3e4f9a64f03108515b2b33f24e5e77ad50c00e9afc87df"), looks := false }, kinds := [], alts := [], laidByText := true, laidKinds := [.data, .data, .data, .data], laidTests := true, laidLooks := .later }
def DayRowsCardSaid : Prop := Claim7.holds Tryd.pinned (.plain (OpenSpec.ofChange dayRowsSpec)) dayRowsCard

/-- THE TIED CARD OF 'daybooklaw02.DayCycle'. -/
def dayCycleCard : Claim7 := { stood := { row := dayCycleRow, standIns := [], harness := (true, "5e6354c0837dff837a3e4f9a64f03108515b2b33f24e5e77ad50c00e9afc87df"), looks := false }, kinds := [], alts := [], laidByText := true, laidKinds := [.data, .data, .data, .data], laidTests := true, laidLooks := .later }
def DayCycleCardSaid : Prop := Claim7.holds Tryd.pinned (.plain (OpenSpec.ofChange dayCycleSpec)) dayCycleCard

/-- THE TIED CARD OF 'daybooklaw02.DayTexts'. -/
def dayTextsCard : Claim7 := { stood := { row := dayTextsRow, standIns := [], harness := (true, "5e6354c0837dff837a3e4f9a64f03108515b2b33f24e5e77ad50c00e9afc87df"), looks := false }, kinds := [], alts := [], laidByText := true, laidKinds := [.data, .data, .data, .data], laidTests := true, laidLooks := .later }
def DayTextsCardSaid : Prop := Claim7.holds Tryd.pinned (.plain (OpenSpec.ofChange dayTextsSpec)) dayTextsCard

/-- THE TIED CARD OF 'daybooklaw02.DayBack'. -/
def dayBackCard : Claim7 := { stood := { row := dayBackRow, standIns := [], harness := (true, "5e6354c0837dff837a3e4f9a64f03108515b2b33f24e5e77ad50c00e9afc87df"), looks := false }, kinds := [], alts := [], laidByText := true, laidKinds := [.data, .data, .data, .data], laidTests := true, laidLooks := .later }
def DayBackCardSaid : Prop := Claim7.holds Tryd.pinned (.plain (OpenSpec.ofChange dayBackSpec)) dayBackCard

/-- THE TIED CARD OF 'daybooklaw02.DayMonthEnds'. -/
def dayMonthEndsCard : Claim7 := { stood := { row := dayMonthEndsRow, standIns := [], harness := (true, "5e6354c0837dff837a3e4f9a64f03108515b2b33f24e5e77ad50c00e9afc87df"), looks := false }, kinds := [], alts := [], laidByText := true, laidKinds := [.data, .data, .data, .data], laidTests := true, laidLooks := .later }
def DayMonthEndsCardSaid : Prop := Claim7.holds Tryd.pinned (.plain (OpenSpec.ofChange dayMonthEndsSpec)) dayMonthEndsCard

/-- THE SECOND FORM's CARD OF 'daybooklaw02.DayMonths'. -/
def dayMonthsUptoCard : Claim7 := { stood := { row := dayMonthsUptoRow, standIns := [], harness := (true, "5e6354c0837dff837a3e4f9a64f03108515b2b33f24e5e77ad50c00e9afc87df"), looks := false }, kinds := [], alts := [], laidByText := true, laidKinds := [.data], laidTests := true, laidLooks := .later }
def DayMonthsUptoCardSaid : Prop := Claim7.holds Tryd.pinned (.plain (OpenSpec.upto dayMonthsSpec)) dayMonthsUptoCard

/-- THE SECOND FORM's CARD OF 'daybooklaw02.DayDates'. -/
def dayDatesUptoCard : Claim7 := { stood := { row := dayDatesUptoRow, standIns := [], harness := (true, "5e6354c0837dff837a3e4f9a64f03108515b2b33f24e5e77ad50c00e9afc87df"), looks := false }, kinds := [], alts := [], laidByText := true, laidKinds := [.data], laidTests := true, laidLooks := .later }
def DayDatesUptoCardSaid : Prop := Claim7.holds Tryd.pinned (.plain (OpenSpec.upto dayDatesSpec)) dayDatesUptoCard

/-- THE SECOND FORM's CARD OF 'daybooklaw02.DayNumbers'. -/
def dayNumbersUptoCard : Claim7 := { stood := { row := dayNumbersUptoRow, standIns := [], harness := (true, "5e6354c0837dff837a3e4f9a64f03108515b2b33f24e5e77ad50c00e9afc87df"), looks := false }, kinds := [], alts := [], laidByText := true, laidKinds := [.data], laidTests := true, laidLooks := .later }
def DayNumbersUptoCardSaid : Prop := Claim7.holds Tryd.pinned (.plain (OpenSpec.upto dayNumbersSpec)) dayNumbersUptoCard

/-- THE SECOND FORM's CARD OF 'daybooklaw02.DayAdds'. -/
def dayAddsUptoCard : Claim7 := { stood := { row := dayAddsUptoRow, standIns := [], harness := (true, "5e6354c0837dff837a3e4f9a64f03108515b2b33f24e5e77ad50c00e9afc87df"), looks := false }, kinds := [], alts := [], laidByText := true, laidKinds := [.data], laidTests := true, laidLooks := .later }
def DayAddsUptoCardSaid : Prop := Claim7.holds Tryd.pinned (.plain (OpenSpec.upto dayAddsSpec)) dayAddsUptoCard

/-- THE SECOND FORM's CARD OF 'daybooklaw02.DayThere'. -/
def dayThereUptoCard : Claim7 := { stood := { row := dayThereUptoRow, standIns := [], harness := (true, "5e6354c0837dff837a3e4f9a64f03108515b2b33f24e5e77ad50c00e9afc87df"), looks := false }, kinds := [], alts := [], laidByText := true, laidKinds := [.data, .data, .data, .data], laidTests := true, laidLooks := .later }
def DayThereUptoCardSaid : Prop := Claim7.holds Tryd.pinned (.plain (OpenSpec.upto dayThereSpec)) dayThereUptoCard

/-- THE SECOND FORM's CARD OF 'daybooklaw02.DaySteps'. -/
def dayStepsUptoCard : Claim7 := { stood := { row := dayStepsUptoRow, standIns := [], harness := (true, "5e6354c0837dff837a3e4f9a64f03108515b2b33f24e5e77ad50c00e9afc87df"), looks := false }, kinds := [], alts := [], laidByText := true, laidKinds := [.data, .data, .data, .data], laidTests := true, laidLooks := .later }
def DayStepsUptoCardSaid : Prop := Claim7.holds Tryd.pinned (.plain (OpenSpec.upto dayStepsSpec)) dayStepsUptoCard

/-- THE SECOND FORM's CARD OF 'daybooklaw02.DayRows'. -/
def dayRowsUptoCard : Claim7 := { stood := { row := dayRowsUptoRow, standIns := [], harness := (true, "5e6354c0837dff837a3e4f9a64f03108515b2b33f24e5e77ad50c00e9afc87df"), looks := false }, kinds := [], alts := [], laidByText := true, laidKinds := [.data, .data, .data, .data], laidTests := true, laidLooks := .later }
def DayRowsUptoCardSaid : Prop := Claim7.holds Tryd.pinned (.plain (OpenSpec.upto dayRowsSpec)) dayRowsUptoCard

/-- THE SECOND FORM's CARD OF 'daybooklaw02.DayCycle'. -/
def dayCycleUptoCard : Claim7 := { stood := { row := dayCycleUptoRow, standIns := [], harness := (true, "5e6354c0837dff837a3e4f9a64f03108515b2b33f24e5e77ad50c00e9afc87df"), looks := false }, kinds := [], alts := [], laidByText := true, laidKinds := [.data, .data, .data, .data], laidTests := true, laidLooks := .later }
def DayCycleUptoCardSaid : Prop := Claim7.holds Tryd.pinned (.plain (OpenSpec.upto dayCycleSpec)) dayCycleUptoCard

/-- THE SECOND FORM's CARD OF 'daybooklaw02.DayTexts'. -/
def dayTextsUptoCard : Claim7 := { stood := { row := dayTextsUptoRow, standIns := [], harness := (true, "5e6354c0837dff837a3e4f9a64f03108515b2b33f24e5e77ad50c00e9afc87df"), looks := false }, kinds := [], alts := [], laidByText := true, laidKinds := [.data, .data, .data, .data], laidTests := true, laidLooks := .later }
def DayTextsUptoCardSaid : Prop := Claim7.holds Tryd.pinned (.plain (OpenSpec.upto dayTextsSpec)) dayTextsUptoCard

/-- THE SECOND FORM's CARD OF 'daybooklaw02.DayBack'. -/
def dayBackUptoCard : Claim7 := { stood := { row := dayBackUptoRow, standIns := [], harness := (true, "5e6354c0837dff837a3e4f9a64f03108515b2b33f24e5e77ad50c00e9afc87df"), looks := false }, kinds := [], alts := [], laidByText := true, laidKinds := [.data, .data, .data, .data], laidTests := true, laidLooks := .later }
def DayBackUptoCardSaid : Prop := Claim7.holds Tryd.pinned (.plain (OpenSpec.upto dayBackSpec)) dayBackUptoCard

/-- THE SECOND FORM's CARD OF 'daybooklaw02.DayMonthEnds'. -/
def dayMonthEndsUptoCard : Claim7 := { stood := { row := dayMonthEndsUptoRow, standIns := [], harness := (true, "5e6354c0837dff837a3e4f9a64f03108515b2b33f24e5e77ad50c00e9afc87df"), looks := false }, kinds := [], alts := [], laidByText := true, laidKinds := [.data, .data, .data, .data], laidTests := true, laidLooks := .later }
def DayMonthEndsUptoCardSaid : Prop := Claim7.holds Tryd.pinned (.plain (OpenSpec.upto dayMonthEndsSpec)) dayMonthEndsUptoCard
end Rows
end Go.Proofs.YtidjipcdnkgigaaDoor
