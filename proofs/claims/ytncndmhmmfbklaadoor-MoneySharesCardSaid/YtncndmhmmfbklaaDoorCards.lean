/-
  DERIVED. GIVEN WITH THE SEED: THE CARDS: each row of YtncndmhmmfbklaaDoorRows.lean that lists a variable, with what it lists TIED to the program's text (the seventh form; the later family's looks); each row that meets fmt, with fmt's text TOLD by the authors' own Lean function (tested against real Go, not proved from fmt's source: count such statements apart). THE CARD IS WHAT COUNTS. Prove the row's statement (the work); the ties are given (YtncndmhmmfbklaaDoorTie.lean); close each card by the builder's one call (the guide's Derived/Test/ToyasCard.lean, 'card_holds'). Laid BY PROGRAM, IN A SANDBOX (cutbox-door.mjs). By AI agents, Wed Nov 11 2026. No macro, syntax, notation, axiom, sorry.
-/
import Derived.Test.YtncndmhmmfbklaaDoorRows
import GoSem.ClaimSeven
namespace Go.Proofs.YtncndmhmmfbklaaDoor
namespace Rows

/-- THE TIED CARD OF 'daybooklaw01.MoneyPrints'. -/
def moneyPrintsCard : Claim7 := { stood := { row := moneyPrintsRow, standIns := [], harness := (true, "b3e238be4dbd5477f2dad0c4e27cea60324287d08cc747a94d15404b24c873db"), looks := true }, kinds := [], alts := [], laidByText := true, laidKinds := [.data, .data, .data], laidTests := true, laidLooks := .later }
def MoneyPrintsCardSaid : Prop := Claim7.holds Tryd.pinned (.plain (OpenSpec.ofChange moneyPrintsSpec)) moneyPrintsCard

/-- THE TIED CARD OF 'daybooklaw01.MoneyRounds'. -/
def moneyRoundsCard : Claim7 := { stood := { row := moneyRoundsRow, standIns := [], harness := (true, "b3e238be4dbd5477f2dad0c4e27cea60324287d08cc747a94d15404b24c873db"), looks := true }, kinds := [], alts := [], laidByText := true, laidKinds := [.data, .data, .data], laidTests := true, laidLooks := .later }
def MoneyRoundsCardSaid : Prop := Claim7.holds Tryd.pinned (.plain (OpenSpec.ofChange moneyRoundsSpec)) moneyRoundsCard

/-- THE TIED CARD OF 'daybooklaw01.MoneyShares'. -/
def moneySharesCard : Claim7 := { stood := { row := moneySharesRow, standIns := [], harness := (true, "b3e238be4dbd5477f2dad0c4e27cea60324287d08cc747a94d15404b24c873db"), looks := true }, kinds := [], alts := [], laidByText := true, laidKinds := [.data, .data, .data], laidTests := true, laidLooks := .later }
def MoneySharesCardSaid : Prop := Claim7.holds Tryd.pinned (.plain (OpenSpec.ofChange moneySharesSpec)) moneySharesCard

/-- THE TIED CARD OF 'daybooklaw01.MoneyRing'. -/
def moneyRingCard : Claim7 := { stood := { row := moneyRingRow, standIns := [], harness := (true, "b3e238be4dbd5477f2dad0c4e27cea60324287d08cc747a94d15404b24c873db"), looks := true }, kinds := [], alts := [], laidByText := true, laidKinds := [.data, .data, .data], laidTests := true, laidLooks := .later }
def MoneyRingCardSaid : Prop := Claim7.holds Tryd.pinned (.plain (OpenSpec.ofChange moneyRingSpec)) moneyRingCard

/-- THE TIED CARD OF 'daybooklaw01.MoneyParses'. -/
def moneyParsesCard : Claim7 := { stood := { row := moneyParsesRow, standIns := [], harness := (true, "b3e238be4dbd5477f2dad0c4e27cea60324287d08cc747a94d15404b24c873db"), looks := true }, kinds := [], alts := [], laidByText := true, laidKinds := [.data, .data, .data, .data, .sentinel, .sentinel, .pinned], laidTests := true, laidLooks := .later }
def MoneyParsesCardSaid : Prop := Claim7.holds Tryd.pinned (.plain (OpenSpec.ofChange moneyParsesSpec)) moneyParsesCard

/-- THE TIED CARD OF 'daybooklaw01.MoneyBack'. -/
def moneyBackCard : Claim7 := { stood := { row := moneyBackRow, standIns := [], harness := (true, "b3e238be4dbd5477f2dad0c4e27cea60324287d08cc747a94d15404b24c873db"), looks := true }, kinds := [], alts := [], laidByText := true, laidKinds := [.data, .data, .data, .data, .sentinel, .sentinel, .pinned], laidTests := true, laidLooks := .later }
def MoneyBackCardSaid : Prop := Claim7.holds Tryd.pinned (.plain (OpenSpec.ofChange moneyBackSpec)) moneyBackCard

/-- THE SECOND FORM's CARD OF 'daybooklaw01.MoneyPrints'. -/
def moneyPrintsUptoCard : Claim7 := { stood := { row := moneyPrintsUptoRow, standIns := [], harness := (true, "b3e238be4dbd5477f2dad0c4e27cea60324287d08cc747a94d15404b24c873db"), looks := true }, kinds := [], alts := [], laidByText := true, laidKinds := [.data, .data, .data], laidTests := true, laidLooks := .later }
def MoneyPrintsUptoCardSaid : Prop := Claim7.holds Tryd.pinned (.plain (OpenSpec.upto moneyPrintsSpec)) moneyPrintsUptoCard

/-- THE SECOND FORM's CARD OF 'daybooklaw01.MoneyRounds'. -/
def moneyRoundsUptoCard : Claim7 := { stood := { row := moneyRoundsUptoRow, standIns := [], harness := (true, "b3e238be4dbd5477f2dad0c4e27cea60324287d08cc747a94d15404b24c873db"), looks := true }, kinds := [], alts := [], laidByText := true, laidKinds := [.data, .data, .data], laidTests := true, laidLooks := .later }
def MoneyRoundsUptoCardSaid : Prop := Claim7.holds Tryd.pinned (.plain (OpenSpec.upto moneyRoundsSpec)) moneyRoundsUptoCard

/-- THE SECOND FORM's CARD OF 'daybooklaw01.MoneyShares'. -/
def moneySharesUptoCard : Claim7 := { stood := { row := moneySharesUptoRow, standIns := [], harness := (true, "b3e238be4dbd5477f2dad0c4e27cea60324287d08cc747a94d15404b24c873db"), looks := true }, kinds := [], alts := [], laidByText := true, laidKinds := [.data, .data, .data], laidTests := true, laidLooks := .later }
def MoneySharesUptoCardSaid : Prop := Claim7.holds Tryd.pinned (.plain (OpenSpec.upto moneySharesSpec)) moneySharesUptoCard

/-- THE SECOND FORM's CARD OF 'daybooklaw01.MoneyRing'. -/
def moneyRingUptoCard : Claim7 := { stood := { row := moneyRingUptoRow, standIns := [], harness := (true, "b3e238be4dbd5477f2dad0c4e27cea60324287d08cc747a94d15404b24c873db"), looks := true }, kinds := [], alts := [], laidByText := true, laidKinds := [.data, .data, .data], laidTests := true, laidLooks := .later }
def MoneyRingUptoCardSaid : Prop := Claim7.holds Tryd.pinned (.plain (OpenSpec.upto moneyRingSpec)) moneyRingUptoCard

/-- THE SECOND FORM's CARD OF 'daybooklaw01.MoneyParses'. -/
def moneyParsesUptoCard : Claim7 := { stood := { row := moneyParsesUptoRow, standIns := [], harness := (true, "b3e238be4dbd5477f2dad0c4e27cea60324287d08cc747a94d15404b24c873db"), looks := true }, kinds := [], alts := [], laidByText := true, laidKinds := [.data, .data, .data, .data, .sentinel, .sentinel, .pinned], laidTests := true, laidLooks := .later }
def MoneyParsesUptoCardSaid : Prop := Claim7.holds Tryd.pinned (.plain (OpenSpec.upto moneyParsesSpec)) moneyParsesUptoCard

/-- THE SECOND FORM's CARD OF 'daybooklaw01.MoneyBack'. -/
def moneyBackUptoCard : Claim7 := { stood := { row := moneyBackUptoRow, standIns := [], harness := (true, "b3e238be4dbd5477f2dad0c4e27cea60324287d08cc747a94d15404b24c873db"), looks := true }, kinds := [], alts := [], laidByText := true, laidKinds := [.data, .data, .data, .data, .sentinel, .sentinel, .pinned], laidTests := true, laidLooks := .later }
def MoneyBackUptoCardSaid : Prop := Claim7.holds Tryd.pinned (.plain (OpenSpec.upto moneyBackSpec)) moneyBackUptoCard
end Rows
end Go.Proofs.YtncndmhmmfbklaaDoor
