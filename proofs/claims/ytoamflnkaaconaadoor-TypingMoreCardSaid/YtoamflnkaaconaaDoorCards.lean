/-
  DERIVED. GIVEN WITH THE SEED: THE CARDS: each row of YtoamflnkaaconaaDoorRows.lean that lists a variable, with what it lists TIED to the program's text (the seventh form; the later family's looks); each row that meets fmt, with fmt's text TOLD by the authors' own Lean function (tested against real Go, not proved from fmt's source: count such statements apart). THE CARD IS WHAT COUNTS. Prove the row's statement (the work); the ties are given (YtoamflnkaaconaaDoorTie.lean); close each card by the builder's one call (the guide's Derived/Test/ToyasCard.lean, 'card_holds'). Laid BY PROGRAM, IN A SANDBOX (cutbox-door.mjs). By AI agents, Wed Nov 11 2026. No macro, syntax, notation, axiom, sorry.
-/
import Derived.Test.YtoamflnkaaconaaDoorRows
import GoSem.ClaimSeven
namespace Go.Proofs.YtoamflnkaaconaaDoor
namespace Rows

/-- THE TIED CARD OF 'daybooklaw14.TypingFields'. -/
def typingFieldsCard : Claim7 := { stood := { row := typingFieldsRow, standIns := [], harness := (true, "69693b67f7b0841b2b67e1b2bce45d26846ff6cc9dc68aad5620e2f8d02e8572"), looks := true }, kinds := [], alts := [], laidByText := true, laidKinds := [.data], laidTests := true, laidLooks := .later }
def TypingFieldsCardSaid : Prop := Claim7.holds Tryd.pinned (.plain (OpenSpec.ofChange typingFieldsSpec)) typingFieldsCard

/-- THE TIED CARD OF 'daybooklaw14.TypingParts'. -/
def typingPartsCard : Claim7 := { stood := { row := typingPartsRow, standIns := [], harness := (true, "69693b67f7b0841b2b67e1b2bce45d26846ff6cc9dc68aad5620e2f8d02e8572"), looks := true }, kinds := [], alts := [], laidByText := true, laidKinds := [.data, .sentinel], laidTests := true, laidLooks := .later }
def TypingPartsCardSaid : Prop := Claim7.holds Tryd.pinned (.plain (OpenSpec.ofChange typingPartsSpec)) typingPartsCard

/-- THE TIED CARD OF 'daybooklaw14.TypingTurned'. -/
def typingTurnedCard : Claim7 := { stood := { row := typingTurnedRow, standIns := [], harness := (true, "69693b67f7b0841b2b67e1b2bce45d26846ff6cc9dc68aad5620e2f8d02e8572"), looks := true }, kinds := [], alts := [], laidByText := true, laidKinds := [.data, .sentinel], laidTests := true, laidLooks := .later }
def TypingTurnedCardSaid : Prop := Claim7.holds Tryd.pinned (.plain (OpenSpec.ofChange typingTurnedSpec)) typingTurnedCard

/-- THE TIED CARD OF 'daybooklaw14.TypingMore'. -/
def typingMoreCard : Claim7 := { stood := { row := typingMoreRow, standIns := [], harness := (true, "69693b67f7b0841b2b67e1b2bce45d26846ff6cc9dc68aad5620e2f8d02e8572"), looks := true }, kinds := [], alts := [], laidByText := true, laidKinds := [.data, .sentinel], laidTests := true, laidLooks := .later }
def TypingMoreCardSaid : Prop := Claim7.holds Tryd.pinned (.plain (OpenSpec.ofChange typingMoreSpec)) typingMoreCard

/-- THE TIED CARD OF 'daybooklaw14.TypingPlans'. -/
def typingPlansCard : Claim7 := { stood := { row := typingPlansRow, standIns := [], harness := (true, "69693b67f7b0841b2b67e1b2bce45d26846ff6cc9dc68aad5620e2f8d02e8572"), looks := true }, kinds := [], alts := [], laidByText := true, laidKinds := [.data, .sentinel], laidTests := true, laidLooks := .later }
def TypingPlansCardSaid : Prop := Claim7.holds Tryd.pinned (.plain (OpenSpec.ofChange typingPlansSpec)) typingPlansCard

/-- THE TIED CARD OF 'daybooklaw14.TypingWays'. -/
def typingWaysCard : Claim7 := { stood := { row := typingWaysRow, standIns := [], harness := (true, "69693b67f7b0841b2b67e1b2bce45d26846ff6cc9dc68aad5620e2f8d02e8572"), looks := true }, kinds := [], alts := [], laidByText := true, laidKinds := [.data, .sentinel], laidTests := true, laidLooks := .later }
def TypingWaysCardSaid : Prop := Claim7.holds Tryd.pinned (.plain (OpenSpec.ofChange typingWaysSpec)) typingWaysCard

/-- THE SECOND FORM's CARD OF 'daybooklaw14.TypingFields'. -/
def typingFieldsUptoCard : Claim7 := { stood := { row := typingFieldsUptoRow, standIns := [], harness := (true, "69693b67f7b0841b2b67e1b2bce45d26846ff6cc9dc68aad5620e2f8d02e8572"), looks := true }, kinds := [], alts := [], laidByText := true, laidKinds := [.data], laidTests := true, laidLooks := .later }
def TypingFieldsUptoCardSaid : Prop := Claim7.holds Tryd.pinned (.plain (OpenSpec.upto typingFieldsSpec)) typingFieldsUptoCard

/-- THE SECOND FORM's CARD OF 'daybooklaw14.TypingParts'. -/
def typingPartsUptoCard : Claim7 := { stood := { row := typingPartsUptoRow, standIns := [], harness := (true, "69693b67f7b0841b2b67e1b2bce45d26846ff6cc9dc68aad5620e2f8d02e8572"), looks := true }, kinds := [], alts := [], laidByText := true, laidKinds := [.data, .sentinel], laidTests := true, laidLooks := .later }
def TypingPartsUptoCardSaid : Prop := Claim7.holds Tryd.pinned (.plain (OpenSpec.upto typingPartsSpec)) typingPartsUptoCard

/-- THE SECOND FORM's CARD OF 'daybooklaw14.TypingTurned'. -/
def typingTurnedUptoCard : Claim7 := { stood := { row := typingTurnedUptoRow, standIns := [], harness := (true, "69693b67f7b0841b2b67e1b2bce45d26846ff6cc9dc68aad5620e2f8d02e8572"), looks := true }, kinds := [], alts := [], laidByText := true, laidKinds := [.data, .sentinel], laidTests := true, laidLooks := .later }
def TypingTurnedUptoCardSaid : Prop := Claim7.holds Tryd.pinned (.plain (OpenSpec.upto typingTurnedSpec)) typingTurnedUptoCard

/-- THE SECOND FORM's CARD OF 'daybooklaw14.TypingMore'. -/
def typingMoreUptoCard : Claim7 := { stood := { row := typingMoreUptoRow, standIns := [], harness := (true, "69693b67f7b0841b2b67e1b2bce45d26846ff6cc9dc68aad5620e2f8d02e8572"), looks := true }, kinds := [], alts := [], laidByText := true, laidKinds := [.data, .sentinel], laidTests := true, laidLooks := .later }
def TypingMoreUptoCardSaid : Prop := Claim7.holds Tryd.pinned (.plain (OpenSpec.upto typingMoreSpec)) typingMoreUptoCard

/-- THE SECOND FORM's CARD OF 'daybooklaw14.TypingPlans'. -/
def typingPlansUptoCard : Claim7 := { stood := { row := typingPlansUptoRow, standIns := [], harness := (true, "69693b67f7b0841b2b67e1b2bce45d26846ff6cc9dc68aad5620e2f8d02e8572"), looks := true }, kinds := [], alts := [], laidByText := true, laidKinds := [.data, .sentinel], laidTests := true, laidLooks := .later }
def TypingPlansUptoCardSaid : Prop := Claim7.holds Tryd.pinned (.plain (OpenSpec.upto typingPlansSpec)) typingPlansUptoCard

/-- THE SECOND FORM's CARD OF 'daybooklaw14.TypingWays'. -/
def typingWaysUptoCard : Claim7 := { stood := { row := typingWaysUptoRow, standIns := [], harness := (true, "69693b67f7b0841b2b67e1b2bce45d26846ff6cc9dc68aad5620e2f8d02e8572"), looks := true }, kinds := [], alts := [], laidByText := true, laidKinds := [.data, .sentinel], laidTests := true, laidLooks := .later }
def TypingWaysUptoCardSaid : Prop := Claim7.holds Tryd.pinned (.plain (OpenSpec.upto typingWaysSpec)) typingWaysUptoCard
end Rows
end Go.Proofs.YtoamflnkaaconaaDoor
