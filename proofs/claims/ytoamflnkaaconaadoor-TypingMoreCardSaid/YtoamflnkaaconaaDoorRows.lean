/-
  NARROWER THAN 'FOR EVERY INPUT', by the rows' own cells (each row's printed sentence says how): TypingFields: laid · TypingParts: laid · TypingTurned: laid · TypingMore: laid · TypingPlans: laid · TypingWays: laid.
  DERIVED. THE GIVEN ROWS OF THIS SEAT. 6 by the template 'for every input the law returns true; each argument reads behind the call as it read before'; 0 by the template 'total and deterministic' (their statements: YtoamflnkaaconaaDoorTotals.lean).
  GIVEN WITH THE SEED: the statements are not yours to turn. If you find one false, say at which input.
  Laid BY PROGRAM, IN A SANDBOX (cutbox-rows.mjs): the forced cells as the released guide's own fill.sh prints them over the translation f3059d907fcf49c0… (all of the seat's roots in one cut). By AI agents, Wed Nov 11 2026. No macro, syntax, notation, axiom, sorry.
-/
import Derived.Test.YtoamflnkaaconaaDoorChecked
import GoSem.Claim
import GoSem.ClaimJoined
import GoSem.ClaimMapViews
import Derived.JoinedTies
import Derived.KernelRfl
namespace Go.Proofs.YtoamflnkaaconaaDoor
/- THE CELL 'sum', in the pinned program and in every row, IS THE sha256 OF THE DUMP (.gsa) THAT YtoamflnkaaconaaDoorProg.lean LOADS. Nothing in Lean hashes anything: it is a label: what it is worth is what the hold of that sum in a sandbox is worth. -/
noncomputable def Tryd.pinned : Pinned := { name := "ytoamflnkaaconaadoor", sum := "f3059d907fcf49c03997084fb0647dd10318ec7d6e238b842c8e534e258d8bb4", checked := Tryd.checked }
namespace Rows
def none {H : Type} : Left H := { results := [], args := [] }

/- WHAT THE LISTED PACKAGE-LEVEL VARIABLES READ AS WHEN THE CALL BEGINS. Each datum BY PROGRAM (the guide's laid-datum.mjs) off the statement by which the dump's own 'gosem.cut.vars' lays the variable. In a bare row this is a premise. The card (YtoamflnkaaconaaDoorCards.lean) ties it to the program's text. -/
def laid_daybook_typing_fields {H : Type} : DataW H := .agg [.agg [.lit (.string []), .lit (.int .i64 0)], .agg [.lit (.string [115, 101, 113]), .lit (.int .i64 1)], .agg [.lit (.string [108, 105, 110, 101]), .lit (.int .i64 1)], .agg [.lit (.string [100, 97, 121]), .lit (.int .i64 3)], .agg [.lit (.string [107, 105, 110, 100]), .lit (.int .i64 1)], .agg [.lit (.string [107, 101, 121]), .lit (.int .i64 2)], .agg [.lit (.string [97, 99, 99, 111, 117, 110, 116]), .lit (.int .i64 2)], .agg [.lit (.string [97, 109, 111, 117, 110, 116]), .lit (.int .i64 5)], .agg [.lit (.string [100, 101, 98, 105, 116]), .lit (.int .i64 5)], .agg [.lit (.string [99, 114, 101, 100, 105, 116]), .lit (.int .i64 5)], .agg [.lit (.string [116, 97, 103]), .lit (.int .i64 2)], .agg [.lit (.string [109, 101, 109, 111]), .lit (.int .i64 2)], .agg [.lit (.string [109, 111, 110, 116, 104]), .lit (.int .i64 1)], .agg [.lit (.string [121, 101, 97, 114]), .lit (.int .i64 1)], .agg [.lit (.string [114, 111, 111, 116]), .lit (.int .i64 2)]]
def laid_daybook_typing_errNode {H : Type} : DataW H := .iface "*errors.errorString" (.ptr (.agg [.lit (.string [97, 32, 110, 111, 100, 101, 32, 119, 105, 116, 104, 111, 117, 116, 32, 97, 32, 116, 121, 112, 101])]))

/-- 'daybooklaw14.TypingFields': WHATEVER THE INPUT: true; the input reads as it did. -/
def typingFieldsSpec : ChangeSpec := { name := "typingFields", fn := fun _ => fun
  | [d1, d2] => { results := [.lit (.bool true)], args := [d1, d2] }
  | _ => none }
def typingFieldsRow : OpenClaim := { program := "ytoamflnkaaconaadoor", sum := "f3059d907fcf49c03997084fb0647dd10318ec7d6e238b842c8e534e258d8bb4", func := "daybook/daybooklaw14.TypingFields", spec := "typingFields", named := ["daybook/typing.fields"], apart := false, laid := [("daybook/typing.fields", laid_daybook_typing_fields)] }
def TypingFieldsSaid : Prop := typingFieldsRow.holds Tryd.pinned (OpenSpec.ofChange typingFieldsSpec)

/-- ITS FALSE NEIGHBOUR: 'it returns false'. Refute it at one input. -/
def typingFieldsWrong : ChangeSpec := { name := "typingFields", fn := fun _ => fun
  | [d1, d2] => { results := [.lit (.bool false)], args := [d1, d2] }
  | _ => none }
def TypingFieldsWrongFalsely : Prop := typingFieldsRow.holds Tryd.pinned (OpenSpec.ofChange typingFieldsWrong)

/-- 'daybooklaw14.TypingParts': WHATEVER THE INPUT: true; the input reads as it did. -/
def typingPartsSpec : ChangeSpec := { name := "typingParts", fn := fun _ => fun
  | [d1, d2, d3, d4, d5] => { results := [.lit (.bool true)], args := [d1, d2, d3, d4, d5] }
  | _ => none }
def typingPartsRow : OpenClaim := { program := "ytoamflnkaaconaadoor", sum := "f3059d907fcf49c03997084fb0647dd10318ec7d6e238b842c8e534e258d8bb4", func := "daybook/daybooklaw14.TypingParts", spec := "typingParts", inPlace := ["internal/reflectlite.TypeOf"], unfollowed := true, recurses := true, named := ["daybook/typing.errNode", "daybook/typing.fields"], apart := false, laid := [("daybook/typing.fields", laid_daybook_typing_fields), ("daybook/typing.errNode", laid_daybook_typing_errNode)] }
def TypingPartsSaid : Prop := typingPartsRow.holds Tryd.pinned (OpenSpec.ofChange typingPartsSpec)

/-- ITS FALSE NEIGHBOUR: 'it returns false'. Refute it at one input. -/
def typingPartsWrong : ChangeSpec := { name := "typingParts", fn := fun _ => fun
  | [d1, d2, d3, d4, d5] => { results := [.lit (.bool false)], args := [d1, d2, d3, d4, d5] }
  | _ => none }
def TypingPartsWrongFalsely : Prop := typingPartsRow.holds Tryd.pinned (OpenSpec.ofChange typingPartsWrong)

/-- 'daybooklaw14.TypingTurned': WHATEVER THE INPUT: true; the input reads as it did. -/
def typingTurnedSpec : ChangeSpec := { name := "typingTurned", fn := fun _ => fun
  | [d1, d2] => { results := [.lit (.bool true)], args := [d1, d2] }
  | _ => none }
def typingTurnedRow : OpenClaim := { program := "ytoamflnkaaconaadoor", sum := "f3059d907fcf49c03997084fb0647dd10318ec7d6e238b842c8e534e258d8bb4", func := "daybook/daybooklaw14.TypingTurned", spec := "typingTurned", inPlace := ["internal/reflectlite.TypeOf"], unfollowed := true, recurses := true, named := ["daybook/typing.errNode", "daybook/typing.fields"], apart := false, laid := [("daybook/typing.fields", laid_daybook_typing_fields), ("daybook/typing.errNode", laid_daybook_typing_errNode)] }
def TypingTurnedSaid : Prop := typingTurnedRow.holds Tryd.pinned (OpenSpec.ofChange typingTurnedSpec)

/-- ITS FALSE NEIGHBOUR: 'it returns false'. Refute it at one input. -/
def typingTurnedWrong : ChangeSpec := { name := "typingTurned", fn := fun _ => fun
  | [d1, d2] => { results := [.lit (.bool false)], args := [d1, d2] }
  | _ => none }
def TypingTurnedWrongFalsely : Prop := typingTurnedRow.holds Tryd.pinned (OpenSpec.ofChange typingTurnedWrong)

/-- 'daybooklaw14.TypingMore': WHATEVER THE INPUT: true; the input reads as it did. -/
def typingMoreSpec : ChangeSpec := { name := "typingMore", fn := fun _ => fun
  | [d1, d2, d3] => { results := [.lit (.bool true)], args := [d1, d2, d3] }
  | _ => none }
def typingMoreRow : OpenClaim := { program := "ytoamflnkaaconaadoor", sum := "f3059d907fcf49c03997084fb0647dd10318ec7d6e238b842c8e534e258d8bb4", func := "daybook/daybooklaw14.TypingMore", spec := "typingMore", inPlace := ["internal/reflectlite.TypeOf"], unfollowed := true, recurses := true, named := ["daybook/typing.errNode", "daybook/typing.fields"], apart := false, laid := [("daybook/typing.fields", laid_daybook_typing_fields), ("daybook/typing.errNode", laid_daybook_typing_errNode)] }
def TypingMoreSaid : Prop := typingMoreRow.holds Tryd.pinned (OpenSpec.ofChange typingMoreSpec)

/-- ITS FALSE NEIGHBOUR: 'it returns false'. Refute it at one input. -/
def typingMoreWrong : ChangeSpec := { name := "typingMore", fn := fun _ => fun
  | [d1, d2, d3] => { results := [.lit (.bool false)], args := [d1, d2, d3] }
  | _ => none }
def TypingMoreWrongFalsely : Prop := typingMoreRow.holds Tryd.pinned (OpenSpec.ofChange typingMoreWrong)

/-- 'daybooklaw14.TypingPlans': WHATEVER THE INPUT: true; the input reads as it did. -/
def typingPlansSpec : ChangeSpec := { name := "typingPlans", fn := fun _ => fun
  | [d] => { results := [.lit (.bool true)], args := [d] }
  | _ => none }
def typingPlansRow : OpenClaim := { program := "ytoamflnkaaconaadoor", sum := "f3059d907fcf49c03997084fb0647dd10318ec7d6e238b842c8e534e258d8bb4", func := "daybook/daybooklaw14.TypingPlans", spec := "typingPlans", inPlace := ["internal/reflectlite.TypeOf"], unfollowed := true, recurses := true, named := ["daybook/typing.errNode", "daybook/typing.fields"], apart := false, laid := [("daybook/typing.fields", laid_daybook_typing_fields), ("daybook/typing.errNode", laid_daybook_typing_errNode)] }
def TypingPlansSaid : Prop := typingPlansRow.holds Tryd.pinned (OpenSpec.ofChange typingPlansSpec)

/-- ITS FALSE NEIGHBOUR: 'it returns false'. Refute it at one input. -/
def typingPlansWrong : ChangeSpec := { name := "typingPlans", fn := fun _ => fun
  | [d] => { results := [.lit (.bool false)], args := [d] }
  | _ => none }
def TypingPlansWrongFalsely : Prop := typingPlansRow.holds Tryd.pinned (OpenSpec.ofChange typingPlansWrong)

/-- 'daybooklaw14.TypingWays': WHATEVER THE INPUT: true; the input reads as it did. -/
def typingWaysSpec : ChangeSpec := { name := "typingWays", fn := fun _ => fun
  | [d1, d2] => { results := [.lit (.bool true)], args := [d1, d2] }
  | _ => none }
def typingWaysRow : OpenClaim := { program := "ytoamflnkaaconaadoor", sum := "f3059d907fcf49c03997084fb0647dd10318ec7d6e238b842c8e534e258d8bb4", func := "daybook/daybooklaw14.TypingWays", spec := "typingWays", inPlace := ["internal/reflectlite.TypeOf"], unfollowed := true, recurses := true, named := ["daybook/typing.errNode", "daybook/typing.fields"], apart := false, laid := [("daybook/typing.fields", laid_daybook_typing_fields), ("daybook/typing.errNode", laid_daybook_typing_errNode)] }
def TypingWaysSaid : Prop := typingWaysRow.holds Tryd.pinned (OpenSpec.ofChange typingWaysSpec)

/-- ITS FALSE NEIGHBOUR: 'it returns false'. Refute it at one input. -/
def typingWaysWrong : ChangeSpec := { name := "typingWays", fn := fun _ => fun
  | [d1, d2] => { results := [.lit (.bool false)], args := [d1, d2] }
  | _ => none }
def TypingWaysWrongFalsely : Prop := typingWaysRow.holds Tryd.pinned (OpenSpec.ofChange typingWaysWrong)

/- THE SECOND FORM. 'bulk': how many values and letters a reading holds, each counted each time it is reached (what is shared counts as often as it is met; a slice's spare places count too). A statement '..UptoSaid' is the law's where the arguments, and the package variables that the reading takes, are together of bulk at most 1048576: NARROWER than '..Said'. Prove '..Said' where nothing that the law and all that it calls make is longer than what came in: it says more and counts as full. Else prove '..UptoSaid'. A law counts once. -/
mutual
def uptoBulk {H : Type} : DataW H → Nat
  | .lit (.string bytes) => bytes.length + 1
  | .lit _ => 1
  | .nil => 1
  | .ptr d => uptoBulk d + 1
  | .slice elems spare => uptoBulkAll elems + uptoBulkAll spare + 1
  | .agg parts => uptoBulkAll parts + 1
  | .iface _ d => uptoBulk d + 1
  | .map entries => uptoBulkEntries entries + 1
  | .held _ => 1
def uptoBulkAll {H : Type} : List (DataW H) → Nat
  | [] => 0
  | d :: r => uptoBulk d + uptoBulkAll r
def uptoBulkEntries {H : Type} : List (Lit × DataW H) → Nat
  | [] => 0
  | x :: r => uptoBulkEntry x + uptoBulkEntries r
def uptoBulkEntry {H : Type} : Lit × DataW H → Nat
  | (.string bytes, d) => bytes.length + uptoBulk d + 1
  | (_, d) => uptoBulk d + 1
 end
def uptoSmall : (H : Type) → List (DataW H) → Bool := fun _ ds => decide (uptoBulkAll ds ≤ 1048576)
def OpenSpec.upto (s : _root_.Go.ChangeSpec) : _root_.Go.OpenSpec := { _root_.Go.OpenSpec.ofChange s with cond := some uptoSmall }

/-- 'daybooklaw14.TypingFields', WHERE WHAT IT READS IS OF BULK AT MOST 1048576: true; the input reads as it did. -/
def typingFieldsUptoRow : OpenClaim := { program := "ytoamflnkaaconaadoor", sum := "f3059d907fcf49c03997084fb0647dd10318ec7d6e238b842c8e534e258d8bb4", func := "daybook/daybooklaw14.TypingFields", spec := "typingFields", named := ["daybook/typing.fields"], apart := false, laid := [("daybook/typing.fields", laid_daybook_typing_fields)], narrowed := true }
def TypingFieldsUptoSaid : Prop := typingFieldsUptoRow.holds Tryd.pinned (OpenSpec.upto typingFieldsSpec)

/-- 'daybooklaw14.TypingParts', WHERE WHAT IT READS IS OF BULK AT MOST 1048576: true; the input reads as it did. -/
def typingPartsUptoRow : OpenClaim := { program := "ytoamflnkaaconaadoor", sum := "f3059d907fcf49c03997084fb0647dd10318ec7d6e238b842c8e534e258d8bb4", func := "daybook/daybooklaw14.TypingParts", spec := "typingParts", inPlace := ["internal/reflectlite.TypeOf"], unfollowed := true, recurses := true, named := ["daybook/typing.errNode", "daybook/typing.fields"], apart := false, laid := [("daybook/typing.fields", laid_daybook_typing_fields), ("daybook/typing.errNode", laid_daybook_typing_errNode)], narrowed := true }
def TypingPartsUptoSaid : Prop := typingPartsUptoRow.holds Tryd.pinned (OpenSpec.upto typingPartsSpec)

/-- 'daybooklaw14.TypingTurned', WHERE WHAT IT READS IS OF BULK AT MOST 1048576: true; the input reads as it did. -/
def typingTurnedUptoRow : OpenClaim := { program := "ytoamflnkaaconaadoor", sum := "f3059d907fcf49c03997084fb0647dd10318ec7d6e238b842c8e534e258d8bb4", func := "daybook/daybooklaw14.TypingTurned", spec := "typingTurned", inPlace := ["internal/reflectlite.TypeOf"], unfollowed := true, recurses := true, named := ["daybook/typing.errNode", "daybook/typing.fields"], apart := false, laid := [("daybook/typing.fields", laid_daybook_typing_fields), ("daybook/typing.errNode", laid_daybook_typing_errNode)], narrowed := true }
def TypingTurnedUptoSaid : Prop := typingTurnedUptoRow.holds Tryd.pinned (OpenSpec.upto typingTurnedSpec)

/-- 'daybooklaw14.TypingMore', WHERE WHAT IT READS IS OF BULK AT MOST 1048576: true; the input reads as it did. -/
def typingMoreUptoRow : OpenClaim := { program := "ytoamflnkaaconaadoor", sum := "f3059d907fcf49c03997084fb0647dd10318ec7d6e238b842c8e534e258d8bb4", func := "daybook/daybooklaw14.TypingMore", spec := "typingMore", inPlace := ["internal/reflectlite.TypeOf"], unfollowed := true, recurses := true, named := ["daybook/typing.errNode", "daybook/typing.fields"], apart := false, laid := [("daybook/typing.fields", laid_daybook_typing_fields), ("daybook/typing.errNode", laid_daybook_typing_errNode)], narrowed := true }
def TypingMoreUptoSaid : Prop := typingMoreUptoRow.holds Tryd.pinned (OpenSpec.upto typingMoreSpec)

/-- 'daybooklaw14.TypingPlans', WHERE WHAT IT READS IS OF BULK AT MOST 1048576: true; the input reads as it did. -/
def typingPlansUptoRow : OpenClaim := { program := "ytoamflnkaaconaadoor", sum := "f3059d907fcf49c03997084fb0647dd10318ec7d6e238b842c8e534e258d8bb4", func := "daybook/daybooklaw14.TypingPlans", spec := "typingPlans", inPlace := ["internal/reflectlite.TypeOf"], unfollowed := true, recurses := true, named := ["daybook/typing.errNode", "daybook/typing.fields"], apart := false, laid := [("daybook/typing.fields", laid_daybook_typing_fields), ("daybook/typing.errNode", laid_daybook_typing_errNode)], narrowed := true }
def TypingPlansUptoSaid : Prop := typingPlansUptoRow.holds Tryd.pinned (OpenSpec.upto typingPlansSpec)

/-- 'daybooklaw14.TypingWays', WHERE WHAT IT READS IS OF BULK AT MOST 1048576: true; the input reads as it did. -/
def typingWaysUptoRow : OpenClaim := { program := "ytoamflnkaaconaadoor", sum := "f3059d907fcf49c03997084fb0647dd10318ec7d6e238b842c8e534e258d8bb4", func := "daybook/daybooklaw14.TypingWays", spec := "typingWays", inPlace := ["internal/reflectlite.TypeOf"], unfollowed := true, recurses := true, named := ["daybook/typing.errNode", "daybook/typing.fields"], apart := false, laid := [("daybook/typing.fields", laid_daybook_typing_fields), ("daybook/typing.errNode", laid_daybook_typing_errNode)], narrowed := true }
def TypingWaysUptoSaid : Prop := typingWaysUptoRow.holds Tryd.pinned (OpenSpec.upto typingWaysSpec)

end Rows
end Go.Proofs.YtoamflnkaaconaaDoor
