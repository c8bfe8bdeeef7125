/- The functions by hand of the law MoneyBack, under one premise on the variables. -/
import Derived.Test.YtncndmhmmfbklaaDoorPaW
import Derived.Test.YtncndmhmmfbklaaDoorFst
namespace Go.Proofs.YtncndmhmmfbklaaDoor.XB
set_option linter.unusedVariables false
open Go.RowKit
abbrev Glob := X.GlobP
theorem Glob.step {w w' : World} (h : Glob w) (b : Below w.heap.size w w') : Glob w' := X.GlobP.step h b
def daybooklaw01_first.f : Option Bool := some true
theorem daybooklaw01_first.calls (r : Bool) (w : World) (h : daybooklaw01_first.f = some r) (G : Glob w) :
    Calls Tryd.prog 11 #[] w fun e w' => e = .returned (.bool r) ∧ Below w.heap.size w w' := X.daybooklaw01_first.calls r w h G.toGlob
def money_Print.f (a d : Int) : Option (ByteArray × Int) := X.money_Print.f a d
theorem money_Print.calls (a d : Int) (r1 : ByteArray) (r2 : Int) (w : World) (h : money_Print.f a d = some (r1, r2)) (G : Glob w) :
    Calls Tryd.prog 9 #[.int .i64 a, .int .i64 d] w fun e w' => e = .returned (.tuple #[.string r1, .int .i64 r2]) ∧ Below w.heap.size w w' := X.money_Print.calls a d r1 r2 w h G.toGlob
def money_Parse.f (t : ByteArray) (d : Int) : Option (Int × Int) := X.money_Parse.f t d
theorem money_Parse.calls (t : ByteArray) (d : Int) (r1 : Int) (r2 : Int) (w : World) (h : money_Parse.f t d = some (r1, r2)) (G : Glob w) :
    Calls Tryd.prog 21 #[.string t, .int .i64 d] w fun e w' => e = .returned (.tuple #[.int .i64 r1, .int .i64 r2]) ∧ Below w.heap.size w w' := X.money_Parse.calls t d r1 r2 w h G
end Go.Proofs.YtncndmhmmfbklaaDoor.XB
