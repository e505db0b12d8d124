/- A region that draws its order, walked by hand: a region by its number. -/
import Derived.Test.YthcnfalfhdeflaaJc
namespace Go.Proofs.Ythcnfalfhdeflaa
open Go.RowKit Go.Shelf
set_option linter.unusedVariables false

/-- Region number k of a function, in the order of the text. -/
noncomputable def regAt (f : Func) (k : Nat) : Array Oper := ((f.body.map regsOf).getD [])[k]?.getD #[]
end Go.Proofs.Ythcnfalfhdeflaa
