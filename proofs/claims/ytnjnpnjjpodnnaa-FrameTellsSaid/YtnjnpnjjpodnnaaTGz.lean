/- Frames: plain facts for the statements. -/
import Derived.Test.YtnjnpnjjpodnnaaTGy
namespace Go.Proofs.Ytnjnpnjjpodnnaa
open Go.RowKit Go.Shelf
set_option linter.unusedVariables false
set_option linter.unusedSimpArgs false

theorem eqB_self (l : List Int) : eqB l l = true := by simp [eqB]
theorem flt_neq (xw : Bool) (xs xc : Int) : ∀ W : World, (binOp .neq 34 (.agg #[.bool xw, .int .i64 xs, .int .u32 xc]) (.agg #[.bool xw, .int .i64 xs, .int .u32 xc])).run Try.prog W = .ok (.bool false) W := fun W => by
  go_simp
theorem flt_eqs (xw : Bool) (xs xc : Int) : ∀ W : World, (binOp .eql 34 (.agg #[.bool xw, .int .i64 xs, .int .u32 xc]) (.agg #[.bool xw, .int .i64 xs, .int .u32 xc])).run Try.prog W = .ok (.bool true) W := fun W => by
  go_simp
end Go.Proofs.Ytnjnpnjjpodnnaa
