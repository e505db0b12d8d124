/- The contract of head.Whole. -/
import Derived.Test.YthcnfalfhdeflaaHr
namespace Go.Proofs.Ythcnfalfhdeflaa
open Go.RowKit Go.Shelf
set_option linter.unusedVariables false

def TakeQ (L k f s : Int) (R : List Int) (E : Int) (w : World) (e : Ending) (W' : World) : Prop :=
  (∃ A m c, e = .returned (.tuple #[.agg #[.int .i64 L, .int .u8 k, .int .u8 f, .int .i64 s], .slice A m c, .int .i64 E]) ∧ Mine w.heap.size W' A m c R) ∧ Below w.heap.size w W'
def WholeQ (L k f s : Int) (P R : List Int) (E : Int) (w : World) (e : Ending) (W' : World) : Prop :=
  (∃ A m c B n d, e = .returned (.tuple #[.agg #[.int .i64 L, .int .u8 k, .int .u8 f, .int .i64 s], .slice A m c, .slice B n d, .int .i64 E]) ∧ Mine w.heap.size W' A m c P ∧ Mine w.heap.size W' B n d R) ∧ Below w.heap.size w W'
theorem draw_bel (B : Nat) (W : World) : Below B W W.drew := ⟨rfl, rfl, rfl, Nat.le_refl _, fun _ _ => rfl⟩

end Go.Proofs.Ythcnfalfhdeflaa
