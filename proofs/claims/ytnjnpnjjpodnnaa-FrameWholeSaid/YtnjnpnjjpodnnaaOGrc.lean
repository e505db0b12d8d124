/- The document's frames: what is wrong with values; what is wrong ahead. -/
import Derived.Test.YtnjnpnjjpodnnaaOGra
import Derived.Test.YtnjnpnjjpodnnaaOGw
namespace Go.Proofs.Ytnjnpnjjpodnnaa
open Go.RowKit Go.Shelf
set_option linter.unusedVariables false
set_option linter.unusedSimpArgs false

theorem setWaysR (X Y : Int) : ((X == 2) = true ∧ decide (1 < Y) = true ∧ setS (X, Y) = 1) ∨
    ((X == 2) = false ∧ (X == 9) = true ∧ decide (1 < Y) = true ∧ setS (X, Y) = 1) ∨
    ((X == 2) = true ∧ decide (1 < Y) = false ∧ (X == 5) = false ∧ (X == 4) = false ∧ setS (X, Y) = 0) ∨
    ((X == 2) = false ∧ (X == 9) = true ∧ decide (1 < Y) = false ∧ (X == 5) = false ∧ (X == 4) = false ∧ setS (X, Y) = 0) ∨
    ((X == 2) = false ∧ (X == 9) = false ∧ (X == 5) = true ∧ decide (Y < 16384) = true ∧ setS (X, Y) = 1) ∨
    ((X == 2) = false ∧ (X == 9) = false ∧ (X == 5) = true ∧ decide (Y < 16384) = false ∧ decide (16777215 < Y) = true ∧ setS (X, Y) = 1) ∨
    ((X == 2) = false ∧ (X == 9) = false ∧ (X == 5) = true ∧ decide (Y < 16384) = false ∧ decide (16777215 < Y) = false ∧ (X == 4) = false ∧ setS (X, Y) = 0) ∨
    ((X == 2) = false ∧ (X == 9) = false ∧ (X == 5) = false ∧ (X == 4) = true ∧ decide (2147483647 < Y) = true ∧ setS (X, Y) = 3) ∨
    ((X == 2) = false ∧ (X == 9) = false ∧ (X == 5) = false ∧ (X == 4) = true ∧ decide (2147483647 < Y) = false ∧ setS (X, Y) = 0) ∨
    ((X == 2) = false ∧ (X == 9) = false ∧ (X == 5) = false ∧ (X == 4) = false ∧ setS (X, Y) = 0) := by
  unfold setS
  simp only
  by_cases h2 : X = 2
  · subst h2; by_cases hv : 1 < Y <;> simp [hv]
  by_cases h9 : X = 9
  · subst h9; by_cases hv : 1 < Y <;> simp [hv]
  by_cases h5 : X = 5
  · subst h5; by_cases hv : Y < 16384 <;> by_cases hu : 16777215 < Y <;> simp [hv, hu]
  by_cases h4 : X = 4
  · subst h4; by_cases hv : 2147483647 < Y <;> simp [hv]
  simp [h2, h9, h5, h4]
end Go.Proofs.Ytnjnpnjjpodnnaa
