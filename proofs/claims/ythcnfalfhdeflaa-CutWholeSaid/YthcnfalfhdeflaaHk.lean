/- Which kinds are known: the contracts. -/
import Derived.Test.YthcnfalfhdeflaaHa
import Derived.Test.YthcnfalfhdeflaaMp
namespace Go.Proofs.Ythcnfalfhdeflaa
open Go.RowKit Go.Shelf Go.ChangeMaps
set_option linter.unusedVariables false

def knownB (x : Int) : Bool := decide ((0 ≤ x ∧ x ≤ 9) ∨ x = 16)
/-- The map of kinds, when the first k are in. -/
def kindM (k : Nat) (x : Int) : Option Value := if (0 ≤ x ∧ x < k) ∨ x = 16 then some (.int .i64 1) else none
abbrev u8V (x : Int) : Value := Value.int .u8 x
theorem kindM_zero : (fun y : Int => if y = 16 then some (Value.int .i64 1) else none) = kindM 0 := by
  funext y
  unfold kindM
  by_cases h : y = 16
  · rw [if_pos h, if_pos (.inr h)]
  · rw [if_neg h, if_neg (by omega)]
theorem kindM_succ (k : Nat) : (fun y : Int => if y = (k : Int) then some (Value.int .i64 1) else kindM k y) = kindM (k + 1) := by
  funext y
  unfold kindM
  by_cases h : y = (k : Int)
  · rw [if_pos h, if_pos (by omega)]
  · rw [if_neg h]
    by_cases h2 : (0 ≤ y ∧ y < (k : Int)) ∨ y = 16
    · rw [if_pos h2, if_pos (by omega)]
    · rw [if_neg h2, if_neg (by omega)]

theorem zInt (w : World) : (zeroValue 3).run Try.prog w = .ok (.int .i64 0) w := by kernel_rfl

end Go.Proofs.Ythcnfalfhdeflaa
