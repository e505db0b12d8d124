/- All of some flags are set just if each is: the plain law. -/
import Derived.Test.YteghfgjdicmknaaHa
namespace Go.Proofs.Yteghfgjdicmknaa
set_option linter.unusedVariables false

def flagB (f flag : Int) (i : Nat) : Bool := (flag.toNat &&& 2 ^ i == 0) || hasB f ((2 ^ i : Nat) : Int)
def allF (f flag : Int) (k : Nat) : Bool := (List.range k).all (flagB f flag)
theorem allF_succ (f flag : Int) (k : Nat) : allF f flag (k + 1) = (allF f flag k && flagB f flag k) := by simp [allF, List.range_succ]
theorem allF_nat : ∀ a : Fin 256, ∀ b : Fin 256, ((List.range 8).all fun i => (b.1 &&& 2 ^ i == 0) || (a.1 &&& 2 ^ i == 2 ^ i)) = (a.1 &&& b.1 == b.1) := by decide +kernel
theorem allF_all (f flag : Int) (f0 : 0 ≤ f ∧ f ≤ 255) (g0 : 0 ≤ flag ∧ flag ≤ 255) : allF f flag 8 = hasB f flag := by
  obtain ⟨a, rfl⟩ := toNat_lit f0.1
  obtain ⟨b, rfl⟩ := toNat_lit g0.1
  have := allF_nat ⟨a, by omega⟩ ⟨b, by omega⟩
  unfold allF hasB
  exact this

end Go.Proofs.Yteghfgjdicmknaa
