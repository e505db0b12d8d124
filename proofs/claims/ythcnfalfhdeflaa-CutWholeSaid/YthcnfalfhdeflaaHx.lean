/- The contract of head.Whole, in the taken head's words. -/
import Derived.Test.YthcnfalfhdeflaaHw
namespace Go.Proofs.Ythcnfalfhdeflaa
open Go.RowKit Go.Shelf
set_option linter.unusedVariables false

def wOk (l : List Int) : Bool := decide (9 ≤ l.length ∧ hL l ≤ ((hR l).length : Int))
def wE (l : List Int) : Int := if wOk l then 0 else 10
def wP (l : List Int) : List Int := if wOk l then (hR l).take (hL l).toNat else []
def wR (l : List Int) : List Int := if wOk l then (hR l).drop (hL l).toNat else []
def WholeP (l : List Int) (w : World) : Ending → World → Prop := WholeQ (hL l) (hK l) (hF l) (hS l) (wP l) (wR l) (wE l) w
theorem hL_bd {l : List Int} (h : Bs l) : 0 ≤ hL l ∧ hL l < 16777216 := by
  unfold hL
  split
  · exact ⟨by decide, by decide⟩
  · rename_i hn
    unfold takeO
    rw [if_pos (by decide), if_pos (by omega)]
    exact ⟨(num_bd ((h.drop _).take _)).1, num_le ((h.drop _).take _) (by rw [List.length_take]; exact Nat.min_le_left _ _)⟩
theorem hR_len (l : List Int) : (hR l).length ≤ l.length := by
  unfold hR
  split
  · simp
  · rw [List.length_drop]; omega

end Go.Proofs.Ythcnfalfhdeflaa
