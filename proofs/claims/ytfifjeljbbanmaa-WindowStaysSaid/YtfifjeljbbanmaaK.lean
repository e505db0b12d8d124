/- The statements' own wakes returns true. -/
import Derived.Test.YtfifjeljbbanmaaC
namespace Go.Proofs.Ytfifjeljbbanmaa
open Go.RowKit

theorem fWakes (W : World) : Calls Try.prog 19 #[] W fun e w' => e = .returned (.bool true) ∧ Below W.heap.size W w' := by
  have a1 : takeB 65535 100 = true := by decide
  have a2 : takeV 65535 100 = 65435 := by decide
  have a3 : giveB 65435 100 = true := by decide
  have a4 : giveV 65435 100 = 65535 := by decide
  have a5 : takeB 5 6 = false := by decide
  have a6 : giveB 2147483647 1 = false := by decide
  have a7 : shiftB 10 (-20) = true := by decide
  have a8 : shiftV 10 (-20) = -10 := by decide
  have a9 : can (-10) = 0 := by decide
  have a10 : can 7 = 7 := by decide
  have a11 : cutV 50 70 16384 30 200 = 30 := by decide
  have a12 : cutV 50 (-1) 16384 30 200 = 0 := by decide
  have a13 : rgt (-2147483647) = true := by decide
  have a14 : rgt 2147483648 = false := by decide
  have b0 := Below.refl W.heap.size W
  go_enter Try.func19, Try.ntmps19
  go_wp2_with (first
    | (go_at_call 7; refine (fTake _ _ (by omega) (by omega) (by omega) (by omega) _).mono ?_; rintro e w' ⟨rfl, rfl⟩)
    | (go_at_call 9; refine (fGive _ _ (by omega) (by omega) (by omega) (by omega) _).mono ?_; rintro e w' ⟨rfl, rfl⟩)
    | (go_at_call 11; refine (fShift _ _ (by omega) (by omega) (by omega) (by omega) _).mono ?_; rintro e w' ⟨rfl, rfl⟩)
    | (go_at_call 15; refine (fCan _ (by omega) (by omega) _).mono ?_; rintro e w' ⟨rfl, rfl⟩)
    | (go_at_call 13; refine (fRight _ (by omega) (by omega) _).mono ?_; rintro e w' ⟨rfl, rfl⟩)
    | (go_at_call 17; refine (fCut _ _ _ _ _ (by omega) (by omega) (by omega) (by omega) _).mono ?_; rintro e w' ⟨rfl, hb⟩; replace b0 := b0.trans (hb.mono b0.size)))
  go_ret
  exact ⟨rfl, b0⟩
end Go.Proofs.Ytfifjeljbbanmaa
