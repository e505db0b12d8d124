/- StreamEnds: the law's walk, whole. -/
import Derived.Test.YtaaeflomjcpfpaaSs
namespace Go.Proofs.Ytaaeflomjcpfpaa
open Go.RowKit Go.Shelf
set_option linter.unusedVariables false

set_option maxRecDepth 100000 in
theorem endsNo1 (st0 : Int) (A : Option Addr) (n c : Nat) (W : World) (g : 60 < n) :
    Calls Try.prog 4 #[.int .u8 st0, .slice A n c] W fun e w' => e = .returned (.bool true) ∧ Below W.heap.size W w' := by
  have f0 : decide ((60 : Int) < n) = true := decide_eq_true (by omega)
  clear g
  go_enter Try.func4, Try.ntmps4
  go_wp2_with (first | (go_at_call 8; (with_reducible refine (fWakes _).mono ?_); rintro e w8 ⟨rfl, hb⟩))
  go_ret
  exact ⟨rfl, hb⟩
set_option maxRecDepth 100000 in
theorem endsNo2 (st0 : Int) (h1 : 7 ≤ st0) (A : Option Addr) (n c : Nat) (W : World) (g : n ≤ 60) :
    Calls Try.prog 4 #[.int .u8 st0, .slice A n c] W fun e w' => e = .returned (.bool true) ∧ Below W.heap.size W w' := by
  have f0 : decide ((60 : Int) < n) = false := decide_eq_false (by omega)
  have f1 : decide (7 ≤ st0) = true := decide_eq_true h1
  clear g h1
  go_enter Try.func4, Try.ntmps4
  go_wp2_with (first | (go_at_call 8; (with_reducible refine (fWakes _).mono ?_); rintro e w8 ⟨rfl, hb⟩))
  go_ret
  exact ⟨rfl, hb⟩
theorem wEndsR {W : World} (st0 : Int) (h0 : 0 ≤ st0) (_h : st0 ≤ 255) (A : Option Addr) (n c : Nat) (z : Nat → Int × Bool × Bool) (hz : ∀ i, 0 ≤ (z i).1 ∧ (z i).1 ≤ 255) (h : Tri W A n c (fun i => .int .u8 (z i).1) (fun i => .bool (z i).2.1) (fun i => .bool (z i).2.2)) :
    Calls Try.prog 4 #[.int .u8 st0, .slice A n c] W fun e w' => e = .returned (.bool true) ∧ Below W.heap.size W w' := by
  by_cases g : n ≤ 60
  · by_cases h1 : st0 < 7
    · exact endsOk st0 h0 h1 A n c z hz W h g
    · exact endsNo2 st0 (by omega) A n c W g
  · exact endsNo1 st0 A n c W (by omega)
end Go.Proofs.Ytaaeflomjcpfpaa
