/- PrefixTells: what prefix's functions answer is what the document's answer: the walk. -/
import Derived.Test.YtelmcjiamciklaaPw
import Derived.Test.YtelmcjiamciklaaO
namespace Go.Proofs.Ytelmcjiamciklaa
open Go.RowKit Go.Shelf
set_option linter.unusedVariables false

set_option maxRecDepth 100000 in
set_option maxHeartbeats 8000000 in
theorem walkTells (n b u : Int) (n0 : -9223372036854775808 ≤ n) (n1 : n ≤ 9223372036854775807) (u0 : 0 ≤ u) (u1 : u ≤ 255) (A : Option Addr) (len cap : Nat) (l : List Int) (W : World) (h : Byt W A len cap l) :
    Calls Try.prog 3 #[.int .i64 n, .int .i64 b, .int .u8 u, .slice A len cap] W fun e w' => e = .returned (.bool true) ∧ Below W.heap.size W w' := by
  have b0 := Bel.refl W
  have tok1 : True := trivial
  by_cases hl : 300 < len
  · go_enter Try.func3, Try.ntmps3
    go_wp2_with (first
    | (go_at_call 8; refine (fPut _ _ _ (by omega) (by omega) (by omega) (by omega) _).mono ?_; rintro e w' ⟨A', c', rfl, hm, hb⟩; replace b0 := Bel.step (W := W) (by repeat (first | exact b0 | refine Bel.alloc ?_ _)) hb)
    | (go_at_call 9; refine (rPut _ _ _ (by omega) (by omega) _).mono ?_; rintro e w' ⟨A', c', rfl, hm, hb⟩; replace b0 := Bel.step (W := W) (by repeat (first | exact b0 | refine Bel.alloc ?_ _)) hb)
    | (go_at_call 10; refine (fTake _ _ _ l _ _ (by repeat (first | exact Mine.byt (by assumption) | assumption | refine Byt.alloc ?_ _ | refine Byt.below ?_ (by assumption))) (by omega)).mono ?_; rintro e w' ⟨A', c', rfl, hm, hb⟩; replace b0 := Bel.step (W := W) (by repeat (first | exact b0 | refine Bel.alloc ?_ _)) hb)
    | (go_at_call 11; refine (rTake _ _ _ l _ _ (by repeat (first | exact Mine.byt (by assumption) | assumption | refine Byt.alloc ?_ _ | refine Byt.below ?_ (by assumption))) (by omega)).mono ?_; rintro e w' ⟨A', c', rfl, hm, hb⟩; replace b0 := Bel.step (W := W) (by repeat (first | exact b0 | refine Bel.alloc ?_ _)) hb)
    | (go_at_call 12; refine (fUpper _ _ _ l _ _ (by repeat (first | exact Mine.byt (by assumption) | assumption | refine Byt.alloc ?_ _ | refine Byt.below ?_ (by assumption)))).mono ?_; rintro e w' ⟨rfl, hb⟩; replace b0 := Bel.step (W := W) (by repeat (first | exact b0 | refine Bel.alloc ?_ _)) hb)
    | (go_at_call 13; refine (rUpper _ _ _ l _ _ (by repeat (first | exact Mine.byt (by assumption) | assumption | refine Byt.alloc ?_ _ | refine Byt.below ?_ (by assumption)))).mono ?_; rintro e w' ⟨rfl, hb⟩; replace b0 := Bel.step (W := W) (by repeat (first | exact b0 | refine Bel.alloc ?_ _)) hb)
    | (go_at_call 15; refine (fSize _ _ (by omega) (by omega) _).mono ?_; rintro e w' ⟨rfl, hb⟩; replace b0 := Bel.step (W := W) (by repeat (first | exact b0 | refine Bel.alloc ?_ _)) hb)
    | (go_at_call 16; refine (rSize _ _ _).mono ?_; rintro e w' ⟨rfl, hb⟩; replace b0 := Bel.step (W := W) (by repeat (first | exact b0 | refine Bel.alloc ?_ _)) hb)
    | (go_at_call 14; have _t := tok1; clear tok1 _t; refine (fSameT _ _ _ (putR n b u) _ _ _ _ (by repeat (first | exact Mine.byt (by assumption) | assumption | refine Byt.alloc ?_ _ | refine Byt.below ?_ (by assumption))) (by repeat (first | exact Mine.byt (by assumption) | assumption | refine Byt.alloc ?_ _ | refine Byt.below ?_ (by assumption)))).mono ?_; rintro e w' ⟨rfl, rfl⟩)
    | (go_at_call 14; refine (fSameT _ _ _ (takeR l b).2.1 _ _ _ _ (by repeat (first | exact Mine.byt (by assumption) | assumption | refine Byt.alloc ?_ _ | refine Byt.below ?_ (by assumption))) (by repeat (first | exact Mine.byt (by assumption) | assumption | refine Byt.alloc ?_ _ | refine Byt.below ?_ (by assumption)))).mono ?_; rintro e w' ⟨rfl, rfl⟩)
    | (go_at_call 7; refine (fWakes _).mono ?_; rintro e w' ⟨rfl, hb⟩; replace b0 := Bel.step (W := W) (by repeat (first | exact b0 | refine Bel.alloc ?_ _)) hb))
    go_ret
    exact ⟨rfl, (by repeat (first | exact b0 | refine Bel.alloc ?_ _) : Bel W _).out⟩
  · have hl2 : len ≤ 300 := by omega
    clear hl
    go_enter Try.func3, Try.ntmps3
    go_wp2_with (first
    | (go_at_call 8; refine (fPut _ _ _ (by omega) (by omega) (by omega) (by omega) _).mono ?_; rintro e w' ⟨A', c', rfl, hm, hb⟩; replace b0 := Bel.step (W := W) (by repeat (first | exact b0 | refine Bel.alloc ?_ _)) hb)
    | (go_at_call 9; refine (rPut _ _ _ (by omega) (by omega) _).mono ?_; rintro e w' ⟨A', c', rfl, hm, hb⟩; replace b0 := Bel.step (W := W) (by repeat (first | exact b0 | refine Bel.alloc ?_ _)) hb)
    | (go_at_call 10; refine (fTake _ _ _ l _ _ (by repeat (first | exact Mine.byt (by assumption) | assumption | refine Byt.alloc ?_ _ | refine Byt.below ?_ (by assumption))) (by omega)).mono ?_; rintro e w' ⟨A', c', rfl, hm, hb⟩; replace b0 := Bel.step (W := W) (by repeat (first | exact b0 | refine Bel.alloc ?_ _)) hb)
    | (go_at_call 11; refine (rTake _ _ _ l _ _ (by repeat (first | exact Mine.byt (by assumption) | assumption | refine Byt.alloc ?_ _ | refine Byt.below ?_ (by assumption))) (by omega)).mono ?_; rintro e w' ⟨A', c', rfl, hm, hb⟩; replace b0 := Bel.step (W := W) (by repeat (first | exact b0 | refine Bel.alloc ?_ _)) hb)
    | (go_at_call 12; refine (fUpper _ _ _ l _ _ (by repeat (first | exact Mine.byt (by assumption) | assumption | refine Byt.alloc ?_ _ | refine Byt.below ?_ (by assumption)))).mono ?_; rintro e w' ⟨rfl, hb⟩; replace b0 := Bel.step (W := W) (by repeat (first | exact b0 | refine Bel.alloc ?_ _)) hb)
    | (go_at_call 13; refine (rUpper _ _ _ l _ _ (by repeat (first | exact Mine.byt (by assumption) | assumption | refine Byt.alloc ?_ _ | refine Byt.below ?_ (by assumption)))).mono ?_; rintro e w' ⟨rfl, hb⟩; replace b0 := Bel.step (W := W) (by repeat (first | exact b0 | refine Bel.alloc ?_ _)) hb)
    | (go_at_call 15; refine (fSize _ _ (by omega) (by omega) _).mono ?_; rintro e w' ⟨rfl, hb⟩; replace b0 := Bel.step (W := W) (by repeat (first | exact b0 | refine Bel.alloc ?_ _)) hb)
    | (go_at_call 16; refine (rSize _ _ _).mono ?_; rintro e w' ⟨rfl, hb⟩; replace b0 := Bel.step (W := W) (by repeat (first | exact b0 | refine Bel.alloc ?_ _)) hb)
    | (go_at_call 14; have _t := tok1; clear tok1 _t; refine (fSameT _ _ _ (putR n b u) _ _ _ _ (by repeat (first | exact Mine.byt (by assumption) | assumption | refine Byt.alloc ?_ _ | refine Byt.below ?_ (by assumption))) (by repeat (first | exact Mine.byt (by assumption) | assumption | refine Byt.alloc ?_ _ | refine Byt.below ?_ (by assumption)))).mono ?_; rintro e w' ⟨rfl, rfl⟩)
    | (go_at_call 14; refine (fSameT _ _ _ (takeR l b).2.1 _ _ _ _ (by repeat (first | exact Mine.byt (by assumption) | assumption | refine Byt.alloc ?_ _ | refine Byt.below ?_ (by assumption))) (by repeat (first | exact Mine.byt (by assumption) | assumption | refine Byt.alloc ?_ _ | refine Byt.below ?_ (by assumption)))).mono ?_; rintro e w' ⟨rfl, rfl⟩)
    | (go_at_call 7; refine (fWakes _).mono ?_; rintro e w' ⟨rfl, hb⟩; replace b0 := Bel.step (W := W) (by repeat (first | exact b0 | refine Bel.alloc ?_ _)) hb))
    go_ret
    exact ⟨rfl, (by repeat (first | exact b0 | refine Bel.alloc ?_ _) : Bel W _).out⟩

theorem wTells {W : World} (n : Int) (n0 : -9223372036854775808 ≤ n) (n1 : n ≤ 9223372036854775807) (b : Int) (_ : -9223372036854775808 ≤ b) (_ : b ≤ 9223372036854775807) (u : Int) (u0 : 0 ≤ u) (u1 : u ≤ 255)
    (A : Option Addr) (len cap : Nat) (l : List Int) (h : Byt W A len cap l) :
    Calls Try.prog 3 #[.int .i64 n, .int .i64 b, .int .u8 u, .slice A len cap] W fun e w' => e = .returned (.bool true) ∧ Below W.heap.size W w' :=
  walkTells n b u n0 n1 u0 u1 A len cap l W h
end Go.Proofs.Ytelmcjiamciklaa
