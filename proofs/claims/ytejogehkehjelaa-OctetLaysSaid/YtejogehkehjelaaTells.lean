/- OctetTells: what the functions answer is what the document's answer: the walk. -/
import Derived.Test.YtejogehkehjelaaOw
import Derived.Test.YtejogehkehjelaaO
namespace Go.Proofs.Ytejogehkehjelaa
open Go.RowKit Go.Shelf
set_option linter.unusedVariables false

theorem rOSameT {A : Option Addr} {n c : Nat} (l : List Int) {B : Option Addr} {m d : Nat} (w : World) (h : Byt w A n c l) (h' : Byt w B m d l) :
    Calls Try.prog 15 #[.slice A n c, .slice B m d] w (Ret (.bool true) w) := by
  refine (rOSame A n c l B m d l w h h').mono fun e W' hp => ?_
  rwa [show eqB l l = true by unfold eqB; simp] at hp

set_option maxRecDepth 100000 in
set_option maxHeartbeats 8000000 in
theorem tellsBig (A : Option Addr) (n c : Nat) (B : Option Addr) (m d : Nat) (x0 x1 x2 x3 x4 x5 : Int) (W : World) (hl : 300 < n ∨ 300 < m) :
    Calls Try.prog 3 #[.slice A n c, .slice B m d, .int .i64 x0, .int .i64 x1, .int .i64 x2, .int .i64 x3, .int .i64 x4, .int .i64 x5] W fun e w' => e = .returned (.bool true) ∧ Below W.heap.size W w' := by
  have b0 := Bel.refl W
  by_cases h1 : 300 < n
  · clear hl
    go_enter Try.func3, Try.ntmps3
    go_wp2_with (first | (go_at_call 8; refine (fWakes _).mono ?_; rintro e w' ⟨rfl, hb⟩; replace b0 := Bel.step (W := W) (by repeat (first | exact b0 | refine Bel.alloc ?_ _)) hb))
    go_ret
    exact ⟨rfl, ((by repeat (first | exact b0 | refine Bel.alloc ?_ _)) : Bel W _).out⟩
  · have h2 : 300 < m := by omega
    have h3 : n ≤ 300 := by omega
    clear hl h1
    go_enter Try.func3, Try.ntmps3
    go_wp2_with (first | (go_at_call 8; refine (fWakes _).mono ?_; rintro e w' ⟨rfl, hb⟩; replace b0 := Bel.step (W := W) (by repeat (first | exact b0 | refine Bel.alloc ?_ _)) hb))
    go_ret
    exact ⟨rfl, ((by repeat (first | exact b0 | refine Bel.alloc ?_ _)) : Bel W _).out⟩

set_option maxRecDepth 100000 in
set_option maxHeartbeats 8000000 in
theorem tellsOk (A : Option Addr) (n c : Nat) (l : List Int) (B : Option Addr) (m d : Nat) (l' : List Int) (num size at_ many used code : Int) (W : World) (h : Byt W A n c l) (h' : Byt W B m d l') (h1 : n ≤ 300) (h2 : m ≤ 300)
    (n1 : num ≤ 9223372036854775807) (a1 : at_ ≤ 9223372036854775807) (u1 : used ≤ 9223372036854775807) :
    Calls Try.prog 3 #[.slice A n c, .slice B m d, .int .i64 num, .int .i64 size, .int .i64 at_, .int .i64 many, .int .i64 used, .int .i64 code] W fun e w' => e = .returned (.bool true) ∧ Below W.heap.size W w' := by
  have b0 := Bel.refl W
  have tok1 : True := trivial
  have tok2 : True := trivial
  go_enter Try.func3, Try.ntmps3
  go_wp2_with (first
    | (go_at_call 9; refine (fOPut _ _ _ (by omega)).mono ?_; rintro e w' ⟨⟨A', m', c', rfl, hm⟩, hb⟩; replace b0 := Bel.step (W := W) (by repeat (first | exact b0 | refine Bel.alloc ?_ _)) hb)
    | (go_at_call 10; refine (rOPut _ _ _ (by omega)).mono ?_; rintro e w' ⟨⟨A', m', c', rfl, hm⟩, hb⟩; replace b0 := Bel.step (W := W) (by repeat (first | exact b0 | refine Bel.alloc ?_ _)) hb)
    | (go_at_call 11; refine (fOTake _ _ _ l _ _ _ (by omega) (by repeat (first | exact Mine.byt (by assumption) | assumption | refine Byt.alloc ?_ _ | refine Byt.below ?_ (by assumption)))).mono ?_; rintro e w' ⟨rfl, rfl⟩)
    | (go_at_call 12; refine (rOTake _ _ _ l _ _ _ (by omega) (by repeat (first | exact Mine.byt (by assumption) | assumption | refine Byt.alloc ?_ _ | refine Byt.below ?_ (by assumption)))).mono ?_; rintro e w' ⟨rfl, rfl⟩)
    | (go_at_call 13; refine (fOStream _ _ _ l _ _ (by omega) (by repeat (first | exact Mine.byt (by assumption) | assumption | refine Byt.alloc ?_ _ | refine Byt.below ?_ (by assumption)))).mono ?_; rintro e w' ⟨rfl, rfl⟩)
    | (go_at_call 14; refine (rOStream _ _ _ l _ _ (by omega) (by repeat (first | exact Mine.byt (by assumption) | assumption | refine Byt.alloc ?_ _ | refine Byt.below ?_ (by assumption)))).mono ?_; rintro e w' ⟨rfl, rfl⟩)
    | (go_at_call 15; have _t := tok1; clear tok1 _t; refine (rOSameT (putO num size) _ (by repeat (first | exact Mine.byt (by assumption) | assumption | refine Byt.alloc ?_ _ | refine Byt.below ?_ (by assumption))) (by repeat (first | exact Mine.byt (by assumption) | assumption | refine Byt.alloc ?_ _ | refine Byt.below ?_ (by assumption)))).mono ?_; rintro e w' ⟨rfl, rfl⟩)
    | (go_at_call 16; refine (fOBit _ _ _ l _ _ (by repeat (first | exact Mine.byt (by assumption) | assumption | refine Byt.alloc ?_ _ | refine Byt.below ?_ (by assumption))) (by omega) (by omega)).mono ?_; rintro e w' ⟨rfl, hb⟩; replace b0 := Bel.step (W := W) (by repeat (first | exact b0 | refine Bel.alloc ?_ _)) hb)
    | (go_at_call 17; refine (rOBit _ _ _ l _ _ (by repeat (first | exact Mine.byt (by assumption) | assumption | refine Byt.alloc ?_ _ | refine Byt.below ?_ (by assumption))) (by omega) (by omega)).mono ?_; rintro e w' ⟨rfl, rfl⟩)
    | (go_at_call 18; refine (fOBits _ _ _ l _ _ _ (by repeat (first | exact Mine.byt (by assumption) | assumption | refine Byt.alloc ?_ _ | refine Byt.below ?_ (by assumption))) (by omega) (by omega)).mono ?_; rintro e w' ⟨rfl, hb⟩; replace b0 := Bel.step (W := W) (by repeat (first | exact b0 | refine Bel.alloc ?_ _)) hb)
    | (go_at_call 19; refine (rOBits _ _ _ l _ _ _ (by repeat (first | exact Mine.byt (by assumption) | assumption | refine Byt.alloc ?_ _ | refine Byt.below ?_ (by assumption))) (by omega) (by omega)).mono ?_; rintro e w' ⟨rfl, rfl⟩)
    | (go_at_call 20; refine (fOLay _ _ _ l _ _ _ _ (by repeat (first | exact Mine.byt (by assumption) | assumption | refine Byt.alloc ?_ _ | refine Byt.below ?_ (by assumption))) (by omega) (by omega)).mono ?_; rintro e w' ⟨⟨A', m', c', rfl, hm⟩, hb⟩; replace b0 := Bel.step (W := W) (by repeat (first | exact b0 | refine Bel.alloc ?_ _)) hb)
    | (go_at_call 21; refine (rOLay _ _ _ l _ _ _ _ (by repeat (first | exact Mine.byt (by assumption) | assumption | refine Byt.alloc ?_ _ | refine Byt.below ?_ (by assumption))) (by omega) (by omega)).mono ?_; rintro e w' ⟨⟨A', m', c', rfl, hm⟩, hb⟩; replace b0 := Bel.step (W := W) (by repeat (first | exact b0 | refine Bel.alloc ?_ _)) hb)
    | (go_at_call 15; have _t := tok2; clear tok2 _t; refine (rOSameT (layO l used code many) _ (by repeat (first | exact Mine.byt (by assumption) | assumption | refine Byt.alloc ?_ _ | refine Byt.below ?_ (by assumption))) (by repeat (first | exact Mine.byt (by assumption) | assumption | refine Byt.alloc ?_ _ | refine Byt.below ?_ (by assumption)))).mono ?_; rintro e w' ⟨rfl, rfl⟩)
    | (go_at_call 22; refine (fOSame _ _ _ l _ _ _ l' _ (by repeat (first | exact Mine.byt (by assumption) | assumption | refine Byt.alloc ?_ _ | refine Byt.below ?_ (by assumption))) (by repeat (first | exact Mine.byt (by assumption) | assumption | refine Byt.alloc ?_ _ | refine Byt.below ?_ (by assumption)))).mono ?_; rintro e w' ⟨rfl, rfl⟩)
    | (go_at_call 15; refine (rOSame _ _ _ l _ _ _ l' _ (by repeat (first | exact Mine.byt (by assumption) | assumption | refine Byt.alloc ?_ _ | refine Byt.below ?_ (by assumption))) (by repeat (first | exact Mine.byt (by assumption) | assumption | refine Byt.alloc ?_ _ | refine Byt.below ?_ (by assumption)))).mono ?_; rintro e w' ⟨rfl, rfl⟩)
    | (go_at_call 8; refine (fWakes _).mono ?_; rintro e w' ⟨rfl, hb⟩; replace b0 := Bel.step (W := W) (by repeat (first | exact b0 | refine Bel.alloc ?_ _)) hb))
  go_ret
  exact ⟨rfl, ((by repeat (first | exact b0 | refine Bel.alloc ?_ _)) : Bel W _).out⟩

theorem wTells {W : World} (A : Option Addr) (n c : Nat) (l : List Int) (h : Byt W A n c l) (B : Option Addr) (m d : Nat) (l' : List Int) (h' : Byt W B m d l') (num : Int) (n0 : -9223372036854775808 ≤ num) (n1 : num ≤ 9223372036854775807)
    (size : Int) (_ : -9223372036854775808 ≤ size) (_ : size ≤ 9223372036854775807) (at_ : Int) (_ : -9223372036854775808 ≤ at_) (a1 : at_ ≤ 9223372036854775807) (many : Int) (_ : -9223372036854775808 ≤ many) (_ : many ≤ 9223372036854775807)
    (used : Int) (_ : -9223372036854775808 ≤ used) (u1 : used ≤ 9223372036854775807) (code : Int) (_ : -9223372036854775808 ≤ code) (_ : code ≤ 9223372036854775807) :
    Calls Try.prog 3 #[.slice A n c, .slice B m d, .int .i64 num, .int .i64 size, .int .i64 at_, .int .i64 many, .int .i64 used, .int .i64 code] W fun e w' => e = .returned (.bool true) ∧ Below W.heap.size W w' := by
  by_cases hl : 300 < n ∨ 300 < m
  · exact tellsBig A n c B m d num size at_ many used code W hl
  · exact tellsOk A n c l B m d l' num size at_ many used code W h h' (by omega) (by omega) n1 a1 u1
end Go.Proofs.Ytejogehkehjelaa
