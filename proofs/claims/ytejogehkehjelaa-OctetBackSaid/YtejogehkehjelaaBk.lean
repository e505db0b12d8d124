/- What is put is taken: the plain law. -/
import Derived.Test.YtejogehkehjelaaTells
import Derived.Test.YtejogehkehjelaaA
namespace Go.Proofs.Ytejogehkehjelaa
open Go.RowKit Go.Shelf
set_option linter.unusedVariables false

theorem num_bigE {s n : Nat} (s1 : 1 ≤ s) (s4 : s ≤ 4) (hn : n < 256 ^ s) : num (bigE s n) = n := by
  obtain rfl | rfl | rfl | rfl : s = 1 ∨ s = 2 ∨ s = 3 ∨ s = 4 := by omega
  all_goals simp [bigE, num, List.range_succ]
  all_goals omega
theorem take_all {la lb : List Int} {s n : Nat} (s1 : 1 ≤ s) (s4 : s ≤ 4) (hn : n < 256 ^ s) : takeO (la ++ bigE s n ++ lb) la.length s = ((n : Int), 0) := by
  have hl := bigE_len s n
  unfold takeO
  rw [if_pos (by omega), if_pos (by simp; omega)]
  simp only [Int.toNat_natCast]
  rw [List.append_assoc, List.drop_left, List.take_left' hl, num_bigE s1 s4 hn]
theorem take_short {la : List Int} {s n : Nat} (s1 : 1 ≤ s) (s4 : s ≤ 4) : takeO (la ++ (bigE s n).take (s - 1)) la.length s = (0, 10) := by
  have hl := bigE_len s n
  unfold takeO
  rw [if_pos (by omega), if_neg (by simp; omega)]

set_option maxRecDepth 100000 in
set_option maxHeartbeats 8000000 in
theorem backBig (n s : Int) (A : Option Addr) (p c : Nat) (B : Option Addr) (q d : Nat) (W : World) (hl : 100 < p ∨ 100 < q) :
    Calls Try.prog 4 #[.int .i64 n, .int .i64 s, .slice A p c, .slice B q d] W fun e w' => e = .returned (.bool true) ∧ Below W.heap.size W w' := by
  have b0 := Bel.refl W
  by_cases h1 : 100 < p
  · clear hl
    go_enter Try.func4, Try.ntmps4
    go_wp2_with (first | (go_at_call 8; refine (fWakes _).mono ?_; rintro e w' ⟨rfl, hb⟩; replace b0 := Bel.step (W := W) (by repeat (first | exact b0 | refine Bel.alloc ?_ _)) hb))
    go_ret
    exact ⟨rfl, ((by repeat (first | exact b0 | refine Bel.alloc ?_ _)) : Bel W _).out⟩
  · have h2 : 100 < q := by omega
    have h3 : p ≤ 100 := by omega
    clear hl h1
    go_enter Try.func4, Try.ntmps4
    go_wp2_with (first | (go_at_call 8; refine (fWakes _).mono ?_; rintro e w' ⟨rfl, hb⟩; replace b0 := Bel.step (W := W) (by repeat (first | exact b0 | refine Bel.alloc ?_ _)) hb))
    go_ret
    exact ⟨rfl, ((by repeat (first | exact b0 | refine Bel.alloc ?_ _)) : Bel W _).out⟩

set_option maxRecDepth 100000 in
set_option maxHeartbeats 8000000 in
theorem backNo (n s : Int) (n1 : n ≤ 9223372036854775807) (A : Option Addr) (p c : Nat) (B : Option Addr) (q d : Nat) (W : World) (h1 : p ≤ 100) (h2 : q ≤ 100) (ok : okO n s = false) :
    Calls Try.prog 4 #[.int .i64 n, .int .i64 s, .slice A p c, .slice B q d] W fun e w' => e = .returned (.bool true) ∧ Below W.heap.size W w' := by
  have b0 := Bel.refl W
  have no := of_decide_eq_false ok
  have hc := fOPutE (show putO n s = [] by unfold putO; rw [ok]; rfl) (show putOe n s = 2 by unfold putOe; rw [ok]; rfl) n1 W
  have HC := Lib.hid hc
  clear hc ok
  by_cases g1 : s < 1
  · clear no
    go_enter Try.func4, Try.ntmps4
    go_wp2_with (first | (go_at_call 9; refine HC.out.mono ?_; rintro e w' ⟨A', c', rfl, hm, hb⟩; replace b0 := Bel.step (W := W) (by repeat (first | exact b0 | refine Bel.alloc ?_ _)) hb) | (go_at_call 8; refine (fWakes _).mono ?_; rintro e w' ⟨rfl, hb⟩; replace b0 := Bel.step (W := W) (by repeat (first | exact b0 | refine Bel.alloc ?_ _)) hb))
    go_ret
    exact ⟨rfl, ((by repeat (first | exact b0 | refine Bel.alloc ?_ _)) : Bel W _).out⟩
  have g1' : decide (1 ≤ s) = true := decide_eq_true (by omega)
  by_cases g2 : 4 < s
  · clear no g1
    go_enter Try.func4, Try.ntmps4
    go_wp2_with (first | (go_at_call 9; refine HC.out.mono ?_; rintro e w' ⟨A', c', rfl, hm, hb⟩; replace b0 := Bel.step (W := W) (by repeat (first | exact b0 | refine Bel.alloc ?_ _)) hb) | (go_at_call 8; refine (fWakes _).mono ?_; rintro e w' ⟨rfl, hb⟩; replace b0 := Bel.step (W := W) (by repeat (first | exact b0 | refine Bel.alloc ?_ _)) hb))
    go_ret
    exact ⟨rfl, ((by repeat (first | exact b0 | refine Bel.alloc ?_ _)) : Bel W _).out⟩
  have g2' : decide (s ≤ 4) = true := decide_eq_true (by omega)
  by_cases g3 : n < 0
  · clear no g1 g2
    go_enter Try.func4, Try.ntmps4
    go_wp2_with (first | (go_at_call 9; refine HC.out.mono ?_; rintro e w' ⟨A', c', rfl, hm, hb⟩; replace b0 := Bel.step (W := W) (by repeat (first | exact b0 | refine Bel.alloc ?_ _)) hb) | (go_at_call 8; refine (fWakes _).mono ?_; rintro e w' ⟨rfl, hb⟩; replace b0 := Bel.step (W := W) (by repeat (first | exact b0 | refine Bel.alloc ?_ _)) hb))
    go_ret
    exact ⟨rfl, ((by repeat (first | exact b0 | refine Bel.alloc ?_ _)) : Bel W _).out⟩
  have g3' : decide (0 ≤ n) = true := decide_eq_true (by omega)
  obtain ⟨s, rfl⟩ := toNat_lit (show 0 ≤ s by omega)
  have hw := wrapP (s := s) (by omega) (by omega)
  have g4 : decide (n < wrap64 (2 ^ (8 * s))) = false := by
    rw [hw]
    exact decide_eq_false (by simp only [Int.toNat_natCast] at no; omega)
  have hmm : min (max (s : Int) 1) 4 = s := by omega
  have s4 : s ≤ 4 := by omega
  have s1 : 1 ≤ s := by omega
  clear no g1 g2 g3 hw
  go_enter Try.func4, Try.ntmps4
  go_wp2_with (first | (go_at_call 9; refine HC.out.mono ?_; rintro e w' ⟨A', c', rfl, hm, hb⟩; replace b0 := Bel.step (W := W) (by repeat (first | exact b0 | refine Bel.alloc ?_ _)) hb) | (go_at_call 8; refine (fWakes _).mono ?_; rintro e w' ⟨rfl, hb⟩; replace b0 := Bel.step (W := W) (by repeat (first | exact b0 | refine Bel.alloc ?_ _)) hb))
  go_ret
  exact ⟨rfl, ((by repeat (first | exact b0 | refine Bel.alloc ?_ _)) : Bel W _).out⟩
end Go.Proofs.Ytejogehkehjelaa
