/- OctetLays: what may not be laid: the walk. -/
import Derived.Test.YtejogehkehjelaaLk
namespace Go.Proofs.Ytejogehkehjelaa
open Go.RowKit Go.Shelf
set_option linter.unusedVariables false

set_option maxRecDepth 100000 in
set_option maxHeartbeats 8000000 in
theorem laysNo (A : Option Addr) (n c : Nat) (l : List Int) (used code many x : Int) (W : World) (h : Byt W A n c l) (h1 : n ≤ 100) (u1 : used ≤ 9223372036854775807) (ok : okLay l used code many = false) :
    Calls Try.prog 5 #[.slice A n c, .int .i64 used, .int .i64 code, .int .i64 many, .int .i64 x] W fun e w' => e = .returned (.bool true) ∧ Below W.heap.size W w' := by
  have b0 := Bel.refl W
  have hl := h.len
  have no := of_decide_eq_false ok
  rw [hl] at no
  have hc := fOLayE (show layO l used code many = [] by unfold layO; rw [ok]; rfl) (show layN l used code many = 0 by unfold layN; rw [ok]; rfl) (show layE l used code many = 2 by unfold layE; rw [ok]; rfl) W h (by omega) u1
  have HC := Lib.hid hc
  clear hc ok hl h
  by_cases g1 : many < 0
  · clear no
    go_enter Try.func5, Try.ntmps5
    go_wp2_with (first | (go_at_call 20; refine HC.out.mono ?_; rintro e w' ⟨A', c', rfl, hm, hb⟩; replace b0 := Bel.step (W := W) (by repeat (first | exact b0 | refine Bel.alloc ?_ _)) hb) | (go_at_call 8; refine (fWakes _).mono ?_; rintro e w' ⟨rfl, hb⟩; replace b0 := Bel.step (W := W) (by repeat (first | exact b0 | refine Bel.alloc ?_ _)) hb))
    go_ret
    exact ⟨rfl, ((by repeat (first | exact b0 | refine Bel.alloc ?_ _)) : Bel W _).out⟩
  have g1' : decide (0 ≤ many) = true := decide_eq_true (by omega)
  by_cases g2 : 30 < many
  · clear no g1
    go_enter Try.func5, Try.ntmps5
    go_wp2_with (first | (go_at_call 20; refine HC.out.mono ?_; rintro e w' ⟨A', c', rfl, hm, hb⟩; replace b0 := Bel.step (W := W) (by repeat (first | exact b0 | refine Bel.alloc ?_ _)) hb) | (go_at_call 8; refine (fWakes _).mono ?_; rintro e w' ⟨rfl, hb⟩; replace b0 := Bel.step (W := W) (by repeat (first | exact b0 | refine Bel.alloc ?_ _)) hb))
    go_ret
    exact ⟨rfl, ((by repeat (first | exact b0 | refine Bel.alloc ?_ _)) : Bel W _).out⟩
  have g2' : decide (many ≤ 30) = true := decide_eq_true (by omega)
  by_cases g3 : code < 0
  · clear no g1 g2
    go_enter Try.func5, Try.ntmps5
    go_wp2_with (first | (go_at_call 20; refine HC.out.mono ?_; rintro e w' ⟨A', c', rfl, hm, hb⟩; replace b0 := Bel.step (W := W) (by repeat (first | exact b0 | refine Bel.alloc ?_ _)) hb) | (go_at_call 8; refine (fWakes _).mono ?_; rintro e w' ⟨rfl, hb⟩; replace b0 := Bel.step (W := W) (by repeat (first | exact b0 | refine Bel.alloc ?_ _)) hb))
    go_ret
    exact ⟨rfl, ((by repeat (first | exact b0 | refine Bel.alloc ?_ _)) : Bel W _).out⟩
  have g3' : decide (0 ≤ code) = true := decide_eq_true (by omega)
  obtain ⟨m, rfl⟩ := toNat_lit (show 0 ≤ many by omega)
  obtain ⟨k, rfl⟩ := toNat_lit (show 0 ≤ code by omega)
  simp only [Int.toNat_natCast] at no
  have hw := wrapPow (show m ≤ 62 by omega)
  have hmm : min (max (m : Int) 0) 30 = m := by omega
  have m30 : m ≤ 30 := by omega
  clear g1 g2 g3
  by_cases g4 : 2 ^ m ≤ k
  · have g4' : decide ((k : Int) < wrap64 (2 ^ m)) = false := by rw [hw]; exact decide_eq_false (by omega)
    clear no hw g4
    go_enter Try.func5, Try.ntmps5
    go_wp2_with (first | (go_at_call 20; refine HC.out.mono ?_; rintro e w' ⟨A', c', rfl, hm, hb⟩; replace b0 := Bel.step (W := W) (by repeat (first | exact b0 | refine Bel.alloc ?_ _)) hb) | (go_at_call 8; refine (fWakes _).mono ?_; rintro e w' ⟨rfl, hb⟩; replace b0 := Bel.step (W := W) (by repeat (first | exact b0 | refine Bel.alloc ?_ _)) hb))
    go_ret
    exact ⟨rfl, ((by repeat (first | exact b0 | refine Bel.alloc ?_ _)) : Bel W _).out⟩
  have g4' : decide ((k : Int) < wrap64 (2 ^ m)) = true := by rw [hw]; exact decide_eq_true (by omega)
  have hlast : used < 0 ∨ 8 * (n : Int) < used ∨ used ≤ 8 * (n : Int) - 8 := by omega
  clear no hw g4
  by_cases g5 : used < 0
  · clear hlast
    go_enter Try.func5, Try.ntmps5
    go_wp2_with (first | (go_at_call 20; refine HC.out.mono ?_; rintro e w' ⟨A', c', rfl, hm, hb⟩; replace b0 := Bel.step (W := W) (by repeat (first | exact b0 | refine Bel.alloc ?_ _)) hb) | (go_at_call 8; refine (fWakes _).mono ?_; rintro e w' ⟨rfl, hb⟩; replace b0 := Bel.step (W := W) (by repeat (first | exact b0 | refine Bel.alloc ?_ _)) hb))
    go_ret
    exact ⟨rfl, ((by repeat (first | exact b0 | refine Bel.alloc ?_ _)) : Bel W _).out⟩
  have g5' : decide (0 ≤ used) = true := decide_eq_true (by omega)
  by_cases g6 : 8 * (n : Int) < used
  · clear hlast g5
    go_enter Try.func5, Try.ntmps5
    go_wp2_with (first | (go_at_call 20; refine HC.out.mono ?_; rintro e w' ⟨A', c', rfl, hm, hb⟩; replace b0 := Bel.step (W := W) (by repeat (first | exact b0 | refine Bel.alloc ?_ _)) hb) | (go_at_call 8; refine (fWakes _).mono ?_; rintro e w' ⟨rfl, hb⟩; replace b0 := Bel.step (W := W) (by repeat (first | exact b0 | refine Bel.alloc ?_ _)) hb))
    go_ret
    exact ⟨rfl, ((by repeat (first | exact b0 | refine Bel.alloc ?_ _)) : Bel W _).out⟩
  have g6' : decide (used ≤ 8 * (n : Int)) = true := decide_eq_true (by omega)
  have g7 : decide (8 * (n : Int) - 8 < used) = false := decide_eq_false (by omega)
  clear hlast g5 g6
  · skip
    go_enter Try.func5, Try.ntmps5
    go_wp2_with (first | (go_at_call 20; refine HC.out.mono ?_; rintro e w' ⟨A', c', rfl, hm, hb⟩; replace b0 := Bel.step (W := W) (by repeat (first | exact b0 | refine Bel.alloc ?_ _)) hb) | (go_at_call 8; refine (fWakes _).mono ?_; rintro e w' ⟨rfl, hb⟩; replace b0 := Bel.step (W := W) (by repeat (first | exact b0 | refine Bel.alloc ?_ _)) hb))
    go_ret
    exact ⟨rfl, ((by repeat (first | exact b0 | refine Bel.alloc ?_ _)) : Bel W _).out⟩
end Go.Proofs.Ytejogehkehjelaa
