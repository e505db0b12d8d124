/- What is laid is told, and laid in two goes it is as in one: the plain law. -/
import Derived.Test.YtejogehkehjelaaTells
namespace Go.Proofs.Ytejogehkehjelaa
open Go.RowKit Go.Shelf
set_option linter.unusedVariables false

theorem pk_congr {f g : Nat → Int} {all : Nat} (h : ∀ k, k < all → f k = g k) : pk f all = pk g all := by
  unfold pk
  apply List.map_congr_left
  intro i _
  have e : ∀ k, bitP f all k = bitP g all k := fun k => by
    unfold bitP
    split
    · exact h k (by assumption)
    · rfl
  unfold byteP
  simp only [e]
theorem lay_code (l : List Int) (u k m : Nat) (hk : k < 2 ^ m) : ∀ j, j ≤ m → code (pk (layBits l u k m) (u + m)) u j = ((k / 2 ^ (m - j) : Nat) : Int) := by
  intro j
  induction j with
  | zero =>
    intro _
    rw [Nat.sub_zero, Nat.div_eq_of_lt hk]
    simp [code, bnum]
  | succ j ih =>
    intro hj
    have hl : (pk (layBits l u k m) (u + m)).length = (u + m + 7) / 8 := pk_len _ _
    rw [code_succ _ _ _ (by omega), ih (by omega), pk_bit (layBits_is l u k m) _ _ (by omega)]
    unfold bitP
    rw [if_pos (by omega)]
    unfold layBits
    rw [if_neg (by omega), show m - 1 - (u + j - u) = m - (j + 1) by omega]
    have e : k / 2 ^ (m - j) = k / 2 ^ (m - (j + 1)) / 2 := by
      rw [Nat.div_div_eq_div_mul, ← Nat.pow_succ]
      congr 2
      omega
    rw [e]
    generalize k / 2 ^ (m - (j + 1)) = x
    omega
theorem mod_bit (k : Nat) {e c : Nat} (h : e < c) : k % 2 ^ c / 2 ^ e % 2 = k / 2 ^ e % 2 := by
  have h1 : 2 ^ c = 2 ^ e * 2 ^ (c - e) := by rw [← Nat.pow_add]; congr 1; omega
  rw [h1, Nat.mod_mul_right_div_self, Nat.mod_mod_of_dvd]
  exact ⟨2 ^ (c - e - 1), by rw [← Nat.pow_succ']; congr 1; omega⟩
theorem lay_two (l : List Int) (u k m a : Nat) (ha : a ≤ m) :
    pk (layBits (pk (layBits l u (k / 2 ^ (m - a)) a) (u + a)) (u + a) (k % 2 ^ (m - a)) (m - a)) (u + a + (m - a)) = pk (layBits l u k m) (u + m) := by
  rw [show u + a + (m - a) = u + m by omega]
  apply pk_congr
  intro x hx
  by_cases h1 : x < u + a
  · have e1 : layBits (pk (layBits l u (k / 2 ^ (m - a)) a) (u + a)) (u + a) (k % 2 ^ (m - a)) (m - a) x = layBits l u (k / 2 ^ (m - a)) a x := by
      rw [layBits, if_pos h1, pk_bit (layBits_is _ _ _ _) _ _ (by omega), bitP, if_pos h1]
    rw [e1]
    unfold layBits
    by_cases h2 : x < u
    · rw [if_pos h2, if_pos h2]
    · rw [if_neg h2, if_neg h2, Nat.div_div_eq_div_mul, ← Nat.pow_add, show m - a + (a - 1 - (x - u)) = m - 1 - (x - u) by omega]
  · unfold layBits
    rw [if_neg h1, if_neg (by omega), mod_bit _ (by omega), show m - a - 1 - (x - (u + a)) = m - 1 - (x - u) by omega]

theorem and_pow {k M c : Nat} (hk : k < 4294967296) (hc : c ≤ 31) (hM : M = 2 ^ c) : bits .and .i64 (k : Int) ((M : Int) - 1) = ((k % M : Nat) : Int) := by
  subst hM
  have hp : 0 < 2 ^ c := Nat.two_pow_pos c
  have := and_mask64 (k : Int) c (by omega) (by omega) hc
  rw [show (((2 ^ c : Nat) : Int) - 1) = ((2 ^ c - 1 : Nat) : Int) by omega, this]
  simp

set_option maxRecDepth 100000 in
set_option maxHeartbeats 8000000 in
theorem laysBig (A : Option Addr) (n c : Nat) (x0 x1 x2 x3 : Int) (W : World) (hl : 100 < n) :
    Calls Try.prog 5 #[.slice A n c, .int .i64 x0, .int .i64 x1, .int .i64 x2, .int .i64 x3] W fun e w' => e = .returned (.bool true) ∧ Below W.heap.size W w' := by
  have b0 := Bel.refl W
  go_enter Try.func5, Try.ntmps5
  go_wp2_with (first | (go_at_call 8; refine (fWakes _).mono ?_; rintro e w' ⟨rfl, hb⟩; replace b0 := Bel.step (W := W) (by repeat (first | exact b0 | refine Bel.alloc ?_ _)) hb))
  go_ret
  exact ⟨rfl, ((by repeat (first | exact b0 | refine Bel.alloc ?_ _)) : Bel W _).out⟩
end Go.Proofs.Ytejogehkehjelaa
