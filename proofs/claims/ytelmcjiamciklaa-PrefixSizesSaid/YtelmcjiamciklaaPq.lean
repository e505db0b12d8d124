/- What is put is taken, and so on: the plain laws of a number's bytes. -/
import Derived.Test.YtelmcjiamciklaaPp
namespace Go.Proofs.Ytelmcjiamciklaa

theorem p7 (j : Nat) : 2 ^ (7 * (j + 1)) = 128 * 2 ^ (7 * j) := by
  rw [Nat.mul_add, Nat.pow_add, Nat.mul_comm]
theorem p7_le {j : Nat} (h : 2 ^ (7 * (j + 1)) < 2147483648) : j + 1 ≤ 4 := by
  rcases Nat.lt_or_ge (j + 1) 5 with hj | hj
  · omega
  · have : 2 ^ (7 * 5) ≤ 2 ^ (7 * (j + 1)) := Nat.pow_le_pow_right (by decide) (by omega)
    omega

theorem lp_septs (r : List Int) : ∀ (t j v : Nat), j ≤ 4 → v + t * 2 ^ (7 * j) < 2147483648 → lp (septs t ++ r) j v = (((v + t * 2 ^ (7 * j) : Nat) : Int), r, 0) := by
  intro t
  induction t using Nat.strongRecOn with
  | _ t ih =>
    intro j v hj hb
    have hp := Nat.two_pow_pos (7 * j)
    by_cases ht : t < 128
    · rw [septs_lt ht]
      simp only [List.cons_append, List.nil_append, lp]
      have e1 : (t : Int) % 128 = t := by omega
      rw [e1, if_neg (by rw [← Int.natCast_mul]; omega), if_pos (by omega), ← Int.natCast_mul, ← Int.natCast_add]
    · rw [septs_ge ht]
      simp only [List.cons_append, lp]
      have e1 : (((t % 128 + 128 : Nat) : Int)) % 128 = ((t % 128 : Nat) : Int) := by omega
      have h1 : t % 128 * 2 ^ (7 * j) ≤ t * 2 ^ (7 * j) := Nat.mul_le_mul_right _ (Nat.mod_le _ _)
      have h3 : t * 2 ^ (7 * j) = t % 128 * 2 ^ (7 * j) + t / 128 * 2 ^ (7 * (j + 1)) := by
        have h4 : t = t % 128 + t / 128 * 128 := by omega
        conv => lhs; rw [h4]
        rw [Nat.add_mul, p7, Nat.mul_assoc]
      have h5 : 2 ^ (7 * (j + 1)) ≤ t / 128 * 2 ^ (7 * (j + 1)) := Nat.le_mul_of_pos_left _ (by omega)
      have hj2 := p7_le (j := j) (by omega)
      rw [e1, if_neg (by rw [← Int.natCast_mul]; omega), if_neg (by omega), ← Int.natCast_mul, ← Int.natCast_add]
      rw [ih (t / 128) (by omega) (j + 1) (v + t % 128 * 2 ^ (7 * j)) (by omega) (by omega)]
      rw [Nat.add_assoc, ← h3]

theorem dropLast_cons {x : Int} {s : List Int} (h : 0 < s.length) : (x :: s).dropLast = x :: s.dropLast := by
  cases s with
  | nil => simp at h
  | cons y s => rfl

theorem lp_short : ∀ (t j v : Nat), j ≤ 4 → v + t * 2 ^ (7 * j) < 2147483648 → lp (septs t).dropLast j v = (0, [], 10) := by
  intro t
  induction t using Nat.strongRecOn with
  | _ t ih =>
    intro j v hj hb
    have hp := Nat.two_pow_pos (7 * j)
    by_cases ht : t < 128
    · rw [septs_lt ht]
      rfl
    · rw [septs_ge ht, dropLast_cons (septs_pos _)]
      simp only [lp]
      have e1 : (((t % 128 + 128 : Nat) : Int)) % 128 = ((t % 128 : Nat) : Int) := by omega
      have h1 : t % 128 * 2 ^ (7 * j) ≤ t * 2 ^ (7 * j) := Nat.mul_le_mul_right _ (Nat.mod_le _ _)
      have h3 : t * 2 ^ (7 * j) = t % 128 * 2 ^ (7 * j) + t / 128 * 2 ^ (7 * (j + 1)) := by
        have h4 : t = t % 128 + t / 128 * 128 := by omega
        conv => lhs; rw [h4]
        rw [Nat.add_mul, p7, Nat.mul_assoc]
      have h5 : 2 ^ (7 * (j + 1)) ≤ t / 128 * 2 ^ (7 * (j + 1)) := Nat.le_mul_of_pos_left _ (by omega)
      have hj2 := p7_le (j := j) (by omega)
      rw [e1, if_neg (by rw [← Int.natCast_mul]; omega), if_neg (by omega), ← Int.natCast_mul, ← Int.natCast_add]
      exact ih (t / 128) (by omega) (j + 1) (v + t % 128 * 2 ^ (7 * j)) (by omega) (by omega)

theorem mul_add_mod (a x M : Int) (h0 : 0 ≤ x) (h1 : x < M) : (a * M + x) % M = x := by
  rw [Int.add_comm, Int.add_mul_emod_self_right]
  exact Int.emod_eq_of_lt h0 h1
theorem mul_add_div (a x M : Int) (h0 : 0 ≤ x) (h1 : x < M) : (a * M + x) / M = a := by
  rw [Int.add_comm, Int.add_mul_ediv_right _ _ (by omega), Int.ediv_eq_zero_of_lt h0 h1, Int.zero_add]

section
variable {x k : Nat} {u : Int} (hk1 : 1 ≤ k) (hk2 : k ≤ 8) (hx : x ≤ 2147483647)
include hk1 hk2 hx

theorem takePut (r : List Int) : takeR (putL x k u ++ r) k = ((x : Int), r, 0) := by
  have hp1 := pow_ge hk1
  unfold takeR putL
  rw [if_pos (by omega)]
  simp only [Int.toNat_natCast]
  by_cases hl : x < 2 ^ k - 1
  · rw [if_pos hl]
    simp only [List.cons_append, List.nil_append]
    rw [mul_add_mod _ _ _ (by omega) (by omega), if_pos (by omega)]
  · rw [if_neg hl]
    simp only [List.cons_append]
    rw [mul_add_mod _ _ _ (by omega) (by omega), if_neg (by omega)]
    have := lp_septs r (x - (2 ^ k - 1)) 0 (2 ^ k - 1) (by omega) (by simp; omega)
    rw [this]
    congr 2
    simp
    omega
theorem takeShort : takeR (putL x k u).dropLast k = (0, [], 10) := by
  have hp1 := pow_ge hk1
  unfold takeR putL
  rw [if_pos (by omega)]
  simp only [Int.toNat_natCast]
  by_cases hl : x < 2 ^ k - 1
  · rw [if_pos hl]
    rfl
  · rw [if_neg hl, dropLast_cons (septs_pos _)]
    simp only
    rw [mul_add_mod _ _ _ (by omega) (by omega), if_neg (by omega)]
    exact lp_short (x - (2 ^ k - 1)) 0 (2 ^ k - 1) (by omega) (by simp; omega)
end
end Go.Proofs.Ytelmcjiamciklaa
