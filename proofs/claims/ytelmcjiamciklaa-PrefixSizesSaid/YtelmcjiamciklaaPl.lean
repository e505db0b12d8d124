/- Numbers that begin within a byte, in plain Lean: the septets of a number; the bytes of a number; what is taken. -/
import Derived.Lib.Hide
namespace Go.Proofs.Ytelmcjiamciklaa

/-- What is left of a number, seven bits and seven. -/
def septs (n : Nat) : List Int := if n < 128 then [(n : Int)] else ((n % 128 + 128 : Nat) : Int) :: septs (n / 128)
termination_by n
decreasing_by omega
theorem septs_lt {n : Nat} (h : n < 128) : septs n = [(n : Int)] := by rw [septs, if_pos h]
theorem septs_ge {n : Nat} (h : ¬ n < 128) : septs n = ((n % 128 + 128 : Nat) : Int) :: septs (n / 128) := by rw [septs, if_neg h]
theorem septs_len : ∀ (k n : Nat), n < 128 ^ (k + 1) → (septs n).length ≤ k + 1 := by
  intro k
  induction k with
  | zero => intro n h; rw [septs_lt (by simpa using h)]; simp
  | succ k ih =>
    intro n h
    by_cases hn : n < 128
    · rw [septs_lt hn]; simp
    · rw [septs_ge hn]
      have := ih (n / 128) (by rw [Nat.div_lt_iff_lt_mul (by decide)]; rwa [← Nat.pow_succ])
      simp; omega
theorem septs_pos (n : Nat) : 0 < (septs n).length := by
  by_cases hn : n < 128
  · rw [septs_lt hn]; simp
  · rw [septs_ge hn]; simp
theorem septs_bs (n : Nat) : ∀ x ∈ septs n, 0 ≤ x ∧ x ≤ 255 := by
  induction n using Nat.strongRecOn with
  | _ n ih =>
    intro x hx
    by_cases hn : n < 128
    · rw [septs_lt hn] at hx; simp at hx; omega
    · rw [septs_ge hn] at hx
      rcases List.mem_cons.1 hx with rfl | hx
      · omega
      · exact ih (n / 128) (by omega) x hx

/-- What is told of the bytes behind the first: k came, n is the number till now. -/
def lp : List Int → Nat → Int → Int × List Int × Int
  | [], _, _ => (0, [], 10)
  | x :: r, k, n =>
    if 5 ≤ k ∨ 2147483648 ≤ n + x % 128 * ((2 ^ (7 * k) : Nat) : Int) then (0, [], 60)
    else if x < 128 then (n + x % 128 * ((2 ^ (7 * k) : Nat) : Int), r, 0)
    else lp r (k + 1) (n + x % 128 * ((2 ^ (7 * k) : Nat) : Int))
/-- What is told of bytes: the number, what stands behind it, the fault. -/
def takeR (l : List Int) (b : Int) : Int × List Int × Int :=
  if 1 ≤ b ∧ b ≤ 8 then
    match l with
    | [] => (0, [], 10)
    | x :: r => if x % ((2 ^ b.toNat : Nat) : Int) < ((2 ^ b.toNat : Nat) : Int) - 1 then (x % ((2 ^ b.toNat : Nat) : Int), r, 0) else lp r 0 (x % ((2 ^ b.toNat : Nat) : Int))
  else (0, [], 2)
end Go.Proofs.Ytelmcjiamciklaa
