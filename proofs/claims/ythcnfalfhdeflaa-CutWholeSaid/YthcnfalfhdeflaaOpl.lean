/- The bytes of numbers: the plain law; what a Put may answer. -/
import Derived.Test.YthcnfalfhdeflaaM
namespace Go.Proofs.Ythcnfalfhdeflaa
open Go.RowKit Go.Shelf
set_option linter.unusedVariables false

/-- A number in so many bytes, the highest first. -/
def bigE (s n : Nat) : List Int := (List.range s).map fun k => ((n / 256 ^ (s - 1 - k) % 256 : Nat) : Int)
/-- What Put tells: bytes, the fault. -/
def okO (n size : Int) : Bool := decide (1 ≤ size ∧ size ≤ 4 ∧ 0 ≤ n ∧ n < ((256 ^ size.toNat : Nat) : Int))
def putO (n size : Int) : List Int := if okO n size then bigE size.toNat n.toNat else []
def putOe (n size : Int) : Int := if okO n size then 0 else 2

theorem bigE_len (s n : Nat) : (bigE s n).length = s := by simp [bigE]
theorem bigE_get (s n : Nat) {k : Nat} (hk : k < s) : (bigE s n)[k]? = some ((n / 256 ^ (s - 1 - k) % 256 : Nat) : Int) := by simp [bigE, hk]
theorem bigE_bs (s n : Nat) : Bs (bigE s n) := by
  intro c hc
  simp only [bigE, List.mem_map] at hc
  obtain ⟨k, _, rfl⟩ := hc
  have := Nat.mod_lt (n / 256 ^ (s - 1 - k)) (show 256 > 0 by decide)
  omega
/-- The first j of it, noughts behind. -/
def bigF (s n j : Nat) : List Int := (bigE s n).take j ++ List.replicate (s - j) 0
theorem bigF_zero (s n : Nat) : bigF s n 0 = List.replicate s 0 := by simp [bigF]
theorem bigF_all (s n : Nat) : bigF s n s = bigE s n := by simp [bigF, List.take_of_length_le (Nat.le_of_eq (bigE_len s n))]
theorem bigF_set (s n : Nat) {j : Nat} (hj : j < s) : (bigF s n j).set j ((n / 256 ^ (s - 1 - j) % 256 : Nat) : Int) = bigF s n (j + 1) := by
  have h1 : ((bigE s n).take j).length = j := by rw [List.length_take, bigE_len]; omega
  unfold bigF
  rw [List.set_append_right _ _ (by omega), h1, Nat.sub_self, show s - j = (s - (j + 1)) + 1 by omega, List.replicate_succ, List.set_cons_zero]
  have h2 : j < (bigE s n).length := by rw [bigE_len]; exact hj
  rw [List.take_succ_eq_append_getElem h2, List.append_assoc]
  congr 1
  have := bigE_get s n hj
  rw [List.getElem?_eq_getElem h2] at this
  simp at this
  rw [this]
  rfl
theorem pow256 (k : Nat) : (256 : Nat) ^ k = 2 ^ (8 * k) := by rw [Nat.pow_mul]

/-- What a Put may answer. -/
def PutPost (n s : Int) (w : World) (e : Ending) (w' : World) : Prop :=
  (∃ A m c, e = .returned (.tuple #[.slice A m c, .int .i64 (putOe n s)]) ∧ Mine w.heap.size w' A m c (putO n s)) ∧ Below w.heap.size w w'
end Go.Proofs.Ythcnfalfhdeflaa
