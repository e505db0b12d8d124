/- Bits of bytes and of ints, as arithmetic. -/
import Derived.WalkKit
import Derived.Laws.BitsAllLaws
import Derived.Laws.BitsLemmas
namespace Go.Proofs.Ythcnfalfhdeflaa

theorem nat_or128 : ∀ i : Fin 256, i.1 ||| 128 = i.1 % 128 + 128 := by decide +kernel
theorem nat_and128 : ∀ i : Fin 256, i.1 &&& 128 = i.1 / 128 * 128 := by decide +kernel
theorem nat_andNot : ∀ k : Fin 9, ∀ i : Fin 256, i.1 &&& (255 - (2 ^ k.1 - 1)) = i.1 / 2 ^ k.1 * 2 ^ k.1 := by decide +kernel
theorem toNat_lit {a : Int} (h : 0 ≤ a) : ∃ n : Nat, a = n := Int.eq_ofNat_of_zero_le h
theorem or128 (a : Int) (h : 0 ≤ a) (k : a ≤ 255) : bits .or .u8 a 128 = a % 128 + 128 := by
  obtain ⟨n, rfl⟩ := toNat_lit h
  rw [u8_or _ _ h (by omega) (by decide) (by decide)]
  have := nat_or128 ⟨n, by omega⟩
  simp only [Int.toNat_natCast]
  show ((n ||| 128 : Nat) : Int) = _
  rw [this]
  simp
theorem and128 (a : Int) (h : 0 ≤ a) (k : a ≤ 255) : bits .and .u8 a 128 = a / 128 * 128 := by
  obtain ⟨n, rfl⟩ := toNat_lit h
  rw [u8_and _ _ h (by omega) (by decide) (by decide)]
  have := nat_and128 ⟨n, by omega⟩
  simp only [Int.toNat_natCast]
  show ((n &&& 128 : Nat) : Int) = _
  rw [this]
  simp
theorem and_mask (a : Int) (k : Nat) (h : 0 ≤ a) (h' : a ≤ 255) (hk : k ≤ 8) : bits .and .u8 a ((2 ^ k - 1 : Nat) : Int) = a % ((2 ^ k : Nat) : Int) := by
  obtain ⟨n, rfl⟩ := toNat_lit h
  have hp : 2 ^ k ≤ 2 ^ 8 := Nat.pow_le_pow_right (by decide) hk
  have hp1 : 0 < 2 ^ k := Nat.two_pow_pos k
  rw [u8_and _ _ h (by omega) (by omega) (by omega)]
  simp only [Int.toNat_natCast]
  rw [Nat.and_two_pow_sub_one_eq_mod]
  simp
theorem andNot_mask (a : Int) (k : Nat) (h : 0 ≤ a) (h' : a ≤ 255) (hk : k ≤ 8) : bits .andNot .u8 a ((2 ^ k - 1 : Nat) : Int) = a / ((2 ^ k : Nat) : Int) * ((2 ^ k : Nat) : Int) := by
  obtain ⟨n, rfl⟩ := toNat_lit h
  have hp : 2 ^ k ≤ 2 ^ 8 := Nat.pow_le_pow_right (by decide) hk
  have hp1 : 0 < 2 ^ k := Nat.two_pow_pos k
  rw [u8_andNot _ _ h (by omega) (by omega) (by omega)]
  simp only [Int.toNat_natCast]
  rw [nat_andNot ⟨k, by omega⟩ ⟨n, by omega⟩]
  simp
theorem or_low (a b : Int) (k : Nat) (h : 0 ≤ a) (h' : a * ((2 ^ k : Nat) : Int) + b ≤ 255) (hb : 0 ≤ b) (hb' : b < ((2 ^ k : Nat) : Int)) : bits .or .u8 (a * ((2 ^ k : Nat) : Int)) b = a * ((2 ^ k : Nat) : Int) + b := by
  obtain ⟨n, rfl⟩ := toNat_lit h
  obtain ⟨m, rfl⟩ := toNat_lit hb
  have hm : m < 2 ^ k := by omega
  have e : ((n : Int) * ((2 ^ k : Nat) : Int)) = ((2 ^ k * n : Nat) : Int) := by rw [Nat.mul_comm]; simp
  rw [e] at h' ⊢
  rw [u8_or_nat _ _ (by omega) (by omega), ← Nat.two_pow_add_eq_or_of_lt hm]
  simp
theorem and64 (a b : Nat) (ha : a < 4294967296) (hb : b < 4294967296) : bits .and .i64 (a : Int) (b : Int) = ((a &&& b : Nat) : Int) := by
  have h1 : ∀ n : Nat, n < 4294967296 → (BitVec.ofInt 64 (n : Int)).toNat = n := fun n hn => by
    rw [BitVec.ofInt_natCast, BitVec.toNat_ofNat]
    exact Nat.mod_eq_of_lt (by omega)
  have h2 : a &&& b ≤ a := Nat.and_le_left
  have h3 : (BitVec.ofInt 64 (a : Int) &&& BitVec.ofInt 64 (b : Int)).toNat = a &&& b := by rw [BitVec.toNat_and, h1 a ha, h1 b hb]
  have h4 : bits .and .i64 (a : Int) (b : Int) = IntKind.i64.wrap (((BitVec.ofInt 64 (a : Int) &&& BitVec.ofInt 64 (b : Int)).toNat : Nat) : Int) := rfl
  rw [h4, h3, IntKind.wrap_i64]
  omega
theorem and_mask64 (a : Int) (k : Nat) (h : 0 ≤ a) (h' : a < 4294967296) (hk : k ≤ 31) : bits .and .i64 a ((2 ^ k - 1 : Nat) : Int) = a % ((2 ^ k : Nat) : Int) := by
  obtain ⟨n, rfl⟩ := toNat_lit h
  have hp : 2 ^ k ≤ 2 ^ 31 := Nat.pow_le_pow_right (by decide) hk
  rw [and64 _ _ (by omega) (by omega), Nat.and_two_pow_sub_one_eq_mod]
  simp
end Go.Proofs.Ythcnfalfhdeflaa
