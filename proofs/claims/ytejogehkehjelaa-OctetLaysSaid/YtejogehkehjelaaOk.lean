/- Bits laid in bytes, the plain law. -/
import Derived.Test.YtejogehkehjelaaOi
namespace Go.Proofs.Ytejogehkehjelaa
open Go.RowKit Go.Shelf
set_option linter.unusedVariables false

/-- The bit that stands at a place, of the first all ones. -/
def bitP (f : Nat → Int) (all k : Nat) : Int := if k < all then f k else 0
/-- The i-th byte of the first all bits of f. -/
def byteP (f : Nat → Int) (all i : Nat) : Int :=
  bitP f all (8 * i) * 128 + bitP f all (8 * i + 1) * 64 + bitP f all (8 * i + 2) * 32 + bitP f all (8 * i + 3) * 16 + bitP f all (8 * i + 4) * 8 + bitP f all (8 * i + 5) * 4 + bitP f all (8 * i + 6) * 2 + bitP f all (8 * i + 7)
/-- The bytes of the first all bits of f. -/
def pk (f : Nat → Int) (all : Nat) : List Int := (List.range ((all + 7) / 8)).map (byteP f all)
/-- f tells bits. -/
def IsBits (f : Nat → Int) : Prop := ∀ k, 0 ≤ f k ∧ f k ≤ 1
theorem bitP_bd {f : Nat → Int} (h : IsBits f) (all k : Nat) : 0 ≤ bitP f all k ∧ bitP f all k ≤ 1 := by
  unfold bitP
  split
  · exact h k
  · exact ⟨by decide, by decide⟩
theorem bitP_succ (f : Nat → Int) (all k : Nat) : bitP f (all + 1) k = bitP f all k + if k = all then f all else 0 := by
  unfold bitP
  by_cases h1 : k < all
  · rw [if_pos (by omega), if_pos h1, if_neg (by omega)]; simp
  · by_cases h2 : k = all
    · subst h2; simp
    · rw [if_neg (by omega), if_neg h1, if_neg h2]; simp
theorem pk_len (f : Nat → Int) (all : Nat) : (pk f all).length = (all + 7) / 8 := by simp [pk]
theorem pk_get (f : Nat → Int) (all : Nat) {i : Nat} (h : i < (all + 7) / 8) : (pk f all)[i]? = some (byteP f all i) := by simp [pk, h]
theorem byteP_bd {f : Nat → Int} (h : IsBits f) (all i : Nat) : 0 ≤ byteP f all i ∧ byteP f all i ≤ 255 := by
  have h0 := bitP_bd h all (8 * i)
  have h1 := bitP_bd h all (8 * i + 1)
  have h2 := bitP_bd h all (8 * i + 2)
  have h3 := bitP_bd h all (8 * i + 3)
  have h4 := bitP_bd h all (8 * i + 4)
  have h5 := bitP_bd h all (8 * i + 5)
  have h6 := bitP_bd h all (8 * i + 6)
  have h7 := bitP_bd h all (8 * i + 7)
  unfold byteP
  omega
theorem pk_bs {f : Nat → Int} (h : IsBits f) (all : Nat) : Bs (pk f all) := by
  intro c hc
  simp only [pk, List.mem_map] at hc
  obtain ⟨i, _, rfl⟩ := hc
  exact byteP_bd h all i
theorem byteP_bit {f : Nat → Int} (h : IsBits f) (all i : Nat) {r : Nat} (hr : r < 8) : byteP f all i / 2 ^ (7 - r) % 2 = bitP f all (8 * i + r) := by
  have h0 := bitP_bd h all (8 * i)
  have h1 := bitP_bd h all (8 * i + 1)
  have h2 := bitP_bd h all (8 * i + 2)
  have h3 := bitP_bd h all (8 * i + 3)
  have h4 := bitP_bd h all (8 * i + 4)
  have h5 := bitP_bd h all (8 * i + 5)
  have h6 := bitP_bd h all (8 * i + 6)
  have h7 := bitP_bd h all (8 * i + 7)
  unfold byteP
  obtain rfl | rfl | rfl | rfl | rfl | rfl | rfl | rfl : r = 0 ∨ r = 1 ∨ r = 2 ∨ r = 3 ∨ r = 4 ∨ r = 5 ∨ r = 6 ∨ r = 7 := by omega
  all_goals simp only [Nat.sub_self, Nat.add_zero, Nat.reduceSub, Int.reducePow]
  all_goals omega
theorem pk_bit {f : Nat → Int} (h : IsBits f) (all k : Nat) (hk : k < 8 * ((all + 7) / 8)) : bitAt (pk f all) k = bitP f all k := by
  unfold bitAt
  rw [pk_get f all (i := k / 8) (by omega)]
  simp only [Option.getD_some]
  rw [byteP_bit h all (k / 8) (r := k % 8) (by omega), show 8 * (k / 8) + k % 8 = k by omega]
theorem byteP_old (f : Nat → Int) (all i : Nat) (h : i ≠ all / 8) : byteP f (all + 1) i = byteP f all i := by
  unfold byteP
  simp only [bitP_succ]
  rw [if_neg (by omega), if_neg (by omega), if_neg (by omega), if_neg (by omega), if_neg (by omega), if_neg (by omega), if_neg (by omega), if_neg (by omega)]
  simp
theorem byteP_new (f : Nat → Int) (all : Nat) : byteP f (all + 1) (all / 8) = byteP f all (all / 8) + f all * 2 ^ (7 - all % 8) := by
  have hr : all % 8 < 8 := Nat.mod_lt _ (by decide)
  have he : all = 8 * (all / 8) + all % 8 := by omega
  generalize all / 8 = i at *
  generalize all % 8 = r at *
  subst he
  unfold byteP
  simp only [bitP_succ]
  obtain rfl | rfl | rfl | rfl | rfl | rfl | rfl | rfl : r = 0 ∨ r = 1 ∨ r = 2 ∨ r = 3 ∨ r = 4 ∨ r = 5 ∨ r = 6 ∨ r = 7 := by omega
  all_goals repeat (first | rw [if_neg (by omega)] | rw [if_pos (by omega)])
  all_goals simp only [Nat.sub_self, Nat.add_zero, Nat.reduceSub, Int.reducePow]
  all_goals omega
theorem byteP_beyond (f : Nat → Int) (all i : Nat) (h : all ≤ 8 * i) : byteP f all i = 0 := by
  unfold byteP bitP
  rw [if_neg (by omega), if_neg (by omega), if_neg (by omega), if_neg (by omega), if_neg (by omega), if_neg (by omega), if_neg (by omega), if_neg (by omega)]
  rfl
theorem byteP_low {f : Nat → Int} (h : IsBits f) (all : Nat) (hr : all % 8 ≠ 0) : ∃ q : Int, 0 ≤ q ∧ byteP f all (all / 8) = q * ((2 ^ (8 - all % 8) : Nat) : Int) := by
  have h8 : all % 8 < 8 := Nat.mod_lt _ (by decide)
  have he : all = 8 * (all / 8) + all % 8 := by omega
  generalize all / 8 = i at *
  generalize all % 8 = r at *
  subst he
  have h0 := bitP_bd h (8 * i + r) (8 * i)
  have h1 := bitP_bd h (8 * i + r) (8 * i + 1)
  have h2 := bitP_bd h (8 * i + r) (8 * i + 2)
  have h3 := bitP_bd h (8 * i + r) (8 * i + 3)
  have h4 := bitP_bd h (8 * i + r) (8 * i + 4)
  have h5 := bitP_bd h (8 * i + r) (8 * i + 5)
  have h6 := bitP_bd h (8 * i + r) (8 * i + 6)
  have z : ∀ t, r ≤ t → bitP f (8 * i + r) (8 * i + t) = 0 := fun t ht => by unfold bitP; rw [if_neg (by omega)]
  refine ⟨byteP f (8 * i + r) i / ((2 ^ (8 - r) : Nat) : Int), ?_, ?_⟩
  · exact Int.ediv_nonneg (byteP_bd h _ _).1 (Int.natCast_nonneg _)
  · unfold byteP
    obtain rfl | rfl | rfl | rfl | rfl | rfl | rfl : r = 1 ∨ r = 2 ∨ r = 3 ∨ r = 4 ∨ r = 5 ∨ r = 6 ∨ r = 7 := by omega
    all_goals (have z1 := z 7 (by omega); simp only [Nat.reduceSub, Nat.reducePow])
    · have z2 := z 6 (by omega); have z3 := z 5 (by omega); have z4 := z 4 (by omega); have z5 := z 3 (by omega); have z6 := z 2 (by omega); have z7 := z 1 (by omega); omega
    · have z2 := z 6 (by omega); have z3 := z 5 (by omega); have z4 := z 4 (by omega); have z5 := z 3 (by omega); have z6 := z 2 (by omega); omega
    · have z2 := z 6 (by omega); have z3 := z 5 (by omega); have z4 := z 4 (by omega); have z5 := z 3 (by omega); omega
    · have z2 := z 6 (by omega); have z3 := z 5 (by omega); have z4 := z 4 (by omega); omega
    · have z2 := z 6 (by omega); have z3 := z 5 (by omega); omega
    · have z2 := z 6 (by omega); omega
    · omega
theorem pk_app (f : Nat → Int) (all : Nat) (h : all % 8 = 0) : pk f (all + 1) = pk f all ++ [f all * 128] := by
  have e1 : (all + 1 + 7) / 8 = all / 8 + 1 := by omega
  have e2 : (all + 7) / 8 = all / 8 := by omega
  unfold pk
  rw [e1, e2, List.range_succ, List.map_append]
  congr 1
  · apply List.map_congr_left
    intro i hi
    rw [List.mem_range] at hi
    exact byteP_old f all i (by omega)
  · rw [List.map_singleton, byteP_new, byteP_beyond f all _ (by omega), h]
    simp
theorem pk_set (f : Nat → Int) (all : Nat) (h : all % 8 ≠ 0) : pk f (all + 1) = (pk f all).set (all / 8) (byteP f all (all / 8) + f all * 2 ^ (7 - all % 8)) := by
  have e1 : (all + 1 + 7) / 8 = (all + 7) / 8 := by omega
  apply List.ext_getElem?
  intro i
  by_cases hi : i < (all + 7) / 8
  · rw [pk_get f (all + 1) (by omega), List.getElem?_set]
    by_cases h2 : all / 8 = i
    · subst h2
      rw [if_pos rfl, if_pos (by rw [pk_len]; omega), byteP_new]
    · rw [if_neg h2, pk_get f all hi, byteP_old f all i (by omega)]
  · rw [List.getElem?_eq_none (by rw [pk_len]; omega), List.getElem?_eq_none (by rw [List.length_set, pk_len]; omega)]
/-- Bytes are their own bits. -/
theorem byteP_own {l : List Int} (h : Bs l) (all i : Nat) (hi : 8 * i + 8 ≤ all) : byteP (bitAt l) all i = l[i]?.getD 0 := by
  have hy := h.get i
  unfold byteP bitP
  rw [if_pos (by omega), if_pos (by omega), if_pos (by omega), if_pos (by omega), if_pos (by omega), if_pos (by omega), if_pos (by omega), if_pos (by omega)]
  unfold bitAt
  rw [show 8 * i / 8 = i by omega, show (8 * i + 1) / 8 = i by omega, show (8 * i + 2) / 8 = i by omega, show (8 * i + 3) / 8 = i by omega, show (8 * i + 4) / 8 = i by omega, show (8 * i + 5) / 8 = i by omega, show (8 * i + 6) / 8 = i by omega, show (8 * i + 7) / 8 = i by omega]
  rw [show 8 * i % 8 = 0 by omega, show (8 * i + 1) % 8 = 1 by omega, show (8 * i + 2) % 8 = 2 by omega, show (8 * i + 3) % 8 = 3 by omega, show (8 * i + 4) % 8 = 4 by omega, show (8 * i + 5) % 8 = 5 by omega, show (8 * i + 6) % 8 = 6 by omega, show (8 * i + 7) % 8 = 7 by omega]
  simp only [Nat.sub_self, Nat.reduceSub, Int.reducePow]
  generalize l[i]?.getD 0 = y at *
  omega
end Go.Proofs.Ytejogehkehjelaa
