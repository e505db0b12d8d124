/- What is put is taken, what is taken is put: the plain law of heads. -/
import Derived.Test.YthcnfalfhdeflaaHp
namespace Go.Proofs.Ythcnfalfhdeflaa
open Go.RowKit Go.Shelf
set_option linter.unusedVariables false

theorem big3 (n : Nat) : bigE 3 n = [((n / 65536 % 256 : Nat) : Int), ((n / 256 % 256 : Nat) : Int), ((n % 256 : Nat) : Int)] := by
  simp [bigE, List.range_succ]
theorem big4 (n : Nat) : bigE 4 n = [((n / 16777216 % 256 : Nat) : Int), ((n / 65536 % 256 : Nat) : Int), ((n / 256 % 256 : Nat) : Int), ((n % 256 : Nat) : Int)] := by
  simp [bigE, List.range_succ]
theorem head_back (L s : Nat) (k f : Int) (b : List Int) (hL' : L < 16777216) (hs' : s < 2147483648) :
    hL (bigE 3 L ++ [k, f] ++ bigE 4 s ++ b) = L ∧ hK (bigE 3 L ++ [k, f] ++ bigE 4 s ++ b) = k ∧ hF (bigE 3 L ++ [k, f] ++ bigE 4 s ++ b) = f ∧ hS (bigE 3 L ++ [k, f] ++ bigE 4 s ++ b) = s ∧ hR (bigE 3 L ++ [k, f] ++ bigE 4 s ++ b) = b ∧ hE (bigE 3 L ++ [k, f] ++ bigE 4 s ++ b) = 0 := by
  rw [big3, big4]
  have hl : ¬ (b.length + 9 < 9) := by omega
  refine ⟨?_, ?_, ?_, ?_, ?_, ?_⟩
  · unfold hL takeO
    rw [if_neg (by simp), if_pos (by decide), if_pos (by simp; omega)]
    simp [num]
    omega
  · simp [hK]; omega
  · simp [hF]; omega
  · unfold hS streamO takeO
    rw [if_neg (by simp), if_pos (by decide), if_pos (by simp; omega)]
    simp [num]
    omega
  · simp [hR]; omega
  · simp [hE]
theorem head_put {l : List Int} (h : Bs l) (h9 : 9 ≤ l.length) : okH (hL l) (hS l) = true ∧ putH (hL l) (hK l) (hF l) (hS l) = (l.take 9).set 5 (l[5]?.getD 0 % 128) := by
  obtain ⟨x0, l0, rfl⟩ := List.exists_cons_of_length_pos (show 0 < l.length by omega)
  obtain ⟨x1, l1, rfl⟩ := List.exists_cons_of_length_pos (show 0 < l0.length by simp at h9; omega)
  obtain ⟨x2, l2, rfl⟩ := List.exists_cons_of_length_pos (show 0 < l1.length by simp at h9; omega)
  obtain ⟨x3, l3, rfl⟩ := List.exists_cons_of_length_pos (show 0 < l2.length by simp at h9; omega)
  obtain ⟨x4, l4, rfl⟩ := List.exists_cons_of_length_pos (show 0 < l3.length by simp at h9; omega)
  obtain ⟨x5, l5, rfl⟩ := List.exists_cons_of_length_pos (show 0 < l4.length by simp at h9; omega)
  obtain ⟨x6, l6, rfl⟩ := List.exists_cons_of_length_pos (show 0 < l5.length by simp at h9; omega)
  obtain ⟨x7, l7, rfl⟩ := List.exists_cons_of_length_pos (show 0 < l6.length by simp at h9; omega)
  obtain ⟨x8, l8, rfl⟩ := List.exists_cons_of_length_pos (show 0 < l7.length by simp at h9; omega)
  have b0 := h x0 (by simp)
  have b1 := h x1 (by simp)
  have b2 := h x2 (by simp)
  have b5 := h x5 (by simp)
  have b6 := h x6 (by simp)
  have b7 := h x7 (by simp)
  have b8 := h x8 (by simp)
  have hl : ¬ (l8.length + 9 < 9) := by omega
  have e0 : hL (x0 :: x1 :: x2 :: x3 :: x4 :: x5 :: x6 :: x7 :: x8 :: l8) = (x0 * 256 + x1) * 256 + x2 := by
    unfold hL takeO
    rw [if_neg (by simp), if_pos (by decide), if_pos (by simp; omega)]
    simp [num]
  have e1 : hS (x0 :: x1 :: x2 :: x3 :: x4 :: x5 :: x6 :: x7 :: x8 :: l8) = (((x5 * 256 + x6) * 256 + x7) * 256 + x8) % 2147483648 := by
    unfold hS streamO takeO
    rw [if_neg (by simp), if_pos (by decide), if_pos (by simp; omega)]
    simp [num]
  have e2 : hK (x0 :: x1 :: x2 :: x3 :: x4 :: x5 :: x6 :: x7 :: x8 :: l8) = x3 := by simp [hK]; omega
  have e3 : hF (x0 :: x1 :: x2 :: x3 :: x4 :: x5 :: x6 :: x7 :: x8 :: l8) = x4 := by simp [hF]; omega
  rw [e0, e1, e2, e3]
  have ok : okH ((x0 * 256 + x1) * 256 + x2) ((((x5 * 256 + x6) * 256 + x7) * 256 + x8) % 2147483648) = true := decide_eq_true (by omega)
  refine ⟨ok, ?_⟩
  unfold putH
  rw [if_pos ok, big3, big4]
  obtain ⟨x0, rfl⟩ := toNat_lit b0.1
  obtain ⟨x1, rfl⟩ := toNat_lit b1.1
  obtain ⟨x2, rfl⟩ := toNat_lit b2.1
  obtain ⟨x5, rfl⟩ := toNat_lit b5.1
  obtain ⟨x6, rfl⟩ := toNat_lit b6.1
  obtain ⟨x7, rfl⟩ := toNat_lit b7.1
  obtain ⟨x8, rfl⟩ := toNat_lit b8.1
  have t0 : ((((x0 : Int) * 256 + x1) * 256 + x2)).toNat = (x0 * 256 + x1) * 256 + x2 := by omega
  have t1 : ((((((x5 : Int) * 256 + x6) * 256 + x7) * 256 + x8) % 2147483648)).toNat = (((x5 * 256 + x6) * 256 + x7) * 256 + x8) % 2147483648 := by omega
  rw [t0, t1]
  simp only [List.cons_append, List.nil_append, List.take_succ_cons, List.take_zero, List.set_cons_succ, List.set_cons_zero, List.getElem?_cons_succ, List.getElem?_cons_zero, Option.getD_some, List.cons.injEq, and_true, true_and]
  omega
end Go.Proofs.Ythcnfalfhdeflaa
