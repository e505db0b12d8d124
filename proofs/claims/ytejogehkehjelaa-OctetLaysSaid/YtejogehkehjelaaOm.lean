/- The contract of octet.Lay. -/
import Derived.Test.YtejogehkehjelaaOl
namespace Go.Proofs.Ytejogehkehjelaa
open Go.RowKit Go.Shelf
set_option linter.unusedVariables false

def okLay (l : List Int) (used code many : Int) : Bool := decide (0 ≤ many ∧ many ≤ 30 ∧ 0 ≤ code ∧ code < ((2 ^ many.toNat : Nat) : Int) ∧ 0 ≤ used ∧ used ≤ 8 * (l.length : Int) ∧ 8 * (l.length : Int) - used ≤ 7)
/-- The bits that are laid. -/
def layBits (l : List Int) (used code many : Nat) (k : Nat) : Int := if k < used then bitAt l k else ((code / 2 ^ (many - 1 - (k - used)) % 2 : Nat) : Int)
theorem layBits_is (l : List Int) (used code many : Nat) : IsBits (layBits l used code many) := by
  intro k
  unfold layBits
  split
  · exact bitAt_bd l k
  · omega
def layO (l : List Int) (used code many : Int) : List Int := if okLay l used code many then pk (layBits l used.toNat code.toNat many.toNat) (used.toNat + many.toNat) else []
def layN (l : List Int) (used code many : Int) : Int := if okLay l used code many then used + many else 0
def layE (l : List Int) (used code many : Int) : Int := if okLay l used code many then 0 else 2

theorem mask_byte {l : List Int} (h : Bs l) (used : Nat) (code many : Nat) (i : Nat) (hl : l.length = i + 1) (h1 : used < 8 * l.length) (h2 : 8 * l.length < used + 8) :
    l[i]?.getD 0 / 2 ^ (8 * l.length - used) * 2 ^ (8 * l.length - used) = byteP (layBits l used code many) used i := by
  have hy := h.get i
  obtain ⟨r, hr, r1, r2⟩ : ∃ r, used = 8 * i + r ∧ 1 ≤ r ∧ r ≤ 7 := ⟨used - 8 * i, by omega, by omega, by omega⟩
  subst hr
  rw [hl, show 8 * (i + 1) - (8 * i + r) = 8 - r by omega]
  have hb : ∀ t, t < 8 → bitP (layBits l (8 * i + r) code many) (8 * i + r) (8 * i + t) = if t < r then l[i]?.getD 0 / 2 ^ (7 - t) % 2 else 0 := fun t ht => by
    unfold bitP layBits
    by_cases h3 : t < r
    · rw [if_pos (by omega), if_pos (by omega), if_pos h3]
      unfold bitAt
      rw [show (8 * i + t) / 8 = i by omega, show (8 * i + t) % 8 = t by omega]
    · rw [if_neg (by omega), if_neg h3]
  unfold byteP
  have b0 := hb 0 (by decide)
  rw [Nat.add_zero] at b0
  rw [b0, hb 1 (by decide), hb 2 (by decide), hb 3 (by decide), hb 4 (by decide), hb 5 (by decide), hb 6 (by decide), hb 7 (by decide)]
  generalize l[i]?.getD 0 = y at *
  obtain rfl | rfl | rfl | rfl | rfl | rfl | rfl : r = 1 ∨ r = 2 ∨ r = 3 ∨ r = 4 ∨ r = 5 ∨ r = 6 ∨ r = 7 := by omega
  all_goals simp only [Nat.reduceLT, Nat.reduceSub, Nat.sub_zero, Int.reducePow, if_true, if_false, Nat.lt_irrefl]
  all_goals omega
/-- Behind the mask: the first bits alone. -/
theorem mask_pk {l : List Int} (h : Bs l) (used : Nat) (code many : Nat) (h1 : used ≤ 8 * l.length) (h2 : 8 * l.length < used + 8) (h0 : used < 8 * l.length) :
    l.set (l.length - 1) (l[l.length - 1]?.getD 0 / 2 ^ (8 * l.length - used) * 2 ^ (8 * l.length - used)) = pk (layBits l used code many) used := by
  apply List.ext_getElem?
  intro i
  have hlen : (used + 7) / 8 = l.length := by omega
  by_cases hi : i < l.length
  · rw [pk_get _ used (by omega), List.getElem?_set]
    by_cases he : l.length - 1 = i
    · subst he
      rw [if_pos rfl, if_pos hi]
      congr 1
      exact mask_byte h used code many (l.length - 1) (by omega) (by omega) (by omega)
    · rw [if_neg he]
      have : byteP (layBits l used code many) used i = byteP (bitAt l) used i := by
        unfold byteP bitP layBits
        repeat rw [if_pos (by omega)]
      rw [this, byteP_own h used i (by omega)]
      simp [hi]
  · rw [List.getElem?_eq_none (by rw [List.length_set]; omega), List.getElem?_eq_none (by rw [pk_len]; omega)]
theorem full_pk {l : List Int} (h : Bs l) (code many : Nat) : l = pk (layBits l (8 * l.length) code many) (8 * l.length) := by
  apply List.ext_getElem?
  intro i
  by_cases hi : i < l.length
  · rw [pk_get _ _ (by omega)]
    have : byteP (layBits l (8 * l.length) code many) (8 * l.length) i = byteP (bitAt l) (8 * l.length) i := by
      unfold byteP bitP layBits
      repeat rw [if_pos (by omega)]
    rw [this, byteP_own h _ i (by omega)]
    simp [hi]
  · rw [List.getElem?_eq_none (by omega), List.getElem?_eq_none (by rw [pk_len]; omega)]
end Go.Proofs.Ytejogehkehjelaa
