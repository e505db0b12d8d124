/- Bits laid in bytes that are there already, of noughts: the plain law of the document's Lay. -/
import Derived.Test.YtejogehkehjelaaOz
namespace Go.Proofs.Ytejogehkehjelaa
open Go.RowKit Go.Shelf
set_option linter.unusedVariables false

/-- The first all bits of f in m bytes. -/
def pkz (f : Nat → Int) (all m : Nat) : List Int := (List.range m).map (byteP f all)
theorem pkz_len (f : Nat → Int) (all m : Nat) : (pkz f all m).length = m := by simp [pkz]
theorem pkz_get (f : Nat → Int) (all m : Nat) {i : Nat} (h : i < m) : (pkz f all m)[i]? = some (byteP f all i) := by simp [pkz, h]
theorem pkz_zero (f : Nat → Int) (m : Nat) : pkz f 0 m = List.replicate m 0 := by
  apply List.ext_getElem?
  intro i
  by_cases hi : i < m
  · rw [pkz_get _ _ _ hi, byteP_beyond f 0 i (by omega)]
    simp [hi]
  · rw [List.getElem?_eq_none (by rw [pkz_len]; omega), List.getElem?_eq_none (by rw [List.length_replicate]; omega)]
theorem pkz_set (f : Nat → Int) (all m : Nat) (h : all / 8 < m) : (pkz f all m).set (all / 8) (byteP f (all + 1) (all / 8)) = pkz f (all + 1) m := by
  apply List.ext_getElem?
  intro i
  by_cases hi : i < m
  · rw [pkz_get _ _ _ hi, List.getElem?_set]
    by_cases h2 : all / 8 = i
    · subst h2
      rw [if_pos rfl, if_pos (by rw [pkz_len]; omega)]
    · rw [if_neg h2, pkz_get _ _ _ hi, byteP_old f all i (by omega)]
  · rw [List.getElem?_eq_none (by rw [List.length_set, pkz_len]; omega), List.getElem?_eq_none (by rw [pkz_len]; omega)]
theorem pkz_bs {f : Nat → Int} (h : IsBits f) (all m : Nat) : Bs (pkz f all m) := by
  intro c hc
  simp only [pkz, List.mem_map] at hc
  obtain ⟨i, _, rfl⟩ := hc
  exact byteP_bd h all i
theorem pk_pkz (f : Nat → Int) (all : Nat) : pkz f all ((all + 7) / 8) = pk f all := rfl
end Go.Proofs.Ytejogehkehjelaa
