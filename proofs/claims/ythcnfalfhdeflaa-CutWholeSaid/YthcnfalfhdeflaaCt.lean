/- What a reader tells are its bytes: plain. -/
import Derived.Test.YthcnfalfhdeflaaCp
import Derived.Test.YthcnfalfhdeflaaHb
namespace Go.Proofs.Ythcnfalfhdeflaa
open Go.RowKit
set_option linter.unusedVariables false

/-- What is left behind the first frames. -/
def restN (a : List Int) : Nat → List Int
  | 0 => a
  | k + 1 => restOf (restN a k)
theorem restN_succ (a : List Int) : ∀ k, restN a (k + 1) = restN (restOf a) k
  | 0 => rfl
  | k + 1 => by
    have := restN_succ a k
    show restOf (restN a (k + 1)) = restOf (restN (restOf a) k)
    rw [this]
theorem cutC_at : ∀ (k : Nat) (a : List Int), k < (cutC a).1.length → GoesB (restN a k) ∧ (cutC a).1[k]? = some (pcOf (restN a k))
  | k, a, hk => by
    by_cases hg : GoesB a
    · rw [cutC_go hg] at hk ⊢
      cases k with
      | zero => exact ⟨hg, rfl⟩
      | succ k =>
        simp only [List.length_cons] at hk
        have := cutC_at k (restOf a) (by omega)
        rw [restN_succ]
        exact ⟨this.1, by simpa using this.2⟩
    · by_cases hl : LongB a
      · rw [cutC_long hl] at hk
        simp at hk
      · rw [cutC_end hg hl] at hk
        simp at hk
theorem cutC_fin : ∀ (n : Nat) (a : List Int), a.length ≤ n → ¬GoesB (restN a (cutC a).1.length) ∧ (cutC a).2.2 = decide (LongB (restN a (cutC a).1.length)) ∧ ((cutC a).2.2 = false → (cutC a).2.1 = restN a (cutC a).1.length) ∧ ((cutC a).2.2 = true → (cutC a).2.1 = [])
  | n, a, hn => by
    by_cases hg : GoesB a
    · have hr := restOf_len hg
      obtain ⟨n', rfl⟩ : ∃ n', n = n' + 1 := ⟨n - 1, by omega⟩
      have ih := cutC_fin n' (restOf a) (by omega)
      rw [cutC_go hg]
      simp only [List.length_cons, restN_succ]
      exact ih
    · by_cases hl : LongB a
      · rw [cutC_long hl]
        exact ⟨hg, (decide_eq_true hl).symm, fun h => (by cases h), fun _ => rfl⟩
      · rw [cutC_end hg hl]
        exact ⟨hg, (decide_eq_false hl).symm, fun _ => rfl, fun h => (by cases h)⟩
theorem hL_pos {b : List Int} (h : Bs b) : 0 ≤ hL b := (hL_bd h).1
/-- A round: what was told, a head, a payload. -/
theorem told_step {a : List Int} {t : Nat} (ha : Bs a) (ht : t ≤ a.length) (hg : GoesB (a.drop t)) :
    t + 9 + (hL (a.drop t)).toNat ≤ a.length ∧ restOf (a.drop t) = a.drop (t + 9 + (hL (a.drop t)).toNat) ∧ (a.take t ++ (a.drop t).take 9) ++ (pcOf (a.drop t)).d = a.take (t + 9 + (hL (a.drop t)).toNat) ∧ (pcOf (a.drop t)).d.length = (hL (a.drop t)).toNat := by
  obtain ⟨g1, g2, g3⟩ := hg
  have h0 := hL_pos (ha.drop t)
  rw [List.length_drop] at g1 g3
  generalize hLq : hL (a.drop t) = q at *
  obtain ⟨k, rfl⟩ : ∃ k : Nat, q = k := ⟨q.toNat, by omega⟩
  refine ⟨by omega, ?_, ?_, ?_⟩
  · unfold restOf
    rw [hLq, List.drop_drop]
    congr 1
    omega
  · unfold pcOf
    simp only
    rw [hLq, List.append_assoc, ← List.take_add, ← List.take_add]
    congr 1
    omega
  · unfold pcOf
    simp only
    rw [hLq, List.length_take, List.length_drop, List.length_drop]
    omega
theorem head_lo {l : List Int} (h : Bs l) (h5 : l[5]?.getD 0 ≤ 127) : (l.take 9).set 5 (l[5]?.getD 0 % 128) = l.take 9 := by
  have hb := h.get 5
  rw [show l[5]?.getD 0 % 128 = l[5]?.getD 0 by omega]
  refine List.ext_getElem? fun j => ?_
  by_cases hj : j = 5
  · subst hj
    by_cases hl : 5 < l.length
    · rw [List.getElem?_set_self (by rw [List.length_take]; omega), List.getElem?_take, if_pos (by decide), List.getElem?_eq_getElem hl]
      rfl
    · rw [List.getElem?_eq_none (by rw [List.length_set, List.length_take]; omega), List.getElem?_eq_none (by rw [List.length_take]; omega)]
  · rw [List.getElem?_set_ne (fun e => hj e.symm)]
theorem head_hi {l : List Int} (h : Bs l) {x : Int} (hx : l[5]?.getD 0 = x) (h5 : 127 < x) : ((l.take 9).set 5 (x % 128)).set 5 (x % 128 + 128) = l.take 9 ∧ (((l.take 9).set 5 (x % 128) : List Int)[(5 : Nat)]?).getD 0 = x % 128 ∧ x % 128 + 128 ≤ 255 := by
  subst hx
  have hb := h.get 5
  have hl : 5 < l.length := by
    rcases Nat.lt_or_ge 5 l.length with h1 | h1
    · exact h1
    · rw [List.getElem?_eq_none h1] at h5
      simp at h5
  refine ⟨?_, ?_, by omega⟩
  · rw [List.set_set, show l[5]?.getD 0 % 128 + 128 = l[5]?.getD 0 by omega]
    refine List.ext_getElem? fun j => ?_
    by_cases hj : j = 5
    · subst hj
      rw [List.getElem?_set_self (by rw [List.length_take]; omega), List.getElem?_take, if_pos (by decide), List.getElem?_eq_getElem hl]
      rfl
    · rw [List.getElem?_set_ne (fun e => hj e.symm)]
  · rw [List.getElem?_set_self (by rw [List.length_take]; omega)]
    rfl
theorem at_drop (a : List Int) (t : Nat) : a[t + 5]?.getD 0 = (a.drop t)[5]?.getD 0 := by rw [List.getElem?_drop]
/-- What the last test says. -/
theorem long_iff {b : List Int} : decide (LongB b) = (decide (hE b = 0) && decide (16384 < hL b)) := by
  unfold LongB hE
  by_cases h : b.length < 9
  · simp [h, Nat.not_le.2 h]
  · simp [h, Nat.le_of_not_lt h]
theorem not_whole {b : List Int} (h1 : ¬GoesB b) (h2 : ¬LongB b) : hE b ≠ 0 ∨ (b.length : Int) < 9 + hL b := by
  unfold GoesB at h1
  unfold LongB at h2
  unfold hE
  by_cases h : b.length < 9
  · left
    simp [h]
  · right
    omega
end Go.Proofs.Ythcnfalfhdeflaa
