/- Bytes cut into frames: plain. -/
import Derived.Test.YthcnfalfhdeflaaCc
namespace Go.Proofs.Ythcnfalfhdeflaa
open Go.RowKit
set_option linter.unusedVariables false

/-- The frame that bytes begin with; what is behind it; whether it is whole; whether it is too long. -/
def pcOf (b : List Int) : Pc := ⟨hL b, hK b, hF b, hS b, (b.drop 9).take (hL b).toNat⟩
def pcLong (b : List Int) : Pc := ⟨hL b, hK b, hF b, hS b, []⟩
def restOf (b : List Int) : List Int := b.drop (9 + (hL b).toNat)
def GoesB (b : List Int) : Prop := 9 ≤ b.length ∧ hL b ≤ 16384 ∧ 9 + hL b ≤ b.length
def LongB (b : List Int) : Prop := 9 ≤ b.length ∧ 16384 < hL b
instance (b : List Int) : Decidable (GoesB b) := by unfold GoesB; infer_instance
instance (b : List Int) : Decidable (LongB b) := by unfold LongB; infer_instance
/-- What the iterator goes over. -/
def seqs : Nat → List Int → List (Pc × List Int)
  | 0, _ => []
  | k + 1, b => if GoesB b then (pcOf b, restOf b) :: seqs k (restOf b) else if LongB b then [(pcLong b, [])] else []
/-- Frames, what is left, whether it breaks. -/
def cutK : Nat → List Int → List Pc × List Int × Bool
  | 0, b => ([], b, false)
  | k + 1, b => if GoesB b then (pcOf b :: (cutK k (restOf b)).1, (cutK k (restOf b)).2) else if LongB b then ([], [], true) else ([], b, false)
theorem restOf_len {b : List Int} (h : GoesB b) : (restOf b).length + 9 ≤ b.length := by
  have := h.1
  unfold restOf
  rw [List.length_drop]
  omega
theorem seqs_len : ∀ (k : Nat) (b : List Int), (seqs k b).length ≤ b.length + 1
  | 0, b => by simp [seqs]
  | k + 1, b => by
    unfold seqs
    split
    · rename_i h
      have := restOf_len h
      have := seqs_len k (restOf b)
      simp only [List.length_cons]
      omega
    · split <;> simp
theorem seqs_end {k : Nat} {b : List Int} (h : ¬GoesB b) (h' : ¬LongB b) : seqs k b = [] := by
  cases k
  · rfl
  · simp [seqs, h, h']
theorem seqs_go {k : Nat} {b : List Int} (h : GoesB b) (hk : b.length ≤ k) : ∃ k', k = k' + 1 ∧ (restOf b).length ≤ k' ∧ seqs k b = (pcOf b, restOf b) :: seqs k' (restOf b) := by
  have h9 := h.1
  have hr := restOf_len h
  obtain ⟨k', rfl⟩ : ∃ k', k = k' + 1 := ⟨k - 1, by omega⟩
  exact ⟨k', rfl, by omega, by simp [seqs, h]⟩
theorem seqs_long {k : Nat} {b : List Int} (h : LongB b) (hk : b.length ≤ k) : seqs k b = [(pcLong b, [])] := by
  have h9 := h.1
  obtain ⟨k', rfl⟩ : ∃ k', k = k' + 1 := ⟨k - 1, by omega⟩
  have hg : ¬GoesB b := fun g => by have := g.2.1; have := h.2; omega
  simp [seqs, h, hg]
theorem seqs_nil_of {k : Nat} {b : List Int} (hk : b.length ≤ k) (h : seqs k b = []) : ¬GoesB b ∧ ¬LongB b := by
  refine ⟨fun g => ?_, fun g => ?_⟩
  · obtain ⟨k', _, _, e⟩ := seqs_go g hk
    rw [h] at e; cases e
  · rw [seqs_long g hk] at h; cases h
/-- What was left when these were gone over. -/
def lastR (b : List Int) (xs : List (Pc × List Int)) : List Int := (xs.getLast?.map (·.2)).getD b
theorem lastR_nil (b : List Int) : lastR b [] = b := rfl
theorem lastR_snoc (b : List Int) (xs : List (Pc × List Int)) (x : Pc × List Int) : lastR b (xs ++ [x]) = x.2 := by simp [lastR]
theorem lastR_cons (b : List Int) (x : Pc × List Int) (xs : List (Pc × List Int)) : lastR b (x :: xs) = lastR x.2 xs := by
  cases xs with
  | nil => rfl
  | cons y r =>
    obtain ⟨z, hz⟩ : ∃ z, (y :: r).getLast? = some z := ⟨_, List.getLast?_eq_some_getLast (by simp)⟩
    unfold lastR
    rw [List.getLast?_cons_cons, hz]
    rfl
theorem cut_all : ∀ (k : Nat) (b : List Int), b.length ≤ k → (∀ x ∈ seqs k b, x.1.L ≤ 16384) → cutK k b = ((seqs k b).map (·.1), lastR b (seqs k b), false)
  | 0, b, hk, _ => by simp [seqs, cutK, lastR]
  | k + 1, b, hk, hx => by
    by_cases hg : GoesB b
    · have hr := restOf_len hg
      have ih := cut_all k (restOf b) (by omega) (fun x h => hx x (by simp [seqs, hg, h]))
      simp only [seqs, cutK, if_pos hg, ih, List.map_cons, lastR_cons]
    · by_cases hl : LongB b
      · have := hx (pcLong b, []) (by simp [seqs, hg, hl])
        simp only [pcLong] at this
        have := hl.2
        omega
      · simp [seqs, cutK, hg, hl, lastR]
theorem cut_break : ∀ (k : Nat) (b : List Int) (pre : List (Pc × List Int)) (x : Pc × List Int) (r : List (Pc × List Int)), b.length ≤ k → seqs k b = pre ++ x :: r → (∀ y ∈ pre, y.1.L ≤ 16384) → 16384 < x.1.L → cutK k b = (pre.map (·.1), [], true)
  | 0, b, pre, x, r, hk, h, _, _ => by cases pre <;> simp [seqs] at h
  | k + 1, b, pre, x, r, hk, h, hp, hx => by
    by_cases hg : GoesB b
    · have hr := restOf_len hg
      simp only [seqs, if_pos hg] at h
      cases pre with
      | nil =>
        simp at h
        have := hg.2.1
        rw [← h.1] at hx
        simp only [pcOf] at hx
        omega
      | cons y pre =>
        simp at h
        have ih := cut_break k (restOf b) pre x r (by omega) h.2 (fun y hy => hp y (by simp [hy])) hx
        simp only [cutK, if_pos hg, ih, List.map_cons, ← h.1]
    · by_cases hl : LongB b
      · simp only [seqs, if_neg hg, if_pos hl] at h
        cases pre with
        | nil => simp [cutK, hg, hl]
        | cons y pre => simp at h
      · simp [seqs, hg, hl] at h
def cutC (b : List Int) : List Pc × List Int × Bool := cutK b.length b
theorem pcOf_ok {b : List Int} (h : Bs b) : PcOk (pcOf b) := by
  have h1 := hL_bd h
  refine ⟨h1, ?_, ?_, ?_, (h.drop _).take _⟩
  · show 0 ≤ hK b ∧ hK b ≤ 255
    unfold hK
    split
    · omega
    · exact h.get 3
  · show 0 ≤ hF b ∧ hF b ≤ 255
    unfold hF
    split
    · omega
    · exact h.get 4
  · show 0 ≤ hS b ∧ hS b < 2147483648
    unfold hS streamO
    split
    · omega
    · omega
theorem pcLong_ok {b : List Int} (h : Bs b) : PcOk (pcLong b) := ⟨(pcOf_ok h).L, (pcOf_ok h).k, (pcOf_ok h).f, (pcOf_ok h).s, Bs.nil⟩
end Go.Proofs.Ythcnfalfhdeflaa
