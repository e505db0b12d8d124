/- What is taken is put in as many bytes, or fewer; how many bytes a number has: plain laws. -/
import Derived.Test.YtelmcjiamciklaaPq
namespace Go.Proofs.Ytelmcjiamciklaa

theorem lp_only (r : List Int) (n : Int) : ∀ (s : List Int) (j v : Nat), (∀ x ∈ s, 0 ≤ x ∧ x ≤ 255) → j ≤ 5 → lp s j v = (n, r, 0) →
    ∃ (c : List Int) (t : Nat), s = c ++ r ∧ 1 ≤ c.length ∧ j + c.length ≤ 5 ∧ n = ((v + t * 2 ^ (7 * j) : Nat) : Int) ∧ n < 2147483648 ∧ (septs t).length ≤ c.length := by
  intro s
  induction s with
  | nil => intro j v _ _ h; simp [lp] at h
  | cons x s ih =>
    intro j v hs hj h
    obtain ⟨hx0, hx1⟩ := hs x (by simp)
    obtain ⟨y, rfl⟩ := Int.eq_ofNat_of_zero_le hx0
    unfold lp at h
    have e1 : (y : Int) % 128 = ((y % 128 : Nat) : Int) := by omega
    rw [e1, ← Int.natCast_mul, ← Int.natCast_add] at h
    by_cases hb : 5 ≤ j ∨ 2147483648 ≤ ((v + y % 128 * 2 ^ (7 * j) : Nat) : Int)
    · rw [if_pos hb] at h
      simp at h
    · rw [if_neg hb] at h
      by_cases hy : y < 128
      · rw [if_pos (by omega)] at h
        simp only [Prod.mk.injEq] at h
        obtain ⟨h1, h2, _⟩ := h
        subst h2
        refine ⟨[(y : Int)], y % 128, rfl, by simp, by simp; omega, h1.symm, by omega, by rw [septs_lt (by omega)]; simp⟩
      · rw [if_neg (by omega)] at h
        obtain ⟨c, t, hc, h1, h2, h3, h4, h5⟩ := ih (j + 1) _ (fun z hz => hs z (by simp [hz])) (by omega) h
        refine ⟨(y : Int) :: c, y % 128 + t * 128, by rw [hc]; rfl, by simp, by simp; omega, ?_, h4, ?_⟩
        · rw [h3, p7]
          congr 1
          rw [Nat.add_mul, Nat.mul_assoc, Nat.add_assoc]
        · by_cases ht : y % 128 + t * 128 < 128
          · rw [septs_lt ht]; simp
          · rw [septs_ge ht, show (y % 128 + t * 128) / 128 = t by omega]
            simp; omega

theorem lp_err (n : Int) (r : List Int) (e : Int) : ∀ (s : List Int) (j : Nat) (v : Int), lp s j v = (n, r, e) → e = 0 ∨ (n = 0 ∧ r = [] ∧ (e = 10 ∨ e = 60)) := by
  intro s
  induction s with
  | nil => intro j v h; simp [lp] at h; right; obtain ⟨rfl, rfl, rfl⟩ := h; simp
  | cons x s ih =>
    intro j v h
    unfold lp at h
    split at h
    · simp only [Prod.mk.injEq] at h; right; obtain ⟨rfl, rfl, rfl⟩ := h; simp
    · split at h
      · simp only [Prod.mk.injEq] at h; left; exact h.2.2.symm
      · exact ih _ _ h

theorem take_err {l : List Int} {b n e : Int} {r : List Int} (h : takeR l b = (n, r, e)) (he : e ≠ 0) : n = 0 ∧ r = [] ∧ (¬(1 ≤ b ∧ b ≤ 8) ∧ e = 2 ∨ (1 ≤ b ∧ b ≤ 8) ∧ (e = 10 ∨ e = 60 ∧ l ≠ [])) := by
  unfold takeR at h
  by_cases hb : 1 ≤ b ∧ b ≤ 8
  · rw [if_pos hb] at h
    cases l with
    | nil =>
      simp only [Prod.mk.injEq] at h
      obtain ⟨rfl, rfl, rfl⟩ := h
      exact ⟨rfl, rfl, .inr ⟨hb, .inl rfl⟩⟩
    | cons x s =>
      simp only at h
      split at h
      · simp only [Prod.mk.injEq] at h
        exact absurd h.2.2.symm he
      · rcases lp_err n r e s 0 _ h with h0 | ⟨rfl, rfl, h1⟩
        · exact absurd h0 he
        · exact ⟨rfl, rfl, .inr ⟨hb, h1.imp id fun h2 => ⟨h2, by simp⟩⟩⟩
  · rw [if_neg hb] at h
    simp only [Prod.mk.injEq] at h
    obtain ⟨rfl, rfl, rfl⟩ := h
    exact ⟨rfl, rfl, .inl ⟨hb, rfl⟩⟩

theorem take_only {l : List Int} {b n : Int} {r : List Int} (hl : ∀ x ∈ l, 0 ≤ x ∧ x ≤ 255) (h : takeR l b = (n, r, 0)) :
    1 ≤ b ∧ b ≤ 8 ∧ 0 ≤ n ∧ n ≤ 2147483647 ∧ ∃ c : List Int, l = c ++ r ∧ 1 ≤ c.length ∧ c.length ≤ 6 ∧ (putR n b 0).length ≤ c.length := by
  unfold takeR at h
  by_cases hb : 1 ≤ b ∧ b ≤ 8
  · rw [if_pos hb] at h
    obtain ⟨k, rfl⟩ := toNat_lit (show 0 ≤ b by omega)
    have hp1 := pow_ge (k := k) (by omega)
    have hp2 : 2 ^ k ≤ 2 ^ 8 := Nat.pow_le_pow_right (by decide) (by omega)
    simp only [Int.toNat_natCast] at h
    cases l with
    | nil => simp at h
    | cons x s =>
      simp only at h
      have hm1 := Int.emod_nonneg x (show ((2 ^ k : Nat) : Int) ≠ 0 by omega)
      have hm2 := Int.emod_lt_of_pos x (show (0 : Int) < ((2 ^ k : Nat) : Int) by omega)
      have eP : ∀ y : Nat, y ≤ 2147483647 → putR y k 0 = putL y k 0 := fun y hy => by
        have ok : okNum y k = true := decide_eq_true (by omega)
        unfold putR; rw [if_pos ok]; simp
      split at h
      · rename_i hlt
        simp only [Prod.mk.injEq] at h
        obtain ⟨rfl, rfl, _⟩ := h
        obtain ⟨y, hy⟩ := toNat_lit hm1
        rw [hy] at hlt hm2 hm1 ⊢
        refine ⟨hb.1, hb.2, hm1, by omega, [x], rfl, by simp, by simp, ?_⟩
        rw [eP y (by omega)]
        unfold putL
        rw [if_pos (by omega)]
        simp
      · rename_i hge
        have he : x % ((2 ^ k : Nat) : Int) = ((2 ^ k - 1 : Nat) : Int) := by omega
        rw [he] at h
        obtain ⟨c, t, hc, h1, h2, h3, h4, h5⟩ := lp_only r n s 0 (2 ^ k - 1) (fun z hz => hl z (by simp [hz])) (by omega) h
        subst h3
        simp only [Nat.mul_zero, Nat.pow_zero, Nat.mul_one] at h4 ⊢
        refine ⟨hb.1, hb.2, by omega, by omega, x :: c, by rw [hc]; rfl, by simp, by simp; omega, ?_⟩
        rw [eP _ (by omega)]
        unfold putL
        rw [if_neg (by omega), show 2 ^ k - 1 + t - (2 ^ k - 1) = t by omega]
        simp; omega
  · rw [if_neg hb] at h
    simp at h

theorem septs_mono : ∀ (t s : Nat), s ≤ t → (septs s).length ≤ (septs t).length := by
  intro t
  induction t using Nat.strongRecOn with
  | _ t ih =>
    intro s hs
    by_cases h : s < 128
    · rw [septs_lt h]
      have := septs_pos t
      simp; omega
    · rw [septs_ge h, septs_ge (by omega : ¬ t < 128)]
      have := ih (t / 128) (by omega) (s / 128) (by omega)
      simp; omega
end Go.Proofs.Ytelmcjiamciklaa
