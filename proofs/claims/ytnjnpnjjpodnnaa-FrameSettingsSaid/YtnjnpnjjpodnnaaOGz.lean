/- Frames: plain facts for the statements. -/
import Derived.Test.YtnjnpnjjpodnnaaOGy
namespace Go.Proofs.Ytnjnpnjjpodnnaa
open Go.RowKit Go.Shelf
set_option linter.unusedVariables false
set_option linter.unusedSimpArgs false

theorem firstS_ne (l : List (Int × Int)) (h : firstS l ≠ 0) : firstS l = 1 ∨ firstS l = 3 := by
  induction l with
  | nil => exact absurd rfl h
  | cons p r ih =>
    unfold firstS at h ⊢
    by_cases h1 : setS p ≠ 0
    · rw [if_pos h1]
      unfold setS at h1 ⊢
      repeat' split at h1
      all_goals simp_all
    · rw [if_neg h1] at h ⊢
      exact ih h
theorem valS_whole (f : Fm) (h : (valS f).wh = true) : ∃ c, c ≠ 0 ∧ valS f = ⟨true, 0, c⟩ := by
  unfold valS at h ⊢
  by_cases h1 : firstS f.prs ≠ 0
  · rw [if_pos h1]
    exact ⟨_, h1, rfl⟩
  rw [if_neg h1] at h ⊢
  by_cases h2 : f.kd = 8 ∧ f.ic = 0
  · rw [if_pos h2] at h ⊢
    have h3 := of_decide_eq_true h
    exact ⟨1, by decide, by rw [h3]; rfl⟩
  rw [if_neg h2] at h ⊢
  by_cases h3 : f.kd = 16 ∧ f.la = 0
  · rw [if_pos h3] at h ⊢
    exact ⟨1, by decide, rfl⟩
  rw [if_neg h3] at h ⊢
  by_cases h4 : f.rk = true ∧ f.dp = f.st
  · rw [if_pos h4] at h
    simp at h
  rw [if_neg h4] at h
  simp at h
theorem valS_part (f : Fm) (h : (valS f).wh = false) (hc : (valS f).cd ≠ 0) : valS f = ⟨false, f.st, 1⟩ ∧ (f.kd = 8 ∨ f.rk = true) := by
  unfold valS at h hc ⊢
  by_cases h1 : firstS f.prs ≠ 0
  · rw [if_pos h1] at h
    simp at h
  rw [if_neg h1] at h hc ⊢
  by_cases h2 : f.kd = 8 ∧ f.ic = 0
  · rw [if_pos h2] at h ⊢
    exact ⟨by rw [show decide (f.st = 0) = false from h], .inl h2.1⟩
  rw [if_neg h2] at h hc ⊢
  by_cases h3 : f.kd = 16 ∧ f.la = 0
  · rw [if_pos h3] at h
    simp at h
  rw [if_neg h3] at h hc ⊢
  by_cases h4 : f.rk = true ∧ f.dp = f.st
  · rw [if_pos h4]
    exact ⟨rfl, .inr h4.1⟩
  rw [if_neg h4] at hc
  simp at hc
theorem readS_id {kd fl st : Int} {b : List Int} {f : Fm} (h : readS kd fl st b = some f) : f.kd = kd ∧ f.fl = fl ∧ f.st = st ∧ (f.rk = true → kd = 2 ∨ kd = 1) := by
  unfold readS at h
  split at h
  · simp only [Option.map_eq_some_iff] at h
    obtain ⟨x, hx, rfl⟩ := h
    rename_i e
    exact ⟨e.symm ▸ rfl, rfl, rfl, fun k => by simp [fm0] at k⟩
  split at h
  · simp only [Option.bind_eq_some_iff] at h
    obtain ⟨x, hx, h⟩ := h
    rename_i e
    split at h
    · split at h
      · cases h; exact ⟨e.symm ▸ rfl, rfl, rfl, fun _ => .inr e⟩
      · cases h
    · cases h; exact ⟨e.symm ▸ rfl, rfl, rfl, fun k => by simp [fm0] at k⟩
  split at h
  · rename_i e
    cases h; exact ⟨e.symm ▸ rfl, rfl, rfl, fun _ => .inl e⟩
  split at h
  · cases h; exact ⟨rfl, rfl, rfl, fun k => by simp [fm0] at k⟩
  split at h
  · cases h; exact ⟨rfl, rfl, rfl, fun k => by simp [fm0] at k⟩
  split at h
  · cases h; exact ⟨rfl, rfl, rfl, fun k => by simp [fm0] at k⟩
  split at h
  · cases h; exact ⟨rfl, rfl, rfl, fun k => by simp [fm0] at k⟩
  split at h
  · cases h; exact ⟨rfl, rfl, rfl, fun k => by simp [fm0] at k⟩
  · cases h; exact ⟨rfl, rfl, rfl, fun k => by simp [fm0] at k⟩
/-- The three ways of what is parsed. -/
theorem parse_three (kd fl st : Int) (b : List Int) : (∃ c, c ≠ 0 ∧ parseS kd fl st b = (Fm0, ⟨true, 0, c⟩)) ∨
    (∃ r c, c ≠ 0 ∧ parseS kd fl st b = (r, ⟨false, st, c⟩) ∧ r.kd = kd ∧ r.st = st ∧ (kd = 2 ∨ kd = 1 ∨ kd = 8)) ∨
    (∃ r, parseS kd fl st b = (r, ⟨false, 0, 0⟩) ∧ okH 0 st = true ∧ b.length ≤ 16384 ∧ longOk kd fl b.length = true ∧ readS kd fl st b = some r) := by
  rcases parse_ways kd fl st b with ⟨c, hc, e⟩ | ⟨hk, e⟩ | ⟨g, hok, h1, h2, h3, h4, ⟨hw, e⟩ | ⟨hw, e⟩⟩
  · exact .inl ⟨c, hc, e⟩
  · exact .inr (.inl ⟨_, 6, by decide, e, rfl, rfl, .inl hk⟩)
  · obtain ⟨c, hc, hv⟩ := valS_whole g hw
    exact .inl ⟨c, hc, by rw [e, hv]⟩
  · obtain ⟨i1, i2, i3, i4⟩ := readS_id h4
    by_cases hc : (valS g).cd = 0
    · exact .inr (.inr ⟨g, by rw [e, valS_fine g hc], hok, h1, h3, h4⟩)
    · obtain ⟨hv, hk⟩ := valS_part g hw hc
      refine .inr (.inl ⟨g, 1, by decide, by rw [e, hv, i3], i1, i3, ?_⟩)
      rcases hk with hk | hk
      · exact .inr (.inr (by rw [← i1, hk]))
      · rcases i4 hk with h | h
        · exact .inl h
        · exact .inr (.inl h)
/-- The bytes of a frame that may be, taken. -/
theorem put_taken {f : Fm} (h : rightS f = true) (hk : FmOk f) : hL (putS f) = (payS f).length ∧ hK (putS f) = f.kd ∧ hF (putS f) = f.fl ∧ hS (putS f) = f.st ∧ wP (putS f) = payS f ∧ wR (putS f) = [] ∧ wE (putS f) = 0 ∧ (putS f).length = (payS f).length + 9 := by
  obtain ⟨_, hl, ho⟩ := right_parse h
  have e : putS f = bigE 3 (payS f).length ++ [f.kd, f.fl] ++ bigE 4 f.st.toNat ++ payS f := by
    unfold putS putH
    rw [if_pos h, if_pos ho]
    simp
  have ho' := of_decide_eq_true (show decide _ = true from ho)
  have hs : f.st.toNat < 2147483648 := by omega
  obtain ⟨a1, a2, a3, a4, a5, a6⟩ := head_back (payS f).length f.st.toNat f.kd f.fl (payS f) (by omega) hs
  have hlen : (putS f).length = (payS f).length + 9 := by rw [e]; simp [bigE_len]; omega
  have hw : wOk (putS f) = true := by
    unfold wOk
    rw [e, a1, a5, ← e]
    exact decide_eq_true ⟨by omega, by omega⟩
  refine ⟨by rw [e, a1], by rw [e, a2], by rw [e, a3], by rw [e, a4]; omega, ?_, ?_, ?_, hlen⟩
  · unfold wP
    rw [if_pos hw, e, a5, a1]
    simp
  · unfold wR
    rw [if_pos hw, e, a5, a1]
    simp
  · unfold wE
    rw [if_pos hw]
end Go.Proofs.Ytnjnpnjjpodnnaa
