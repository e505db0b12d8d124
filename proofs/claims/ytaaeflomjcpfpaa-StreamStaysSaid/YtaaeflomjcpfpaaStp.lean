/- StreamStays: whatever is done a stream that may be stays one: plain facts. -/
import Derived.Test.YtaaeflomjcpfpaaSn
namespace Go.Proofs.Ytaaeflomjcpfpaa
open Go.RowKit
set_option linter.unusedVariables false

/-- What a deed keeps. -/
structure Keep (s t : Str) : Prop where
  r : RightS t
  ok : StrOk t
  id : t.id = s.id
  le : t.rc + t.ow ≤ s.rc + s.ow
theorem Keep.refl {s : Str} (r : RightS s) (ok : StrOk s) : Keep s s := ⟨r, ok, rfl, by omega⟩
theorem over_keep {s : Str} (r : RightS s) (ok : StrOk s) (x : Int) (h0 : 0 ≤ x) : Keep s (overS s x) ∧ (overS s x).rc = s.rc ∧ (overS s x).ow = s.ow := by
  unfold overS
  by_cases h : RightS s ∧ x < 7 ∧ x ≠ 0
  · rw [if_pos h]
    obtain ⟨r1, r2, r3, r4, r5, r6, r7, r8, r9⟩ := r
    obtain ⟨_, h1, h2⟩ := h
    cases a : ansB x
    · simp only [Bool.false_eq_true, if_false]
      exact ⟨⟨⟨r1, by simp only; omega, r3, r4, r5, by simp, r7, by simp, .inr ⟨rfl, rfl⟩⟩, ⟨ok.id, by simp only; omega, ok.sd, ok.rc, ok.ow, ok.ur, by simp, Bs.nil⟩, rfl, by simp only; omega⟩, by simp, by simp⟩
    · simp only [if_true]
      exact ⟨⟨⟨r1, by simp only; omega, r3, r4, r5, r6, r7, r8, .inl (by simpa [ansB] using a)⟩, ⟨ok.id, by simp only; omega, ok.sd, ok.rc, ok.ow, ok.ur, ok.sl, ok.bs⟩, rfl, by simp only; omega⟩, by simp, by simp⟩
  · rw [if_neg h]
    exact ⟨Keep.refl r ok, rfl, rfl⟩
theorem data_keep {s : Str} (r : RightS s) (ok : StrOk s) (x : Int) (en : Bool) (hall : s.rc + s.ow ≤ 2147483647) :
    Keep s (dataS s x en) ∧ ((dataC s x en).take = true → (0 ≤ x ∧ x ≤ s.rc) ∧ (dataS s x en).rc = s.rc - x ∧ (dataS s x en).ow = s.ow + x) ∧ ((dataC s x en).take = false → (dataS s x en).rc = s.rc) := by
  have hc0 := comes_st0 (st := s.st) (kd := 0) (en := en) (by have := r.2.1.1; omega)
  unfold dataS dataC
  rw [if_pos r, if_pos r]
  generalize (comesF s.st 0 en) = C at *
  obtain ⟨cs, ct, cw, cc⟩ := C
  simp only at hc0 ⊢
  cases ct
  · simp only [Bool.false_eq_true, false_and, if_false]
    by_cases h : cw = false ∧ cc ≠ 0
    · rw [if_pos h]
      exact ⟨(over_keep r ok _ hc0).1, by simp, fun _ => (over_keep r ok _ hc0).2.1⟩
    · rw [if_neg h]
      exact ⟨Keep.refl r ok, by simp, fun _ => rfl⟩
  · simp only [true_and, if_true]
    by_cases h : 0 ≤ x ∧ x ≤ s.rc
    · have hw : (if s.ow + x ≤ 2147483647 then s.ow + x else 2147483647) = s.ow + x := if_pos (by omega)
      rw [hw]
      have hn : ¬¬(0 ≤ x ∧ x ≤ s.rc) := fun k => k h
      rw [if_pos h, if_neg hn]
      obtain ⟨r1, r2, r3, r4, r5, r6, r7, r8, r9⟩ := r
      have r' : RightS { s with rc := s.rc - x, ow := s.ow + x } := ⟨r1, r2, r3, by simp only; omega, by simp only; omega, r6, r7, r8, r9⟩
      have ok' : StrOk { s with rc := s.rc - x, ow := s.ow + x } := ⟨ok.id, ok.st, ok.sd, by simp only; omega, by simp only; omega, ok.ur, ok.sl, ok.bs⟩
      obtain ⟨k, k1, k2⟩ := over_keep r' ok' _ hc0
      exact ⟨⟨k.r, k.ok, k.id, by have := k.le; simp only at this; omega⟩, fun _ => ⟨h, k1, k2⟩, fun e => by cases e⟩
    · rw [if_neg h, if_pos h]
      obtain ⟨k, k1, _⟩ := over_keep r ok 5 (by omega)
      exact ⟨k, by simp, fun _ => k1⟩
theorem back_keep {s : Str} (r : RightS s) (ok : StrOk s) (hall : s.rc + s.ow ≤ 2147483647) :
    Keep s (backS s) ∧ (backS s).ow = 0 ∧ (backN s = 0 ∨ backN s = s.ow) ∧ (backS s).rc = s.rc + backN s ∧ 0 ≤ backN s ∧ backN s ≤ 2147483647 := by
  unfold backS backN
  obtain ⟨r1, r2, r3, r4, r5, r6, r7, r8, r9⟩ := r
  have r : RightS s := ⟨r1, r2, r3, r4, r5, r6, r7, r8, r9⟩
  rw [if_pos r]
  by_cases h : s.st = 1 ∨ s.st = 3
  · rw [if_pos hall, if_pos h, if_pos (show RightS s ∧ (s.st = 1 ∨ s.st = 3) from ⟨r, h⟩)]
    exact ⟨⟨⟨r1, r2, r3, by simp only; omega, by simp, r6, r7, r8, r9⟩, ⟨ok.id, ok.st, ok.sd, by simp only; omega, by simp, ok.ur, ok.sl, ok.bs⟩, rfl, by simp only; omega⟩, rfl, .inr rfl, rfl, r5.1, by omega⟩
  · rw [if_neg h, if_neg (fun k => h k.2)]
    exact ⟨⟨⟨r1, r2, r3, r4, by simp, r6, r7, r8, r9⟩, ⟨ok.id, ok.st, ok.sd, ok.rc, by simp, ok.ur, ok.sl, ok.bs⟩, rfl, by simp; omega⟩, rfl, .inl rfl, by simp, by omega, by omega⟩
theorem sd_keep {s : Str} (r : RightS s) (ok : StrOk s) (v : Int) (h : -2147483647 ≤ v ∧ v ≤ 2147483647) : Keep s { s with sd := v } := by
  obtain ⟨r1, r2, r3, r4, r5, r6, r7, r8, r9⟩ := r
  exact ⟨⟨r1, r2, h, r4, r5, r6, r7, r8, r9⟩, ⟨ok.id, ok.st, by simp only; omega, ok.rc, ok.ow, ok.ur, ok.sl, ok.bs⟩, rfl, by simp only; omega⟩
end Go.Proofs.Ytaaeflomjcpfpaa
