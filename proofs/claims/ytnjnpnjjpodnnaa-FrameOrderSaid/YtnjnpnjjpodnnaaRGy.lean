/- What is parsed may be put, and is parsed as it was: the plain law of frames. -/
import Derived.Test.YtnjnpnjjpodnnaaRGt0
namespace Go.Proofs.Ytnjnpnjjpodnnaa
open Go.RowKit Go.Shelf
set_option linter.unusedVariables false

/-- What may be put is parsed as it was. -/
theorem right_parse {f : Fm} (h : rightS f = true) : parseS f.kd f.fl f.st (payS f) = (f, ⟨false, 0, 0⟩) ∧ (payS f).length ≤ 16384 ∧ okH (payS f).length f.st = true := by
  unfold rightS at h
  obtain ⟨h1, h2⟩ := of_decide_eq_true h
  have h3 := parse_fine _ _ _ _ h1
  have e : parseS f.kd f.fl f.st (payS f) = (f, ⟨false, 0, 0⟩) := Prod.ext h2.symm h3
  have hl : okH 0 f.st = true ∧ (payS f).length ≤ 16384 := by
    rcases parse_ways f.kd f.fl f.st (payS f) with ⟨c, hc, e'⟩ | ⟨_, e'⟩ | ⟨g, hok, h1, _⟩
    · rw [e'] at h3; simp only [Flt.mk.injEq] at h3; exact absurd h3.2.2 hc
    · rw [e'] at h3; simp at h3
    · exact ⟨hok, h1⟩
  refine ⟨e, hl.2, ?_⟩
  have h4 := of_decide_eq_true (show decide _ = true from hl.1)
  exact decide_eq_true (by omega)
end Go.Proofs.Ytnjnpnjjpodnnaa
