/- An argument of type []int, opened. -/
import Derived.Test.YtbooojpohfdljaaParts
import Derived.Test.YtbooojpohfdljaaO
namespace Go.Proofs.Ytbooojpohfdljaa
open Go.RowKit Go.ChangeShapes Go.WideShapes

theorem openInts {H : Type} {enc : TypeId × Value → H} {W : World} {base : Nat} {v : Value} {d : DataW H} {p : List MemPlace}
    (h : DataW.Trod enc Try.prog W 0 (fun _ => true) true 42 v d p) (ho : Value.okWide Try.prog W .any base 42 v) :
    ∃ (C : Option Addr) (n c : Nat) (z : Nat → Int), v = .slice C n c ∧ Ints W C n c z := by
  obtain ⟨A, n, c, rfl⟩ := okWide_slice Try.underlying42 ho
  obtain ⟨fuel, hf⟩ := h
  rcases open_ints Try.underlying42 Try.underlying3 (by kernel_rfl) hf with ⟨hcs, _⟩ | ⟨a, len, cap, zs, hcs, _, hl, hm, hz, _, hcell, hwz⟩
  · simp [Value.cells] at hcs
    obtain ⟨rfl, rfl, rfl⟩ := hcs
    exact ⟨none, 0, 0, fun _ => 0, rfl, ⟨Nat.le_refl _, by decide, fun _ => by decide, fun h => absurd h (Nat.lt_irrefl _)⟩⟩
  · simp [Value.cells] at hcs
    obtain ⟨rfl, rfl, rfl⟩ := hcs
    have hz' : zs.length = c := by simpa using hz
    refine ⟨some a, n, c, fun i => zs.getD i 0, rfl, ⟨hl, by simpa [maxLen] using hm, fun i => ?_, fun hn => ?_⟩⟩
    · by_cases hi : i < zs.length
      · have := hwz (zs.getD i 0) (by rw [show zs.getD i 0 = zs[i] by simp [List.getD, hi]]; exact List.getElem_mem hi)
        simpa [Lit.wf, IntKind.min, IntKind.max, IntKind.signed, IntKind.bits] using this
      · rw [show zs.getD i 0 = 0 by simp [List.getD, List.getElem?_eq_none (Nat.le_of_not_lt hi)]]
        decide
    · obtain ⟨b, o, spot⟩ := a
      have h0 := hcell 0 (by omega)
      have hspot : spot = none := by simpa [Addr.add] using World.cell?_spot h0
      subst hspot
      obtain ⟨ob, hob, _⟩ := cells_of_cell h0
      refine ⟨b, o, rfl, by simpa [Addr.add] using (Array.getElem?_eq_some_iff.1 hob).1, fun i hi => ?_⟩
      have h1 := hcell i (by omega)
      rw [add_plain] at h1
      exact h1
end Go.Proofs.Ytbooojpohfdljaa
