/- An argument of type []byte, opened. -/
import Derived.Test.YthcnfalfhdeflaaR
import Derived.ProofKit
namespace Go.Proofs.Ythcnfalfhdeflaa
open Go.RowKit Go.ChangeShapes Go.WideShapes

theorem openByt {H : Type} {enc : TypeId × Value → H} {W : World} {base : Nat} {v : Value} {d : DataW H} {p : List MemPlace}
    (h : DataW.Trod enc Try.prog W 0 (fun _ => true) true 22 v d p) (ho : Value.okWide Try.prog W .any base 22 v) :
    ∃ A n c l, v = .slice A n c ∧ Byt W A n c l := by
  obtain ⟨A, n, c, rfl⟩ := okWide_slice Try.underlying22 ho
  obtain ⟨fuel, hf⟩ := h
  rcases open_ints Try.underlying22 Try.underlying5 (by kernel_rfl) hf with ⟨hcs, _⟩ | ⟨a, len, cap, zs, hcs, _, hl, hm, hz, _, hcell, hwz⟩
  · simp [Value.cells] at hcs
    obtain ⟨rfl, rfl, rfl⟩ := hcs
    exact ⟨none, 0, 0, [], rfl, Byt.nil W⟩
  · simp [Value.cells] at hcs
    obtain ⟨rfl, rfl, rfl⟩ := hcs
    have hz' : zs.length = c := by simpa using hz
    refine ⟨some a, n, c, zs.take n, rfl, ⟨by rw [List.length_take]; omega, hl, by simpa [maxLen] using hm, (fun e => by cases e), fun x hx => ?_, fun hn => ?_⟩⟩
    · have := hwz x (List.mem_of_mem_take hx)
      simpa [Lit.wf, IntKind.min, IntKind.max, IntKind.signed, IntKind.bits] using this
    · obtain ⟨b, o, spot⟩ := a
      have h0 := hcell 0 (by omega)
      have hspot : spot = none := by simpa [Addr.add] using World.cell?_spot h0
      subst hspot
      obtain ⟨ob, hob, _⟩ := cells_of_cell h0
      refine ⟨b, o, rfl, by simpa [Addr.add] using (Array.getElem?_eq_some_iff.1 hob).1, fun i hi => ?_⟩
      have h1 := hcell i (by omega)
      rw [add_plain] at h1
      rw [h1, List.getElem?_take, if_pos hi]
      simp [List.getD]
end Go.Proofs.Ythcnfalfhdeflaa
