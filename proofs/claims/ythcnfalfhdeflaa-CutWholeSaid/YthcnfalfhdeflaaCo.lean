/- Arguments of the type api.Reader, opened. -/
import Derived.Test.YthcnfalfhdeflaaO
import Derived.Lib.SmallJoins
namespace Go.Proofs.Ythcnfalfhdeflaa
open Go.RowKit Go.ChangeShapes Go.WideShapes

/-- The cell of a field of type []byte, opened. -/
theorem openBytC {H : Type} {enc : TypeId × Value → H} {W : World} {v : Value} {y : DataW H × List MemPlace} {fuel : Nat}
    (hf : DataW.trod enc Try.prog W 0 (fun _ => true) true fuel 22 [v] = some y) : ∃ A n c l, v = .slice A n c ∧ Byt W A n c l := by
  obtain ⟨d, p⟩ := y
  rcases open_ints Try.underlying22 Try.underlying5 (by kernel_rfl) hf with ⟨hcs, _⟩ | ⟨a, len, cap, zs, hcs, _, hl, hm, hz, _, hcell, hwz⟩
  · simp at hcs
    subst hcs
    exact ⟨none, 0, 0, [], rfl, Byt.nil W⟩
  · simp at hcs
    subst hcs
    have hz' : zs.length = cap := by simpa using hz
    refine ⟨some a, len, cap, zs.take len, rfl, ⟨by rw [List.length_take]; omega, hl, by simpa [maxLen] using hm, (fun e => by cases e), fun x hx => ?_, fun hn => ?_⟩⟩
    · have := hwz x (List.mem_of_mem_take hx)
      simpa [Lit.wf, IntKind.min, IntKind.max, IntKind.signed, IntKind.bits] using this
    · obtain ⟨b, o, spot⟩ := a
      have h0 := hcell 0 (by omega)
      have hspot : spot = none := by simpa [Addr.add] using World.cell?_spot h0
      subst hspot
      obtain ⟨ob, hob, _⟩ := cells_of_cell h0
      refine ⟨b, o, rfl, by simpa [Addr.add] using (Array.getElem?_eq_some_iff.1 hob).1, fun i hi => ?_⟩
      have h1 := hcell i (by omega)
      rw [add_plain] at h1
      rw [h1, List.getElem?_take, if_pos hi]
      simp [List.getD]

theorem openReader {H : Type} {enc : TypeId × Value → H} {W : World} {base : Nat} {v : Value} {d : DataW H} {p : List MemPlace}
    (h : DataW.Trod enc Try.prog W 0 (fun _ => true) true 24 v d p) (ho : Value.okWide Try.prog W .any base 24 v) :
    ∃ (k : Int) (A : Option Addr) (n c : Nat) (D : List Int), v = .agg #[.int .i64 k, .slice A n c] ∧ (-9223372036854775808 ≤ k ∧ k ≤ 9223372036854775807) ∧ Byt W A n c D := by
  obtain ⟨c0, c1, y0, y1, n, rfl, _, _, h0, h1⟩ := Go.Joins.open_agg2 Try.underlying24 (by kernel_rfl) (by kernel_rfl) ho h
  obtain ⟨a0, e0, _, w0⟩ := DataW.trod_int Try.underlying3 h0
  obtain ⟨A, n, c, D, e1, hD⟩ := openBytC h1
  simp only [List.cons.injEq, and_true] at e0 e1
  subst e0 e1
  exact ⟨a0, A, n, c, D, rfl, by simpa [Lit.wf, IntKind.min, IntKind.max, IntKind.signed, IntKind.bits] using w0, hD⟩
end Go.Proofs.Ythcnfalfhdeflaa
