/- Texts of the layers below, put together. -/
import Derived.Test.YtnjnpnjjpodnnaaRYB
import Derived.Test.YtnjnpnjjpodnnaaRYF
import Derived.Lib.SmallJoins
import Derived.Deep.SlicePairs
/- An argument of type api.Head, opened. -/

namespace Go.Proofs.Ytnjnpnjjpodnnaa
set_option maxRecDepth 20000
open Go.RowKit Go.ChangeShapes Go.WideShapes

theorem openHead {H : Type} {enc : TypeId × Value → H} {W : World} {base : Nat} {v : Value} {d : DataW H} {p : List MemPlace}
    (h : DataW.Trod enc Try.prog W 0 (fun _ => true) true 23 v d p) (ho : Value.okWide Try.prog W .any base 23 v) :
    ∃ L k f s : Int, v = .agg #[.int .i64 L, .int .u8 k, .int .u8 f, .int .i64 s] ∧ (-9223372036854775808 ≤ L ∧ L ≤ 9223372036854775807) ∧ (-9223372036854775808 ≤ s ∧ s ≤ 9223372036854775807) ∧ (0 ≤ k ∧ k ≤ 255) ∧ (0 ≤ f ∧ f ≤ 255) := by
  obtain ⟨c0, c1, c2, c3, y0, y1, y2, y3, n, rfl, _, _, h0, h1, h2, h3⟩ := Go.Joins.open_agg4 Try.underlying23 (by kernel_rfl) (by kernel_rfl) ho h
  obtain ⟨a0, e0, _, w0⟩ := DataW.trod_int Try.underlying3 h0
  obtain ⟨a1, e1, _, w1⟩ := DataW.trod_int Try.underlying5 h1
  obtain ⟨a2, e2, _, w2⟩ := DataW.trod_int Try.underlying5 h2
  obtain ⟨a3, e3, _, w3⟩ := DataW.trod_int Try.underlying3 h3
  simp only [List.cons.injEq, and_true] at e0 e1 e2 e3
  subst e0 e1 e2 e3
  exact ⟨a0, a1, a2, a3, rfl, by simpa [Lit.wf, IntKind.min, IntKind.max, IntKind.signed, IntKind.bits] using w0, by simpa [Lit.wf, IntKind.min, IntKind.max, IntKind.signed, IntKind.bits] using w3, by simpa [Lit.wf, IntKind.min, IntKind.max, IntKind.signed, IntKind.bits] using w1, by simpa [Lit.wf, IntKind.min, IntKind.max, IntKind.signed, IntKind.bits] using w2⟩
end Go.Proofs.Ytnjnpnjjpodnnaa
/- Arguments of the types []api.Pair, api.Pair and api.Rank, opened. -/

namespace Go.Proofs.Ytnjnpnjjpodnnaa
set_option maxRecDepth 20000
open Go.RowKit Go.Deep Go.ChangeShapes Go.WideShapes

end Go.Proofs.Ytnjnpnjjpodnnaa
/- Arguments of the types api.Block and api.Frame, opened. -/

namespace Go.Proofs.Ytnjnpnjjpodnnaa
set_option maxRecDepth 20000
open Go.RowKit Go.ChangeShapes Go.WideShapes

end Go.Proofs.Ytnjnpnjjpodnnaa
