/- Arguments of the type api.Frame, opened whole. -/
import Derived.Test.YtnjnpnjjpodnnaaTYO
import Derived.Test.YtnjnpnjjpodnnaaTGa
import Derived.Deep.SlicePairs
namespace Go.Proofs.Ytnjnpnjjpodnnaa
open Go.RowKit Go.Deep Go.ChangeShapes Go.WideShapes
set_option maxRecDepth 20000

/-- The cell of a field of type []api.Pair, opened. -/
theorem openPrsC {H : Type} {enc : TypeId × Value → H} {W : World} {v : Value} {y : DataW H × List MemPlace} {fuel : Nat}
    (hf : DataW.trod enc Try.prog W 0 (fun _ => true) true fuel 26 [v] = some y) : ∃ A n c l, v = .slice A n c ∧ Prs W A n c l := by
  obtain ⟨d, p⟩ := y
  rcases open_slice_pairs Try.underlying26 Try.underlying55 (by kernel_rfl) rfl rfl (by kernel_rfl) (by kernel_rfl) hf with ⟨hcs, _⟩ | ⟨a, n, c, m, n', V0, V1, D0, D1, P0, P1, hcs, _, hl, hm, hmm, _, hx⟩
  · simp at hcs
    subst hcs
    exact ⟨none, 0, 0, [], rfl, Prs.nil W⟩
  · simp at hcs
    subst hcs
    have key : ∀ k, k < n → ∃ x y : Int, W.cell? (a.add (k * 2)) = some (.int .u16 x) ∧ W.cell? (a.add (k * 2 + 1)) = some (.int .u32 y) ∧ pOk x y := by
      intro k hk
      obtain ⟨c0, c1, t0, t1⟩ := hx k (by simp at hmm; omega)
      obtain ⟨x, e0, _, w0⟩ := DataW.trod_int Try.underlying53 t0
      obtain ⟨y, e1, _, w1⟩ := DataW.trod_int Try.underlying25 t1
      simp at e0 e1
      exact ⟨x, y, by rw [c0, e0], by rw [c1, e1], by simpa [Lit.wf, IntKind.min, IntKind.max, IntKind.signed, IntKind.bits] using w0, by simpa [Lit.wf, IntKind.min, IntKind.max, IntKind.signed, IntKind.bits] using w1⟩
    obtain ⟨L, hL, hk⟩ := choosePrs key
    refine ⟨some a, n, c, L, rfl, ⟨hL, hl, by simpa [maxLen] using hm, (fun e => by cases e), fun x hx => ?_, fun hn => ?_⟩⟩
    · obtain ⟨i, hi, rfl⟩ := List.mem_iff_getElem.1 hx
      have := (hk i (by omega)).2.2
      simpa [pid, pva, pOk, List.getElem?_eq_getElem hi] using this
    · obtain ⟨b, off, spot⟩ := a
      have hc := (hk 0 hn).1
      have hspot : spot = none := by simpa [Addr.add] using World.cell?_spot hc
      subst hspot
      obtain ⟨ob, hob, _⟩ := cells_of_cell hc
      refine ⟨b, off, rfl, by simpa [Addr.add] using (Array.getElem?_eq_some_iff.1 hob).1, fun k hkn => ?_⟩
      obtain ⟨g0, g1, _⟩ := hk k hkn
      rw [add_plain] at g0 g1
      exact ⟨g0, by simpa [Nat.add_assoc] using g1⟩

theorem openFm {H : Type} {enc : TypeId × Value → H} {W : World} {base : Nat} {v : Value} {d : DataW H} {p : List MemPlace}
    (h : DataW.Trod enc Try.prog W 0 (fun _ => true) true 30 v d p) (ho : Value.okWide Try.prog W .any base 30 v) :
    ∃ (f : Fm) (A : Option Addr) (n c : Nat) (P : Option Addr) (pn pc : Nat), v = .agg #[.int .u8 (f).kd, .int .u8 (f).fl, .int .i64 (f).st, .slice A n c, .int .i64 (f).pd, .int .i64 (f).la, .int .i64 (f).ic, .int .u32 (f).cd, .slice P pn pc, .bool (f).rk, .bool (f).al, .int .i64 (f).dp, .int .u8 (f).wt] ∧ FmOk f ∧ Byt W A n c f.da ∧ Prs W P pn pc f.prs := by
  obtain ⟨cs, rfl, hsz⟩ := okWide_struct Try.underlying30 ho
  obtain ⟨l⟩ := cs
  obtain ⟨fuel, hf⟩ := h
  obtain ⟨xs, n, _, hx, _, hlen, hg⟩ := DataW.trod_struct Try.underlying30 hf
  match l, hsz.trans (show Try.prog.cellsOf 30 = 13 by kernel_rfl) with
  | [c0, c1, c2, c3, c4, c5, c6, c7, c8, c9, c10, c11, c12], _ =>
    obtain ⟨y0, h0⟩ := frameAt hlen hg 0 _ rfl (t := 5) (m := 1) (o := 0) rfl rfl (by kernel_rfl)
    obtain ⟨y1, h1⟩ := frameAt hlen hg 1 _ rfl (t := 5) (m := 1) (o := 1) rfl rfl (by kernel_rfl)
    obtain ⟨y2, h2⟩ := frameAt hlen hg 2 _ rfl (t := 3) (m := 1) (o := 2) rfl rfl (by kernel_rfl)
    obtain ⟨y3, h3⟩ := frameAt hlen hg 3 _ rfl (t := 24) (m := 1) (o := 3) rfl rfl (by kernel_rfl)
    obtain ⟨y4, h4⟩ := frameAt hlen hg 4 _ rfl (t := 3) (m := 1) (o := 4) rfl rfl (by kernel_rfl)
    obtain ⟨y5, h5⟩ := frameAt hlen hg 5 _ rfl (t := 3) (m := 1) (o := 5) rfl rfl (by kernel_rfl)
    obtain ⟨y6, h6⟩ := frameAt hlen hg 6 _ rfl (t := 3) (m := 1) (o := 6) rfl rfl (by kernel_rfl)
    obtain ⟨y7, h7⟩ := frameAt hlen hg 7 _ rfl (t := 25) (m := 1) (o := 7) rfl rfl (by kernel_rfl)
    obtain ⟨y8, h8⟩ := frameAt hlen hg 8 _ rfl (t := 26) (m := 1) (o := 8) rfl rfl (by kernel_rfl)
    obtain ⟨y9, h9⟩ := frameAt hlen hg 9 _ rfl (t := 4) (m := 1) (o := 9) rfl rfl (by kernel_rfl)
    obtain ⟨y10, h10⟩ := frameAt hlen hg 10 _ rfl (t := 28) (m := 3) (o := 10) rfl rfl (by kernel_rfl)
    simp only [Value.cells, List.drop, List.take] at h0 h1 h2 h3 h4 h5 h6 h7 h8 h9 h10
    obtain ⟨a0, e0, _, w0⟩ := DataW.trod_int Try.underlying5 h0
    obtain ⟨a1, e1, _, w1⟩ := DataW.trod_int Try.underlying5 h1
    obtain ⟨a2, e2, _, w2⟩ := DataW.trod_int Try.underlying3 h2
    obtain ⟨B, m, dd, X, e3, hX⟩ := openBytC h3
    obtain ⟨a4, e4, _, w4⟩ := DataW.trod_int Try.underlying3 h4
    obtain ⟨a5, e5, _, w5⟩ := DataW.trod_int Try.underlying3 h5
    obtain ⟨a6, e6, _, w6⟩ := DataW.trod_int Try.underlying3 h6
    obtain ⟨a7, e7, _, w7⟩ := DataW.trod_int Try.underlying25 h7
    obtain ⟨Pa, Pn, Pc, L8, e8, hP⟩ := openPrsC h8
    obtain ⟨a9, e9, _⟩ := DataW.trod_bool Try.underlying4 h9
    obtain ⟨al, dp, wt, e10, e11, e12, w10, w11⟩ := openRankC h10
    simp only [List.cons.injEq, and_true] at e0 e1 e2 e4 e5 e6 e7 e9
    subst e0 e1 e2 e3 e4 e5 e6 e7 e8 e9 e10 e11 e12
    exact ⟨⟨a0, a1, a2, a4, a5, a6, a7, dp, wt, X, L8, a9, al⟩, B, m, dd, Pa, Pn, Pc, rfl, ⟨by simpa [Lit.wf, IntKind.min, IntKind.max, IntKind.signed, IntKind.bits] using w0, by simpa [Lit.wf, IntKind.min, IntKind.max, IntKind.signed, IntKind.bits] using w1, by simpa [Lit.wf, IntKind.min, IntKind.max, IntKind.signed, IntKind.bits] using w2, by simpa [Lit.wf, IntKind.min, IntKind.max, IntKind.signed, IntKind.bits] using w4, by simpa [Lit.wf, IntKind.min, IntKind.max, IntKind.signed, IntKind.bits] using w5, by simpa [Lit.wf, IntKind.min, IntKind.max, IntKind.signed, IntKind.bits] using w6, by simpa [Lit.wf, IntKind.min, IntKind.max, IntKind.signed, IntKind.bits] using w7, w10, w11, hX.bs⟩, hX, hP⟩
end Go.Proofs.Ytnjnpnjjpodnnaa
