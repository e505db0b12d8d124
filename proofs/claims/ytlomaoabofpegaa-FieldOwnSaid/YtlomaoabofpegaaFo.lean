/- Arguments of the types []api.Pair, api.Pair and api.Rank, opened. -/
import Derived.Test.YtlomaoabofpegaaO
import Derived.Test.YtlomaoabofpegaaPr
import Derived.Deep.SlicePairs
import Derived.Lib.SmallJoins
namespace Go.Proofs.Ytlomaoabofpegaa
open Go.RowKit Go.Deep Go.ChangeShapes Go.WideShapes

def pOk (x y : Int) : Prop := (0 ≤ x ∧ x ≤ 65535) ∧ (0 ≤ y ∧ y ≤ 4294967295)
theorem choosePrs {p : Nat → Int → Int → Prop} {c : Nat} (h : ∀ k, k < c → ∃ x y, p k x y) : ∃ L : List (Int × Int), L.length = c ∧ ∀ k, k < c → p k (pid L k) (pva L k) := by
  induction c with
  | zero => exact ⟨[], rfl, fun k hk => absurd hk (Nat.not_lt_zero _)⟩
  | succ c ih =>
    obtain ⟨L, hL, hk⟩ := ih fun k hk => h k (by omega)
    obtain ⟨x, y, hxy⟩ := h c (by omega)
    refine ⟨L ++ [(x, y)], by simp [hL], fun k hkc => ?_⟩
    by_cases e : k < c
    · rw [show pid (L ++ [(x, y)]) k = pid L k by simp [pid, List.getElem?_append_left (show k < L.length by omega)], show pva (L ++ [(x, y)]) k = pva L k by simp [pva, List.getElem?_append_left (show k < L.length by omega)]]
      exact hk k e
    · obtain rfl : k = c := by omega
      rw [show pid (L ++ [(x, y)]) k = x by simp [pid, ← hL], show pva (L ++ [(x, y)]) k = y by simp [pva, ← hL]]
      exact hxy

theorem openPairs {H : Type} {enc : TypeId × Value → H} {W : World} {base : Nat} {v : Value} {d : DataW H} {p : List MemPlace}
    (h : DataW.Trod enc Try.prog W 0 (fun _ => true) true 25 v d p) (ho : Value.okWide Try.prog W .any base 25 v) :
    ∃ A n c l, v = .slice A n c ∧ Prs W A n c l := by
  obtain ⟨A, n, c, rfl⟩ := okWide_slice Try.underlying25 ho
  obtain ⟨fuel, hf⟩ := h
  rcases open_slice_pairs Try.underlying25 Try.underlying47 (by kernel_rfl) rfl rfl (by kernel_rfl) (by kernel_rfl) hf with ⟨hcs, _⟩ | ⟨a, l, c', m, n', V0, V1, D0, D1, P0, P1, hcs, _, hl, hm, hmm, _, hx⟩
  · simp [Value.cells] at hcs
    obtain ⟨rfl, rfl, rfl⟩ := hcs
    exact ⟨none, 0, 0, [], rfl, Prs.nil W⟩
  · simp [Value.cells] at hcs
    obtain ⟨rfl, rfl, rfl⟩ := hcs
    have key : ∀ k, k < n → ∃ x y : Int, W.cell? (a.add (k * 2)) = some (.int .u16 x) ∧ W.cell? (a.add (k * 2 + 1)) = some (.int .u32 y) ∧ pOk x y := by
      intro k hk
      obtain ⟨c0, c1, t0, t1⟩ := hx k (by simp at hmm; omega)
      obtain ⟨x, e0, _, w0⟩ := DataW.trod_int Try.underlying26 t0
      obtain ⟨y, e1, _, w1⟩ := DataW.trod_int Try.underlying39 t1
      simp at e0 e1
      exact ⟨x, y, by rw [c0, e0], by rw [c1, e1], by simpa [Lit.wf, IntKind.min, IntKind.max, IntKind.signed, IntKind.bits] using w0, by simpa [Lit.wf, IntKind.min, IntKind.max, IntKind.signed, IntKind.bits] using w1⟩
    obtain ⟨L, hL, hk⟩ := choosePrs key
    refine ⟨some a, n, c, L, rfl, ⟨hL, hl, by simpa [maxLen] using hm, (fun e => by cases e), fun x hx => ?_, fun hn => ?_⟩⟩
    · obtain ⟨i, hi, rfl⟩ := List.mem_iff_getElem.1 hx
      have := (hk i (by omega)).2.2
      simpa [pid, pva, pOk, List.getElem?_eq_getElem hi] using this
    · obtain ⟨b, off, spot⟩ := a
      have hc := (hk 0 hn).1
      have hspot : spot = none := by simpa [Addr.add] using World.cell?_spot hc
      subst hspot
      obtain ⟨ob, hob, _⟩ := cells_of_cell hc
      refine ⟨b, off, rfl, by simpa [Addr.add] using (Array.getElem?_eq_some_iff.1 hob).1, fun k hkn => ?_⟩
      obtain ⟨g0, g1, _⟩ := hk k hkn
      rw [add_plain] at g0 g1
      exact ⟨g0, by simpa [Nat.add_assoc] using g1⟩

theorem openRank {H : Type} {enc : TypeId × Value → H} {W : World} {base : Nat} {v : Value} {d : DataW H} {p : List MemPlace}
    (h : DataW.Trod enc Try.prog W 0 (fun _ => true) true 24 v d p) (ho : Value.okWide Try.prog W .any base 24 v) :
    ∃ (al : Bool) (dp wt : Int), v = .agg #[.bool al, .int .i64 dp, .int .u8 wt] ∧ (-9223372036854775808 ≤ dp ∧ dp ≤ 9223372036854775807) ∧ (0 ≤ wt ∧ wt ≤ 255) := by
  obtain ⟨c0, c1, c2, y0, y1, y2, n, rfl, _, _, h0, h1, h2⟩ := Go.Joins.open_agg3 Try.underlying24 (by kernel_rfl) (by kernel_rfl) ho h
  obtain ⟨a0, e0, _⟩ := DataW.trod_bool Try.underlying4 h0
  obtain ⟨a1, e1, _, w1⟩ := DataW.trod_int Try.underlying3 h1
  obtain ⟨a2, e2, _, w2⟩ := DataW.trod_int Try.underlying5 h2
  simp only [List.cons.injEq, and_true] at e0 e1 e2
  subst e0 e1 e2
  exact ⟨a0, a1, a2, rfl, by simpa [Lit.wf, IntKind.min, IntKind.max, IntKind.signed, IntKind.bits] using w1, by simpa [Lit.wf, IntKind.min, IntKind.max, IntKind.signed, IntKind.bits] using w2⟩
end Go.Proofs.Ytlomaoabofpegaa
