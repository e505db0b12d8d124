/- Texts of the layers below, put together. -/
import Derived.Test.YtnjnpnjjpodnnaaOYB
import Derived.Test.YtnjnpnjjpodnnaaOYF
import Derived.Lib.SmallJoins
import Derived.Deep.SlicePairs
/- An argument of type api.Head, opened. -/

namespace Go.Proofs.Ytnjnpnjjpodnnaa
set_option maxRecDepth 20000
open Go.RowKit Go.ChangeShapes Go.WideShapes

theorem openHead {H : Type} {enc : TypeId × Value → H} {W : World} {base : Nat} {v : Value} {d : DataW H} {p : List MemPlace}
    (h : DataW.Trod enc Try.prog W 0 (fun _ => true) true 23 v d p) (ho : Value.okWide Try.prog W .any base 23 v) :
    ∃ L k f s : Int, v = .agg #[.int .i64 L, .int .u8 k, .int .u8 f, .int .i64 s] ∧ (-9223372036854775808 ≤ L ∧ L ≤ 9223372036854775807) ∧ (-9223372036854775808 ≤ s ∧ s ≤ 9223372036854775807) ∧ (0 ≤ k ∧ k ≤ 255) ∧ (0 ≤ f ∧ f ≤ 255) := by
  obtain ⟨c0, c1, c2, c3, y0, y1, y2, y3, n, rfl, _, _, h0, h1, h2, h3⟩ := Go.Joins.open_agg4 Try.underlying23 (by kernel_rfl) (by kernel_rfl) ho h
  obtain ⟨a0, e0, _, w0⟩ := DataW.trod_int Try.underlying3 h0
  obtain ⟨a1, e1, _, w1⟩ := DataW.trod_int Try.underlying5 h1
  obtain ⟨a2, e2, _, w2⟩ := DataW.trod_int Try.underlying5 h2
  obtain ⟨a3, e3, _, w3⟩ := DataW.trod_int Try.underlying3 h3
  simp only [List.cons.injEq, and_true] at e0 e1 e2 e3
  subst e0 e1 e2 e3
  exact ⟨a0, a1, a2, a3, rfl, by simpa [Lit.wf, IntKind.min, IntKind.max, IntKind.signed, IntKind.bits] using w0, by simpa [Lit.wf, IntKind.min, IntKind.max, IntKind.signed, IntKind.bits] using w3, by simpa [Lit.wf, IntKind.min, IntKind.max, IntKind.signed, IntKind.bits] using w1, by simpa [Lit.wf, IntKind.min, IntKind.max, IntKind.signed, IntKind.bits] using w2⟩
end Go.Proofs.Ytnjnpnjjpodnnaa
/- Arguments of the types []api.Pair, api.Pair and api.Rank, opened. -/

namespace Go.Proofs.Ytnjnpnjjpodnnaa
set_option maxRecDepth 20000
open Go.RowKit Go.Deep Go.ChangeShapes Go.WideShapes

def pOk (x y : Int) : Prop := (0 ≤ x ∧ x ≤ 65535) ∧ (0 ≤ y ∧ y ≤ 4294967295)
theorem choosePrs {p : Nat → Int → Int → Prop} {c : Nat} (h : ∀ k, k < c → ∃ x y, p k x y) : ∃ L : List (Int × Int), L.length = c ∧ ∀ k, k < c → p k (pid L k) (pva L k) := by
  induction c with
  | zero => exact ⟨[], rfl, fun k hk => absurd hk (Nat.not_lt_zero _)⟩
  | succ c ih =>
    obtain ⟨L, hL, hk⟩ := ih fun k hk => h k (by omega)
    obtain ⟨x, y, hxy⟩ := h c (by omega)
    refine ⟨L ++ [(x, y)], by simp [hL], fun k hkc => ?_⟩
    by_cases e : k < c
    · rw [show pid (L ++ [(x, y)]) k = pid L k by simp [pid, List.getElem?_append_left (show k < L.length by omega)], show pva (L ++ [(x, y)]) k = pva L k by simp [pva, List.getElem?_append_left (show k < L.length by omega)]]
      exact hk k e
    · obtain rfl : k = c := by omega
      rw [show pid (L ++ [(x, y)]) k = x by simp [pid, ← hL], show pva (L ++ [(x, y)]) k = y by simp [pva, ← hL]]
      exact hxy

theorem openPairs {H : Type} {enc : TypeId × Value → H} {W : World} {base : Nat} {v : Value} {d : DataW H} {p : List MemPlace}
    (h : DataW.Trod enc Try.prog W 0 (fun _ => true) true 26 v d p) (ho : Value.okWide Try.prog W .any base 26 v) :
    ∃ A n c l, v = .slice A n c ∧ Prs W A n c l := by
  obtain ⟨A, n, c, rfl⟩ := okWide_slice Try.underlying26 ho
  obtain ⟨fuel, hf⟩ := h
  rcases open_slice_pairs Try.underlying26 Try.underlying55 (by kernel_rfl) rfl rfl (by kernel_rfl) (by kernel_rfl) hf with ⟨hcs, _⟩ | ⟨a, l, c', m, n', V0, V1, D0, D1, P0, P1, hcs, _, hl, hm, hmm, _, hx⟩
  · simp [Value.cells] at hcs
    obtain ⟨rfl, rfl, rfl⟩ := hcs
    exact ⟨none, 0, 0, [], rfl, Prs.nil W⟩
  · simp [Value.cells] at hcs
    obtain ⟨rfl, rfl, rfl⟩ := hcs
    have key : ∀ k, k < n → ∃ x y : Int, W.cell? (a.add (k * 2)) = some (.int .u16 x) ∧ W.cell? (a.add (k * 2 + 1)) = some (.int .u32 y) ∧ pOk x y := by
      intro k hk
      obtain ⟨c0, c1, t0, t1⟩ := hx k (by simp at hmm; omega)
      obtain ⟨x, e0, _, w0⟩ := DataW.trod_int Try.underlying53 t0
      obtain ⟨y, e1, _, w1⟩ := DataW.trod_int Try.underlying25 t1
      simp at e0 e1
      exact ⟨x, y, by rw [c0, e0], by rw [c1, e1], by simpa [Lit.wf, IntKind.min, IntKind.max, IntKind.signed, IntKind.bits] using w0, by simpa [Lit.wf, IntKind.min, IntKind.max, IntKind.signed, IntKind.bits] using w1⟩
    obtain ⟨L, hL, hk⟩ := choosePrs key
    refine ⟨some a, n, c, L, rfl, ⟨hL, hl, by simpa [maxLen] using hm, (fun e => by cases e), fun x hx => ?_, fun hn => ?_⟩⟩
    · obtain ⟨i, hi, rfl⟩ := List.mem_iff_getElem.1 hx
      have := (hk i (by omega)).2.2
      simpa [pid, pva, pOk, List.getElem?_eq_getElem hi] using this
    · obtain ⟨b, off, spot⟩ := a
      have hc := (hk 0 hn).1
      have hspot : spot = none := by simpa [Addr.add] using World.cell?_spot hc
      subst hspot
      obtain ⟨ob, hob, _⟩ := cells_of_cell hc
      refine ⟨b, off, rfl, by simpa [Addr.add] using (Array.getElem?_eq_some_iff.1 hob).1, fun k hkn => ?_⟩
      obtain ⟨g0, g1, _⟩ := hk k hkn
      rw [add_plain] at g0 g1
      exact ⟨g0, by simpa [Nat.add_assoc] using g1⟩

end Go.Proofs.Ytnjnpnjjpodnnaa
/- Arguments of the types api.Block and api.Frame, opened. -/

namespace Go.Proofs.Ytnjnpnjjpodnnaa
set_option maxRecDepth 20000
open Go.RowKit Go.ChangeShapes Go.WideShapes

/-- The cell of a field of type []byte, opened. -/
theorem openBytC {H : Type} {enc : TypeId × Value → H} {W : World} {v : Value} {y : DataW H × List MemPlace} {fuel : Nat}
    (hf : DataW.trod enc Try.prog W 0 (fun _ => true) true fuel 24 [v] = some y) : ∃ A n c l, v = .slice A n c ∧ Byt W A n c l := by
  obtain ⟨d, p⟩ := y
  rcases open_ints Try.underlying24 Try.underlying5 (by kernel_rfl) hf with ⟨hcs, _⟩ | ⟨a, len, cap, zs, hcs, _, hl, hm, hz, _, hcell, hwz⟩
  · simp at hcs
    subst hcs
    exact ⟨none, 0, 0, [], rfl, Byt.nil W⟩
  · simp at hcs
    subst hcs
    have hz' : zs.length = cap := by simpa using hz
    refine ⟨some a, len, cap, zs.take len, rfl, ⟨by rw [List.length_take]; omega, hl, by simpa [maxLen] using hm, (fun e => by cases e), fun x hx => ?_, fun hn => ?_⟩⟩
    · have := hwz x (List.mem_of_mem_take hx)
      simpa [Lit.wf, IntKind.min, IntKind.max, IntKind.signed, IntKind.bits] using this
    · obtain ⟨b, o, spot⟩ := a
      have h0 := hcell 0 (by omega)
      have hspot : spot = none := by simpa [Addr.add] using World.cell?_spot h0
      subst hspot
      obtain ⟨ob, hob, _⟩ := cells_of_cell h0
      refine ⟨b, o, rfl, by simpa [Addr.add] using (Array.getElem?_eq_some_iff.1 hob).1, fun i hi => ?_⟩
      have h1 := hcell i (by omega)
      rw [add_plain] at h1
      rw [h1, List.getElem?_take, if_pos hi]
      simp [List.getD]

theorem frameAt {H : Type} {enc : TypeId × Value → H} {W : World} {n : Nat} {l : List Value} {xs : List (DataW H × List MemPlace)} {fs : Array Field} (hlen : xs.length = fs.size)
    (hg : ∀ (i : Nat) (f : Field), fs[i]? = some f → DataW.trod enc Try.prog W 0 (fun _ => true) true n f.type ((l.drop f.offset).take (Try.prog.cellsOf f.type)) = xs[i]?)
    (i : Nat) (f : Field) (hf : fs[i]? = some f) {m o : Nat} {t : TypeId} (ht : f.type = t) (ho : f.offset = o) (hm : Try.prog.cellsOf t = m) : ∃ y, DataW.trod enc Try.prog W 0 (fun _ => true) true n t ((l.drop o).take m) = some y := by
  have h1 := hg i f hf
  have hi : i < fs.size := (Array.getElem?_eq_some_iff.1 hf).1
  rw [ht, ho, hm, List.getElem?_eq_getElem (by omega)] at h1
  exact ⟨_, h1⟩

theorem openRankC {H : Type} {enc : TypeId × Value → H} {W : World} {c0 c1 c2 : Value} {y : DataW H × List MemPlace} {fuel : Nat}
    (hf : DataW.trod enc Try.prog W 0 (fun _ => true) true fuel 28 [c0, c1, c2] = some y) : ∃ (al : Bool) (dp wt : Int), c0 = .bool al ∧ c1 = .int .i64 dp ∧ c2 = .int .u8 wt ∧ (-9223372036854775808 ≤ dp ∧ dp ≤ 9223372036854775807) ∧ (0 ≤ wt ∧ wt ≤ 255) := by
  obtain ⟨xs, n, _, hx, _, hlen, hg⟩ := DataW.trod_struct Try.underlying28 hf
  obtain ⟨y0, h0⟩ := frameAt hlen hg 0 _ rfl (t := 4) (m := 1) (o := 0) rfl rfl (by kernel_rfl)
  obtain ⟨y1, h1⟩ := frameAt hlen hg 1 _ rfl (t := 3) (m := 1) (o := 1) rfl rfl (by kernel_rfl)
  obtain ⟨y2, h2⟩ := frameAt hlen hg 2 _ rfl (t := 5) (m := 1) (o := 2) rfl rfl (by kernel_rfl)
  simp only [List.drop, List.take] at h0 h1 h2
  obtain ⟨a0, e0, _⟩ := DataW.trod_bool Try.underlying4 h0
  obtain ⟨a1, e1, _, w1⟩ := DataW.trod_int Try.underlying3 h1
  obtain ⟨a2, e2, _, w2⟩ := DataW.trod_int Try.underlying5 h2
  simp only [List.cons.injEq, and_true] at e0 e1 e2
  exact ⟨a0, a1, a2, e0, e1, e2, by simpa [Lit.wf, IntKind.min, IntKind.max, IntKind.signed, IntKind.bits] using w1, by simpa [Lit.wf, IntKind.min, IntKind.max, IntKind.signed, IntKind.bits] using w2⟩

end Go.Proofs.Ytnjnpnjjpodnnaa
