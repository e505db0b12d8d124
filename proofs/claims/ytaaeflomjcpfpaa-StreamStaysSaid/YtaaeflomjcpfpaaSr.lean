/- Slices of structs of three cells: what comes and goes; deeds. -/
import Derived.Test.YtaaeflomjcpfpaaO
import Derived.Test.YtaaeflomjcpfpaaL
import Derived.Deep.Slices
namespace Go.Proofs.Ytaaeflomjcpfpaa
open Go.RowKit Go.Shelf Go.Deep Go.ChangeShapes Go.WideShapes
set_option linter.unusedVariables false

/-- A slice of structs of three cells, as a function of the place. -/
structure Tri (w : World) (A : Option Addr) (n c : Nat) (v0 v1 v2 : Nat → Value) : Prop where
  le : n ≤ c
  mx : c ≤ 9223372036854775807
  at' : 0 < n → ∃ b o, A = some ⟨b, o, none⟩ ∧ b < w.heap.size ∧ ∀ i, i < n → w.cell? ⟨b, o + i * 3, none⟩ = some (v0 i) ∧ w.cell? ⟨b, o + i * 3 + 1, none⟩ = some (v1 i) ∧ w.cell? ⟨b, o + i * 3 + 2, none⟩ = some (v2 i)
theorem Tri.below {w w' : World} {A : Option Addr} {n c : Nat} {v0 v1 v2 : Nat → Value} (h : Tri w A n c v0 v1 v2) (hb : Below w.heap.size w w') : Tri w' A n c v0 v1 v2 :=
  ⟨h.le, h.mx, fun hn => by
    obtain ⟨b, o, e, hs, hi⟩ := h.at' hn
    exact ⟨b, o, e, Nat.lt_of_lt_of_le hs hb.size, fun i hi' => ⟨(hb.cell (p := ⟨b, o + i * 3, none⟩) hs).trans (hi i hi').1, (hb.cell (p := ⟨b, o + i * 3 + 1, none⟩) hs).trans (hi i hi').2.1, (hb.cell (p := ⟨b, o + i * 3 + 2, none⟩) hs).trans (hi i hi').2.2⟩⟩⟩
theorem Tri.drew {w : World} {A : Option Addr} {n c : Nat} {v0 v1 v2 : Nat → Value} (h : Tri w A n c v0 v1 v2) : Tri w.drew A n c v0 v1 v2 := h.below (drew_below _ _)
theorem Tri.alloc {w : World} {A : Option Addr} {n c : Nat} {v0 v1 v2 : Nat → Value} (h : Tri w A n c v0 v1 v2) (o : Obj) : Tri (w.alloc o) A n c v0 v1 v2 := h.below ((Below.refl _ w).alloc (Nat.le_refl _) o)
section
variable {H : Type} {P : Program} {enc : TypeId × Value → H} {W : World}
theorem open_three {t e : TypeId} {f0 f1 f2 : Field} {fuel : Nat} {cs : List Value} {y : DataW H × List MemPlace} (ht : P.underlying t = some (.slice e)) (he : P.underlying e = some (.struct #[f0, f1, f2]))
    (ce : P.cellsOf e = 3) (o0 : f0.offset = 0) (o1 : f1.offset = 1) (o2 : f2.offset = 2) (c0 : P.cellsOf f0.type = 1) (c1 : P.cellsOf f1.type = 1) (c2 : P.cellsOf f2.type = 1)
    (h : DataW.trod enc P W 0 (fun _ => true) true fuel t cs = some y) :
    cs = [.slice none 0 0] ∨ ∃ (a : Addr) (n c : Nat), cs = [.slice (some a) n c] ∧ n ≤ c ∧ c ≤ maxLen ∧ ∀ i, i < n → ∃ x0 x1 x2 k, W.cell? (a.add (i * 3)) = some x0 ∧ W.cell? (a.add (i * 3 + 1)) = some x1 ∧ W.cell? (a.add (i * 3 + 2)) = some x2 ∧
      (∃ d, DataW.trod enc P W 0 (fun _ => true) true k f0.type [x0] = some d) ∧ (∃ d, DataW.trod enc P W 0 (fun _ => true) true k f1.type [x1] = some d) ∧ (∃ d, DataW.trod enc P W 0 (fun _ => true) true k f2.type [x2] = some d) := by
  rcases open_slice ht h with h0 | ⟨a, len, cap, m, n, D, Pl, rfl, hb, hl, hm, hmm, rfl, hx⟩
  · exact Or.inl h0.1
  refine Or.inr ⟨a, len, cap, rfl, hl, hm, fun i hi => ?_⟩
  obtain ⟨cs', h1, h2⟩ := hx i (by have hlm : len ≤ m := by rw [hmm]; split <;> omega
                                   omega)
  rw [ce] at h1
  obtain ⟨_, hlen, hcell⟩ := World.cells?_some h1
  obtain ⟨xs, k, hk, hxy, _, hxl, hf⟩ := DataW.trod_struct he h2
  match xs, hxl, cs', hlen with
  | [y0, y1, y2], _, [v0, v1, v2], _ =>
    have g0 := hf 0 f0 rfl
    have g1 := hf 1 f1 rfl
    have g2 := hf 2 f2 rfl
    simp [o0, o1, o2, c0, c1, c2] at g0 g1 g2
    have e0 := hcell 0 (by omega)
    have e1 := hcell 1 (by omega)
    have e2 := hcell 2 (by omega)
    rw [add_add] at e0 e1 e2
    exact ⟨v0, v1, v2, k, by simpa using e0, by simpa using e1, by simpa using e2, ⟨_, g0⟩, ⟨_, g1⟩, ⟨_, g2⟩⟩
end
/-- What came and went. -/
theorem openCames {H : Type} {enc : TypeId × Value → H} {W : World} {base : Nat} {v : Value} {d : DataW H} {p : List MemPlace}
    (h : DataW.Trod enc Try.prog W 0 (fun _ => true) true 47 v d p) (ho : Value.okWide Try.prog W .any base 47 v) :
    ∃ (A : Option Addr) (n c : Nat) (z : Nat → Int × Bool × Bool), v = .slice A n c ∧ (∀ i, 0 ≤ (z i).1 ∧ (z i).1 ≤ 255) ∧ Tri W A n c (fun i => .int .u8 (z i).1) (fun i => .bool (z i).2.1) (fun i => .bool (z i).2.2) := by
  obtain ⟨A, n, c, rfl⟩ := okWide_slice Try.underlying47 ho
  obtain ⟨fuel, hf⟩ := h
  rcases open_three Try.underlying47 Try.underlying50 (by kernel_rfl) rfl rfl rfl (by kernel_rfl) (by kernel_rfl) (by kernel_rfl) hf with hcs | ⟨a, l, c', hcs, hl, hm, hx⟩
  · simp [Value.cells] at hcs
    obtain ⟨rfl, rfl, rfl⟩ := hcs
    exact ⟨none, 0, 0, fun _ => (0, false, false), rfl, fun _ => by simp, ⟨Nat.le_refl _, by decide, fun h => absurd h (Nat.lt_irrefl _)⟩⟩
  · simp [Value.cells] at hcs
    obtain ⟨rfl, rfl, rfl⟩ := hcs
    have key : ∀ i, ∃ z : Int × Bool × Bool, (0 ≤ z.1 ∧ z.1 ≤ 255) ∧ (i < n → W.cell? (a.add (i * 3)) = some (.int .u8 z.1) ∧ W.cell? (a.add (i * 3 + 1)) = some (.bool z.2.1) ∧ W.cell? (a.add (i * 3 + 2)) = some (.bool z.2.2)) := by
      intro i
      by_cases hi : i < n
      · obtain ⟨x0, x1, x2, k, c0, c1, c2, ⟨⟨d0, p0⟩, t0⟩, ⟨⟨d1, p1⟩, t1⟩, ⟨⟨d2, p2⟩, t2⟩⟩ := hx i hi
        obtain ⟨x, e0, _, w0⟩ := DataW.trod_int Try.underlying5 t0
        obtain ⟨y, e1, _⟩ := DataW.trod_bool Try.underlying4 t1
        obtain ⟨z, e2, _⟩ := DataW.trod_bool Try.underlying4 t2
        simp at e0 e1 e2
        exact ⟨(x, y, z), by simpa [Lit.wf, IntKind.min, IntKind.max, IntKind.signed, IntKind.bits] using w0, fun _ => ⟨by rw [c0, e0], by rw [c1, e1], by rw [c2, e2]⟩⟩
      · exact ⟨(0, false, false), by simp, fun h => absurd h hi⟩
    obtain ⟨z, hz⟩ := Classical.axiomOfChoice key
    refine ⟨some a, n, c, z, rfl, fun i => (hz i).1, ⟨hl, by simpa [maxLen] using hm, fun hn => ?_⟩⟩
    obtain ⟨b, off, spot⟩ := a
    have hc := ((hz 0).2 hn).1
    have hspot : spot = none := by simpa [Addr.add] using World.cell?_spot hc
    subst hspot
    obtain ⟨ob, hob, _⟩ := cells_of_cell hc
    refine ⟨b, off, rfl, by simpa [Addr.add] using (Array.getElem?_eq_some_iff.1 hob).1, fun k hkn => ?_⟩
    obtain ⟨g0, g1, g2⟩ := (hz k).2 hkn
    rw [add_plain] at g0 g1 g2
    exact ⟨g0, by simpa [Nat.add_assoc] using g1, by simpa [Nat.add_assoc] using g2⟩
/-- Deeds. -/
theorem openDeeds {H : Type} {enc : TypeId × Value → H} {W : World} {base : Nat} {v : Value} {d : DataW H} {p : List MemPlace}
    (h : DataW.Trod enc Try.prog W 0 (fun _ => true) true 52 v d p) (ho : Value.okWide Try.prog W .any base 52 v) :
    ∃ (A : Option Addr) (n c : Nat) (z : Nat → Int × Int × Bool), v = .slice A n c ∧ (∀ i, (-9223372036854775808 ≤ (z i).1 ∧ (z i).1 ≤ 9223372036854775807) ∧ (-9223372036854775808 ≤ (z i).2.1 ∧ (z i).2.1 ≤ 9223372036854775807)) ∧ Tri W A n c (fun i => .int .i64 (z i).1) (fun i => .int .i64 (z i).2.1) (fun i => .bool (z i).2.2) := by
  obtain ⟨A, n, c, rfl⟩ := okWide_slice Try.underlying52 ho
  obtain ⟨fuel, hf⟩ := h
  rcases open_three Try.underlying52 Try.underlying54 (by kernel_rfl) rfl rfl rfl (by kernel_rfl) (by kernel_rfl) (by kernel_rfl) hf with hcs | ⟨a, l, c', hcs, hl, hm, hx⟩
  · simp [Value.cells] at hcs
    obtain ⟨rfl, rfl, rfl⟩ := hcs
    exact ⟨none, 0, 0, fun _ => (0, 0, false), rfl, fun _ => by simp, ⟨Nat.le_refl _, by decide, fun h => absurd h (Nat.lt_irrefl _)⟩⟩
  · simp [Value.cells] at hcs
    obtain ⟨rfl, rfl, rfl⟩ := hcs
    have key : ∀ i, ∃ z : Int × Int × Bool, ((-9223372036854775808 ≤ z.1 ∧ z.1 ≤ 9223372036854775807) ∧ (-9223372036854775808 ≤ z.2.1 ∧ z.2.1 ≤ 9223372036854775807)) ∧ (i < n → W.cell? (a.add (i * 3)) = some (.int .i64 z.1) ∧ W.cell? (a.add (i * 3 + 1)) = some (.int .i64 z.2.1) ∧ W.cell? (a.add (i * 3 + 2)) = some (.bool z.2.2)) := by
      intro i
      by_cases hi : i < n
      · obtain ⟨x0, x1, x2, k, c0, c1, c2, ⟨⟨d0, p0⟩, t0⟩, ⟨⟨d1, p1⟩, t1⟩, ⟨⟨d2, p2⟩, t2⟩⟩ := hx i hi
        obtain ⟨x, e0, _, w0⟩ := DataW.trod_int Try.underlying3 t0
        obtain ⟨y, e1, _, w1⟩ := DataW.trod_int Try.underlying3 t1
        obtain ⟨z, e2, _⟩ := DataW.trod_bool Try.underlying4 t2
        simp at e0 e1 e2
        exact ⟨(x, y, z), ⟨by simpa [Lit.wf, IntKind.min, IntKind.max, IntKind.signed, IntKind.bits] using w0, by simpa [Lit.wf, IntKind.min, IntKind.max, IntKind.signed, IntKind.bits] using w1⟩, fun _ => ⟨by rw [c0, e0], by rw [c1, e1], by rw [c2, e2]⟩⟩
      · exact ⟨(0, 0, false), by simp, fun h => absurd h hi⟩
    obtain ⟨z, hz⟩ := Classical.axiomOfChoice key
    refine ⟨some a, n, c, z, rfl, fun i => (hz i).1, ⟨hl, by simpa [maxLen] using hm, fun hn => ?_⟩⟩
    obtain ⟨b, off, spot⟩ := a
    have hc := ((hz 0).2 hn).1
    have hspot : spot = none := by simpa [Addr.add] using World.cell?_spot hc
    subst hspot
    obtain ⟨ob, hob, _⟩ := cells_of_cell hc
    refine ⟨b, off, rfl, by simpa [Addr.add] using (Array.getElem?_eq_some_iff.1 hob).1, fun k hkn => ?_⟩
    obtain ⟨g0, g1, g2⟩ := (hz k).2 hkn
    rw [add_plain] at g0 g1 g2
    exact ⟨g0, by simpa [Nat.add_assoc] using g1, by simpa [Nat.add_assoc] using g2⟩
end Go.Proofs.Ytaaeflomjcpfpaa
