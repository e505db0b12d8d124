/- An argument of the type api.Stream, opened; which are too great. -/
import Derived.Test.YtaaeflomjcpfpaaSf
import Derived.Test.YtaaeflomjcpfpaaO
import Derived.Lib.SmallJoins
namespace Go.Proofs.Ytaaeflomjcpfpaa
open Go.RowKit Go.ChangeShapes Go.WideShapes
set_option linter.unusedVariables false

/-- The cell of a field of type []byte, opened. -/
theorem openBytC {H : Type} {enc : TypeId × Value → H} {W : World} {v : Value} {y : DataW H × List MemPlace} {fuel : Nat}
    (hf : DataW.trod enc Try.prog W 0 (fun _ => true) true fuel 22 [v] = some y) : ∃ A n c l, v = .slice A n c ∧ Byt W A n c l := by
  obtain ⟨d, p⟩ := y
  rcases open_ints Try.underlying22 Try.underlying5 (by kernel_rfl) hf with ⟨hcs, _⟩ | ⟨a, len, cap, zs, hcs, _, hl, hm, hz, _, hcell, hwz⟩
  · simp at hcs
    subst hcs
    exact ⟨none, 0, 0, [], rfl, Byt.nil W⟩
  · simp at hcs
    subst hcs
    have hz' : zs.length = cap := by simpa using hz
    refine ⟨some a, len, cap, zs.take len, rfl, ⟨by rw [List.length_take]; omega, hl, by simpa [maxLen] using hm, (fun e => by cases e), fun x hx => ?_, fun hn => ?_⟩⟩
    · have := hwz x (List.mem_of_mem_take hx)
      simpa [Lit.wf, IntKind.min, IntKind.max, IntKind.signed, IntKind.bits] using this
    · obtain ⟨b, o, spot⟩ := a
      have h0 := hcell 0 (by omega)
      have hspot : spot = none := by simpa [Addr.add] using World.cell?_spot h0
      subst hspot
      obtain ⟨ob, hob, _⟩ := cells_of_cell h0
      refine ⟨b, o, rfl, by simpa [Addr.add] using (Array.getElem?_eq_some_iff.1 hob).1, fun i hi => ?_⟩
      have h1 := hcell i (by omega)
      rw [add_plain] at h1
      rw [h1, List.getElem?_take, if_pos hi]
      simp [List.getD]

theorem frameAt {H : Type} {enc : TypeId × Value → H} {W : World} {n : Nat} {l : List Value} {xs : List (DataW H × List MemPlace)} {fs : Array Field} (hlen : xs.length = fs.size)
    (hg : ∀ (i : Nat) (f : Field), fs[i]? = some f → DataW.trod enc Try.prog W 0 (fun _ => true) true n f.type ((l.drop f.offset).take (Try.prog.cellsOf f.type)) = xs[i]?)
    (i : Nat) (f : Field) (hf : fs[i]? = some f) {m o : Nat} {t : TypeId} (ht : f.type = t) (ho : f.offset = o) (hm : Try.prog.cellsOf t = m) : ∃ y, DataW.trod enc Try.prog W 0 (fun _ => true) true n t ((l.drop o).take m) = some y := by
  have h1 := hg i f hf
  have hi : i < fs.size := (Array.getElem?_eq_some_iff.1 hf).1
  rw [ht, ho, hm, List.getElem?_eq_getElem (by omega)] at h1
  exact ⟨_, h1⟩

theorem openStream {H : Type} {enc : TypeId × Value → H} {W : World} {base : Nat} {v : Value} {d : DataW H} {p : List MemPlace}
    (h : DataW.Trod enc Try.prog W 0 (fun _ => true) true 24 v d p) (ho : Value.okWide Try.prog W .any base 24 v) :
    ∃ (s : Str) (A : Option Addr) (n c : Nat), v = .agg #[.int .i64 (s).id, .int .u8 (s).st, .int .i64 (s).sd, .int .i64 (s).rc, .int .i64 (s).ow, .bool (s).an, .bool (s).en, .slice A n c, .int .u8 (s).ur, .bool (s).inc, .int .i64 (s).sl] ∧ StrOk s ∧ Byt W A n c s.out := by
  obtain ⟨cs, rfl, hsz⟩ := okWide_struct Try.underlying24 ho
  obtain ⟨l⟩ := cs
  obtain ⟨fuel, hf⟩ := h
  obtain ⟨xs, n, _, hx, _, hlen, hg⟩ := DataW.trod_struct Try.underlying24 hf
  match l, hsz.trans (show Try.prog.cellsOf 24 = 11 by kernel_rfl) with
  | [c0, c1, c2, c3, c4, c5, c6, c7, c8, c9, c10], _ =>
    obtain ⟨y0, h0⟩ := frameAt hlen hg 0 _ rfl (t := 3) (m := 1) (o := 0) rfl rfl (by kernel_rfl)
    obtain ⟨y1, h1⟩ := frameAt hlen hg 1 _ rfl (t := 5) (m := 1) (o := 1) rfl rfl (by kernel_rfl)
    obtain ⟨y2, h2⟩ := frameAt hlen hg 2 _ rfl (t := 3) (m := 1) (o := 2) rfl rfl (by kernel_rfl)
    obtain ⟨y3, h3⟩ := frameAt hlen hg 3 _ rfl (t := 3) (m := 1) (o := 3) rfl rfl (by kernel_rfl)
    obtain ⟨y4, h4⟩ := frameAt hlen hg 4 _ rfl (t := 3) (m := 1) (o := 4) rfl rfl (by kernel_rfl)
    obtain ⟨y5, h5⟩ := frameAt hlen hg 5 _ rfl (t := 4) (m := 1) (o := 5) rfl rfl (by kernel_rfl)
    obtain ⟨y6, h6⟩ := frameAt hlen hg 6 _ rfl (t := 4) (m := 1) (o := 6) rfl rfl (by kernel_rfl)
    obtain ⟨y7, h7⟩ := frameAt hlen hg 7 _ rfl (t := 22) (m := 1) (o := 7) rfl rfl (by kernel_rfl)
    obtain ⟨y8, h8⟩ := frameAt hlen hg 8 _ rfl (t := 5) (m := 1) (o := 8) rfl rfl (by kernel_rfl)
    obtain ⟨y9, h9⟩ := frameAt hlen hg 9 _ rfl (t := 4) (m := 1) (o := 9) rfl rfl (by kernel_rfl)
    obtain ⟨y10, h10⟩ := frameAt hlen hg 10 _ rfl (t := 3) (m := 1) (o := 10) rfl rfl (by kernel_rfl)
    simp only [Value.cells, List.drop, List.take] at h0 h1 h2 h3 h4 h5 h6 h7 h8 h9 h10
    obtain ⟨a0, e0, _, w0⟩ := DataW.trod_int Try.underlying3 h0
    obtain ⟨a1, e1, _, w1⟩ := DataW.trod_int Try.underlying5 h1
    obtain ⟨a2, e2, _, w2⟩ := DataW.trod_int Try.underlying3 h2
    obtain ⟨a3, e3, _, w3⟩ := DataW.trod_int Try.underlying3 h3
    obtain ⟨a4, e4, _, w4⟩ := DataW.trod_int Try.underlying3 h4
    obtain ⟨a5, e5, _⟩ := DataW.trod_bool Try.underlying4 h5
    obtain ⟨a6, e6, _⟩ := DataW.trod_bool Try.underlying4 h6
    obtain ⟨A, n7, c7', X, e7, hX⟩ := openBytC h7
    obtain ⟨a8, e8, _, w8⟩ := DataW.trod_int Try.underlying5 h8
    obtain ⟨a9, e9, _⟩ := DataW.trod_bool Try.underlying4 h9
    obtain ⟨a10, e10, _, w10⟩ := DataW.trod_int Try.underlying3 h10
    simp only [List.cons.injEq, and_true] at e0 e1 e2 e3 e4 e5 e6 e8 e9 e10
    subst e0 e1 e2 e3 e4 e5 e6 e7 e8 e9 e10
    exact ⟨⟨a0, a1, a2, a3, a4, a5, a6, X, a8, a9, a10⟩, A, n7, c7', rfl, ⟨(by simpa [Lit.wf, IntKind.min, IntKind.max, IntKind.signed, IntKind.bits] using w0), (by simpa [Lit.wf, IntKind.min, IntKind.max, IntKind.signed, IntKind.bits] using w1), (by simpa [Lit.wf, IntKind.min, IntKind.max, IntKind.signed, IntKind.bits] using w2), (by simpa [Lit.wf, IntKind.min, IntKind.max, IntKind.signed, IntKind.bits] using w3), (by simpa [Lit.wf, IntKind.min, IntKind.max, IntKind.signed, IntKind.bits] using w4), (by simpa [Lit.wf, IntKind.min, IntKind.max, IntKind.signed, IntKind.bits] using w8), (by simpa [Lit.wf, IntKind.min, IntKind.max, IntKind.signed, IntKind.bits] using w10), hX.bs⟩, hX⟩

theorem rGreat (s : Str) (A : Option Addr) (n c : Nat) (w : World) (hm : n ≤ 9223372036854775807) : Calls Try.prog 7 #[.agg #[.int .i64 (s).id, .int .u8 (s).st, .int .i64 (s).sd, .int .i64 (s).rc, .int .i64 (s).ow, .bool (s).an, .bool (s).en, .slice A n c, .int .u8 (s).ur, .bool (s).inc, .int .i64 (s).sl]] w (BoolP (decide (3000 < n)) w) := by
  have b0 := (Bel.refl w).alloc (.cells #[.int .i64 (s).id, .int .u8 (s).st, .int .i64 (s).sd, .int .i64 (s).rc, .int .i64 (s).ow, .bool (s).an, .bool (s).en, .slice A n c, .int .u8 (s).ur, .bool (s).inc, .int .i64 (s).sl] 24)
  by_cases h : 3000 < n
  · have e : decide ((3000 : Int) < (n : Int)) = true := decide_eq_true (by omega)
    rw [decide_eq_true h]
    clear h
    go_enter Try.func7, Try.ntmps7
    go_wp2
    go_ret
    exact ⟨rfl, b0.out⟩
  · have e : decide ((3000 : Int) < (n : Int)) = false := decide_eq_false (by omega)
    rw [decide_eq_false h]
    clear h
    go_enter Try.func7, Try.ntmps7
    go_wp2
    go_ret
    exact ⟨rfl, b0.out⟩
end Go.Proofs.Ytaaeflomjcpfpaa
