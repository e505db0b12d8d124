/- The contract of the document's Take, way by way (printed by genref.py). -/
import Derived.Test.YtbooojpohfdljaaBs
namespace Go.Proofs.Ytbooojpohfdljaa
open Go.RowKit Go.Shelf
set_option linter.unusedVariables false

set_option maxRecDepth 100000 in
set_option maxHeartbeats 2000000 in
theorem rkBad (S : Int) (E : Bool) (A : Option Addr) (n c : Nat) (D : List Int) (F St : Int) (B : Option Addr) (m d : Nat) (X : List Int) (pd la ic cd : Int) (Pa : Option Addr) (Pn Pc : Nat) (rk al : Bool) (dp wt : Int) (w : World) (K : Int)
    (O1 : Hid (∀ w A c, Byt w A n c D → Calls Try.prog 20 #[.agg #[.int .i64 S, .bool E, .slice A n c]] w (OwnP S E n D w)))
    (R1 : Hid (∀ w A c, Byt w A n c D → Calls Try.prog 13 #[.agg #[.int .i64 S, .bool E, .slice A n c]] w (BoolP false w)))
    (h : Byt w A n c D) (h' : Byt w B m d X) (hn : n ≤ 5000) (hm : m ≤ 5000) :
    Calls Try.prog 10 #[.agg #[.int .i64 S, .bool E, .slice A n c], .agg #[.int .u8 K, .int .u8 F, .int .i64 St, .slice B m d, .int .i64 pd, .int .i64 la, .int .i64 ic, .int .u32 cd, .slice Pa Pn Pc, .bool rk, .bool al, .int .i64 dp, .int .u8 wt]] w (TakeP ⟨S, E, D, 0, false, [], false, false, 0, 2⟩ w) := by
  have HX := Lib.hid h'
  have t0 := RkF.new w #[.int .i64 S, .bool E, .slice A n c] #[.int .u8 K, .int .u8 F, .int .i64 St, .slice B m d, .int .i64 pd, .int .i64 la, .int .i64 ic, .int .u32 cd, .slice Pa Pn Pc, .bool rk, .bool al, .int .i64 dp, .int .u8 wt]
  have b0 := ((((((Bel.refl w).alloc (.cells #[.int .i64 S, .bool E, .slice A n c] 24)).alloc (.cells #[.int .u8 K, .int .u8 F, .int .i64 St, .slice B m d, .int .i64 pd, .int .i64 la, .int .i64 ic, .int .u32 cd, .slice Pa Pn Pc, .bool rk, .bool al, .int .i64 dp, .int .u8 wt] 30)).alloc (.cells #[.int .i64 0, .bool false, .slice none 0 0] 24)).alloc (.cells #[.int .i64 0, .bool false, .slice none 0 0] 24)).alloc (.cells #[.bool false, .int .i64 0, .int .u32 0] 34))
  have y := h.below b0.out
  clear h h'
  go_enter Try.func10, Try.ntmps10
  go_wp2_with fail
  refine (O1.out _ _ _ y).mono ?_
  rintro e w1 ⟨A1, c1, rfl, m1, hb⟩
  replace b0 := (b0).below hb; replace t0 := (t0).below hb
  replace m1 := m1.base_le (b := w.heap.size) (by simp; omega)
  have f1 := t0.b.frozen
  have o0 := t0.b.at 0 rfl
  have o1 := t0.b.at 1 rfl
  have o2 := t0.b.at 2 rfl
  have hg : w.heap.size + 4 < w1.heap.size := t0.x.lt
  have t := (t0.setB (.int .i64 S) (.bool E) (.slice A1 n c1)).alloc (.cells #[.int .i64 0, .bool false, .slice none 0 0] 24)
  have b := (b0.put3 (g := w.heap.size) (Nat.le_refl _) (.int .i64 S) (.bool E) (.slice A1 n c1)).alloc (.cells #[.int .i64 0, .bool false, .slice none 0 0] 24)
  have ma := (m1.put3 t0.b (by decide) (.int .i64 S) (.bool E) (.slice A1 n c1)).alloc (.cells #[.int .i64 0, .bool false, .slice none 0 0] 24)
  have q := Blk.newAt (b := w1.heap.size) (((w1.setCell ⟨w.heap.size, 0, none⟩ (.int .i64 S)).setCell ⟨w.heap.size, 1, none⟩ (.bool E)).setCell ⟨w.heap.size, 2, none⟩ (.slice A1 n c1)) 24 #[.int .i64 0, .bool false, .slice none 0 0] (by simp)
  have zb0 := t.b.at 0 rfl
  have zb1 := t.b.at 1 rfl
  have zb2 := t.b.at 2 rfl
  go_wp2_with fail
  generalize (((w1.setCell ⟨w.heap.size, 0, none⟩ (.int .i64 S)).setCell ⟨w.heap.size, 1, none⟩ (.bool E)).setCell ⟨w.heap.size, 2, none⟩ (.slice A1 n c1)).alloc (.cells #[.int .i64 0, .bool false, .slice none 0 0] 24) = W2 at *
  refine (R1.out _ _ _ ma.byt).mono ?_
  rintro e wz ⟨rfl, hb⟩
  replace b := (b).below hb; replace t := (t).below hb; replace ma := (ma).below hb; replace q := (q).below hb
  clear f1 o0 o1 o2 t0 b0 m1 y zb0 zb1 zb2
  have zb0 := t.b.at 0 rfl
  have zb1 := t.b.at 1 rfl
  have zb2 := t.b.at 2 rfl
  have zf0 := t.f.at 0 rfl
  have zf1 := t.f.at 1 rfl
  have zf2 := t.f.at 2 rfl
  go_wp2_with (first | fail)
  have S1 : (wz.cell? ⟨w.heap.size, 0, none⟩ = some (.int .i64 S) ∧ wz.cell? ⟨w.heap.size, 1, none⟩ = some (.bool E) ∧ wz.cell? ⟨w.heap.size, 2, none⟩ = some (.slice A1 n c1)) ∧ (wz.cell? ⟨w1.heap.size, 0, none⟩ = some (.int .i64 0) ∧ wz.cell? ⟨w1.heap.size, 1, none⟩ = some (.bool false) ∧ wz.cell? ⟨w1.heap.size, 2, none⟩ = some (.slice none 0 0)) := ⟨⟨t.b.at 0 rfl, t.b.at 1 rfl, t.b.at 2 rfl⟩, ⟨q.at 0 rfl, q.at 1 rfl, q.at 2 rfl⟩⟩
  obtain ⟨⟨d0, d1, d2⟩, d3, d4, d5⟩ := S1
  have S0 : (wz.drew.cell? ⟨w.heap.size, 0, none⟩ = some (.int .i64 S) ∧ wz.drew.cell? ⟨w.heap.size, 1, none⟩ = some (.bool E) ∧ wz.drew.cell? ⟨w.heap.size, 2, none⟩ = some (.slice A1 n c1)) ∧ (wz.drew.cell? ⟨w1.heap.size, 0, none⟩ = some (.int .i64 0) ∧ wz.drew.cell? ⟨w1.heap.size, 1, none⟩ = some (.bool false) ∧ wz.drew.cell? ⟨w1.heap.size, 2, none⟩ = some (.slice none 0 0)) := ⟨⟨d0, d1, d2⟩, d3, d4, d5⟩
  have fo := t.o.frozen
  have o0 := t.o.at 0 rfl
  have o1 := t.o.at 1 rfl
  have o2 := t.o.at 2 rfl
  have t1 := t.setO (.int .i64 S) (.bool E) (.slice A1 n c1)
  have u1 := t.b.far3 (g := w.heap.size + 1 + 1) (by omega) (.int .i64 S) (.bool E) (.slice A1 n c1)
  have v1 := q.far3 (g := w.heap.size + 1 + 1) (by omega) (.int .i64 S) (.bool E) (.slice A1 n c1)
  have fw := t1.w.frozen
  have w0' := t1.w.at 0 rfl
  have w1' := t1.w.at 1 rfl
  have w2' := t1.w.at 2 rfl
  have t2 := t1.setW (.int .i64 0) (.bool false) (.slice none 0 0)
  have u2 := u1.far3 (g := w.heap.size + 1 + 1 + 1) (by omega) (.int .i64 0) (.bool false) (.slice none 0 0)
  have v2 := v1.far3 (g := w.heap.size + 1 + 1 + 1) (by omega) (.int .i64 0) (.bool false) (.slice none 0 0)
  have fx := t2.x.frozen
  have x0 := t2.x.at 0 rfl
  have x1 := t2.x.at 1 rfl
  have x2 := t2.x.at 2 rfl
  have t3 := t2.setX (.bool false) (.int .i64 0) (.int .u32 0)
  have u3 := u2.far3 (g := w.heap.size + 1 + 1 + 1 + 1) (by omega) (.bool false) (.int .i64 0) (.int .u32 0)
  have v3 := v2.far3 (g := w.heap.size + 1 + 1 + 1 + 1) (by omega) (.bool false) (.int .i64 0) (.int .u32 0)
  have Sa : ((((wz.setCell ⟨w.heap.size + 1 + 1, 0, none⟩ (.int .i64 S)).setCell ⟨w.heap.size + 1 + 1, 1, none⟩ (.bool E)).setCell ⟨w.heap.size + 1 + 1, 2, none⟩ (.slice A1 n c1)).drew.cell? ⟨w.heap.size, 0, none⟩ = some (.int .i64 S) ∧ (((wz.setCell ⟨w.heap.size + 1 + 1, 0, none⟩ (.int .i64 S)).setCell ⟨w.heap.size + 1 + 1, 1, none⟩ (.bool E)).setCell ⟨w.heap.size + 1 + 1, 2, none⟩ (.slice A1 n c1)).drew.cell? ⟨w.heap.size, 1, none⟩ = some (.bool E) ∧ (((wz.setCell ⟨w.heap.size + 1 + 1, 0, none⟩ (.int .i64 S)).setCell ⟨w.heap.size + 1 + 1, 1, none⟩ (.bool E)).setCell ⟨w.heap.size + 1 + 1, 2, none⟩ (.slice A1 n c1)).drew.cell? ⟨w.heap.size, 2, none⟩ = some (.slice A1 n c1)) ∧ ((((wz.setCell ⟨w.heap.size + 1 + 1, 0, none⟩ (.int .i64 S)).setCell ⟨w.heap.size + 1 + 1, 1, none⟩ (.bool E)).setCell ⟨w.heap.size + 1 + 1, 2, none⟩ (.slice A1 n c1)).drew.cell? ⟨w1.heap.size, 0, none⟩ = some (.int .i64 0) ∧ (((wz.setCell ⟨w.heap.size + 1 + 1, 0, none⟩ (.int .i64 S)).setCell ⟨w.heap.size + 1 + 1, 1, none⟩ (.bool E)).setCell ⟨w.heap.size + 1 + 1, 2, none⟩ (.slice A1 n c1)).drew.cell? ⟨w1.heap.size, 1, none⟩ = some (.bool false) ∧ (((wz.setCell ⟨w.heap.size + 1 + 1, 0, none⟩ (.int .i64 S)).setCell ⟨w.heap.size + 1 + 1, 1, none⟩ (.bool E)).setCell ⟨w.heap.size + 1 + 1, 2, none⟩ (.slice A1 n c1)).drew.cell? ⟨w1.heap.size, 2, none⟩ = some (.slice none 0 0)) := ⟨⟨u1.drew.at 0 rfl, u1.drew.at 1 rfl, u1.drew.at 2 rfl⟩, ⟨v1.drew.at 0 rfl, v1.drew.at 1 rfl, v1.drew.at 2 rfl⟩⟩
  have Sb : (((((((wz.setCell ⟨w.heap.size + 1 + 1, 0, none⟩ (.int .i64 S)).setCell ⟨w.heap.size + 1 + 1, 1, none⟩ (.bool E)).setCell ⟨w.heap.size + 1 + 1, 2, none⟩ (.slice A1 n c1)).setCell ⟨w.heap.size + 1 + 1 + 1, 0, none⟩ (.int .i64 0)).setCell ⟨w.heap.size + 1 + 1 + 1, 1, none⟩ (.bool false)).setCell ⟨w.heap.size + 1 + 1 + 1, 2, none⟩ (.slice none 0 0)).drew.cell? ⟨w.heap.size, 0, none⟩ = some (.int .i64 S) ∧ ((((((wz.setCell ⟨w.heap.size + 1 + 1, 0, none⟩ (.int .i64 S)).setCell ⟨w.heap.size + 1 + 1, 1, none⟩ (.bool E)).setCell ⟨w.heap.size + 1 + 1, 2, none⟩ (.slice A1 n c1)).setCell ⟨w.heap.size + 1 + 1 + 1, 0, none⟩ (.int .i64 0)).setCell ⟨w.heap.size + 1 + 1 + 1, 1, none⟩ (.bool false)).setCell ⟨w.heap.size + 1 + 1 + 1, 2, none⟩ (.slice none 0 0)).drew.cell? ⟨w.heap.size, 1, none⟩ = some (.bool E) ∧ ((((((wz.setCell ⟨w.heap.size + 1 + 1, 0, none⟩ (.int .i64 S)).setCell ⟨w.heap.size + 1 + 1, 1, none⟩ (.bool E)).setCell ⟨w.heap.size + 1 + 1, 2, none⟩ (.slice A1 n c1)).setCell ⟨w.heap.size + 1 + 1 + 1, 0, none⟩ (.int .i64 0)).setCell ⟨w.heap.size + 1 + 1 + 1, 1, none⟩ (.bool false)).setCell ⟨w.heap.size + 1 + 1 + 1, 2, none⟩ (.slice none 0 0)).drew.cell? ⟨w.heap.size, 2, none⟩ = some (.slice A1 n c1)) ∧ (((((((wz.setCell ⟨w.heap.size + 1 + 1, 0, none⟩ (.int .i64 S)).setCell ⟨w.heap.size + 1 + 1, 1, none⟩ (.bool E)).setCell ⟨w.heap.size + 1 + 1, 2, none⟩ (.slice A1 n c1)).setCell ⟨w.heap.size + 1 + 1 + 1, 0, none⟩ (.int .i64 0)).setCell ⟨w.heap.size + 1 + 1 + 1, 1, none⟩ (.bool false)).setCell ⟨w.heap.size + 1 + 1 + 1, 2, none⟩ (.slice none 0 0)).drew.cell? ⟨w1.heap.size, 0, none⟩ = some (.int .i64 0) ∧ ((((((wz.setCell ⟨w.heap.size + 1 + 1, 0, none⟩ (.int .i64 S)).setCell ⟨w.heap.size + 1 + 1, 1, none⟩ (.bool E)).setCell ⟨w.heap.size + 1 + 1, 2, none⟩ (.slice A1 n c1)).setCell ⟨w.heap.size + 1 + 1 + 1, 0, none⟩ (.int .i64 0)).setCell ⟨w.heap.size + 1 + 1 + 1, 1, none⟩ (.bool false)).setCell ⟨w.heap.size + 1 + 1 + 1, 2, none⟩ (.slice none 0 0)).drew.cell? ⟨w1.heap.size, 1, none⟩ = some (.bool false) ∧ ((((((wz.setCell ⟨w.heap.size + 1 + 1, 0, none⟩ (.int .i64 S)).setCell ⟨w.heap.size + 1 + 1, 1, none⟩ (.bool E)).setCell ⟨w.heap.size + 1 + 1, 2, none⟩ (.slice A1 n c1)).setCell ⟨w.heap.size + 1 + 1 + 1, 0, none⟩ (.int .i64 0)).setCell ⟨w.heap.size + 1 + 1 + 1, 1, none⟩ (.bool false)).setCell ⟨w.heap.size + 1 + 1 + 1, 2, none⟩ (.slice none 0 0)).drew.cell? ⟨w1.heap.size, 2, none⟩ = some (.slice none 0 0)) := ⟨⟨u2.drew.at 0 rfl, u2.drew.at 1 rfl, u2.drew.at 2 rfl⟩, ⟨v2.drew.at 0 rfl, v2.drew.at 1 rfl, v2.drew.at 2 rfl⟩⟩
  have Sc : ((((((((((wz.setCell ⟨w.heap.size + 1 + 1, 0, none⟩ (.int .i64 S)).setCell ⟨w.heap.size + 1 + 1, 1, none⟩ (.bool E)).setCell ⟨w.heap.size + 1 + 1, 2, none⟩ (.slice A1 n c1)).setCell ⟨w.heap.size + 1 + 1 + 1, 0, none⟩ (.int .i64 0)).setCell ⟨w.heap.size + 1 + 1 + 1, 1, none⟩ (.bool false)).setCell ⟨w.heap.size + 1 + 1 + 1, 2, none⟩ (.slice none 0 0)).setCell ⟨w.heap.size + 1 + 1 + 1 + 1, 0, none⟩ (.bool false)).setCell ⟨w.heap.size + 1 + 1 + 1 + 1, 1, none⟩ (.int .i64 0)).setCell ⟨w.heap.size + 1 + 1 + 1 + 1, 2, none⟩ (.int .u32 0)).drew.cell? ⟨w.heap.size, 0, none⟩ = some (.int .i64 S) ∧ (((((((((wz.setCell ⟨w.heap.size + 1 + 1, 0, none⟩ (.int .i64 S)).setCell ⟨w.heap.size + 1 + 1, 1, none⟩ (.bool E)).setCell ⟨w.heap.size + 1 + 1, 2, none⟩ (.slice A1 n c1)).setCell ⟨w.heap.size + 1 + 1 + 1, 0, none⟩ (.int .i64 0)).setCell ⟨w.heap.size + 1 + 1 + 1, 1, none⟩ (.bool false)).setCell ⟨w.heap.size + 1 + 1 + 1, 2, none⟩ (.slice none 0 0)).setCell ⟨w.heap.size + 1 + 1 + 1 + 1, 0, none⟩ (.bool false)).setCell ⟨w.heap.size + 1 + 1 + 1 + 1, 1, none⟩ (.int .i64 0)).setCell ⟨w.heap.size + 1 + 1 + 1 + 1, 2, none⟩ (.int .u32 0)).drew.cell? ⟨w.heap.size, 1, none⟩ = some (.bool E) ∧ (((((((((wz.setCell ⟨w.heap.size + 1 + 1, 0, none⟩ (.int .i64 S)).setCell ⟨w.heap.size + 1 + 1, 1, none⟩ (.bool E)).setCell ⟨w.heap.size + 1 + 1, 2, none⟩ (.slice A1 n c1)).setCell ⟨w.heap.size + 1 + 1 + 1, 0, none⟩ (.int .i64 0)).setCell ⟨w.heap.size + 1 + 1 + 1, 1, none⟩ (.bool false)).setCell ⟨w.heap.size + 1 + 1 + 1, 2, none⟩ (.slice none 0 0)).setCell ⟨w.heap.size + 1 + 1 + 1 + 1, 0, none⟩ (.bool false)).setCell ⟨w.heap.size + 1 + 1 + 1 + 1, 1, none⟩ (.int .i64 0)).setCell ⟨w.heap.size + 1 + 1 + 1 + 1, 2, none⟩ (.int .u32 0)).drew.cell? ⟨w.heap.size, 2, none⟩ = some (.slice A1 n c1)) ∧ ((((((((((wz.setCell ⟨w.heap.size + 1 + 1, 0, none⟩ (.int .i64 S)).setCell ⟨w.heap.size + 1 + 1, 1, none⟩ (.bool E)).setCell ⟨w.heap.size + 1 + 1, 2, none⟩ (.slice A1 n c1)).setCell ⟨w.heap.size + 1 + 1 + 1, 0, none⟩ (.int .i64 0)).setCell ⟨w.heap.size + 1 + 1 + 1, 1, none⟩ (.bool false)).setCell ⟨w.heap.size + 1 + 1 + 1, 2, none⟩ (.slice none 0 0)).setCell ⟨w.heap.size + 1 + 1 + 1 + 1, 0, none⟩ (.bool false)).setCell ⟨w.heap.size + 1 + 1 + 1 + 1, 1, none⟩ (.int .i64 0)).setCell ⟨w.heap.size + 1 + 1 + 1 + 1, 2, none⟩ (.int .u32 0)).drew.cell? ⟨w1.heap.size, 0, none⟩ = some (.int .i64 0) ∧ (((((((((wz.setCell ⟨w.heap.size + 1 + 1, 0, none⟩ (.int .i64 S)).setCell ⟨w.heap.size + 1 + 1, 1, none⟩ (.bool E)).setCell ⟨w.heap.size + 1 + 1, 2, none⟩ (.slice A1 n c1)).setCell ⟨w.heap.size + 1 + 1 + 1, 0, none⟩ (.int .i64 0)).setCell ⟨w.heap.size + 1 + 1 + 1, 1, none⟩ (.bool false)).setCell ⟨w.heap.size + 1 + 1 + 1, 2, none⟩ (.slice none 0 0)).setCell ⟨w.heap.size + 1 + 1 + 1 + 1, 0, none⟩ (.bool false)).setCell ⟨w.heap.size + 1 + 1 + 1 + 1, 1, none⟩ (.int .i64 0)).setCell ⟨w.heap.size + 1 + 1 + 1 + 1, 2, none⟩ (.int .u32 0)).drew.cell? ⟨w1.heap.size, 1, none⟩ = some (.bool false) ∧ (((((((((wz.setCell ⟨w.heap.size + 1 + 1, 0, none⟩ (.int .i64 S)).setCell ⟨w.heap.size + 1 + 1, 1, none⟩ (.bool E)).setCell ⟨w.heap.size + 1 + 1, 2, none⟩ (.slice A1 n c1)).setCell ⟨w.heap.size + 1 + 1 + 1, 0, none⟩ (.int .i64 0)).setCell ⟨w.heap.size + 1 + 1 + 1, 1, none⟩ (.bool false)).setCell ⟨w.heap.size + 1 + 1 + 1, 2, none⟩ (.slice none 0 0)).setCell ⟨w.heap.size + 1 + 1 + 1 + 1, 0, none⟩ (.bool false)).setCell ⟨w.heap.size + 1 + 1 + 1 + 1, 1, none⟩ (.int .i64 0)).setCell ⟨w.heap.size + 1 + 1 + 1 + 1, 2, none⟩ (.int .u32 0)).drew.cell? ⟨w1.heap.size, 2, none⟩ = some (.slice none 0 0)) := ⟨⟨u3.drew.at 0 rfl, u3.drew.at 1 rfl, u3.drew.at 2 rfl⟩, ⟨v3.drew.at 0 rfl, v3.drew.at 1 rfl, v3.drew.at 2 rfl⟩⟩
  have b9 := ((b.put3 (g := w.heap.size + 1 + 1) (by omega) (.int .i64 S) (.bool E) (.slice A1 n c1)).put3 (g := w.heap.size + 1 + 1 + 1) (by omega) (.int .i64 0) (.bool false) (.slice none 0 0)).put3 (g := w.heap.size + 1 + 1 + 1 + 1) (by omega) (.bool false) (.int .i64 0) (.int .u32 0)
  have mo9 := (((ma.put3 t.o (by decide) (.int .i64 S) (.bool E) (.slice A1 n c1)).put3 t1.w (by decide) (.int .i64 0) (.bool false) (.slice none 0 0)).put3 t2.x (by decide) (.bool false) (.int .i64 0) (.int .u32 0)).drew
  go_wp2_with fail
  go_region_held3 (fun w' => (w'.cell? ⟨w.heap.size, 0, none⟩ = some (.int .i64 S) ∧ w'.cell? ⟨w.heap.size, 1, none⟩ = some (.bool E) ∧ w'.cell? ⟨w.heap.size, 2, none⟩ = some (.slice A1 n c1)) ∧ (w'.cell? ⟨w1.heap.size, 0, none⟩ = some (.int .i64 0) ∧ w'.cell? ⟨w1.heap.size, 1, none⟩ = some (.bool false) ∧ w'.cell? ⟨w1.heap.size, 2, none⟩ = some (.slice none 0 0))) (first | with_reducible exact S0 | with_reducible exact Sa | with_reducible exact Sb | with_reducible exact Sc) (fail)
  go_wp2
  have r3 := t3.drew
  replace b9 := b9.drew
  generalize ((((((((((wz.setCell ⟨w.heap.size + 1 + 1, 0, none⟩ (.int .i64 S)).setCell ⟨w.heap.size + 1 + 1, 1, none⟩ (.bool E)).setCell ⟨w.heap.size + 1 + 1, 2, none⟩ (.slice A1 n c1)).setCell ⟨w.heap.size + 1 + 1 + 1, 0, none⟩ (.int .i64 0)).setCell ⟨w.heap.size + 1 + 1 + 1, 1, none⟩ (.bool false)).setCell ⟨w.heap.size + 1 + 1 + 1, 2, none⟩ (.slice none 0 0)).setCell ⟨w.heap.size + 1 + 1 + 1 + 1, 0, none⟩ (.bool false)).setCell ⟨w.heap.size + 1 + 1 + 1 + 1, 1, none⟩ (.int .i64 0)).setCell ⟨w.heap.size + 1 + 1 + 1 + 1, 2, none⟩ (.int .u32 0))).drew = W9 at *
  clear d0 d1 d2 d3 d4 d5 S0 Sa Sb Sc fo o0 o1 o2 fw w0' w1' w2' fx x0 x1 x2 u1 v1 u2 v2 u3 v3 t1 t2 t3
  have d0 := r3.o.at 0 rfl
  have d1 := r3.o.at 1 rfl
  have d2 := r3.o.at 2 rfl
  have d3 := r3.w.at 0 rfl
  have d4 := r3.w.at 1 rfl
  have d5 := r3.w.at 2 rfl
  have d6 := r3.x.at 0 rfl
  have d7 := r3.x.at 1 rfl
  have d8 := r3.x.at 2 rfl
  exact bodyPost_ret (v := .tuple #[.agg #[(.int .i64 S), (.bool E), (.slice A1 n c1)], .agg #[(.int .i64 0), (.bool false), (.slice none 0 0)], .bool false, .agg #[(.bool false), (.int .i64 0), (.int .u32 0)], .int .i64 2]) (by simp [results, Try.f10, go_sem, d0, d1, d2, d3, d4, d5, d6, d7, d8]) rfl ⟨_, _, _, _, _, _, rfl, mo9, Mine.nil _ _, b9.out⟩

set_option maxRecDepth 100000 in
set_option maxHeartbeats 2000000 in
theorem rkStreamOne (S : Int) (E : Bool) (A : Option Addr) (n c : Nat) (D : List Int) (F St : Int) (B : Option Addr) (m d : Nat) (X : List Int) (pd la ic cd : Int) (Pa : Option Addr) (Pn Pc : Nat) (rk al : Bool) (dp wt : Int) (w : World)
    (O1 : Hid (∀ w A c, Byt w A n c D → Calls Try.prog 20 #[.agg #[.int .i64 S, .bool E, .slice A n c]] w (OwnP S E n D w)))
    (R1 : Hid (∀ w A c, Byt w A n c D → Calls Try.prog 13 #[.agg #[.int .i64 S, .bool E, .slice A n c]] w (BoolP true w)))
    (h : Byt w A n c D) (h' : Byt w B m d X) (hn : n ≤ 5000) (hm : m ≤ 5000)
    (S1 : Hid (∀ w, Calls Try.prog 21 #[.int .i64 St] w (Ret (.bool false) w))) :
    Calls Try.prog 10 #[.agg #[.int .i64 S, .bool E, .slice A n c], .agg #[.int .u8 1, .int .u8 F, .int .i64 St, .slice B m d, .int .i64 pd, .int .i64 la, .int .i64 ic, .int .u32 cd, .slice Pa Pn Pc, .bool rk, .bool al, .int .i64 dp, .int .u8 wt]] w (TakeP ⟨S, E, D, 0, false, [], false, false, 0, 2⟩ w) := by
  have HX := Lib.hid h'
  have t0 := RkF.new w #[.int .i64 S, .bool E, .slice A n c] #[.int .u8 1, .int .u8 F, .int .i64 St, .slice B m d, .int .i64 pd, .int .i64 la, .int .i64 ic, .int .u32 cd, .slice Pa Pn Pc, .bool rk, .bool al, .int .i64 dp, .int .u8 wt]
  have b0 := ((((((Bel.refl w).alloc (.cells #[.int .i64 S, .bool E, .slice A n c] 24)).alloc (.cells #[.int .u8 1, .int .u8 F, .int .i64 St, .slice B m d, .int .i64 pd, .int .i64 la, .int .i64 ic, .int .u32 cd, .slice Pa Pn Pc, .bool rk, .bool al, .int .i64 dp, .int .u8 wt] 30)).alloc (.cells #[.int .i64 0, .bool false, .slice none 0 0] 24)).alloc (.cells #[.int .i64 0, .bool false, .slice none 0 0] 24)).alloc (.cells #[.bool false, .int .i64 0, .int .u32 0] 34))
  have y := h.below b0.out
  clear h h'
  go_enter Try.func10, Try.ntmps10
  go_wp2_with fail
  refine (O1.out _ _ _ y).mono ?_
  rintro e w1 ⟨A1, c1, rfl, m1, hb⟩
  replace b0 := (b0).below hb; replace t0 := (t0).below hb
  replace m1 := m1.base_le (b := w.heap.size) (by simp; omega)
  have f1 := t0.b.frozen
  have o0 := t0.b.at 0 rfl
  have o1 := t0.b.at 1 rfl
  have o2 := t0.b.at 2 rfl
  have hg : w.heap.size + 4 < w1.heap.size := t0.x.lt
  have t := (t0.setB (.int .i64 S) (.bool E) (.slice A1 n c1)).alloc (.cells #[.int .i64 0, .bool false, .slice none 0 0] 24)
  have b := (b0.put3 (g := w.heap.size) (Nat.le_refl _) (.int .i64 S) (.bool E) (.slice A1 n c1)).alloc (.cells #[.int .i64 0, .bool false, .slice none 0 0] 24)
  have ma := (m1.put3 t0.b (by decide) (.int .i64 S) (.bool E) (.slice A1 n c1)).alloc (.cells #[.int .i64 0, .bool false, .slice none 0 0] 24)
  have q := Blk.newAt (b := w1.heap.size) (((w1.setCell ⟨w.heap.size, 0, none⟩ (.int .i64 S)).setCell ⟨w.heap.size, 1, none⟩ (.bool E)).setCell ⟨w.heap.size, 2, none⟩ (.slice A1 n c1)) 24 #[.int .i64 0, .bool false, .slice none 0 0] (by simp)
  have zb0 := t.b.at 0 rfl
  have zb1 := t.b.at 1 rfl
  have zb2 := t.b.at 2 rfl
  go_wp2_with fail
  generalize (((w1.setCell ⟨w.heap.size, 0, none⟩ (.int .i64 S)).setCell ⟨w.heap.size, 1, none⟩ (.bool E)).setCell ⟨w.heap.size, 2, none⟩ (.slice A1 n c1)).alloc (.cells #[.int .i64 0, .bool false, .slice none 0 0] 24) = W2 at *
  refine (R1.out _ _ _ ma.byt).mono ?_
  rintro e wz ⟨rfl, hb⟩
  replace b := (b).below hb; replace t := (t).below hb; replace ma := (ma).below hb; replace q := (q).below hb
  clear f1 o0 o1 o2 t0 b0 m1 y zb0 zb1 zb2
  have zb0 := t.b.at 0 rfl
  have zb1 := t.b.at 1 rfl
  have zb2 := t.b.at 2 rfl
  have zf0 := t.f.at 0 rfl
  have zf1 := t.f.at 1 rfl
  have zf2 := t.f.at 2 rfl
  go_wp2_with (first | (go_at_call 21; refine (S1.out _).mono ?_; rintro e w9 ⟨rfl, rfl⟩))
  have S1 : (wz.cell? ⟨w.heap.size, 0, none⟩ = some (.int .i64 S) ∧ wz.cell? ⟨w.heap.size, 1, none⟩ = some (.bool E) ∧ wz.cell? ⟨w.heap.size, 2, none⟩ = some (.slice A1 n c1)) ∧ (wz.cell? ⟨w1.heap.size, 0, none⟩ = some (.int .i64 0) ∧ wz.cell? ⟨w1.heap.size, 1, none⟩ = some (.bool false) ∧ wz.cell? ⟨w1.heap.size, 2, none⟩ = some (.slice none 0 0)) := ⟨⟨t.b.at 0 rfl, t.b.at 1 rfl, t.b.at 2 rfl⟩, ⟨q.at 0 rfl, q.at 1 rfl, q.at 2 rfl⟩⟩
  obtain ⟨⟨d0, d1, d2⟩, d3, d4, d5⟩ := S1
  have S0 : (wz.drew.cell? ⟨w.heap.size, 0, none⟩ = some (.int .i64 S) ∧ wz.drew.cell? ⟨w.heap.size, 1, none⟩ = some (.bool E) ∧ wz.drew.cell? ⟨w.heap.size, 2, none⟩ = some (.slice A1 n c1)) ∧ (wz.drew.cell? ⟨w1.heap.size, 0, none⟩ = some (.int .i64 0) ∧ wz.drew.cell? ⟨w1.heap.size, 1, none⟩ = some (.bool false) ∧ wz.drew.cell? ⟨w1.heap.size, 2, none⟩ = some (.slice none 0 0)) := ⟨⟨d0, d1, d2⟩, d3, d4, d5⟩
  have fo := t.o.frozen
  have o0 := t.o.at 0 rfl
  have o1 := t.o.at 1 rfl
  have o2 := t.o.at 2 rfl
  have t1 := t.setO (.int .i64 S) (.bool E) (.slice A1 n c1)
  have u1 := t.b.far3 (g := w.heap.size + 1 + 1) (by omega) (.int .i64 S) (.bool E) (.slice A1 n c1)
  have v1 := q.far3 (g := w.heap.size + 1 + 1) (by omega) (.int .i64 S) (.bool E) (.slice A1 n c1)
  have fw := t1.w.frozen
  have w0' := t1.w.at 0 rfl
  have w1' := t1.w.at 1 rfl
  have w2' := t1.w.at 2 rfl
  have t2 := t1.setW (.int .i64 0) (.bool false) (.slice none 0 0)
  have u2 := u1.far3 (g := w.heap.size + 1 + 1 + 1) (by omega) (.int .i64 0) (.bool false) (.slice none 0 0)
  have v2 := v1.far3 (g := w.heap.size + 1 + 1 + 1) (by omega) (.int .i64 0) (.bool false) (.slice none 0 0)
  have fx := t2.x.frozen
  have x0 := t2.x.at 0 rfl
  have x1 := t2.x.at 1 rfl
  have x2 := t2.x.at 2 rfl
  have t3 := t2.setX (.bool false) (.int .i64 0) (.int .u32 0)
  have u3 := u2.far3 (g := w.heap.size + 1 + 1 + 1 + 1) (by omega) (.bool false) (.int .i64 0) (.int .u32 0)
  have v3 := v2.far3 (g := w.heap.size + 1 + 1 + 1 + 1) (by omega) (.bool false) (.int .i64 0) (.int .u32 0)
  have Sa : ((((wz.setCell ⟨w.heap.size + 1 + 1, 0, none⟩ (.int .i64 S)).setCell ⟨w.heap.size + 1 + 1, 1, none⟩ (.bool E)).setCell ⟨w.heap.size + 1 + 1, 2, none⟩ (.slice A1 n c1)).drew.cell? ⟨w.heap.size, 0, none⟩ = some (.int .i64 S) ∧ (((wz.setCell ⟨w.heap.size + 1 + 1, 0, none⟩ (.int .i64 S)).setCell ⟨w.heap.size + 1 + 1, 1, none⟩ (.bool E)).setCell ⟨w.heap.size + 1 + 1, 2, none⟩ (.slice A1 n c1)).drew.cell? ⟨w.heap.size, 1, none⟩ = some (.bool E) ∧ (((wz.setCell ⟨w.heap.size + 1 + 1, 0, none⟩ (.int .i64 S)).setCell ⟨w.heap.size + 1 + 1, 1, none⟩ (.bool E)).setCell ⟨w.heap.size + 1 + 1, 2, none⟩ (.slice A1 n c1)).drew.cell? ⟨w.heap.size, 2, none⟩ = some (.slice A1 n c1)) ∧ ((((wz.setCell ⟨w.heap.size + 1 + 1, 0, none⟩ (.int .i64 S)).setCell ⟨w.heap.size + 1 + 1, 1, none⟩ (.bool E)).setCell ⟨w.heap.size + 1 + 1, 2, none⟩ (.slice A1 n c1)).drew.cell? ⟨w1.heap.size, 0, none⟩ = some (.int .i64 0) ∧ (((wz.setCell ⟨w.heap.size + 1 + 1, 0, none⟩ (.int .i64 S)).setCell ⟨w.heap.size + 1 + 1, 1, none⟩ (.bool E)).setCell ⟨w.heap.size + 1 + 1, 2, none⟩ (.slice A1 n c1)).drew.cell? ⟨w1.heap.size, 1, none⟩ = some (.bool false) ∧ (((wz.setCell ⟨w.heap.size + 1 + 1, 0, none⟩ (.int .i64 S)).setCell ⟨w.heap.size + 1 + 1, 1, none⟩ (.bool E)).setCell ⟨w.heap.size + 1 + 1, 2, none⟩ (.slice A1 n c1)).drew.cell? ⟨w1.heap.size, 2, none⟩ = some (.slice none 0 0)) := ⟨⟨u1.drew.at 0 rfl, u1.drew.at 1 rfl, u1.drew.at 2 rfl⟩, ⟨v1.drew.at 0 rfl, v1.drew.at 1 rfl, v1.drew.at 2 rfl⟩⟩
  have Sb : (((((((wz.setCell ⟨w.heap.size + 1 + 1, 0, none⟩ (.int .i64 S)).setCell ⟨w.heap.size + 1 + 1, 1, none⟩ (.bool E)).setCell ⟨w.heap.size + 1 + 1, 2, none⟩ (.slice A1 n c1)).setCell ⟨w.heap.size + 1 + 1 + 1, 0, none⟩ (.int .i64 0)).setCell ⟨w.heap.size + 1 + 1 + 1, 1, none⟩ (.bool false)).setCell ⟨w.heap.size + 1 + 1 + 1, 2, none⟩ (.slice none 0 0)).drew.cell? ⟨w.heap.size, 0, none⟩ = some (.int .i64 S) ∧ ((((((wz.setCell ⟨w.heap.size + 1 + 1, 0, none⟩ (.int .i64 S)).setCell ⟨w.heap.size + 1 + 1, 1, none⟩ (.bool E)).setCell ⟨w.heap.size + 1 + 1, 2, none⟩ (.slice A1 n c1)).setCell ⟨w.heap.size + 1 + 1 + 1, 0, none⟩ (.int .i64 0)).setCell ⟨w.heap.size + 1 + 1 + 1, 1, none⟩ (.bool false)).setCell ⟨w.heap.size + 1 + 1 + 1, 2, none⟩ (.slice none 0 0)).drew.cell? ⟨w.heap.size, 1, none⟩ = some (.bool E) ∧ ((((((wz.setCell ⟨w.heap.size + 1 + 1, 0, none⟩ (.int .i64 S)).setCell ⟨w.heap.size + 1 + 1, 1, none⟩ (.bool E)).setCell ⟨w.heap.size + 1 + 1, 2, none⟩ (.slice A1 n c1)).setCell ⟨w.heap.size + 1 + 1 + 1, 0, none⟩ (.int .i64 0)).setCell ⟨w.heap.size + 1 + 1 + 1, 1, none⟩ (.bool false)).setCell ⟨w.heap.size + 1 + 1 + 1, 2, none⟩ (.slice none 0 0)).drew.cell? ⟨w.heap.size, 2, none⟩ = some (.slice A1 n c1)) ∧ (((((((wz.setCell ⟨w.heap.size + 1 + 1, 0, none⟩ (.int .i64 S)).setCell ⟨w.heap.size + 1 + 1, 1, none⟩ (.bool E)).setCell ⟨w.heap.size + 1 + 1, 2, none⟩ (.slice A1 n c1)).setCell ⟨w.heap.size + 1 + 1 + 1, 0, none⟩ (.int .i64 0)).setCell ⟨w.heap.size + 1 + 1 + 1, 1, none⟩ (.bool false)).setCell ⟨w.heap.size + 1 + 1 + 1, 2, none⟩ (.slice none 0 0)).drew.cell? ⟨w1.heap.size, 0, none⟩ = some (.int .i64 0) ∧ ((((((wz.setCell ⟨w.heap.size + 1 + 1, 0, none⟩ (.int .i64 S)).setCell ⟨w.heap.size + 1 + 1, 1, none⟩ (.bool E)).setCell ⟨w.heap.size + 1 + 1, 2, none⟩ (.slice A1 n c1)).setCell ⟨w.heap.size + 1 + 1 + 1, 0, none⟩ (.int .i64 0)).setCell ⟨w.heap.size + 1 + 1 + 1, 1, none⟩ (.bool false)).setCell ⟨w.heap.size + 1 + 1 + 1, 2, none⟩ (.slice none 0 0)).drew.cell? ⟨w1.heap.size, 1, none⟩ = some (.bool false) ∧ ((((((wz.setCell ⟨w.heap.size + 1 + 1, 0, none⟩ (.int .i64 S)).setCell ⟨w.heap.size + 1 + 1, 1, none⟩ (.bool E)).setCell ⟨w.heap.size + 1 + 1, 2, none⟩ (.slice A1 n c1)).setCell ⟨w.heap.size + 1 + 1 + 1, 0, none⟩ (.int .i64 0)).setCell ⟨w.heap.size + 1 + 1 + 1, 1, none⟩ (.bool false)).setCell ⟨w.heap.size + 1 + 1 + 1, 2, none⟩ (.slice none 0 0)).drew.cell? ⟨w1.heap.size, 2, none⟩ = some (.slice none 0 0)) := ⟨⟨u2.drew.at 0 rfl, u2.drew.at 1 rfl, u2.drew.at 2 rfl⟩, ⟨v2.drew.at 0 rfl, v2.drew.at 1 rfl, v2.drew.at 2 rfl⟩⟩
  have Sc : ((((((((((wz.setCell ⟨w.heap.size + 1 + 1, 0, none⟩ (.int .i64 S)).setCell ⟨w.heap.size + 1 + 1, 1, none⟩ (.bool E)).setCell ⟨w.heap.size + 1 + 1, 2, none⟩ (.slice A1 n c1)).setCell ⟨w.heap.size + 1 + 1 + 1, 0, none⟩ (.int .i64 0)).setCell ⟨w.heap.size + 1 + 1 + 1, 1, none⟩ (.bool false)).setCell ⟨w.heap.size + 1 + 1 + 1, 2, none⟩ (.slice none 0 0)).setCell ⟨w.heap.size + 1 + 1 + 1 + 1, 0, none⟩ (.bool false)).setCell ⟨w.heap.size + 1 + 1 + 1 + 1, 1, none⟩ (.int .i64 0)).setCell ⟨w.heap.size + 1 + 1 + 1 + 1, 2, none⟩ (.int .u32 0)).drew.cell? ⟨w.heap.size, 0, none⟩ = some (.int .i64 S) ∧ (((((((((wz.setCell ⟨w.heap.size + 1 + 1, 0, none⟩ (.int .i64 S)).setCell ⟨w.heap.size + 1 + 1, 1, none⟩ (.bool E)).setCell ⟨w.heap.size + 1 + 1, 2, none⟩ (.slice A1 n c1)).setCell ⟨w.heap.size + 1 + 1 + 1, 0, none⟩ (.int .i64 0)).setCell ⟨w.heap.size + 1 + 1 + 1, 1, none⟩ (.bool false)).setCell ⟨w.heap.size + 1 + 1 + 1, 2, none⟩ (.slice none 0 0)).setCell ⟨w.heap.size + 1 + 1 + 1 + 1, 0, none⟩ (.bool false)).setCell ⟨w.heap.size + 1 + 1 + 1 + 1, 1, none⟩ (.int .i64 0)).setCell ⟨w.heap.size + 1 + 1 + 1 + 1, 2, none⟩ (.int .u32 0)).drew.cell? ⟨w.heap.size, 1, none⟩ = some (.bool E) ∧ (((((((((wz.setCell ⟨w.heap.size + 1 + 1, 0, none⟩ (.int .i64 S)).setCell ⟨w.heap.size + 1 + 1, 1, none⟩ (.bool E)).setCell ⟨w.heap.size + 1 + 1, 2, none⟩ (.slice A1 n c1)).setCell ⟨w.heap.size + 1 + 1 + 1, 0, none⟩ (.int .i64 0)).setCell ⟨w.heap.size + 1 + 1 + 1, 1, none⟩ (.bool false)).setCell ⟨w.heap.size + 1 + 1 + 1, 2, none⟩ (.slice none 0 0)).setCell ⟨w.heap.size + 1 + 1 + 1 + 1, 0, none⟩ (.bool false)).setCell ⟨w.heap.size + 1 + 1 + 1 + 1, 1, none⟩ (.int .i64 0)).setCell ⟨w.heap.size + 1 + 1 + 1 + 1, 2, none⟩ (.int .u32 0)).drew.cell? ⟨w.heap.size, 2, none⟩ = some (.slice A1 n c1)) ∧ ((((((((((wz.setCell ⟨w.heap.size + 1 + 1, 0, none⟩ (.int .i64 S)).setCell ⟨w.heap.size + 1 + 1, 1, none⟩ (.bool E)).setCell ⟨w.heap.size + 1 + 1, 2, none⟩ (.slice A1 n c1)).setCell ⟨w.heap.size + 1 + 1 + 1, 0, none⟩ (.int .i64 0)).setCell ⟨w.heap.size + 1 + 1 + 1, 1, none⟩ (.bool false)).setCell ⟨w.heap.size + 1 + 1 + 1, 2, none⟩ (.slice none 0 0)).setCell ⟨w.heap.size + 1 + 1 + 1 + 1, 0, none⟩ (.bool false)).setCell ⟨w.heap.size + 1 + 1 + 1 + 1, 1, none⟩ (.int .i64 0)).setCell ⟨w.heap.size + 1 + 1 + 1 + 1, 2, none⟩ (.int .u32 0)).drew.cell? ⟨w1.heap.size, 0, none⟩ = some (.int .i64 0) ∧ (((((((((wz.setCell ⟨w.heap.size + 1 + 1, 0, none⟩ (.int .i64 S)).setCell ⟨w.heap.size + 1 + 1, 1, none⟩ (.bool E)).setCell ⟨w.heap.size + 1 + 1, 2, none⟩ (.slice A1 n c1)).setCell ⟨w.heap.size + 1 + 1 + 1, 0, none⟩ (.int .i64 0)).setCell ⟨w.heap.size + 1 + 1 + 1, 1, none⟩ (.bool false)).setCell ⟨w.heap.size + 1 + 1 + 1, 2, none⟩ (.slice none 0 0)).setCell ⟨w.heap.size + 1 + 1 + 1 + 1, 0, none⟩ (.bool false)).setCell ⟨w.heap.size + 1 + 1 + 1 + 1, 1, none⟩ (.int .i64 0)).setCell ⟨w.heap.size + 1 + 1 + 1 + 1, 2, none⟩ (.int .u32 0)).drew.cell? ⟨w1.heap.size, 1, none⟩ = some (.bool false) ∧ (((((((((wz.setCell ⟨w.heap.size + 1 + 1, 0, none⟩ (.int .i64 S)).setCell ⟨w.heap.size + 1 + 1, 1, none⟩ (.bool E)).setCell ⟨w.heap.size + 1 + 1, 2, none⟩ (.slice A1 n c1)).setCell ⟨w.heap.size + 1 + 1 + 1, 0, none⟩ (.int .i64 0)).setCell ⟨w.heap.size + 1 + 1 + 1, 1, none⟩ (.bool false)).setCell ⟨w.heap.size + 1 + 1 + 1, 2, none⟩ (.slice none 0 0)).setCell ⟨w.heap.size + 1 + 1 + 1 + 1, 0, none⟩ (.bool false)).setCell ⟨w.heap.size + 1 + 1 + 1 + 1, 1, none⟩ (.int .i64 0)).setCell ⟨w.heap.size + 1 + 1 + 1 + 1, 2, none⟩ (.int .u32 0)).drew.cell? ⟨w1.heap.size, 2, none⟩ = some (.slice none 0 0)) := ⟨⟨u3.drew.at 0 rfl, u3.drew.at 1 rfl, u3.drew.at 2 rfl⟩, ⟨v3.drew.at 0 rfl, v3.drew.at 1 rfl, v3.drew.at 2 rfl⟩⟩
  have b9 := ((b.put3 (g := w.heap.size + 1 + 1) (by omega) (.int .i64 S) (.bool E) (.slice A1 n c1)).put3 (g := w.heap.size + 1 + 1 + 1) (by omega) (.int .i64 0) (.bool false) (.slice none 0 0)).put3 (g := w.heap.size + 1 + 1 + 1 + 1) (by omega) (.bool false) (.int .i64 0) (.int .u32 0)
  have mo9 := (((ma.put3 t.o (by decide) (.int .i64 S) (.bool E) (.slice A1 n c1)).put3 t1.w (by decide) (.int .i64 0) (.bool false) (.slice none 0 0)).put3 t2.x (by decide) (.bool false) (.int .i64 0) (.int .u32 0)).drew
  go_wp2_with fail
  go_region_held3 (fun w' => (w'.cell? ⟨w.heap.size, 0, none⟩ = some (.int .i64 S) ∧ w'.cell? ⟨w.heap.size, 1, none⟩ = some (.bool E) ∧ w'.cell? ⟨w.heap.size, 2, none⟩ = some (.slice A1 n c1)) ∧ (w'.cell? ⟨w1.heap.size, 0, none⟩ = some (.int .i64 0) ∧ w'.cell? ⟨w1.heap.size, 1, none⟩ = some (.bool false) ∧ w'.cell? ⟨w1.heap.size, 2, none⟩ = some (.slice none 0 0))) (first | with_reducible exact S0 | with_reducible exact Sa | with_reducible exact Sb | with_reducible exact Sc) (fail)
  go_wp2
  have r3 := t3.drew
  replace b9 := b9.drew
  generalize ((((((((((wz.setCell ⟨w.heap.size + 1 + 1, 0, none⟩ (.int .i64 S)).setCell ⟨w.heap.size + 1 + 1, 1, none⟩ (.bool E)).setCell ⟨w.heap.size + 1 + 1, 2, none⟩ (.slice A1 n c1)).setCell ⟨w.heap.size + 1 + 1 + 1, 0, none⟩ (.int .i64 0)).setCell ⟨w.heap.size + 1 + 1 + 1, 1, none⟩ (.bool false)).setCell ⟨w.heap.size + 1 + 1 + 1, 2, none⟩ (.slice none 0 0)).setCell ⟨w.heap.size + 1 + 1 + 1 + 1, 0, none⟩ (.bool false)).setCell ⟨w.heap.size + 1 + 1 + 1 + 1, 1, none⟩ (.int .i64 0)).setCell ⟨w.heap.size + 1 + 1 + 1 + 1, 2, none⟩ (.int .u32 0))).drew = W9 at *
  clear d0 d1 d2 d3 d4 d5 S0 Sa Sb Sc fo o0 o1 o2 fw w0' w1' w2' fx x0 x1 x2 u1 v1 u2 v2 u3 v3 t1 t2 t3
  have d0 := r3.o.at 0 rfl
  have d1 := r3.o.at 1 rfl
  have d2 := r3.o.at 2 rfl
  have d3 := r3.w.at 0 rfl
  have d4 := r3.w.at 1 rfl
  have d5 := r3.w.at 2 rfl
  have d6 := r3.x.at 0 rfl
  have d7 := r3.x.at 1 rfl
  have d8 := r3.x.at 2 rfl
  exact bodyPost_ret (v := .tuple #[.agg #[(.int .i64 S), (.bool E), (.slice A1 n c1)], .agg #[(.int .i64 0), (.bool false), (.slice none 0 0)], .bool false, .agg #[(.bool false), (.int .i64 0), (.int .u32 0)], .int .i64 2]) (by simp [results, Try.f10, go_sem, d0, d1, d2, d3, d4, d5, d6, d7, d8]) rfl ⟨_, _, _, _, _, _, rfl, mo9, Mine.nil _ _, b9.out⟩

set_option maxRecDepth 100000 in
set_option maxHeartbeats 2000000 in
theorem rkStreamNine (S : Int) (E : Bool) (A : Option Addr) (n c : Nat) (D : List Int) (F St : Int) (B : Option Addr) (m d : Nat) (X : List Int) (pd la ic cd : Int) (Pa : Option Addr) (Pn Pc : Nat) (rk al : Bool) (dp wt : Int) (w : World)
    (O1 : Hid (∀ w A c, Byt w A n c D → Calls Try.prog 20 #[.agg #[.int .i64 S, .bool E, .slice A n c]] w (OwnP S E n D w)))
    (R1 : Hid (∀ w A c, Byt w A n c D → Calls Try.prog 13 #[.agg #[.int .i64 S, .bool E, .slice A n c]] w (BoolP true w)))
    (h : Byt w A n c D) (h' : Byt w B m d X) (hn : n ≤ 5000) (hm : m ≤ 5000)
    (S1 : Hid (∀ w, Calls Try.prog 21 #[.int .i64 St] w (Ret (.bool false) w))) :
    Calls Try.prog 10 #[.agg #[.int .i64 S, .bool E, .slice A n c], .agg #[.int .u8 9, .int .u8 F, .int .i64 St, .slice B m d, .int .i64 pd, .int .i64 la, .int .i64 ic, .int .u32 cd, .slice Pa Pn Pc, .bool rk, .bool al, .int .i64 dp, .int .u8 wt]] w (TakeP ⟨S, E, D, 0, false, [], false, false, 0, 2⟩ w) := by
  have HX := Lib.hid h'
  have t0 := RkF.new w #[.int .i64 S, .bool E, .slice A n c] #[.int .u8 9, .int .u8 F, .int .i64 St, .slice B m d, .int .i64 pd, .int .i64 la, .int .i64 ic, .int .u32 cd, .slice Pa Pn Pc, .bool rk, .bool al, .int .i64 dp, .int .u8 wt]
  have b0 := ((((((Bel.refl w).alloc (.cells #[.int .i64 S, .bool E, .slice A n c] 24)).alloc (.cells #[.int .u8 9, .int .u8 F, .int .i64 St, .slice B m d, .int .i64 pd, .int .i64 la, .int .i64 ic, .int .u32 cd, .slice Pa Pn Pc, .bool rk, .bool al, .int .i64 dp, .int .u8 wt] 30)).alloc (.cells #[.int .i64 0, .bool false, .slice none 0 0] 24)).alloc (.cells #[.int .i64 0, .bool false, .slice none 0 0] 24)).alloc (.cells #[.bool false, .int .i64 0, .int .u32 0] 34))
  have y := h.below b0.out
  clear h h'
  go_enter Try.func10, Try.ntmps10
  go_wp2_with fail
  refine (O1.out _ _ _ y).mono ?_
  rintro e w1 ⟨A1, c1, rfl, m1, hb⟩
  replace b0 := (b0).below hb; replace t0 := (t0).below hb
  replace m1 := m1.base_le (b := w.heap.size) (by simp; omega)
  have f1 := t0.b.frozen
  have o0 := t0.b.at 0 rfl
  have o1 := t0.b.at 1 rfl
  have o2 := t0.b.at 2 rfl
  have hg : w.heap.size + 4 < w1.heap.size := t0.x.lt
  have t := (t0.setB (.int .i64 S) (.bool E) (.slice A1 n c1)).alloc (.cells #[.int .i64 0, .bool false, .slice none 0 0] 24)
  have b := (b0.put3 (g := w.heap.size) (Nat.le_refl _) (.int .i64 S) (.bool E) (.slice A1 n c1)).alloc (.cells #[.int .i64 0, .bool false, .slice none 0 0] 24)
  have ma := (m1.put3 t0.b (by decide) (.int .i64 S) (.bool E) (.slice A1 n c1)).alloc (.cells #[.int .i64 0, .bool false, .slice none 0 0] 24)
  have q := Blk.newAt (b := w1.heap.size) (((w1.setCell ⟨w.heap.size, 0, none⟩ (.int .i64 S)).setCell ⟨w.heap.size, 1, none⟩ (.bool E)).setCell ⟨w.heap.size, 2, none⟩ (.slice A1 n c1)) 24 #[.int .i64 0, .bool false, .slice none 0 0] (by simp)
  have zb0 := t.b.at 0 rfl
  have zb1 := t.b.at 1 rfl
  have zb2 := t.b.at 2 rfl
  go_wp2_with fail
  generalize (((w1.setCell ⟨w.heap.size, 0, none⟩ (.int .i64 S)).setCell ⟨w.heap.size, 1, none⟩ (.bool E)).setCell ⟨w.heap.size, 2, none⟩ (.slice A1 n c1)).alloc (.cells #[.int .i64 0, .bool false, .slice none 0 0] 24) = W2 at *
  refine (R1.out _ _ _ ma.byt).mono ?_
  rintro e wz ⟨rfl, hb⟩
  replace b := (b).below hb; replace t := (t).below hb; replace ma := (ma).below hb; replace q := (q).below hb
  clear f1 o0 o1 o2 t0 b0 m1 y zb0 zb1 zb2
  have zb0 := t.b.at 0 rfl
  have zb1 := t.b.at 1 rfl
  have zb2 := t.b.at 2 rfl
  have zf0 := t.f.at 0 rfl
  have zf1 := t.f.at 1 rfl
  have zf2 := t.f.at 2 rfl
  go_wp2_with (first | (go_at_call 21; refine (S1.out _).mono ?_; rintro e w9 ⟨rfl, rfl⟩))
  have S1 : (wz.cell? ⟨w.heap.size, 0, none⟩ = some (.int .i64 S) ∧ wz.cell? ⟨w.heap.size, 1, none⟩ = some (.bool E) ∧ wz.cell? ⟨w.heap.size, 2, none⟩ = some (.slice A1 n c1)) ∧ (wz.cell? ⟨w1.heap.size, 0, none⟩ = some (.int .i64 0) ∧ wz.cell? ⟨w1.heap.size, 1, none⟩ = some (.bool false) ∧ wz.cell? ⟨w1.heap.size, 2, none⟩ = some (.slice none 0 0)) := ⟨⟨t.b.at 0 rfl, t.b.at 1 rfl, t.b.at 2 rfl⟩, ⟨q.at 0 rfl, q.at 1 rfl, q.at 2 rfl⟩⟩
  obtain ⟨⟨d0, d1, d2⟩, d3, d4, d5⟩ := S1
  have S0 : (wz.drew.cell? ⟨w.heap.size, 0, none⟩ = some (.int .i64 S) ∧ wz.drew.cell? ⟨w.heap.size, 1, none⟩ = some (.bool E) ∧ wz.drew.cell? ⟨w.heap.size, 2, none⟩ = some (.slice A1 n c1)) ∧ (wz.drew.cell? ⟨w1.heap.size, 0, none⟩ = some (.int .i64 0) ∧ wz.drew.cell? ⟨w1.heap.size, 1, none⟩ = some (.bool false) ∧ wz.drew.cell? ⟨w1.heap.size, 2, none⟩ = some (.slice none 0 0)) := ⟨⟨d0, d1, d2⟩, d3, d4, d5⟩
  have fo := t.o.frozen
  have o0 := t.o.at 0 rfl
  have o1 := t.o.at 1 rfl
  have o2 := t.o.at 2 rfl
  have t1 := t.setO (.int .i64 S) (.bool E) (.slice A1 n c1)
  have u1 := t.b.far3 (g := w.heap.size + 1 + 1) (by omega) (.int .i64 S) (.bool E) (.slice A1 n c1)
  have v1 := q.far3 (g := w.heap.size + 1 + 1) (by omega) (.int .i64 S) (.bool E) (.slice A1 n c1)
  have fw := t1.w.frozen
  have w0' := t1.w.at 0 rfl
  have w1' := t1.w.at 1 rfl
  have w2' := t1.w.at 2 rfl
  have t2 := t1.setW (.int .i64 0) (.bool false) (.slice none 0 0)
  have u2 := u1.far3 (g := w.heap.size + 1 + 1 + 1) (by omega) (.int .i64 0) (.bool false) (.slice none 0 0)
  have v2 := v1.far3 (g := w.heap.size + 1 + 1 + 1) (by omega) (.int .i64 0) (.bool false) (.slice none 0 0)
  have fx := t2.x.frozen
  have x0 := t2.x.at 0 rfl
  have x1 := t2.x.at 1 rfl
  have x2 := t2.x.at 2 rfl
  have t3 := t2.setX (.bool false) (.int .i64 0) (.int .u32 0)
  have u3 := u2.far3 (g := w.heap.size + 1 + 1 + 1 + 1) (by omega) (.bool false) (.int .i64 0) (.int .u32 0)
  have v3 := v2.far3 (g := w.heap.size + 1 + 1 + 1 + 1) (by omega) (.bool false) (.int .i64 0) (.int .u32 0)
  have Sa : ((((wz.setCell ⟨w.heap.size + 1 + 1, 0, none⟩ (.int .i64 S)).setCell ⟨w.heap.size + 1 + 1, 1, none⟩ (.bool E)).setCell ⟨w.heap.size + 1 + 1, 2, none⟩ (.slice A1 n c1)).drew.cell? ⟨w.heap.size, 0, none⟩ = some (.int .i64 S) ∧ (((wz.setCell ⟨w.heap.size + 1 + 1, 0, none⟩ (.int .i64 S)).setCell ⟨w.heap.size + 1 + 1, 1, none⟩ (.bool E)).setCell ⟨w.heap.size + 1 + 1, 2, none⟩ (.slice A1 n c1)).drew.cell? ⟨w.heap.size, 1, none⟩ = some (.bool E) ∧ (((wz.setCell ⟨w.heap.size + 1 + 1, 0, none⟩ (.int .i64 S)).setCell ⟨w.heap.size + 1 + 1, 1, none⟩ (.bool E)).setCell ⟨w.heap.size + 1 + 1, 2, none⟩ (.slice A1 n c1)).drew.cell? ⟨w.heap.size, 2, none⟩ = some (.slice A1 n c1)) ∧ ((((wz.setCell ⟨w.heap.size + 1 + 1, 0, none⟩ (.int .i64 S)).setCell ⟨w.heap.size + 1 + 1, 1, none⟩ (.bool E)).setCell ⟨w.heap.size + 1 + 1, 2, none⟩ (.slice A1 n c1)).drew.cell? ⟨w1.heap.size, 0, none⟩ = some (.int .i64 0) ∧ (((wz.setCell ⟨w.heap.size + 1 + 1, 0, none⟩ (.int .i64 S)).setCell ⟨w.heap.size + 1 + 1, 1, none⟩ (.bool E)).setCell ⟨w.heap.size + 1 + 1, 2, none⟩ (.slice A1 n c1)).drew.cell? ⟨w1.heap.size, 1, none⟩ = some (.bool false) ∧ (((wz.setCell ⟨w.heap.size + 1 + 1, 0, none⟩ (.int .i64 S)).setCell ⟨w.heap.size + 1 + 1, 1, none⟩ (.bool E)).setCell ⟨w.heap.size + 1 + 1, 2, none⟩ (.slice A1 n c1)).drew.cell? ⟨w1.heap.size, 2, none⟩ = some (.slice none 0 0)) := ⟨⟨u1.drew.at 0 rfl, u1.drew.at 1 rfl, u1.drew.at 2 rfl⟩, ⟨v1.drew.at 0 rfl, v1.drew.at 1 rfl, v1.drew.at 2 rfl⟩⟩
  have Sb : (((((((wz.setCell ⟨w.heap.size + 1 + 1, 0, none⟩ (.int .i64 S)).setCell ⟨w.heap.size + 1 + 1, 1, none⟩ (.bool E)).setCell ⟨w.heap.size + 1 + 1, 2, none⟩ (.slice A1 n c1)).setCell ⟨w.heap.size + 1 + 1 + 1, 0, none⟩ (.int .i64 0)).setCell ⟨w.heap.size + 1 + 1 + 1, 1, none⟩ (.bool false)).setCell ⟨w.heap.size + 1 + 1 + 1, 2, none⟩ (.slice none 0 0)).drew.cell? ⟨w.heap.size, 0, none⟩ = some (.int .i64 S) ∧ ((((((wz.setCell ⟨w.heap.size + 1 + 1, 0, none⟩ (.int .i64 S)).setCell ⟨w.heap.size + 1 + 1, 1, none⟩ (.bool E)).setCell ⟨w.heap.size + 1 + 1, 2, none⟩ (.slice A1 n c1)).setCell ⟨w.heap.size + 1 + 1 + 1, 0, none⟩ (.int .i64 0)).setCell ⟨w.heap.size + 1 + 1 + 1, 1, none⟩ (.bool false)).setCell ⟨w.heap.size + 1 + 1 + 1, 2, none⟩ (.slice none 0 0)).drew.cell? ⟨w.heap.size, 1, none⟩ = some (.bool E) ∧ ((((((wz.setCell ⟨w.heap.size + 1 + 1, 0, none⟩ (.int .i64 S)).setCell ⟨w.heap.size + 1 + 1, 1, none⟩ (.bool E)).setCell ⟨w.heap.size + 1 + 1, 2, none⟩ (.slice A1 n c1)).setCell ⟨w.heap.size + 1 + 1 + 1, 0, none⟩ (.int .i64 0)).setCell ⟨w.heap.size + 1 + 1 + 1, 1, none⟩ (.bool false)).setCell ⟨w.heap.size + 1 + 1 + 1, 2, none⟩ (.slice none 0 0)).drew.cell? ⟨w.heap.size, 2, none⟩ = some (.slice A1 n c1)) ∧ (((((((wz.setCell ⟨w.heap.size + 1 + 1, 0, none⟩ (.int .i64 S)).setCell ⟨w.heap.size + 1 + 1, 1, none⟩ (.bool E)).setCell ⟨w.heap.size + 1 + 1, 2, none⟩ (.slice A1 n c1)).setCell ⟨w.heap.size + 1 + 1 + 1, 0, none⟩ (.int .i64 0)).setCell ⟨w.heap.size + 1 + 1 + 1, 1, none⟩ (.bool false)).setCell ⟨w.heap.size + 1 + 1 + 1, 2, none⟩ (.slice none 0 0)).drew.cell? ⟨w1.heap.size, 0, none⟩ = some (.int .i64 0) ∧ ((((((wz.setCell ⟨w.heap.size + 1 + 1, 0, none⟩ (.int .i64 S)).setCell ⟨w.heap.size + 1 + 1, 1, none⟩ (.bool E)).setCell ⟨w.heap.size + 1 + 1, 2, none⟩ (.slice A1 n c1)).setCell ⟨w.heap.size + 1 + 1 + 1, 0, none⟩ (.int .i64 0)).setCell ⟨w.heap.size + 1 + 1 + 1, 1, none⟩ (.bool false)).setCell ⟨w.heap.size + 1 + 1 + 1, 2, none⟩ (.slice none 0 0)).drew.cell? ⟨w1.heap.size, 1, none⟩ = some (.bool false) ∧ ((((((wz.setCell ⟨w.heap.size + 1 + 1, 0, none⟩ (.int .i64 S)).setCell ⟨w.heap.size + 1 + 1, 1, none⟩ (.bool E)).setCell ⟨w.heap.size + 1 + 1, 2, none⟩ (.slice A1 n c1)).setCell ⟨w.heap.size + 1 + 1 + 1, 0, none⟩ (.int .i64 0)).setCell ⟨w.heap.size + 1 + 1 + 1, 1, none⟩ (.bool false)).setCell ⟨w.heap.size + 1 + 1 + 1, 2, none⟩ (.slice none 0 0)).drew.cell? ⟨w1.heap.size, 2, none⟩ = some (.slice none 0 0)) := ⟨⟨u2.drew.at 0 rfl, u2.drew.at 1 rfl, u2.drew.at 2 rfl⟩, ⟨v2.drew.at 0 rfl, v2.drew.at 1 rfl, v2.drew.at 2 rfl⟩⟩
  have Sc : ((((((((((wz.setCell ⟨w.heap.size + 1 + 1, 0, none⟩ (.int .i64 S)).setCell ⟨w.heap.size + 1 + 1, 1, none⟩ (.bool E)).setCell ⟨w.heap.size + 1 + 1, 2, none⟩ (.slice A1 n c1)).setCell ⟨w.heap.size + 1 + 1 + 1, 0, none⟩ (.int .i64 0)).setCell ⟨w.heap.size + 1 + 1 + 1, 1, none⟩ (.bool false)).setCell ⟨w.heap.size + 1 + 1 + 1, 2, none⟩ (.slice none 0 0)).setCell ⟨w.heap.size + 1 + 1 + 1 + 1, 0, none⟩ (.bool false)).setCell ⟨w.heap.size + 1 + 1 + 1 + 1, 1, none⟩ (.int .i64 0)).setCell ⟨w.heap.size + 1 + 1 + 1 + 1, 2, none⟩ (.int .u32 0)).drew.cell? ⟨w.heap.size, 0, none⟩ = some (.int .i64 S) ∧ (((((((((wz.setCell ⟨w.heap.size + 1 + 1, 0, none⟩ (.int .i64 S)).setCell ⟨w.heap.size + 1 + 1, 1, none⟩ (.bool E)).setCell ⟨w.heap.size + 1 + 1, 2, none⟩ (.slice A1 n c1)).setCell ⟨w.heap.size + 1 + 1 + 1, 0, none⟩ (.int .i64 0)).setCell ⟨w.heap.size + 1 + 1 + 1, 1, none⟩ (.bool false)).setCell ⟨w.heap.size + 1 + 1 + 1, 2, none⟩ (.slice none 0 0)).setCell ⟨w.heap.size + 1 + 1 + 1 + 1, 0, none⟩ (.bool false)).setCell ⟨w.heap.size + 1 + 1 + 1 + 1, 1, none⟩ (.int .i64 0)).setCell ⟨w.heap.size + 1 + 1 + 1 + 1, 2, none⟩ (.int .u32 0)).drew.cell? ⟨w.heap.size, 1, none⟩ = some (.bool E) ∧ (((((((((wz.setCell ⟨w.heap.size + 1 + 1, 0, none⟩ (.int .i64 S)).setCell ⟨w.heap.size + 1 + 1, 1, none⟩ (.bool E)).setCell ⟨w.heap.size + 1 + 1, 2, none⟩ (.slice A1 n c1)).setCell ⟨w.heap.size + 1 + 1 + 1, 0, none⟩ (.int .i64 0)).setCell ⟨w.heap.size + 1 + 1 + 1, 1, none⟩ (.bool false)).setCell ⟨w.heap.size + 1 + 1 + 1, 2, none⟩ (.slice none 0 0)).setCell ⟨w.heap.size + 1 + 1 + 1 + 1, 0, none⟩ (.bool false)).setCell ⟨w.heap.size + 1 + 1 + 1 + 1, 1, none⟩ (.int .i64 0)).setCell ⟨w.heap.size + 1 + 1 + 1 + 1, 2, none⟩ (.int .u32 0)).drew.cell? ⟨w.heap.size, 2, none⟩ = some (.slice A1 n c1)) ∧ ((((((((((wz.setCell ⟨w.heap.size + 1 + 1, 0, none⟩ (.int .i64 S)).setCell ⟨w.heap.size + 1 + 1, 1, none⟩ (.bool E)).setCell ⟨w.heap.size + 1 + 1, 2, none⟩ (.slice A1 n c1)).setCell ⟨w.heap.size + 1 + 1 + 1, 0, none⟩ (.int .i64 0)).setCell ⟨w.heap.size + 1 + 1 + 1, 1, none⟩ (.bool false)).setCell ⟨w.heap.size + 1 + 1 + 1, 2, none⟩ (.slice none 0 0)).setCell ⟨w.heap.size + 1 + 1 + 1 + 1, 0, none⟩ (.bool false)).setCell ⟨w.heap.size + 1 + 1 + 1 + 1, 1, none⟩ (.int .i64 0)).setCell ⟨w.heap.size + 1 + 1 + 1 + 1, 2, none⟩ (.int .u32 0)).drew.cell? ⟨w1.heap.size, 0, none⟩ = some (.int .i64 0) ∧ (((((((((wz.setCell ⟨w.heap.size + 1 + 1, 0, none⟩ (.int .i64 S)).setCell ⟨w.heap.size + 1 + 1, 1, none⟩ (.bool E)).setCell ⟨w.heap.size + 1 + 1, 2, none⟩ (.slice A1 n c1)).setCell ⟨w.heap.size + 1 + 1 + 1, 0, none⟩ (.int .i64 0)).setCell ⟨w.heap.size + 1 + 1 + 1, 1, none⟩ (.bool false)).setCell ⟨w.heap.size + 1 + 1 + 1, 2, none⟩ (.slice none 0 0)).setCell ⟨w.heap.size + 1 + 1 + 1 + 1, 0, none⟩ (.bool false)).setCell ⟨w.heap.size + 1 + 1 + 1 + 1, 1, none⟩ (.int .i64 0)).setCell ⟨w.heap.size + 1 + 1 + 1 + 1, 2, none⟩ (.int .u32 0)).drew.cell? ⟨w1.heap.size, 1, none⟩ = some (.bool false) ∧ (((((((((wz.setCell ⟨w.heap.size + 1 + 1, 0, none⟩ (.int .i64 S)).setCell ⟨w.heap.size + 1 + 1, 1, none⟩ (.bool E)).setCell ⟨w.heap.size + 1 + 1, 2, none⟩ (.slice A1 n c1)).setCell ⟨w.heap.size + 1 + 1 + 1, 0, none⟩ (.int .i64 0)).setCell ⟨w.heap.size + 1 + 1 + 1, 1, none⟩ (.bool false)).setCell ⟨w.heap.size + 1 + 1 + 1, 2, none⟩ (.slice none 0 0)).setCell ⟨w.heap.size + 1 + 1 + 1 + 1, 0, none⟩ (.bool false)).setCell ⟨w.heap.size + 1 + 1 + 1 + 1, 1, none⟩ (.int .i64 0)).setCell ⟨w.heap.size + 1 + 1 + 1 + 1, 2, none⟩ (.int .u32 0)).drew.cell? ⟨w1.heap.size, 2, none⟩ = some (.slice none 0 0)) := ⟨⟨u3.drew.at 0 rfl, u3.drew.at 1 rfl, u3.drew.at 2 rfl⟩, ⟨v3.drew.at 0 rfl, v3.drew.at 1 rfl, v3.drew.at 2 rfl⟩⟩
  have b9 := ((b.put3 (g := w.heap.size + 1 + 1) (by omega) (.int .i64 S) (.bool E) (.slice A1 n c1)).put3 (g := w.heap.size + 1 + 1 + 1) (by omega) (.int .i64 0) (.bool false) (.slice none 0 0)).put3 (g := w.heap.size + 1 + 1 + 1 + 1) (by omega) (.bool false) (.int .i64 0) (.int .u32 0)
  have mo9 := (((ma.put3 t.o (by decide) (.int .i64 S) (.bool E) (.slice A1 n c1)).put3 t1.w (by decide) (.int .i64 0) (.bool false) (.slice none 0 0)).put3 t2.x (by decide) (.bool false) (.int .i64 0) (.int .u32 0)).drew
  go_wp2_with fail
  go_region_held3 (fun w' => (w'.cell? ⟨w.heap.size, 0, none⟩ = some (.int .i64 S) ∧ w'.cell? ⟨w.heap.size, 1, none⟩ = some (.bool E) ∧ w'.cell? ⟨w.heap.size, 2, none⟩ = some (.slice A1 n c1)) ∧ (w'.cell? ⟨w1.heap.size, 0, none⟩ = some (.int .i64 0) ∧ w'.cell? ⟨w1.heap.size, 1, none⟩ = some (.bool false) ∧ w'.cell? ⟨w1.heap.size, 2, none⟩ = some (.slice none 0 0))) (first | with_reducible exact S0 | with_reducible exact Sa | with_reducible exact Sb | with_reducible exact Sc) (fail)
  go_wp2
  have r3 := t3.drew
  replace b9 := b9.drew
  generalize ((((((((((wz.setCell ⟨w.heap.size + 1 + 1, 0, none⟩ (.int .i64 S)).setCell ⟨w.heap.size + 1 + 1, 1, none⟩ (.bool E)).setCell ⟨w.heap.size + 1 + 1, 2, none⟩ (.slice A1 n c1)).setCell ⟨w.heap.size + 1 + 1 + 1, 0, none⟩ (.int .i64 0)).setCell ⟨w.heap.size + 1 + 1 + 1, 1, none⟩ (.bool false)).setCell ⟨w.heap.size + 1 + 1 + 1, 2, none⟩ (.slice none 0 0)).setCell ⟨w.heap.size + 1 + 1 + 1 + 1, 0, none⟩ (.bool false)).setCell ⟨w.heap.size + 1 + 1 + 1 + 1, 1, none⟩ (.int .i64 0)).setCell ⟨w.heap.size + 1 + 1 + 1 + 1, 2, none⟩ (.int .u32 0))).drew = W9 at *
  clear d0 d1 d2 d3 d4 d5 S0 Sa Sb Sc fo o0 o1 o2 fw w0' w1' w2' fx x0 x1 x2 u1 v1 u2 v2 u3 v3 t1 t2 t3
  have d0 := r3.o.at 0 rfl
  have d1 := r3.o.at 1 rfl
  have d2 := r3.o.at 2 rfl
  have d3 := r3.w.at 0 rfl
  have d4 := r3.w.at 1 rfl
  have d5 := r3.w.at 2 rfl
  have d6 := r3.x.at 0 rfl
  have d7 := r3.x.at 1 rfl
  have d8 := r3.x.at 2 rfl
  exact bodyPost_ret (v := .tuple #[.agg #[(.int .i64 S), (.bool E), (.slice A1 n c1)], .agg #[(.int .i64 0), (.bool false), (.slice none 0 0)], .bool false, .agg #[(.bool false), (.int .i64 0), (.int .u32 0)], .int .i64 2]) (by simp [results, Try.f10, go_sem, d0, d1, d2, d3, d4, d5, d6, d7, d8]) rfl ⟨_, _, _, _, _, _, rfl, mo9, Mine.nil _ _, b9.out⟩
end Go.Proofs.Ytbooojpohfdljaa
