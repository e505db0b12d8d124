/- HeadTells: what the functions answer is what the document's answer: the walk. -/
import Derived.Test.YteghfgjdicmknaaHg
import Derived.Test.YteghfgjdicmknaaHO
import Derived.Deep.QuietTactic
import Derived.BigQuiet
namespace Go.Proofs.Yteghfgjdicmknaa
open Go.RowKit Go.Shelf
set_option linter.unusedVariables false

theorem Bel.below {W wa wb : World} (h : Bel W wa) (k : Below wa.heap.size wa wb) : Bel W wb := h.step k

set_option maxRecDepth 100000 in
set_option maxHeartbeats 8000000 in
theorem tellsBig (L k f s : Int) (A : Option Addr) (n c : Nat) (x0 x1 : Int) (W : World) (hl : 3000 < n) :
    Calls Try.prog 3 #[.agg #[.int .i64 L, .int .u8 k, .int .u8 f, .int .i64 s], .slice A n c, .int .u8 x0, .int .u8 x1] W fun e w' => e = .returned (.bool true) ∧ Below W.heap.size W w' := by
  have b0 := (Bel.refl W).alloc (.cells #[.int .i64 L, .int .u8 k, .int .u8 f, .int .i64 s] 23)
  go_enter Try.func3, Try.ntmps3
  go_wp2_with (first | (go_at_call 7; refine (fWakes _).mono ?_; rintro e w' ⟨rfl, hb⟩; replace b0 := Bel.step (W := W) (by repeat (first | exact b0 | refine Bel.alloc ?_ _)) hb))
  go_ret
  exact ⟨rfl, b0.out⟩

theorem cell_below {w w' : World} {p : Addr} {v : Value} (hb : Below w.heap.size w w') (h : w.cell? p = some v) : w'.cell? p = some v := (hb.cell (World.block_lt_of_cell? w p h)).trans h
theorem cells4_below {w w' : World} {p0 p1 p2 p3 : Addr} {v0 v1 v2 v3 : Value} (h : w.cell? p0 = some v0 ∧ w.cell? p1 = some v1 ∧ w.cell? p2 = some v2 ∧ w.cell? p3 = some v3) (hb : Below w.heap.size w w') :
    w'.cell? p0 = some v0 ∧ w'.cell? p1 = some v1 ∧ w'.cell? p2 = some v2 ∧ w'.cell? p3 = some v3 := ⟨cell_below hb h.1, cell_below hb h.2.1, cell_below hb h.2.2.1, cell_below hb h.2.2.2⟩
theorem cells12_below {w w' : World} {p0 p1 p2 p3 q0 q1 q2 q3 r0 r1 r2 r3 : Addr} {v0 v1 v2 v3 x0 x1 x2 x3 y0 y1 y2 y3 : Value}
    (h : (w.cell? p0 = some v0 ∧ w.cell? p1 = some v1 ∧ w.cell? p2 = some v2 ∧ w.cell? p3 = some v3) ∧ (w.cell? q0 = some x0 ∧ w.cell? q1 = some x1 ∧ w.cell? q2 = some x2 ∧ w.cell? q3 = some x3) ∧ (w.cell? r0 = some y0 ∧ w.cell? r1 = some y1 ∧ w.cell? r2 = some y2 ∧ w.cell? r3 = some y3)) (hb : Below w.heap.size w w') :
    (w'.cell? p0 = some v0 ∧ w'.cell? p1 = some v1 ∧ w'.cell? p2 = some v2 ∧ w'.cell? p3 = some v3) ∧ (w'.cell? q0 = some x0 ∧ w'.cell? q1 = some x1 ∧ w'.cell? q2 = some x2 ∧ w'.cell? q3 = some x3) ∧ (w'.cell? r0 = some y0 ∧ w'.cell? r1 = some y1 ∧ w'.cell? r2 = some y2 ∧ w'.cell? r3 = some y3) :=
  ⟨cells4_below h.1 hb, cells4_below h.2.1 hb, cells4_below h.2.2 hb⟩

set_option maxRecDepth 100000 in
set_option maxHeartbeats 8000000 in
theorem tellsOk (L k f s : Int) (A : Option Addr) (n c : Nat) (l : List Int) (x0 x1 : Int) (W : World) (h : Byt W A n c l) (h1 : n ≤ 3000)
    (L0 : -9223372036854775808 ≤ L) (L1 : L ≤ 9223372036854775807) (s0 : -9223372036854775808 ≤ s) (s1 : s ≤ 9223372036854775807) (k0 : 0 ≤ k ∧ k ≤ 255) (f0 : 0 ≤ f ∧ f ≤ 255) (u0 : 0 ≤ x0 ∧ x0 ≤ 255) (v0 : 0 ≤ x1 ∧ x1 ≤ 255) :
    Calls Try.prog 3 #[.agg #[.int .i64 L, .int .u8 k, .int .u8 f, .int .i64 s], .slice A n c, .int .u8 x0, .int .u8 x1] W fun e w' => e = .returned (.bool true) ∧ Below W.heap.size W w' := by
  have T1 : Hid (∀ w, Byt w A n c l → Calls Try.prog 10 #[.slice A n c] w (TakeQ (hL l) (hK l) (hF l) (hS l) (hR l) (hE l) w)) := Lib.hid fun w hw => fHTake A n c l w hw (by omega)
  have T2 : Hid (∀ w, Byt w A n c l → Calls Try.prog 11 #[.slice A n c] w (TakeQ (hL l) (hK l) (hF l) (hS l) (hR l) (hE l) w)) := Lib.hid fun w hw => rHTake A n c l w hw (by omega)
  have T3 : Hid (∀ w, Byt w A n c l → Calls Try.prog 13 #[.slice A n c] w (WholeQ (hL l) (hK l) (hF l) (hS l) (wP l) (wR l) (wE l) w)) := Lib.hid fun w hw => fHWhole A n c l w hw (by omega)
  have T4 : Hid (∀ w, Byt w A n c l → Calls Try.prog 14 #[.slice A n c] w (WholeQ (hL l) (hK l) (hF l) (hS l) (wP l) (wR l) (wE l) w)) := Lib.hid fun w hw => rHWhole A n c l w hw (by omega)
  have P1 := Lib.hid fun w => fHPut L k f s w L0 L1 s0 s1 k0 f0
  have P2 := Lib.hid fun w => rHPut L k f s w L0 L1 s0 s1 k0 f0
  have R1 := Lib.hid fun w => fHRight L k f s w L0 L1 s0 s1
  have R2 := Lib.hid fun w => rHRight L k f s w L0 L1 s0 s1
  have F1 := Lib.hid fun w => fHas L k f s x0 w f0.1 f0.2 u0.1 u0.2
  have F2 := Lib.hid fun w => rHas L k f s x0 w f0.1 f0.2 u0.1 u0.2
  have K2 := Lib.hid fun w => rKnown x1 w v0.1
  generalize hL l = TL at *
  generalize hK l = TK at *
  generalize hF l = TF at *
  generalize hS l = TS at *
  generalize hR l = R at *
  generalize hE l = TE at *
  generalize wP l = P at *
  generalize wR l = Q at *
  generalize wE l = WE at *
  have q := Blk4.new W 23 (.int .i64 L) (.int .u8 k) (.int .u8 f) (.int .i64 s)
  have b0 := (Bel.refl W).alloc (.cells #[.int .i64 L, .int .u8 k, .int .u8 f, .int .i64 s] 23)
  have y := h.alloc (.cells #[.int .i64 L, .int .u8 k, .int .u8 f, .int .i64 s] 23)
  clear h L0 L1 s0 s1 k0 f0 u0 v0
  go_enter Try.func3, Try.ntmps3
  go_wp2_with fail
  refine (P1.out _).mono ?_
  rintro e w1 ⟨⟨A1, m1, c1, rfl, h1⟩, hb⟩
  replace b0 := (b0).below hb; replace q := (q).below hb; replace y := (y).below hb
  have y1 := h1.byt
  obtain ⟨z0, z1, z2, z3⟩ := q.cells
  go_wp2_with fail
  refine (P2.out _).mono ?_
  rintro e w2 ⟨⟨A2, m2, c2, rfl, h2⟩, hb⟩
  replace b0 := (b0).below hb; replace q := (q).below hb; replace y := (y).below hb; replace y1 := (y1).below hb
  have y2 := h2.byt
  clear z0 z1 z2 z3
  go_wp2_with fail
  refine (T1.out _ y).mono ?_
  rintro e w3 ⟨⟨A3, m3, c3, rfl, h3⟩, hb⟩
  replace b0 := (b0).below hb; replace q := (q).below hb; replace y := (y).below hb; replace y1 := (y1).below hb; replace y2 := (y2).below hb
  have y3 := h3.byt
  have q3 := Blk4.new w3 23 (.int .i64 TL) (.int .u8 TK) (.int .u8 TF) (.int .i64 TS)
  go_wp2_with fail
  refine (T2.out _ (y.alloc _)).mono ?_
  rintro e w4 ⟨⟨A4, m4, c4, rfl, h4⟩, hb⟩
  replace b0 := (b0.alloc _).below hb; replace q := (q.alloc _).below hb; replace y := (y.alloc _).below hb; replace y1 := (y1.alloc _).below hb; replace y2 := (y2.alloc _).below hb; replace y3 := (y3.alloc _).below hb
  replace q3 := q3.below hb
  have y4 := h4.byt
  have q4 := (Blk4.new w4 23 (.int .i64 TL) (.int .u8 TK) (.int .u8 TF) (.int .i64 TS))
  replace q3 := q3.alloc (.cells #[.int .i64 TL, .int .u8 TK, .int .u8 TF, .int .i64 TS] 23)
  obtain ⟨z0, z1, z2, z3⟩ := q3.cells
  go_wp2_with (first
    | (go_at_call 12; (with_reducible refine (fSameT _ _ (y1.alloc _) (y2.alloc _)).mono ?_); rintro e w' ⟨rfl, rfl⟩)
    | (go_at_call 12; (with_reducible refine (fSameT _ _ (y3.alloc _) (y4.alloc _)).mono ?_); rintro e w' ⟨rfl, rfl⟩))
  refine (T3.out _ (y.alloc _)).mono ?_
  rintro e w5 ⟨⟨A5, m5, c5, B5, n5, d5, rfl, h5, h5'⟩, hb⟩
  replace b0 := (b0.alloc _).below hb; replace q := (q.alloc _).below hb; replace y := (y.alloc _).below hb
  have y5 := h5.byt
  have y5' := h5'.byt
  have q5 := Blk4.new w5 23 (.int .i64 TL) (.int .u8 TK) (.int .u8 TF) (.int .i64 TS)
  clear z0 z1 z2 z3 q3 q4 h1 h2 h3 h4
  go_wp2_with fail
  refine (T4.out _ (y.alloc _)).mono ?_
  rintro e w6 ⟨⟨A6, m6, c6, B6, n6, d6, rfl, h6, h6'⟩, hb⟩
  replace b0 := (b0.alloc _).below hb; replace q := (q.alloc _).below hb; replace y := (y.alloc _).below hb; replace y5 := (y5.alloc _).below hb; replace y5' := (y5'.alloc _).below hb
  replace q5 := q5.below hb
  have y6 := h6.byt.alloc (.cells #[.int .i64 TL, .int .u8 TK, .int .u8 TF, .int .i64 TS] 23)
  have y6' := h6'.byt.alloc (.cells #[.int .i64 TL, .int .u8 TK, .int .u8 TF, .int .i64 TS] 23)
  have q6 := Blk4.new w6 23 (.int .i64 TL) (.int .u8 TK) (.int .u8 TF) (.int .i64 TS)
  replace q5 := q5.alloc (.cells #[.int .i64 TL, .int .u8 TK, .int .u8 TF, .int .i64 TS] 23)
  replace q := q.alloc (.cells #[.int .i64 TL, .int .u8 TK, .int .u8 TF, .int .i64 TS] 23)
  replace y5 := y5.alloc (.cells #[.int .i64 TL, .int .u8 TK, .int .u8 TF, .int .i64 TS] 23)
  replace y5' := y5'.alloc (.cells #[.int .i64 TL, .int .u8 TK, .int .u8 TF, .int .i64 TS] 23)
  replace b0 := b0.alloc (.cells #[.int .i64 TL, .int .u8 TK, .int .u8 TF, .int .i64 TS] 23)
  go_wp2_with fail
  generalize w6.alloc (.cells #[.int .i64 TL, .int .u8 TK, .int .u8 TF, .int .i64 TS] 23) = W0 at *
  have hS : (W0.drew.cell? ⟨W.heap.size, 0, none⟩ = some (.int .i64 L) ∧ W0.drew.cell? ⟨W.heap.size, 1, none⟩ = some (.int .u8 k) ∧ W0.drew.cell? ⟨W.heap.size, 2, none⟩ = some (.int .u8 f) ∧ W0.drew.cell? ⟨W.heap.size, 3, none⟩ = some (.int .i64 s)) ∧ (W0.drew.cell? ⟨w5.heap.size, 0, none⟩ = some (.int .i64 TL) ∧ W0.drew.cell? ⟨w5.heap.size, 1, none⟩ = some (.int .u8 TK) ∧ W0.drew.cell? ⟨w5.heap.size, 2, none⟩ = some (.int .u8 TF) ∧ W0.drew.cell? ⟨w5.heap.size, 3, none⟩ = some (.int .i64 TS)) ∧ (W0.drew.cell? ⟨w6.heap.size, 0, none⟩ = some (.int .i64 TL) ∧ W0.drew.cell? ⟨w6.heap.size, 1, none⟩ = some (.int .u8 TK) ∧ W0.drew.cell? ⟨w6.heap.size, 2, none⟩ = some (.int .u8 TF) ∧ W0.drew.cell? ⟨w6.heap.size, 3, none⟩ = some (.int .i64 TS)) := ⟨q.cells, q5.cells, q6.cells⟩
  replace b0 : Bel W W0.drew := ⟨b0.out.trans (draw_bel _ _)⟩
  replace y5 := y5.drew
  replace y5' := y5'.drew
  replace y6 := y6.drew
  replace y6' := y6'.drew
  clear q q5 q6
  go_region_held3? (fun w' => (w'.cell? ⟨W.heap.size, 0, none⟩ = some (.int .i64 L) ∧ w'.cell? ⟨W.heap.size, 1, none⟩ = some (.int .u8 k) ∧ w'.cell? ⟨W.heap.size, 2, none⟩ = some (.int .u8 f) ∧ w'.cell? ⟨W.heap.size, 3, none⟩ = some (.int .i64 s)) ∧ (w'.cell? ⟨w5.heap.size, 0, none⟩ = some (.int .i64 TL) ∧ w'.cell? ⟨w5.heap.size, 1, none⟩ = some (.int .u8 TK) ∧ w'.cell? ⟨w5.heap.size, 2, none⟩ = some (.int .u8 TF) ∧ w'.cell? ⟨w5.heap.size, 3, none⟩ = some (.int .i64 TS)) ∧ (w'.cell? ⟨w6.heap.size, 0, none⟩ = some (.int .i64 TL) ∧ w'.cell? ⟨w6.heap.size, 1, none⟩ = some (.int .u8 TK) ∧ w'.cell? ⟨w6.heap.size, 2, none⟩ = some (.int .u8 TF) ∧ w'.cell? ⟨w6.heap.size, 3, none⟩ = some (.int .i64 TS))) (first | assumption | exact cells12_below (by assumption) (by assumption)) (first
    | (go_at_call 12; (with_reducible refine (fSameT _ _ y5 y6).mono ?_); rintro e w' ⟨rfl, rfl⟩)
    | (go_at_call 12; (with_reducible refine (fSameT _ _ y5' y6').mono ?_); rintro e w' ⟨rfl, rfl⟩)
    | (go_at_call 15; refine (R1.out _).mono ?_; rintro e w' ⟨rfl, hb⟩; replace b0 := b0.step hb)
    | (go_at_call 16; refine (R2.out _).mono ?_; rintro e w' ⟨rfl, hb⟩; replace b0 := b0.step hb)
    | (go_at_call 17; refine (F1.out _).mono ?_; rintro e w' ⟨rfl, hb⟩; replace b0 := b0.step hb)
    | (go_at_call 18; refine (F2.out _).mono ?_; rintro e w' ⟨rfl, hb⟩; replace b0 := b0.step hb)
    | (go_at_call 19; refine (fKnown _ _).mono ?_; rintro e w' ⟨rfl, hb⟩; replace b0 := b0.step hb)
    | (go_at_call 20; refine (K2.out _).mono ?_; rintro e w' ⟨rfl, hb⟩; replace b0 := b0.step hb)
    | (go_at_call 7; refine (fWakes _).mono ?_; rintro e w' ⟨rfl, hb⟩; replace b0 := b0.step hb))
  go_wp2
  go_ret
  exact ⟨rfl, b0.out⟩

theorem wTells {W : World} (L k f s : Int) (bL : -9223372036854775808 ≤ L ∧ L ≤ 9223372036854775807) (bs : -9223372036854775808 ≤ s ∧ s ≤ 9223372036854775807) (bk : 0 ≤ k ∧ k ≤ 255) (bf : 0 ≤ f ∧ f ≤ 255)
    (A : Option Addr) (n c : Nat) (l : List Int) (h : Byt W A n c l) (x0 : Int) (u0 : 0 ≤ x0) (u1 : x0 ≤ 255) (x1 : Int) (v0 : 0 ≤ x1) (v1 : x1 ≤ 255) :
    Calls Try.prog 3 #[.agg #[.int .i64 L, .int .u8 k, .int .u8 f, .int .i64 s], .slice A n c, .int .u8 x0, .int .u8 x1] W fun e w' => e = .returned (.bool true) ∧ Below W.heap.size W w' := by
  by_cases hl : 3000 < n
  · exact tellsBig L k f s A n c x0 x1 W hl
  · exact tellsOk L k f s A n c l x0 x1 W h (by omega) bL.1 bL.2 bs.1 bs.2 bk bf ⟨u0, u1⟩ ⟨v0, v1⟩
end Go.Proofs.Yteghfgjdicmknaa
