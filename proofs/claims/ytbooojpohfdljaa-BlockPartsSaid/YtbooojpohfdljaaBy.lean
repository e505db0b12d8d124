/- The contract of block.Take, way by way (printed by gentake.py). -/
import Derived.Test.YtbooojpohfdljaaBt
import Derived.StillTail
namespace Go.Proofs.Ytbooojpohfdljaa
open Go.RowKit Go.Shelf
set_option linter.unusedVariables false

set_option maxRecDepth 100000 in
set_option maxHeartbeats 2000000 in
theorem tkGoMany (S : Int) (E : Bool) (A : Option Addr) (n c : Nat) (D : List Int) (F St : Int) (B : Option Addr) (m d : Nat) (X : List Int) (pd la ic cd : Int) (Pa : Option Addr) (Pn Pc : Nat) (rk al : Bool) (dp wt : Int) (w : World)
    (O1 : Hid (∀ w, Byt w A n c D → Calls Try.prog 17 #[.agg #[.int .i64 S, .bool E, .slice A n c]] w (OwnP S E n D w)))
    (R1 : Hid (∀ w, Byt w A n c D → Calls Try.prog 12 #[.agg #[.int .i64 S, .bool E, .slice A n c]] w (BoolP true w)))
    (h : Byt w A n c D) (h' : Byt w B m d X) (hn : n ≤ 5000) (hm : m ≤ 5000)
    (O2 : Hid (∀ w, Calls Try.prog 14 #[.agg #[.int .i64 S, .bool E, .slice A n c]] w (BoolP true w))) (g1 : decide (St < 1) = false) (g2 : decide (2147483647 < St) = false) (g3 : (St == S) = true) (g4 : decide (4096 < (n : Int) + m) = true) :
    Calls Try.prog 9 #[.agg #[.int .i64 S, .bool E, .slice A n c], .agg #[.int .u8 9, .int .u8 F, .int .i64 St, .slice B m d, .int .i64 pd, .int .i64 la, .int .i64 ic, .int .u32 cd, .slice Pa Pn Pc, .bool rk, .bool al, .int .i64 dp, .int .u8 wt]] w (TakeP ⟨S, E, D, 0, false, [], false, true, 11, 0⟩ w) := by
  have HB := Lib.hid h
  have HX := Lib.hid h'
  have t := TkF.new w #[.int .i64 S, .bool E, .slice A n c] #[.int .u8 9, .int .u8 F, .int .i64 St, .slice B m d, .int .i64 pd, .int .i64 la, .int .i64 ic, .int .u32 cd, .slice Pa Pn Pc, .bool rk, .bool al, .int .i64 dp, .int .u8 wt]
  have b0 := (((((((Bel.refl w).alloc (.cells #[.int .i64 S, .bool E, .slice A n c] 24)).alloc (.cells #[.int .u8 9, .int .u8 F, .int .i64 St, .slice B m d, .int .i64 pd, .int .i64 la, .int .i64 ic, .int .u32 cd, .slice Pa Pn Pc, .bool rk, .bool al, .int .i64 dp, .int .u8 wt] 30)).alloc (.cells #[.int .i64 0, .bool false, .slice none 0 0] 24)).alloc (.cells #[.int .i64 0, .bool false, .slice none 0 0] 24)).alloc (.cells #[.bool false, .int .i64 0, .int .u32 0] 34)).alloc (.cells #[.int .i64 0, .bool false, .slice none 0 0] 24))
  have y := h.below b0.out
  have yx := h'.below b0.out
  clear h h'
  go_enter Try.func9, Try.ntmps9
  go_wp2_with fail
  refine wp_scope_hop 1 ?_
  go_wp2_with fail
  refine (O1.out _ y).mono ?_
  rintro e w1 ⟨A1, c1, rfl, m1, hb⟩
  replace b0 := (b0).below hb; replace t := (t).below hb; replace y := (y).below hb; replace yx := (yx).below hb
  replace m1 := m1.base_le (b := w.heap.size) (by simp; omega)
  have f1 := t.o.frozen
  have o0 := t.o.at 0 rfl
  have o1 := t.o.at 1 rfl
  have o2 := t.o.at 2 rfl
  have t2 := t.setO (.int .i64 S) (.bool E) (.slice A1 n c1)
  have b2 := b0.put3 (g := w.heap.size + 1 + 1) (by omega) (.int .i64 S) (.bool E) (.slice A1 n c1)
  have m2 := m1.put3 t.o (by decide) (.int .i64 S) (.bool E) (.slice A1 n c1)
  have y2 := HB.out.put3 (g := w.heap.size + 1 + 1) (by omega) b0.out (.int .i64 S) (.bool E) (.slice A1 n c1)
  have x2 := HX.out.put3 (g := w.heap.size + 1 + 1) (by omega) b0.out (.int .i64 S) (.bool E) (.slice A1 n c1)
  have q0 := t2.f.at 0 rfl
  have q1 := t2.b.at 0 rfl
  have q2 := t2.b.at 1 rfl
  have q3 := t2.b.at 2 rfl
  go_wp2_with fail
  generalize (((w1.setCell ⟨w.heap.size + 1 + 1, 0, none⟩ (.int .i64 S)).setCell ⟨w.heap.size + 1 + 1, 1, none⟩ (.bool E)).setCell ⟨w.heap.size + 1 + 1, 2, none⟩ (.slice A1 n c1)) = W2 at *
  refine (R1.out _ y2).mono ?_
  rintro e w3 ⟨rfl, hb⟩
  replace b2 := (b2).below hb; replace t2 := (t2).below hb; replace m2 := (m2).below hb; replace y2 := (y2).below hb; replace x2 := (x2).below hb
  clear q0 q1 q2 q3 f1 o0 o1 o2 t b0 m1 y yx
  have p1 := t2.f.at 1 rfl
  have p2 := t2.f.at 2 rfl
  have S1 : w3.cell? ⟨w.heap.size, 0, none⟩ = some (.int .i64 S) ∧ w3.cell? ⟨w.heap.size, 1, none⟩ = some (.bool E) ∧ w3.cell? ⟨w.heap.size, 2, none⟩ = some (.slice A n c) := ⟨t2.b.at 0 rfl, t2.b.at 1 rfl, t2.b.at 2 rfl⟩
  obtain ⟨q0, q1, q2⟩ := S1
  have S0 : w3.drew.cell? ⟨w.heap.size, 0, none⟩ = some (.int .i64 S) ∧ w3.drew.cell? ⟨w.heap.size, 1, none⟩ = some (.bool E) ∧ w3.drew.cell? ⟨w.heap.size, 2, none⟩ = some (.slice A n c) := ⟨q0, q1, q2⟩
  replace b2 := b2.drew
  replace t2 := t2.drew
  replace m2 := m2.drew
  go_wp2_with fail
  go_region_held3 (fun w' => w'.cell? ⟨w.heap.size, 0, none⟩ = some (.int .i64 S) ∧ w'.cell? ⟨w.heap.size, 1, none⟩ = some (.bool E) ∧ w'.cell? ⟨w.heap.size, 2, none⟩ = some (.slice A n c)) (first | assumption | exact cells3_below (by assumption) (by assumption)) (first
    | (go_at_call 18; refine (fRules _).mono ?_; rintro e w4 ⟨mb, rfl, hmp, hb⟩; replace b2 := (b2).below hb; replace t2 := (t2).below hb; replace m2 := (m2).below hb)
    | (go_at_call 14; refine (O2.out _).mono ?_; rintro e w5 ⟨rfl, hb⟩; replace b2 := (b2).below hb; replace t2 := (t2).below hb; replace m2 := (m2).below hb; replace hmp := (hmp).below hb; have hr := hmp.lookup camKey Try.underlying45 (zInt w5) (true, 9); rw [show (ruleM (true, 9)).getD (.int .i64 0) = .int .i64 2 by kernel_rfl] at hr))
  clear S0 q0 q1 q2 hr hmp y2 x2 p1 p2
  have e0 := t2.f.at 2 rfl
  have e1 := t2.b.at 0 rfl
  have e2 := t2.b.at 1 rfl
  have e3 := t2.b.at 2 rfl
  have y5 := HB.out.below b2.out
  have b5s := b2.out.size
  have hA1 := m2.lt
  have hN5 := t2.n.lt
  go_wp2_with fail
  refine (O1.out _ y5).mono ?_
  rintro e w6 ⟨A5, c5, rfl, m5, hb⟩
  replace b2 := (b2).below hb; replace t2 := (t2).below hb; replace m2 := (m2).below hb
  clear e0 e1 e2 e3 y5
  have n0 := t2.n.at 0 rfl
  have n1 := t2.n.at 1 rfl
  have n2 := t2.n.at 2 rfl
  have fn := t2.n.frozen
  have t3 := t2.setN (.int .i64 S) (.bool E) (.slice A5 n c5)
  have b3 := b2.put3 (g := w.heap.size + 1 + 1 + 1 + 1 + 1) (by omega) (.int .i64 S) (.bool E) (.slice A5 n c5)
  have m3 := m2.put3 t2.n (by decide) (.int .i64 S) (.bool E) (.slice A5 n c5)
  have m6 := m5.put3 t2.n (by decide) (.int .i64 S) (.bool E) (.slice A5 n c5)
  have z2 := t3.n.at 2 rfl
  have z3 := t3.f.at 3 rfl
  have x7 := HX.out.below b3.out
  have h5 : w5.heap.size ≤ ((((w6.setCell ⟨w.heap.size + 1 + 1 + 1 + 1 + 1, 0, none⟩ (.int .i64 S)).setCell ⟨w.heap.size + 1 + 1 + 1 + 1 + 1, 1, none⟩ (.bool E)).setCell ⟨w.heap.size + 1 + 1 + 1 + 1 + 1, 2, none⟩ (.slice A5 n c5))).heap.size := by have := hb.size; simpa using this
  have hDl := Lib.hid HB.out.len
  have hXl := Lib.hid HX.out.len
  go_wp2_with (first
    | (at_builtin; go_must (refine wpList_app _ rfl (.tmp 71) (.tmp 73) rfl w5.heap.size A5 n c5 D rfl m6 B m d X rfl x7 (by have := hDl.out; have := hXl.out; omega) h5 ?_); intro A6 c6 w7 m7 hb7 _ _; have t4 := t3.belowB hb7 (by omega); have m4 := m3.belowB hb7 hA1; have b4 : Bel w w7 := b3.stepB hb7 b5s; have fm := t4.n.frozen; have v2 := t4.n.at 2 rfl; have t5 := t4.setN2 (.slice A6 (n + m) c6); have b5 := b4.set (p := ⟨w.heap.size + 1 + 1 + 1 + 1 + 1, 2, none⟩) (by simp; omega) (.slice A6 (n + m) c6); have m8 := m4.farB t4.n (by decide) 2 (.slice A6 (n + m) c6); have m9 := (m7.farB t4.n (by decide) 2 (.slice A6 (n + m) c6)).base_le b5s; have k2 := t5.n.at 2 rfl; have fx := t5.x.frozen; have x0 := t5.x.at 0 rfl; have x1 := t5.x.at 1 rfl; have x2 := t5.x.at 2 rfl; have t8 := t5.setX (.bool true) (.int .i64 0) (.int .u32 11); have b8 := b5.put3 (g := w.heap.size + 1 + 1 + 1 + 1) (by omega) (.bool true) (.int .i64 0) (.int .u32 11); have m10 := m8.put3 t5.x (by decide) (.bool true) (.int .i64 0) (.int .u32 11))
    | (refine wp_goto ?_; refine hop_goto rfl ?_) | (refine wp_label ?_) | (refine hop_ret ?_))
  generalize ((((w7.setCell ⟨w.heap.size + 1 + 1 + 1 + 1 + 1, 2, none⟩ (.slice A6 (n + m) c6)).setCell ⟨w.heap.size + 1 + 1 + 1 + 1, 0, none⟩ (.bool true)).setCell ⟨w.heap.size + 1 + 1 + 1 + 1, 1, none⟩ (.int .i64 0)).setCell ⟨w.heap.size + 1 + 1 + 1 + 1, 2, none⟩ (.int .u32 11)) = W8 at *
  clear k2 fx x0 x1 x2
  have f1 := t8.o.frozen
  have f2 := t8.w.frozen
  have f3 := t8.x.frozen
  have S1 : (W8.cell? ⟨w.heap.size + 1 + 1, 0, none⟩ = some (.int .i64 S) ∧ W8.cell? ⟨w.heap.size + 1 + 1, 1, none⟩ = some (.bool E) ∧ W8.cell? ⟨w.heap.size + 1 + 1, 2, none⟩ = some (.slice A1 n c1)) ∧ (W8.cell? ⟨w.heap.size + 1 + 1 + 1, 0, none⟩ = some (.int .i64 0) ∧ W8.cell? ⟨w.heap.size + 1 + 1 + 1, 1, none⟩ = some (.bool false) ∧ W8.cell? ⟨w.heap.size + 1 + 1 + 1, 2, none⟩ = some (.slice none 0 0)) ∧ (W8.cell? ⟨w.heap.size + 1 + 1 + 1 + 1, 0, none⟩ = some (.bool true) ∧ W8.cell? ⟨w.heap.size + 1 + 1 + 1 + 1, 1, none⟩ = some (.int .i64 0) ∧ W8.cell? ⟨w.heap.size + 1 + 1 + 1 + 1, 2, none⟩ = some (.int .u32 11)) := ⟨⟨t8.o.at 0 rfl, t8.o.at 1 rfl, t8.o.at 2 rfl⟩, ⟨t8.w.at 0 rfl, t8.w.at 1 rfl, t8.w.at 2 rfl⟩, ⟨t8.x.at 0 rfl, t8.x.at 1 rfl, t8.x.at 2 rfl⟩⟩
  obtain ⟨⟨d0, d1, d2⟩, ⟨d3, d4, d5⟩, ⟨d6, d7, d8⟩⟩ := S1
  have S0 : (W8.drew.cell? ⟨w.heap.size + 1 + 1, 0, none⟩ = some (.int .i64 S) ∧ W8.drew.cell? ⟨w.heap.size + 1 + 1, 1, none⟩ = some (.bool E) ∧ W8.drew.cell? ⟨w.heap.size + 1 + 1, 2, none⟩ = some (.slice A1 n c1)) ∧ (W8.drew.cell? ⟨w.heap.size + 1 + 1 + 1, 0, none⟩ = some (.int .i64 0) ∧ W8.drew.cell? ⟨w.heap.size + 1 + 1 + 1, 1, none⟩ = some (.bool false) ∧ W8.drew.cell? ⟨w.heap.size + 1 + 1 + 1, 2, none⟩ = some (.slice none 0 0)) ∧ (W8.drew.cell? ⟨w.heap.size + 1 + 1 + 1 + 1, 0, none⟩ = some (.bool true) ∧ W8.drew.cell? ⟨w.heap.size + 1 + 1 + 1 + 1, 1, none⟩ = some (.int .i64 0) ∧ W8.drew.cell? ⟨w.heap.size + 1 + 1 + 1 + 1, 2, none⟩ = some (.int .u32 11)) := ⟨⟨d0, d1, d2⟩, ⟨d3, d4, d5⟩, ⟨d6, d7, d8⟩⟩
  have ao0 := t8.o.again 0 (v := (.int .i64 S)) rfl
  have ao1 := t8.o.again 1 (v := (.bool E)) rfl
  have ao2 := t8.o.again 2 (v := (.slice A1 n c1)) rfl
  have aw0 := t8.w.again 0 (v := (.int .i64 0)) rfl
  have aw1 := t8.w.again 1 (v := (.bool false)) rfl
  have aw2 := t8.w.again 2 (v := (.slice none 0 0)) rfl
  have ax0 := t8.x.again 0 (v := (.bool true)) rfl
  have ax1 := t8.x.again 1 (v := (.int .i64 0)) rfl
  have ax2 := t8.x.again 2 (v := (.int .u32 11)) rfl
  go_region_held3 (fun w' => (w'.cell? ⟨w.heap.size + 1 + 1, 0, none⟩ = some (.int .i64 S) ∧ w'.cell? ⟨w.heap.size + 1 + 1, 1, none⟩ = some (.bool E) ∧ w'.cell? ⟨w.heap.size + 1 + 1, 2, none⟩ = some (.slice A1 n c1)) ∧ (w'.cell? ⟨w.heap.size + 1 + 1 + 1, 0, none⟩ = some (.int .i64 0) ∧ w'.cell? ⟨w.heap.size + 1 + 1 + 1, 1, none⟩ = some (.bool false) ∧ w'.cell? ⟨w.heap.size + 1 + 1 + 1, 2, none⟩ = some (.slice none 0 0)) ∧ (w'.cell? ⟨w.heap.size + 1 + 1 + 1 + 1, 0, none⟩ = some (.bool true) ∧ w'.cell? ⟨w.heap.size + 1 + 1 + 1 + 1, 1, none⟩ = some (.int .i64 0) ∧ w'.cell? ⟨w.heap.size + 1 + 1 + 1 + 1, 2, none⟩ = some (.int .u32 11))) (assumption) (fail)
  all_goals
    go_wp2_with (first | (refine wp_goto ?_; refine hop_goto rfl ?_) | (refine wp_label ?_) | (refine hop_ret ?_))
    exact bodyPost_ret (v := .tuple #[.agg #[(.int .i64 S), (.bool E), (.slice A1 n c1)], .agg #[(.int .i64 0), (.bool false), (.slice none 0 0)], .bool false, .agg #[(.bool true), (.int .i64 0), (.int .u32 11)], .int .i64 0]) (by simp [results, Try.f9, go_sem, d0, d1, d2, d3, d4, d5, d6, d7, d8]) rfl ⟨_, _, _, _, _, _, rfl, m10.drew, Mine.nil _ _, b8.drew.out⟩
end Go.Proofs.Ytbooojpohfdljaa
