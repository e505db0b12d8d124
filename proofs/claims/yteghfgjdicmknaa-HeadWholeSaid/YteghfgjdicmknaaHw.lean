/- The contract of head.Whole. -/
import Derived.Test.YteghfgjdicmknaaHr
namespace Go.Proofs.Yteghfgjdicmknaa
open Go.RowKit Go.Shelf
set_option linter.unusedVariables false

def TakeQ (L k f s : Int) (R : List Int) (E : Int) (w : World) (e : Ending) (W' : World) : Prop :=
  (∃ A m c, e = .returned (.tuple #[.agg #[.int .i64 L, .int .u8 k, .int .u8 f, .int .i64 s], .slice A m c, .int .i64 E]) ∧ Mine w.heap.size W' A m c R) ∧ Below w.heap.size w W'
def WholeQ (L k f s : Int) (P R : List Int) (E : Int) (w : World) (e : Ending) (W' : World) : Prop :=
  (∃ A m c B n d, e = .returned (.tuple #[.agg #[.int .i64 L, .int .u8 k, .int .u8 f, .int .i64 s], .slice A m c, .slice B n d, .int .i64 E]) ∧ Mine w.heap.size W' A m c P ∧ Mine w.heap.size W' B n d R) ∧ Below w.heap.size w W'
theorem draw_bel (B : Nat) (W : World) : Below B W W.drew := ⟨rfl, rfl, rfl, Nat.le_refl _, fun _ _ => rfl⟩

set_option maxRecDepth 100000 in
set_option maxHeartbeats 4000000 in
theorem hwNo (A : Option Addr) (n c : Nat) (w : World) (L k f s : Int) (R : List Int) (E : Int)
    (HT : Hid (∀ X, Calls Try.prog 10 #[.slice A n c] (w.alloc X) (TakeQ L k f s R E (w.alloc X)))) (hno : E = 10 ∨ E = 0 ∧ (R.length : Int) < L) :
    Calls Try.prog 13 #[.slice A n c] w (WholeQ L k f s [] [] 10 w) := by
  have q0 := Blk4.new w 23 (.int .i64 0) (.int .u8 0) (.int .u8 0) (.int .i64 0)
  have qb : Below w.heap.size w (w.alloc (.cells #[.int .i64 0, .int .u8 0, .int .u8 0, .int .i64 0] 23)) := (Below.refl _ _).alloc (Nat.le_refl _) _
  have qs : w.heap.size < (w.alloc (.cells #[.int .i64 0, .int .u8 0, .int .u8 0, .int .i64 0] 23)).heap.size := by simp
  have Q0 := Lib.hid q0
  have QB := Lib.hid qb
  have QS := Lib.hid qs
  clear q0 qb qs
  rcases hno with rfl | ⟨rfl, hlt⟩
  · go_enter Try.func13, Try.ntmps13
    go_wp2_with fail
    refine wp_scope_hop 1 ?_
    go_wp2_with (first | (go_at_call 10; refine (HT.out _).mono ?_; rintro e W1 ⟨⟨A1, m1, c1, rfl, hm1⟩, hb1⟩; have t1 := Q0.out.below hb1; have f0 := t1.frozen 0; have f1 := t1.frozen 1; have f2 := t1.frozen 2; have f3 := t1.frozen 3; have bb := QB.out.trans (hb1.mono QB.out.size); have t2 := t1.put (.int .i64 L) (.int .u8 k) (.int .u8 f) (.int .i64 s); have m2 := mine_put4 hm1 QS.out (.int .i64 L) (.int .u8 k) (.int .u8 f) (.int .i64 s); have bp := below_put4 bb (Nat.le_refl _) (.int .i64 L) (.int .u8 k) (.int .u8 f) (.int .i64 s); obtain ⟨d0, d1, d2, d3⟩ := t2.cells; have hl1 := hm1.len; have T2 := Lib.hid t2; obtain ⟨z0, z1, z2, z3⟩ := t1.cells; clear t1 t2; obtain ⟨a0, a1, a2, a3⟩ := T2.out.again) | (refine wp_goto ?_; refine hop_goto rfl ?_) | (refine wp_label ?_) | (refine hop_ret ?_))
    exact bodyPost_ret (v := .tuple #[.agg #[.int .i64 L, .int .u8 k, .int .u8 f, .int .i64 s], .slice none 0 0, .slice none 0 0, .int .i64 10]) (by simp [results, Try.f13, go_sem, d0, d1, d2, d3]) rfl ⟨⟨none, 0, 0, none, 0, 0, rfl, Mine.nil _ _, Mine.nil _ _⟩, bp⟩
  · go_enter Try.func13, Try.ntmps13
    go_wp2_with fail
    refine wp_scope_hop 1 ?_
    go_wp2_with (first | (go_at_call 10; refine (HT.out _).mono ?_; rintro e W1 ⟨⟨A1, m1, c1, rfl, hm1⟩, hb1⟩; have t1 := Q0.out.below hb1; have f0 := t1.frozen 0; have f1 := t1.frozen 1; have f2 := t1.frozen 2; have f3 := t1.frozen 3; have bb := QB.out.trans (hb1.mono QB.out.size); have t2 := t1.put (.int .i64 L) (.int .u8 k) (.int .u8 f) (.int .i64 s); have m2 := mine_put4 hm1 QS.out (.int .i64 L) (.int .u8 k) (.int .u8 f) (.int .i64 s); have bp := below_put4 bb (Nat.le_refl _) (.int .i64 L) (.int .u8 k) (.int .u8 f) (.int .i64 s); obtain ⟨d0, d1, d2, d3⟩ := t2.cells; have hl1 := hm1.len; have T2 := Lib.hid t2; obtain ⟨z0, z1, z2, z3⟩ := t1.cells; clear t1 t2; obtain ⟨a0, a1, a2, a3⟩ := T2.out.again; have g9 : decide (L ≤ (m1 : Int)) = false := decide_eq_false (by omega)) | (refine wp_goto ?_; refine hop_goto rfl ?_) | (refine wp_label ?_) | (refine hop_ret ?_))
    exact bodyPost_ret (v := .tuple #[.agg #[.int .i64 L, .int .u8 k, .int .u8 f, .int .i64 s], .slice none 0 0, .slice none 0 0, .int .i64 10]) (by simp [results, Try.f13, go_sem, d0, d1, d2, d3]) rfl ⟨⟨none, 0, 0, none, 0, 0, rfl, Mine.nil _ _, Mine.nil _ _⟩, bp⟩

set_option maxRecDepth 100000 in
set_option maxHeartbeats 1000000 in
theorem hwYes (A : Option Addr) (n c : Nat) (w : World) (L : Nat) (k f s : Int) (R : List Int)
    (HT : Hid (∀ X, Calls Try.prog 10 #[.slice A n c] (w.alloc X) (TakeQ L k f s R 0 (w.alloc X)))) (hpos : 0 < L) (hle : L ≤ R.length) (hR : R.length ≤ 140737488355328) :
    Calls Try.prog 13 #[.slice A n c] w (WholeQ L k f s (R.take L) (R.drop L) 0 w) := by
  have q0 := Blk4.new w 23 (.int .i64 0) (.int .u8 0) (.int .u8 0) (.int .i64 0)
  have qb : Below w.heap.size w (w.alloc (.cells #[.int .i64 0, .int .u8 0, .int .u8 0, .int .i64 0] 23)) := (Below.refl _ _).alloc (Nat.le_refl _) _
  have qs : w.heap.size < (w.alloc (.cells #[.int .i64 0, .int .u8 0, .int .u8 0, .int .i64 0] 23)).heap.size := by simp
  have Q0 := Lib.hid q0
  have QB := Lib.hid qb
  have QS := Lib.hid qs
  clear q0 qb qs
  go_enter Try.func13, Try.ntmps13
  go_wp2_with fail
  refine wp_scope_hop 1 ?_
  go_wp2_with fail
  refine (HT.out _).mono ?_
  rintro e W1 ⟨⟨A1, m1, c1, rfl, hm1⟩, hb1⟩
  have t1 := Q0.out.below hb1
  have f0 := t1.frozen 0
  have f1 := t1.frozen 1
  have f2 := t1.frozen 2
  have f3 := t1.frozen 3
  have bb := QB.out.trans (hb1.mono QB.out.size)
  have t2 := t1.put (.int .i64 L) (.int .u8 k) (.int .u8 f) (.int .i64 s)
  have m2 := mine_put4 hm1 QS.out (.int .i64 L) (.int .u8 k) (.int .u8 f) (.int .i64 s)
  have bp := below_put4 bb (Nat.le_refl _) (.int .i64 L) (.int .u8 k) (.int .u8 f) (.int .i64 s)
  obtain ⟨d0, d1, d2, d3⟩ := t2.cells
  have hl1 := hm1.len
  have T2 := Lib.hid t2
  obtain ⟨z0, z1, z2, z3⟩ := t1.cells
  clear t1 t2
  have g0 : (0 : Int) ≤ (L : Int) := by omega
  have g9 : (L : Int) ≤ (m1 : Int) := by omega
  have M2 := Lib.hid m2
  have BP := Lib.hid bp
  have HL1 := Lib.hid hl1
  have hW3 : w.heap.size < (((((W1.setCell ⟨w.heap.size, 0, none⟩ (.int .i64 L)).setCell ⟨w.heap.size, 1, none⟩ (.int .u8 k)).setCell ⟨w.heap.size, 2, none⟩ (.int .u8 f)).setCell ⟨w.heap.size, 3, none⟩ (.int .i64 s))).heap.size := T2.out.lt
  clear bp bb m2 hl1
  have hmb : m1 ≤ 140737488355328 := by have := HL1.out; omega
  rcases hm1.cases with ⟨rfl, rfl, rfl⟩ | ⟨g, rfl, hg0, hg1, hg2, hg3, _, _⟩
  · omega
  · clear hm1
    have g10 : (m1 : Int) ≤ (c1 : Int) := by omega
    have g11 : (L : Int) ≤ (c1 : Int) := by omega
    by_cases hc : c1 = L
    · obtain rfl : m1 = L := by omega
      obtain rfl : m1 = c1 := hc.symm
      have y1 := M2.out.byt.init (k := m1) (by omega)
      have y2 := M2.out.byt.tail_all (by omega)
      rw [Nat.sub_self] at y2
      go_wp2_with (first | (refine wp_goto ?_; refine hop_goto rfl ?_) | (refine wp_label ?_) | (refine hop_ret ?_))
      generalize ((((W1.setCell ⟨w.heap.size, 0, none⟩ (.int .i64 m1)).setCell ⟨w.heap.size, 1, none⟩ (.int .u8 k)).setCell ⟨w.heap.size, 2, none⟩ (.int .u8 f)).setCell ⟨w.heap.size, 3, none⟩ (.int .i64 s)) = W3 at *
      have Y1 := Lib.hid y1
      have Y2 := Lib.hid y2
      clear y1 y2
      have s0 : W3.drew.cell? ⟨w.heap.size, 0, none⟩ = some (.int .i64 m1) ∧ W3.drew.cell? ⟨w.heap.size, 1, none⟩ = some (.int .u8 k) ∧ W3.drew.cell? ⟨w.heap.size, 2, none⟩ = some (.int .u8 f) ∧ W3.drew.cell? ⟨w.heap.size, 3, none⟩ = some (.int .i64 s) := ⟨d0, d1, d2, d3⟩
      have tokA : True := trivial
      go_region_held3 (fun w' => w'.cell? ⟨w.heap.size, 0, none⟩ = some (.int .i64 m1) ∧ w'.cell? ⟨w.heap.size, 1, none⟩ = some (.int .u8 k) ∧ w'.cell? ⟨w.heap.size, 2, none⟩ = some (.int .u8 f) ∧ w'.cell? ⟨w.heap.size, 3, none⟩ = some (.int .i64 s)) (first | with_reducible exact s0 | with_reducible exact s1 | with_reducible exact s2) (first
        | (go_at_call 25; have _t := tokA; clear tokA _t; refine (fClone (some ⟨g, 0, none⟩) m1 m1 (R.take m1) W3.drew Y1.out.drew (by omega)).mono ?_; rintro e W4 ⟨A4, c4, rfl, hm4, hb4⟩; have r4 := T2.out.drew.below hb4; have s1 := r4.cells; have R4 := Lib.hid r4; clear r4)
        | (go_at_call 25; refine (fClone (some ⟨g, 0, none⟩) 0 0 (R.drop m1) W4 (Y2.out.drew.below hb4) (by omega)).mono ?_; rintro e W5 ⟨A5, c5, rfl, hm5, hb5⟩; have r5 := R4.out.below hb5; have s2 := r5.cells; have k0 := r5.frozen 0; have k1 := r5.frozen 1; have k2 := r5.frozen 2; have k3 := r5.frozen 3; obtain ⟨a0, a1, a2, a3⟩ := r5.again; clear r5))
      go_wp2_with (first | (refine wp_goto ?_; refine hop_goto rfl ?_) | (refine wp_label ?_) | (refine hop_ret ?_))
      obtain ⟨v0, v1, v2, v3⟩ := s2
      have e3 : Below w.heap.size w W3.drew := BP.out.trans (draw_bel _ _)
      have e4 : Below w.heap.size w W4 := e3.trans (hb4.mono e3.size)
      have e5 : Below w.heap.size w W5 := e4.trans (hb5.mono e4.size)
      exact bodyPost_ret (v := .tuple #[.agg #[.int .i64 m1, .int .u8 k, .int .u8 f, .int .i64 s], .slice A4 m1 c4, .slice A5 0 c5, .int .i64 0]) (by simp [results, Try.f13, go_sem, v0, v1, v2, v3]) rfl ⟨⟨A4, _, c4, A5, _, c5, rfl, (hm4.below hb5).base_le e3.size, hm5.base_le e4.size⟩, e5⟩
    · have y1 := M2.out.byt.init (k := L) (by omega)
      have y2 := M2.out.byt.tail (k := L) (by omega) hc
      rw [Nat.zero_add] at y2
      go_wp2_with (first | (refine wp_goto ?_; refine hop_goto rfl ?_) | (refine wp_label ?_) | (refine hop_ret ?_))
      generalize ((((W1.setCell ⟨w.heap.size, 0, none⟩ (.int .i64 L)).setCell ⟨w.heap.size, 1, none⟩ (.int .u8 k)).setCell ⟨w.heap.size, 2, none⟩ (.int .u8 f)).setCell ⟨w.heap.size, 3, none⟩ (.int .i64 s)) = W3 at *
      have Y1 := Lib.hid y1
      have Y2 := Lib.hid y2
      clear y1 y2
      have s0 : W3.drew.cell? ⟨w.heap.size, 0, none⟩ = some (.int .i64 L) ∧ W3.drew.cell? ⟨w.heap.size, 1, none⟩ = some (.int .u8 k) ∧ W3.drew.cell? ⟨w.heap.size, 2, none⟩ = some (.int .u8 f) ∧ W3.drew.cell? ⟨w.heap.size, 3, none⟩ = some (.int .i64 s) := ⟨d0, d1, d2, d3⟩
      have tokA : True := trivial
      go_region_held3 (fun w' => w'.cell? ⟨w.heap.size, 0, none⟩ = some (.int .i64 L) ∧ w'.cell? ⟨w.heap.size, 1, none⟩ = some (.int .u8 k) ∧ w'.cell? ⟨w.heap.size, 2, none⟩ = some (.int .u8 f) ∧ w'.cell? ⟨w.heap.size, 3, none⟩ = some (.int .i64 s)) (first | with_reducible exact s0 | with_reducible exact s1 | with_reducible exact s2) (first
        | (go_at_call 25; have _t := tokA; clear tokA _t; refine (fClone (some ⟨g, 0, none⟩) L c1 (R.take L) W3.drew Y1.out.drew (by omega)).mono ?_; rintro e W4 ⟨A4, c4, rfl, hm4, hb4⟩; have r4 := T2.out.drew.below hb4; have s1 := r4.cells; have R4 := Lib.hid r4; clear r4)
        | (go_at_call 25; refine (fClone (some ⟨g, L, none⟩) (m1 - L) (c1 - L) (R.drop L) W4 (Y2.out.drew.below hb4) (by omega)).mono ?_; rintro e W5 ⟨A5, c5, rfl, hm5, hb5⟩; have r5 := R4.out.below hb5; have s2 := r5.cells; have k0 := r5.frozen 0; have k1 := r5.frozen 1; have k2 := r5.frozen 2; have k3 := r5.frozen 3; obtain ⟨a0, a1, a2, a3⟩ := r5.again; clear r5))
      go_wp2_with (first | (refine wp_goto ?_; refine hop_goto rfl ?_) | (refine wp_label ?_) | (refine hop_ret ?_))
      obtain ⟨v0, v1, v2, v3⟩ := s2
      have e3 : Below w.heap.size w W3.drew := BP.out.trans (draw_bel _ _)
      have e4 : Below w.heap.size w W4 := e3.trans (hb4.mono e3.size)
      have e5 : Below w.heap.size w W5 := e4.trans (hb5.mono e4.size)
      exact bodyPost_ret (v := .tuple #[.agg #[.int .i64 L, .int .u8 k, .int .u8 f, .int .i64 s], .slice A4 L c4, .slice A5 (m1 - L) c5, .int .i64 0]) (by simp [results, Try.f13, go_sem, v0, v1, v2, v3]) rfl ⟨⟨A4, _, c4, A5, _, c5, rfl, (hm4.below hb5).base_le e3.size, hm5.base_le e4.size⟩, e5⟩
set_option maxRecDepth 100000 in
set_option maxHeartbeats 1000000 in
theorem hwZero (A : Option Addr) (n c : Nat) (w : World) (k f s : Int) (R : List Int)
    (HT : Hid (∀ X, Calls Try.prog 10 #[.slice A n c] (w.alloc X) (TakeQ 0 k f s R 0 (w.alloc X)))) (hR : R.length ≤ 140737488355328) :
    Calls Try.prog 13 #[.slice A n c] w (WholeQ 0 k f s [] R 0 w) := by
  have q0 := Blk4.new w 23 (.int .i64 0) (.int .u8 0) (.int .u8 0) (.int .i64 0)
  have qb : Below w.heap.size w (w.alloc (.cells #[.int .i64 0, .int .u8 0, .int .u8 0, .int .i64 0] 23)) := (Below.refl _ _).alloc (Nat.le_refl _) _
  have qs : w.heap.size < (w.alloc (.cells #[.int .i64 0, .int .u8 0, .int .u8 0, .int .i64 0] 23)).heap.size := by simp
  have Q0 := Lib.hid q0
  have QB := Lib.hid qb
  have QS := Lib.hid qs
  clear q0 qb qs
  go_enter Try.func13, Try.ntmps13
  go_wp2_with fail
  refine wp_scope_hop 1 ?_
  go_wp2_with fail
  refine (HT.out _).mono ?_
  rintro e W1 ⟨⟨A1, m1, c1, rfl, hm1⟩, hb1⟩
  have t1 := Q0.out.below hb1
  have f0 := t1.frozen 0
  have f1 := t1.frozen 1
  have f2 := t1.frozen 2
  have f3 := t1.frozen 3
  have bb := QB.out.trans (hb1.mono QB.out.size)
  have t2 := t1.put (.int .i64 0) (.int .u8 k) (.int .u8 f) (.int .i64 s)
  have m2 := mine_put4 hm1 QS.out (.int .i64 0) (.int .u8 k) (.int .u8 f) (.int .i64 s)
  have bp := below_put4 bb (Nat.le_refl _) (.int .i64 0) (.int .u8 k) (.int .u8 f) (.int .i64 s)
  obtain ⟨d0, d1, d2, d3⟩ := t2.cells
  have hl1 := hm1.len
  have T2 := Lib.hid t2
  obtain ⟨z0, z1, z2, z3⟩ := t1.cells
  clear t1 t2
  have M2 := Lib.hid m2
  have BP := Lib.hid bp
  have HL1 := Lib.hid hl1
  have hW3 : w.heap.size < (((((W1.setCell ⟨w.heap.size, 0, none⟩ (.int .i64 0)).setCell ⟨w.heap.size, 1, none⟩ (.int .u8 k)).setCell ⟨w.heap.size, 2, none⟩ (.int .u8 f)).setCell ⟨w.heap.size, 3, none⟩ (.int .i64 s))).heap.size := T2.out.lt
  clear bp bb m2 hl1
  have hmb : m1 ≤ 140737488355328 := by have := HL1.out; omega
  rcases hm1.cases with ⟨rfl, rfl, rfl⟩ | ⟨g, rfl, hg0, hg1, hg2, hg3, _, _⟩
  · clear hm1
    have y2 := M2.out.byt
    have y1 := M2.out.byt.init (k := 0) (by omega)
    rw [List.take_zero] at y1
    go_wp2_with (first | (refine wp_goto ?_; refine hop_goto rfl ?_) | (refine wp_label ?_) | (refine hop_ret ?_))
    generalize ((((W1.setCell ⟨w.heap.size, 0, none⟩ (.int .i64 0)).setCell ⟨w.heap.size, 1, none⟩ (.int .u8 k)).setCell ⟨w.heap.size, 2, none⟩ (.int .u8 f)).setCell ⟨w.heap.size, 3, none⟩ (.int .i64 s)) = W3 at *
    have Y1 := Lib.hid y1
    have Y2 := Lib.hid y2
    clear y1 y2
    have s0 : W3.drew.cell? ⟨w.heap.size, 0, none⟩ = some (.int .i64 0) ∧ W3.drew.cell? ⟨w.heap.size, 1, none⟩ = some (.int .u8 k) ∧ W3.drew.cell? ⟨w.heap.size, 2, none⟩ = some (.int .u8 f) ∧ W3.drew.cell? ⟨w.heap.size, 3, none⟩ = some (.int .i64 s) := ⟨d0, d1, d2, d3⟩
    have tokA : True := trivial
    go_region_held3 (fun w' => w'.cell? ⟨w.heap.size, 0, none⟩ = some (.int .i64 0) ∧ w'.cell? ⟨w.heap.size, 1, none⟩ = some (.int .u8 k) ∧ w'.cell? ⟨w.heap.size, 2, none⟩ = some (.int .u8 f) ∧ w'.cell? ⟨w.heap.size, 3, none⟩ = some (.int .i64 s)) (first | with_reducible exact s0 | with_reducible exact s1 | with_reducible exact s2) (first
      | (go_at_call 25; have _t := tokA; clear tokA _t; refine (fClone none 0 0 [] W3.drew Y1.out.drew (by omega)).mono ?_; rintro e W4 ⟨A4, c4, rfl, hm4, hb4⟩; have r4 := T2.out.drew.below hb4; have s1 := r4.cells; have R4 := Lib.hid r4; clear r4)
      | (go_at_call 25; refine (fClone none 0 0 R W4 (Y2.out.drew.below hb4) (by omega)).mono ?_; rintro e W5 ⟨A5, c5, rfl, hm5, hb5⟩; have r5 := R4.out.below hb5; have s2 := r5.cells; have k0 := r5.frozen 0; have k1 := r5.frozen 1; have k2 := r5.frozen 2; have k3 := r5.frozen 3; obtain ⟨a0, a1, a2, a3⟩ := r5.again; clear r5))
    go_wp2_with (first | (refine wp_goto ?_; refine hop_goto rfl ?_) | (refine wp_label ?_) | (refine hop_ret ?_))
    obtain ⟨v0, v1, v2, v3⟩ := s2
    have e3 : Below w.heap.size w W3.drew := BP.out.trans (draw_bel _ _)
    have e4 : Below w.heap.size w W4 := e3.trans (hb4.mono e3.size)
    have e5 : Below w.heap.size w W5 := e4.trans (hb5.mono e4.size)
    exact bodyPost_ret (v := .tuple #[.agg #[.int .i64 0, .int .u8 k, .int .u8 f, .int .i64 s], .slice A4 0 c4, .slice A5 0 c5, .int .i64 0]) (by simp [results, Try.f13, go_sem, v0, v1, v2, v3]) rfl ⟨⟨A4, _, c4, A5, _, c5, rfl, (hm4.below hb5).base_le e3.size, hm5.base_le e4.size⟩, e5⟩
  · clear hm1
    have g10 : (m1 : Int) ≤ (c1 : Int) := by omega
    have g12 : (0 : Int) ≤ (m1 : Int) := by omega
    have y2 := M2.out.byt
    have y1 := M2.out.byt.init (k := 0) (by omega)
    rw [List.take_zero] at y1
    by_cases hc : c1 = 0
    · obtain rfl : m1 = 0 := by omega
      subst hc
      go_wp2_with (first | (refine wp_goto ?_; refine hop_goto rfl ?_) | (refine wp_label ?_) | (refine hop_ret ?_))
      generalize ((((W1.setCell ⟨w.heap.size, 0, none⟩ (.int .i64 0)).setCell ⟨w.heap.size, 1, none⟩ (.int .u8 k)).setCell ⟨w.heap.size, 2, none⟩ (.int .u8 f)).setCell ⟨w.heap.size, 3, none⟩ (.int .i64 s)) = W3 at *
      have Y1 := Lib.hid y1
      have Y2 := Lib.hid y2
      clear y1 y2
      have s0 : W3.drew.cell? ⟨w.heap.size, 0, none⟩ = some (.int .i64 0) ∧ W3.drew.cell? ⟨w.heap.size, 1, none⟩ = some (.int .u8 k) ∧ W3.drew.cell? ⟨w.heap.size, 2, none⟩ = some (.int .u8 f) ∧ W3.drew.cell? ⟨w.heap.size, 3, none⟩ = some (.int .i64 s) := ⟨d0, d1, d2, d3⟩
      have tokA : True := trivial
      go_region_held3 (fun w' => w'.cell? ⟨w.heap.size, 0, none⟩ = some (.int .i64 0) ∧ w'.cell? ⟨w.heap.size, 1, none⟩ = some (.int .u8 k) ∧ w'.cell? ⟨w.heap.size, 2, none⟩ = some (.int .u8 f) ∧ w'.cell? ⟨w.heap.size, 3, none⟩ = some (.int .i64 s)) (first | with_reducible exact s0 | with_reducible exact s1 | with_reducible exact s2) (first
        | (go_at_call 25; have _t := tokA; clear tokA _t; refine (fClone (some ⟨g, 0, none⟩) 0 0 [] W3.drew Y1.out.drew (by omega)).mono ?_; rintro e W4 ⟨A4, c4, rfl, hm4, hb4⟩; have r4 := T2.out.drew.below hb4; have s1 := r4.cells; have R4 := Lib.hid r4; clear r4)
        | (go_at_call 25; refine (fClone (some ⟨g, 0, none⟩) 0 0 R W4 (Y2.out.drew.below hb4) (by omega)).mono ?_; rintro e W5 ⟨A5, c5, rfl, hm5, hb5⟩; have r5 := R4.out.below hb5; have s2 := r5.cells; have k0 := r5.frozen 0; have k1 := r5.frozen 1; have k2 := r5.frozen 2; have k3 := r5.frozen 3; obtain ⟨a0, a1, a2, a3⟩ := r5.again; clear r5))
      go_wp2_with (first | (refine wp_goto ?_; refine hop_goto rfl ?_) | (refine wp_label ?_) | (refine hop_ret ?_))
      obtain ⟨v0, v1, v2, v3⟩ := s2
      have e3 : Below w.heap.size w W3.drew := BP.out.trans (draw_bel _ _)
      have e4 : Below w.heap.size w W4 := e3.trans (hb4.mono e3.size)
      have e5 : Below w.heap.size w W5 := e4.trans (hb5.mono e4.size)
      exact bodyPost_ret (v := .tuple #[.agg #[.int .i64 0, .int .u8 k, .int .u8 f, .int .i64 s], .slice A4 0 c4, .slice A5 0 c5, .int .i64 0]) (by simp [results, Try.f13, go_sem, v0, v1, v2, v3]) rfl ⟨⟨A4, _, c4, A5, _, c5, rfl, (hm4.below hb5).base_le e3.size, hm5.base_le e4.size⟩, e5⟩
    · skip
      go_wp2_with (first | (refine wp_goto ?_; refine hop_goto rfl ?_) | (refine wp_label ?_) | (refine hop_ret ?_))
      generalize ((((W1.setCell ⟨w.heap.size, 0, none⟩ (.int .i64 0)).setCell ⟨w.heap.size, 1, none⟩ (.int .u8 k)).setCell ⟨w.heap.size, 2, none⟩ (.int .u8 f)).setCell ⟨w.heap.size, 3, none⟩ (.int .i64 s)) = W3 at *
      have Y1 := Lib.hid y1
      have Y2 := Lib.hid y2
      clear y1 y2
      have s0 : W3.drew.cell? ⟨w.heap.size, 0, none⟩ = some (.int .i64 0) ∧ W3.drew.cell? ⟨w.heap.size, 1, none⟩ = some (.int .u8 k) ∧ W3.drew.cell? ⟨w.heap.size, 2, none⟩ = some (.int .u8 f) ∧ W3.drew.cell? ⟨w.heap.size, 3, none⟩ = some (.int .i64 s) := ⟨d0, d1, d2, d3⟩
      have tokA : True := trivial
      go_region_held3 (fun w' => w'.cell? ⟨w.heap.size, 0, none⟩ = some (.int .i64 0) ∧ w'.cell? ⟨w.heap.size, 1, none⟩ = some (.int .u8 k) ∧ w'.cell? ⟨w.heap.size, 2, none⟩ = some (.int .u8 f) ∧ w'.cell? ⟨w.heap.size, 3, none⟩ = some (.int .i64 s)) (first | with_reducible exact s0 | with_reducible exact s1 | with_reducible exact s2) (first
        | (go_at_call 25; have _t := tokA; clear tokA _t; refine (fClone (some ⟨g, 0, none⟩) 0 c1 [] W3.drew Y1.out.drew (by omega)).mono ?_; rintro e W4 ⟨A4, c4, rfl, hm4, hb4⟩; have r4 := T2.out.drew.below hb4; have s1 := r4.cells; have R4 := Lib.hid r4; clear r4)
        | (go_at_call 25; refine (fClone (some ⟨g, 0, none⟩) m1 c1 R W4 (Y2.out.drew.below hb4) (by omega)).mono ?_; rintro e W5 ⟨A5, c5, rfl, hm5, hb5⟩; have r5 := R4.out.below hb5; have s2 := r5.cells; have k0 := r5.frozen 0; have k1 := r5.frozen 1; have k2 := r5.frozen 2; have k3 := r5.frozen 3; obtain ⟨a0, a1, a2, a3⟩ := r5.again; clear r5))
      go_wp2_with (first | (refine wp_goto ?_; refine hop_goto rfl ?_) | (refine wp_label ?_) | (refine hop_ret ?_))
      obtain ⟨v0, v1, v2, v3⟩ := s2
      have e3 : Below w.heap.size w W3.drew := BP.out.trans (draw_bel _ _)
      have e4 : Below w.heap.size w W4 := e3.trans (hb4.mono e3.size)
      have e5 : Below w.heap.size w W5 := e4.trans (hb5.mono e4.size)
      exact bodyPost_ret (v := .tuple #[.agg #[.int .i64 0, .int .u8 k, .int .u8 f, .int .i64 s], .slice A4 0 c4, .slice A5 m1 c5, .int .i64 0]) (by simp [results, Try.f13, go_sem, v0, v1, v2, v3]) rfl ⟨⟨A4, _, c4, A5, _, c5, rfl, (hm4.below hb5).base_le e3.size, hm5.base_le e4.size⟩, e5⟩
end Go.Proofs.Yteghfgjdicmknaa
