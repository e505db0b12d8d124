/- The document's taking of heads: the contract. -/
import Derived.Test.YthcnfalfhdeflaaHt
import Derived.Test.YthcnfalfhdeflaaOrs
namespace Go.Proofs.Ythcnfalfhdeflaa
open Go.RowKit Go.Shelf
set_option linter.unusedVariables false

set_option maxRecDepth 100000 in
set_option maxHeartbeats 4000000 in
theorem rtShort (A : Option Addr) (n c : Nat) (w : World) (hn : n < 9) :
    Calls Try.prog 14 #[.slice A n c] w fun e W' => e = .returned (.tuple #[.agg #[.int .i64 0, .int .u8 0, .int .u8 0, .int .i64 0], .slice none 0 0, .int .i64 10]) ∧ Below w.heap.size w W' := by
  have b0 : Below w.heap.size w (w.alloc (.cells #[.int .i64 0, .int .u8 0, .int .u8 0, .int .i64 0] 41)) := (Below.refl _ _).alloc (Nat.le_refl _) _
  go_enter Try.func14, Try.ntmps14
  go_wp2
  refine bodyPost_ret (v := .tuple #[.agg #[.int .i64 0, .int .u8 0, .int .u8 0, .int .i64 0], .slice none 0 0, .int .i64 10]) (by simp [results, Try.f14, go_sem]) rfl ⟨rfl, b0⟩

set_option maxRecDepth 100000 in
set_option maxHeartbeats 4000000 in
theorem rtYes (b o n c : Nat) (l : List Int) (w : World) (h : Byt w (some ⟨b, o, none⟩) n c l) (hn : 9 ≤ n) (hn2 : n ≤ 140737488355328) (hb : b < w.heap.size) (L k f s e1 e2 : Int)
    (c3 : w.cell? ⟨b, o + 3, none⟩ = some (.int .u8 k)) (c4 : w.cell? ⟨b, o + 4, none⟩ = some (.int .u8 f))
    (HT : Hid (∀ X, Calls Try.prog 26 #[.slice (some ⟨b, o, none⟩) n c, .int .i64 0, .int .i64 3] (w.alloc X) (Ret (.tuple #[.int .i64 L, .int .i64 e1]) (w.alloc X))))
    (HS : Hid (∀ X, Calls Try.prog 27 #[.slice (some ⟨b, o, none⟩) n c, .int .i64 5] (w.alloc X) (Ret (.tuple #[.int .i64 s, .int .i64 e2]) (w.alloc X)))) :
    Calls Try.prog 14 #[.slice (some ⟨b, o, none⟩) n c] w fun e W' => (∃ A' m c', e = .returned (.tuple #[.agg #[.int .i64 L, .int .u8 k, .int .u8 f, .int .i64 s], .slice A' m c', .int .i64 0]) ∧ Mine w.heap.size W' A' m c' (l.drop 9)) ∧ Below w.heap.size w W' := by
  have H := Lib.hid h
  have hcap := h.cap
  have hmx := h.mx
  clear h
  have g1 : (3 : Int) < (n : Int) := by omega
  have g2 : (4 : Int) < (n : Int) := by omega
  have g3 : (9 : Int) ≤ (n : Int) := by omega
  have g4 : (n : Int) ≤ (c : Int) := by omega
  have q0 := Blk4.new w 41 (.int .i64 0) (.int .u8 0) (.int .u8 0) (.int .i64 0)
  have qb : Below w.heap.size w (w.alloc (.cells #[.int .i64 0, .int .u8 0, .int .u8 0, .int .i64 0] 41)) := (Below.refl _ _).alloc (Nat.le_refl _) _
  have qs : w.heap.size < (w.alloc (.cells #[.int .i64 0, .int .u8 0, .int .u8 0, .int .i64 0] 41)).heap.size := by simp
  have k3 : (w.alloc (.cells #[.int .i64 0, .int .u8 0, .int .u8 0, .int .i64 0] 41)).cell? ⟨b, o + 3, none⟩ = some (.int .u8 k) := (qb.cell hb).trans c3
  have k4 : (w.alloc (.cells #[.int .i64 0, .int .u8 0, .int .u8 0, .int .i64 0] 41)).cell? ⟨b, o + 4, none⟩ = some (.int .u8 f) := (qb.cell hb).trans c4
  have qy := H.out.alloc (.cells #[.int .i64 0, .int .u8 0, .int .u8 0, .int .i64 0] 41)
  have QY := Lib.hid qy
  clear qy
  by_cases hc : c = 9
  · subst hc
    go_enter Try.func14, Try.ntmps14
    go_wp2_with (first
      | (go_at_call 26; refine (HT.out _).mono ?_; rintro e w' ⟨rfl, rfl⟩)
      | (go_at_call 27; refine (HS.out _).mono ?_; rintro e w' ⟨rfl, rfl⟩))
    have qy := QY.out.tail_all hn
    rw [show n - 9 = 0 by omega] at qy
    generalize (w.alloc (.cells #[.int .i64 0, .int .u8 0, .int .u8 0, .int .i64 0] 41)) = W0 at *
    have QY := Lib.hid qy
    clear qy
    have Q0 := Lib.hid q0
    clear q0
    have hb0 : b < W0.heap.size := by omega
    have s0 : W0.drew.cell? ⟨b, o + 3, none⟩ = some (.int .u8 k) ∧ W0.drew.cell? ⟨b, o + 4, none⟩ = some (.int .u8 f) := ⟨k3, k4⟩
    have s1 : (W0.alloc (.cells #[] 5)).drew.cell? ⟨b, o + 3, none⟩ = some (.int .u8 k) ∧ (W0.alloc (.cells #[] 5)).drew.cell? ⟨b, o + 4, none⟩ = some (.int .u8 f) := ⟨(World.cell?_alloc_lt W0 _ ⟨b, o + 3, none⟩ hb0).trans k3, (World.cell?_alloc_lt W0 _ ⟨b, o + 4, none⟩ hb0).trans k4⟩
    have hbw : b ≠ w.heap.size := by omega
    go_region_held3 (fun w' => w'.cell? ⟨b, o + 3, none⟩ = some (.int .u8 k) ∧ w'.cell? ⟨b, o + 4, none⟩ = some (.int .u8 f)) (first | with_reducible exact s0 | with_reducible exact s1 | with_reducible exact s2 | exact ⟨(put4_far W2 w.heap.size _ _ _ _ hbw).trans s2.1, (put4_far W2 w.heap.size _ _ _ _ hbw).trans s2.2⟩) (first
      | (refine step_copy W0.drew (by rfl) (.tmp 32) (.tmp 34) (by rfl) (by rfl) (by rfl) (some ⟨b, o, none⟩) 0 0 (l.drop 9) (by rfl) QY.out.drew (by omega) ?_; intro A2 c2 W2 hm2 hb2; have t2 := Q0.out.drew.below hb2; have s2 : W2.cell? ⟨b, o + 3, none⟩ = some (.int .u8 k) ∧ W2.cell? ⟨b, o + 4, none⟩ = some (.int .u8 f) := ⟨(hb2.cell (p := ⟨b, o + 3, none⟩) (show b < W0.drew.heap.size from hb0)).trans k3, (hb2.cell (p := ⟨b, o + 4, none⟩) (show b < W0.drew.heap.size from hb0)).trans k4⟩; have f0 := t2.frozen 0; have f1 := t2.frozen 1; have f2 := t2.frozen 2; have f3 := t2.frozen 3; obtain ⟨z0, z1, z2, z3⟩ := t2.cells; have T2 := Lib.hid t2; clear t2))
    go_wp2
    have t3 := T2.out.put (.int .i64 L) (.int .u8 k) (.int .u8 f) (.int .i64 s)
    have m3 := mine_put4 (hm2.base_le (b := W0.heap.size) (Nat.le_refl _)) qs (.int .i64 L) (.int .u8 k) (.int .u8 f) (.int .i64 s)
    have b3 := below_put4 ((qb.trans (show Below w.heap.size W0 W0.drew from ⟨rfl, rfl, rfl, Nat.le_refl _, fun _ _ => rfl⟩)).trans (hb2.mono qb.size)) (Nat.le_refl _) (.int .i64 L) (.int .u8 k) (.int .u8 f) (.int .i64 s)
    generalize ((((W2.setCell ⟨w.heap.size, 0, none⟩ (.int .i64 L)).setCell ⟨w.heap.size, 1, none⟩ (.int .u8 k)).setCell ⟨w.heap.size, 2, none⟩ (.int .u8 f)).setCell ⟨w.heap.size, 3, none⟩ (.int .i64 s)) = W3 at *
    obtain ⟨d0, d1, d2, d3⟩ := t3.cells
    exact bodyPost_ret (v := .tuple #[.agg #[.int .i64 L, .int .u8 k, .int .u8 f, .int .i64 s], .slice A2 0 c2, .int .i64 0]) (by simp [results, Try.f14, go_sem, d0, d1, d2, d3]) rfl ⟨⟨A2, _, c2, rfl, m3.base_le qb.size⟩, b3⟩
  · go_enter Try.func14, Try.ntmps14
    go_wp2_with (first
      | (go_at_call 26; refine (HT.out _).mono ?_; rintro e w' ⟨rfl, rfl⟩)
      | (go_at_call 27; refine (HS.out _).mono ?_; rintro e w' ⟨rfl, rfl⟩))
    have qy := QY.out.tail hn hc
    generalize (w.alloc (.cells #[.int .i64 0, .int .u8 0, .int .u8 0, .int .i64 0] 41)) = W0 at *
    have QY := Lib.hid qy
    clear qy
    have Q0 := Lib.hid q0
    clear q0
    have hb0 : b < W0.heap.size := by omega
    have s0 : W0.drew.cell? ⟨b, o + 3, none⟩ = some (.int .u8 k) ∧ W0.drew.cell? ⟨b, o + 4, none⟩ = some (.int .u8 f) := ⟨k3, k4⟩
    have s1 : (W0.alloc (.cells #[] 5)).drew.cell? ⟨b, o + 3, none⟩ = some (.int .u8 k) ∧ (W0.alloc (.cells #[] 5)).drew.cell? ⟨b, o + 4, none⟩ = some (.int .u8 f) := ⟨(World.cell?_alloc_lt W0 _ ⟨b, o + 3, none⟩ hb0).trans k3, (World.cell?_alloc_lt W0 _ ⟨b, o + 4, none⟩ hb0).trans k4⟩
    have hbw : b ≠ w.heap.size := by omega
    go_region_held3 (fun w' => w'.cell? ⟨b, o + 3, none⟩ = some (.int .u8 k) ∧ w'.cell? ⟨b, o + 4, none⟩ = some (.int .u8 f)) (first | with_reducible exact s0 | with_reducible exact s1 | with_reducible exact s2 | exact ⟨(put4_far W2 w.heap.size _ _ _ _ hbw).trans s2.1, (put4_far W2 w.heap.size _ _ _ _ hbw).trans s2.2⟩) (first
      | (refine step_copy W0.drew (by rfl) (.tmp 32) (.tmp 34) (by rfl) (by rfl) (by rfl) (some ⟨b, o + 9, none⟩) (n - 9) (c - 9) (l.drop 9) (by rfl) QY.out.drew (by omega) ?_; intro A2 c2 W2 hm2 hb2; have t2 := Q0.out.drew.below hb2; have s2 : W2.cell? ⟨b, o + 3, none⟩ = some (.int .u8 k) ∧ W2.cell? ⟨b, o + 4, none⟩ = some (.int .u8 f) := ⟨(hb2.cell (p := ⟨b, o + 3, none⟩) (show b < W0.drew.heap.size from hb0)).trans k3, (hb2.cell (p := ⟨b, o + 4, none⟩) (show b < W0.drew.heap.size from hb0)).trans k4⟩; have f0 := t2.frozen 0; have f1 := t2.frozen 1; have f2 := t2.frozen 2; have f3 := t2.frozen 3; obtain ⟨z0, z1, z2, z3⟩ := t2.cells; have T2 := Lib.hid t2; clear t2))
    go_wp2
    have t3 := T2.out.put (.int .i64 L) (.int .u8 k) (.int .u8 f) (.int .i64 s)
    have m3 := mine_put4 (hm2.base_le (b := W0.heap.size) (Nat.le_refl _)) qs (.int .i64 L) (.int .u8 k) (.int .u8 f) (.int .i64 s)
    have b3 := below_put4 ((qb.trans (show Below w.heap.size W0 W0.drew from ⟨rfl, rfl, rfl, Nat.le_refl _, fun _ _ => rfl⟩)).trans (hb2.mono qb.size)) (Nat.le_refl _) (.int .i64 L) (.int .u8 k) (.int .u8 f) (.int .i64 s)
    generalize ((((W2.setCell ⟨w.heap.size, 0, none⟩ (.int .i64 L)).setCell ⟨w.heap.size, 1, none⟩ (.int .u8 k)).setCell ⟨w.heap.size, 2, none⟩ (.int .u8 f)).setCell ⟨w.heap.size, 3, none⟩ (.int .i64 s)) = W3 at *
    obtain ⟨d0, d1, d2, d3⟩ := t3.cells
    exact bodyPost_ret (v := .tuple #[.agg #[.int .i64 L, .int .u8 k, .int .u8 f, .int .i64 s], .slice A2 (n - 9) c2, .int .i64 0]) (by simp [results, Try.f14, go_sem, d0, d1, d2, d3]) rfl ⟨⟨A2, _, c2, rfl, m3.base_le qb.size⟩, b3⟩

theorem rHTake (A : Option Addr) (n c : Nat) (l : List Int) (w : World) (h : Byt w A n c l) (hn2 : n ≤ 140737488355328) :
    Calls Try.prog 14 #[.slice A n c] w (TakeP l w) := by
  have hl := h.len
  unfold TakeP hL hK hF hS hR hE
  by_cases hn : n < 9
  · rw [if_pos (by omega), if_pos (by omega), if_pos (by omega), if_pos (by omega), if_pos (by omega), if_pos (by omega)]
    refine (rtShort A n c w hn).mono ?_
    rintro e W' ⟨rfl, hb⟩
    exact ⟨⟨none, 0, 0, rfl, Mine.nil _ _⟩, hb⟩
  · rw [if_neg (by omega), if_neg (by omega), if_neg (by omega), if_neg (by omega), if_neg (by omega), if_neg (by omega)]
    obtain ⟨b, o, rfl, hb, hcell⟩ := h.cell (by omega)
    exact rtYes b o n c l w h (by omega) hn2 hb _ _ _ _ _ _ (hcell 3 (by omega)) (hcell 4 (by omega))
      (Lib.hid fun X => rOTake _ _ _ l _ _ _ (by omega) (h.alloc X)) (Lib.hid fun X => rOStream _ _ _ l _ _ (by omega) (h.alloc X))
end Go.Proofs.Ythcnfalfhdeflaa
