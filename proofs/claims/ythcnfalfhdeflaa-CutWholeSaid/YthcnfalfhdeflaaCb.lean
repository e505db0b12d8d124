/- Which readers may be: both sides. -/
import Derived.Test.YthcnfalfhdeflaaCa
import Derived.Test.YthcnfalfhdeflaaR
namespace Go.Proofs.Ythcnfalfhdeflaa
open Go.RowKit Go.Shelf
set_option linter.unusedVariables false
set_option linter.unusedSimpArgs false

set_option maxHeartbeats 1000000 in
theorem fRRa (p : Int) (A : Option Addr) (n c : Nat) (l : List Int) (L k f s : Int) (ok : Bool) (w : World) (F1 : Hid (∀ W, Byt W A n c l → Calls Try.prog 29 #[.slice A n c] W fun e w' => e = .returned (.tuple #[.agg #[.int .i64 L, .int .u8 k, .int .u8 f, .int .i64 s], .bool ok]) ∧ Below W.heap.size W w')) (h : Byt w A n c l) (h0 : p < 0) :
    Calls Try.prog 19 #[.agg #[.int .i64 p, .slice A n c]] w (BoolP false w) := by
  skip
  have b0 := (Bel.refl w).alloc (.cells #[.int .i64 p, .slice A n c] 24)
  have q0 := Blk.new w 24 #[.int .i64 p, .slice A n c]
  have y := h.alloc (.cells #[.int .i64 p, .slice A n c] 24)
  have hc := h.cap; have hx := h.mx
  have z0 := q0.at 0 rfl; have z1 := q0.at 1 rfl
  have g0 : decide (p < 0) = true := decide_eq_true (by omega)
  clear h h0
  go_enter Try.func19, Try.ntmps19
  go_wp2_with fail
  refine wp_scope_hop 1 ?_
  go_upto_region 2 with (first | (go_at_call 29; (with_reducible refine (F1.out _ y).mono ?_); rintro e w1 ⟨rfl, hb⟩; replace b0 := b0.below hb; replace q0 := q0.below hb; have hz := q0.lt; have q3 := Blk.new w1 41 #[.int .i64 L, .int .u8 k, .int .u8 f, .int .i64 s]; replace q0 := q0.alloc (.cells #[.int .i64 L, .int .u8 k, .int .u8 f, .int .i64 s] 41); replace b0 := b0.alloc (.cells #[.int .i64 L, .int .u8 k, .int .u8 f, .int .i64 s] 41); have x0 := q3.at 0 rfl; (try clear z0 z1); have z0 := q0.at 0 rfl; have z1 := q0.at 1 rfl; clear hb y))
  go_wp2_with (first
    | ((with_reducible refine wp_goto_then rfl ?_)) | ((with_reducible refine wp_goto ?_); refine hop_goto rfl ?_) | ((with_reducible refine wp_label ?_)) | ((with_reducible refine hop_ret ?_)))
  go_ret
  exact ⟨rfl, b0.out⟩
set_option maxHeartbeats 1000000 in
theorem fRRb (p : Int) (A : Option Addr) (n c : Nat) (l : List Int) (L k f s : Int) (ok : Bool) (w : World) (F1 : Hid (∀ W, Byt W A n c l → Calls Try.prog 29 #[.slice A n c] W fun e w' => e = .returned (.tuple #[.agg #[.int .i64 L, .int .u8 k, .int .u8 f, .int .i64 s], .bool ok]) ∧ Below W.heap.size W w')) (h : Byt w A n c l) (h0 : 24 < p) :
    Calls Try.prog 19 #[.agg #[.int .i64 p, .slice A n c]] w (BoolP false w) := by
  skip
  have b0 := (Bel.refl w).alloc (.cells #[.int .i64 p, .slice A n c] 24)
  have q0 := Blk.new w 24 #[.int .i64 p, .slice A n c]
  have y := h.alloc (.cells #[.int .i64 p, .slice A n c] 24)
  have hc := h.cap; have hx := h.mx
  have z0 := q0.at 0 rfl; have z1 := q0.at 1 rfl
  have g0 : decide (p < 0) = false := decide_eq_false (by omega)
  have g1 : decide (24 < p) = true := decide_eq_true (by omega)
  clear h h0
  go_enter Try.func19, Try.ntmps19
  go_wp2_with fail
  refine wp_scope_hop 1 ?_
  go_upto_region 2 with (first | (go_at_call 29; (with_reducible refine (F1.out _ y).mono ?_); rintro e w1 ⟨rfl, hb⟩; replace b0 := b0.below hb; replace q0 := q0.below hb; have hz := q0.lt; have q3 := Blk.new w1 41 #[.int .i64 L, .int .u8 k, .int .u8 f, .int .i64 s]; replace q0 := q0.alloc (.cells #[.int .i64 L, .int .u8 k, .int .u8 f, .int .i64 s] 41); replace b0 := b0.alloc (.cells #[.int .i64 L, .int .u8 k, .int .u8 f, .int .i64 s] 41); have x0 := q3.at 0 rfl; (try clear z0 z1); have z0 := q0.at 0 rfl; have z1 := q0.at 1 rfl; clear hb y))
  go_wp2_with (first
    | ((with_reducible refine wp_goto_then rfl ?_)) | ((with_reducible refine wp_goto ?_); refine hop_goto rfl ?_) | ((with_reducible refine wp_label ?_)) | ((with_reducible refine hop_ret ?_)))
  go_ret
  exact ⟨rfl, b0.out⟩
set_option maxHeartbeats 1000000 in
theorem fRRc (p : Int) (A : Option Addr) (n c : Nat) (l : List Int) (L k f s : Int) (ok : Bool) (w : World) (F1 : Hid (∀ W, Byt W A n c l → Calls Try.prog 29 #[.slice A n c] W fun e w' => e = .returned (.tuple #[.agg #[.int .i64 L, .int .u8 k, .int .u8 f, .int .i64 s], .bool ok]) ∧ Below W.heap.size W w')) (h : Byt w A n c l) (h0 : 0 ≤ p) (h1 : p < 24) (h2 : 0 < n) :
    Calls Try.prog 19 #[.agg #[.int .i64 p, .slice A n c]] w (BoolP false w) := by
  skip
  have b0 := (Bel.refl w).alloc (.cells #[.int .i64 p, .slice A n c] 24)
  have q0 := Blk.new w 24 #[.int .i64 p, .slice A n c]
  have y := h.alloc (.cells #[.int .i64 p, .slice A n c] 24)
  have hc := h.cap; have hx := h.mx
  have z0 := q0.at 0 rfl; have z1 := q0.at 1 rfl
  have g0 : decide (p < 0) = false := decide_eq_false (by omega)
  have g1 : decide (24 < p) = false := decide_eq_false (by omega)
  have g2 : (p == 24) = false := beq_eq_false_iff_ne.2 (by omega)
  have g3 : decide (p < 24) = true := decide_eq_true (by omega)
  have g4 : decide (0 < n) = true := decide_eq_true (by omega)
  clear h h0 h1 h2
  go_enter Try.func19, Try.ntmps19
  go_wp2_with fail
  refine wp_scope_hop 1 ?_
  go_upto_region 2 with (first | (go_at_call 29; (with_reducible refine (F1.out _ y).mono ?_); rintro e w1 ⟨rfl, hb⟩; replace b0 := b0.below hb; replace q0 := q0.below hb; have hz := q0.lt; have q3 := Blk.new w1 41 #[.int .i64 L, .int .u8 k, .int .u8 f, .int .i64 s]; replace q0 := q0.alloc (.cells #[.int .i64 L, .int .u8 k, .int .u8 f, .int .i64 s] 41); replace b0 := b0.alloc (.cells #[.int .i64 L, .int .u8 k, .int .u8 f, .int .i64 s] 41); have x0 := q3.at 0 rfl; (try clear z0 z1); have z0 := q0.at 0 rfl; have z1 := q0.at 1 rfl; clear hb y))
  go_wp2_with (first
    | ((with_reducible refine wpList_id ?_); refine wpList_getG (by rfl) _ _ rfl rfl q0 Try.underlying24 rfl (by rfl) ?_)
    | (go_at_call 18; (with_reducible refine (fBegun _ _ _ _ _).mono ?_); rintro e w8 ⟨rfl, hb⟩; replace b0 := b0.below hb; replace q0 := q0.below hb; replace q3 := q3.below hb; (try clear x0); have x0 := q3.at 0 rfl; (try clear z0 z1); have z0 := q0.at 0 rfl; have z1 := q0.at 1 rfl; clear hb)
    | ((with_reducible refine wp_goto_then rfl ?_)) | ((with_reducible refine wp_goto ?_); refine hop_goto rfl ?_) | ((with_reducible refine wp_label ?_)) | ((with_reducible refine hop_ret ?_)))
  go_ret
  exact ⟨rfl, b0.out⟩
set_option maxHeartbeats 1000000 in
theorem fRRd (p : Int) (A : Option Addr) (n c : Nat) (l : List Int) (L k f s : Int) (ok : Bool) (w : World) (F1 : Hid (∀ W, Byt W A n c l → Calls Try.prog 29 #[.slice A n c] W fun e w' => e = .returned (.tuple #[.agg #[.int .i64 L, .int .u8 k, .int .u8 f, .int .i64 s], .bool ok]) ∧ Below W.heap.size W w')) (h : Byt w A n c l) (h0 : 0 ≤ p) (h1 : p < 24) (h2 : n = 0) (h3 : ok = false) :
    Calls Try.prog 19 #[.agg #[.int .i64 p, .slice A n c]] w (BoolP true w) := by
  subst h3
  have b0 := (Bel.refl w).alloc (.cells #[.int .i64 p, .slice A n c] 24)
  have q0 := Blk.new w 24 #[.int .i64 p, .slice A n c]
  have y := h.alloc (.cells #[.int .i64 p, .slice A n c] 24)
  have hc := h.cap; have hx := h.mx
  have z0 := q0.at 0 rfl; have z1 := q0.at 1 rfl
  have g0 : decide (p < 0) = false := decide_eq_false (by omega)
  have g1 : decide (24 < p) = false := decide_eq_false (by omega)
  have g2 : (p == 24) = false := beq_eq_false_iff_ne.2 (by omega)
  have g3 : decide (p < 24) = true := decide_eq_true (by omega)
  have g4 : decide (0 < n) = false := decide_eq_false (by omega)
  clear h h0 h1 h2
  go_enter Try.func19, Try.ntmps19
  go_wp2_with fail
  refine wp_scope_hop 1 ?_
  go_upto_region 2 with (first | (go_at_call 29; (with_reducible refine (F1.out _ y).mono ?_); rintro e w1 ⟨rfl, hb⟩; replace b0 := b0.below hb; replace q0 := q0.below hb; have hz := q0.lt; have q3 := Blk.new w1 41 #[.int .i64 L, .int .u8 k, .int .u8 f, .int .i64 s]; replace q0 := q0.alloc (.cells #[.int .i64 L, .int .u8 k, .int .u8 f, .int .i64 s] 41); replace b0 := b0.alloc (.cells #[.int .i64 L, .int .u8 k, .int .u8 f, .int .i64 s] 41); have x0 := q3.at 0 rfl; (try clear z0 z1); have z0 := q0.at 0 rfl; have z1 := q0.at 1 rfl; clear hb y))
  go_upto_region 3 with (first | ((with_reducible refine wpList_id ?_); refine wpList_getG (by rfl) _ _ rfl rfl q0 Try.underlying24 rfl (by rfl) ?_) | (go_at_call 18; (with_reducible refine (fBegun _ _ _ _ _).mono ?_); rintro e w8 ⟨rfl, hb⟩; replace b0 := b0.below hb; replace q0 := q0.below hb; replace q3 := q3.below hb; (try clear x0); have x0 := q3.at 0 rfl; (try clear z0 z1); have z0 := q0.at 0 rfl; have z1 := q0.at 1 rfl; clear hb))
  go_wp2_with (first
    | ((with_reducible refine wp_goto_then rfl ?_)) | ((with_reducible refine wp_goto ?_); refine hop_goto rfl ?_) | ((with_reducible refine wp_label ?_)) | ((with_reducible refine hop_ret ?_)))
  go_ret
  exact ⟨rfl, b0.out⟩
set_option maxHeartbeats 1000000 in
theorem fRRe (p : Int) (A : Option Addr) (n c : Nat) (l : List Int) (L k f s : Int) (ok : Bool) (w : World) (F1 : Hid (∀ W, Byt W A n c l → Calls Try.prog 29 #[.slice A n c] W fun e w' => e = .returned (.tuple #[.agg #[.int .i64 L, .int .u8 k, .int .u8 f, .int .i64 s], .bool ok]) ∧ Below W.heap.size W w')) (h : Byt w A n c l) (h0 : p = 24) (h1 : ok = false) :
    Calls Try.prog 19 #[.agg #[.int .i64 p, .slice A n c]] w (BoolP true w) := by
  subst h1
  have b0 := (Bel.refl w).alloc (.cells #[.int .i64 p, .slice A n c] 24)
  have q0 := Blk.new w 24 #[.int .i64 p, .slice A n c]
  have y := h.alloc (.cells #[.int .i64 p, .slice A n c] 24)
  have hc := h.cap; have hx := h.mx
  have z0 := q0.at 0 rfl; have z1 := q0.at 1 rfl
  have g0 : decide (p < 0) = false := decide_eq_false (by omega)
  have g1 : decide (24 < p) = false := decide_eq_false (by omega)
  have g2 : (p == 24) = true := beq_iff_eq.2 (by omega)
  have g3 : decide (p < 24) = false := decide_eq_false (by omega)
  clear h h0
  go_enter Try.func19, Try.ntmps19
  go_wp2_with fail
  refine wp_scope_hop 1 ?_
  go_upto_region 2 with (first | (go_at_call 29; (with_reducible refine (F1.out _ y).mono ?_); rintro e w1 ⟨rfl, hb⟩; replace b0 := b0.below hb; replace q0 := q0.below hb; have hz := q0.lt; have q3 := Blk.new w1 41 #[.int .i64 L, .int .u8 k, .int .u8 f, .int .i64 s]; replace q0 := q0.alloc (.cells #[.int .i64 L, .int .u8 k, .int .u8 f, .int .i64 s] 41); replace b0 := b0.alloc (.cells #[.int .i64 L, .int .u8 k, .int .u8 f, .int .i64 s] 41); have x0 := q3.at 0 rfl; (try clear z0 z1); have z0 := q0.at 0 rfl; have z1 := q0.at 1 rfl; clear hb y))
  go_upto_region 3 with (first | ((with_reducible refine wpList_id ?_); refine wpList_getG (by rfl) _ _ rfl rfl q0 Try.underlying24 rfl (by rfl) ?_) | (go_at_call 18; (with_reducible refine (fBegun _ _ _ _ _).mono ?_); rintro e w8 ⟨rfl, hb⟩; replace b0 := b0.below hb; replace q0 := q0.below hb; replace q3 := q3.below hb; (try clear x0); have x0 := q3.at 0 rfl; (try clear z0 z1); have z0 := q0.at 0 rfl; have z1 := q0.at 1 rfl; clear hb))
  go_wp2_with (first
    | ((with_reducible refine wp_goto_then rfl ?_)) | ((with_reducible refine wp_goto ?_); refine hop_goto rfl ?_) | ((with_reducible refine wp_label ?_)) | ((with_reducible refine hop_ret ?_)))
  go_ret
  exact ⟨rfl, b0.out⟩
set_option maxHeartbeats 1000000 in
theorem fRRg (p : Int) (A : Option Addr) (n c : Nat) (l : List Int) (L k f s : Int) (ok : Bool) (w : World) (F1 : Hid (∀ W, Byt W A n c l → Calls Try.prog 29 #[.slice A n c] W fun e w' => e = .returned (.tuple #[.agg #[.int .i64 L, .int .u8 k, .int .u8 f, .int .i64 s], .bool ok]) ∧ Below W.heap.size W w')) (h : Byt w A n c l) (h0 : p = 24) (h1 : ok = true) (h2 : 16384 < L) :
    Calls Try.prog 19 #[.agg #[.int .i64 p, .slice A n c]] w (BoolP false w) := by
  subst h1
  have b0 := (Bel.refl w).alloc (.cells #[.int .i64 p, .slice A n c] 24)
  have q0 := Blk.new w 24 #[.int .i64 p, .slice A n c]
  have y := h.alloc (.cells #[.int .i64 p, .slice A n c] 24)
  have hc := h.cap; have hx := h.mx
  have z0 := q0.at 0 rfl; have z1 := q0.at 1 rfl
  have g0 : decide (p < 0) = false := decide_eq_false (by omega)
  have g1 : decide (24 < p) = false := decide_eq_false (by omega)
  have g2 : (p == 24) = true := beq_iff_eq.2 (by omega)
  have g3 : decide (p < 24) = false := decide_eq_false (by omega)
  have g4 : decide (L ≤ 16384) = false := decide_eq_false (by omega)
  clear h h0 h2
  go_enter Try.func19, Try.ntmps19
  go_wp2_with fail
  refine wp_scope_hop 1 ?_
  go_upto_region 2 with (first | (go_at_call 29; (with_reducible refine (F1.out _ y).mono ?_); rintro e w1 ⟨rfl, hb⟩; replace b0 := b0.below hb; replace q0 := q0.below hb; have hz := q0.lt; have q3 := Blk.new w1 41 #[.int .i64 L, .int .u8 k, .int .u8 f, .int .i64 s]; replace q0 := q0.alloc (.cells #[.int .i64 L, .int .u8 k, .int .u8 f, .int .i64 s] 41); replace b0 := b0.alloc (.cells #[.int .i64 L, .int .u8 k, .int .u8 f, .int .i64 s] 41); have x0 := q3.at 0 rfl; (try clear z0 z1); have z0 := q0.at 0 rfl; have z1 := q0.at 1 rfl; clear hb y))
  go_upto_region 3 with (first | ((with_reducible refine wpList_id ?_); refine wpList_getG (by rfl) _ _ rfl rfl q0 Try.underlying24 rfl (by rfl) ?_) | (go_at_call 18; (with_reducible refine (fBegun _ _ _ _ _).mono ?_); rintro e w8 ⟨rfl, hb⟩; replace b0 := b0.below hb; replace q0 := q0.below hb; replace q3 := q3.below hb; (try clear x0); have x0 := q3.at 0 rfl; (try clear z0 z1); have z0 := q0.at 0 rfl; have z1 := q0.at 1 rfl; clear hb))
  go_wp2_with (first
    | ((with_reducible refine wp_goto_then rfl ?_)) | ((with_reducible refine wp_goto ?_); refine hop_goto rfl ?_) | ((with_reducible refine wp_label ?_)) | ((with_reducible refine hop_ret ?_)))
  go_ret
  exact ⟨rfl, b0.out⟩
set_option maxHeartbeats 1000000 in
theorem fRRi (p : Int) (A : Option Addr) (n c : Nat) (l : List Int) (L k f s : Int) (ok : Bool) (w : World) (F1 : Hid (∀ W, Byt W A n c l → Calls Try.prog 29 #[.slice A n c] W fun e w' => e = .returned (.tuple #[.agg #[.int .i64 L, .int .u8 k, .int .u8 f, .int .i64 s], .bool ok]) ∧ Below W.heap.size W w')) (h : Byt w A n c l) (h0 : p = 24) (h1 : ok = true) (h2 : 0 ≤ L ∧ L ≤ 16384) (h3 : 9 ≤ n) (h4 : (n : Int) < 9 + L) :
    Calls Try.prog 19 #[.agg #[.int .i64 p, .slice A n c]] w (BoolP true w) := by
  subst h1
  have b0 := (Bel.refl w).alloc (.cells #[.int .i64 p, .slice A n c] 24)
  have q0 := Blk.new w 24 #[.int .i64 p, .slice A n c]
  have y := h.alloc (.cells #[.int .i64 p, .slice A n c] 24)
  have hc := h.cap; have hx := h.mx
  have z0 := q0.at 0 rfl; have z1 := q0.at 1 rfl
  have g0 : decide (p < 0) = false := decide_eq_false (by omega)
  have g1 : decide (24 < p) = false := decide_eq_false (by omega)
  have g2 : (p == 24) = true := beq_iff_eq.2 (by omega)
  have g3 : decide (p < 24) = false := decide_eq_false (by omega)
  have g4 : decide (L ≤ 16384) = true := decide_eq_true (by omega)
  have g5 : decide ((n : Int) - 9 < L) = true := decide_eq_true (by omega)
  have g6 : decide ((n : Int) < 9 + L) = true := decide_eq_true (by omega)
  have g7 : (n : Int) ≥ 9 := by omega
  have g8 : L ≥ 0 := by omega
  have g9 : L ≤ 16384 := by omega
  clear h h0 h2 h3 h4
  go_enter Try.func19, Try.ntmps19
  go_wp2_with fail
  refine wp_scope_hop 1 ?_
  go_upto_region 2 with (first | (go_at_call 29; (with_reducible refine (F1.out _ y).mono ?_); rintro e w1 ⟨rfl, hb⟩; replace b0 := b0.below hb; replace q0 := q0.below hb; have hz := q0.lt; have q3 := Blk.new w1 41 #[.int .i64 L, .int .u8 k, .int .u8 f, .int .i64 s]; replace q0 := q0.alloc (.cells #[.int .i64 L, .int .u8 k, .int .u8 f, .int .i64 s] 41); replace b0 := b0.alloc (.cells #[.int .i64 L, .int .u8 k, .int .u8 f, .int .i64 s] 41); have x0 := q3.at 0 rfl; (try clear z0 z1); have z0 := q0.at 0 rfl; have z1 := q0.at 1 rfl; clear hb y))
  go_upto_region 3 with (first | ((with_reducible refine wpList_id ?_); refine wpList_getG (by rfl) _ _ rfl rfl q0 Try.underlying24 rfl (by rfl) ?_) | (go_at_call 18; (with_reducible refine (fBegun _ _ _ _ _).mono ?_); rintro e w8 ⟨rfl, hb⟩; replace b0 := b0.below hb; replace q0 := q0.below hb; replace q3 := q3.below hb; (try clear x0); have x0 := q3.at 0 rfl; (try clear z0 z1); have z0 := q0.at 0 rfl; have z1 := q0.at 1 rfl; clear hb))
  go_wp2_with (first
    | ((with_reducible refine wp_goto_then rfl ?_)) | ((with_reducible refine wp_goto ?_); refine hop_goto rfl ?_) | ((with_reducible refine wp_label ?_)) | ((with_reducible refine hop_ret ?_)))
  go_ret
  exact ⟨rfl, b0.out⟩
set_option maxHeartbeats 1000000 in
theorem fRRj (p : Int) (A : Option Addr) (n c : Nat) (l : List Int) (L k f s : Int) (ok : Bool) (w : World) (F1 : Hid (∀ W, Byt W A n c l → Calls Try.prog 29 #[.slice A n c] W fun e w' => e = .returned (.tuple #[.agg #[.int .i64 L, .int .u8 k, .int .u8 f, .int .i64 s], .bool ok]) ∧ Below W.heap.size W w')) (h : Byt w A n c l) (h0 : p = 24) (h1 : ok = true) (h2 : 0 ≤ L ∧ L ≤ 16384) (h3 : 9 ≤ n) (h4 : 9 + L ≤ (n : Int)) :
    Calls Try.prog 19 #[.agg #[.int .i64 p, .slice A n c]] w (BoolP false w) := by
  subst h1
  have b0 := (Bel.refl w).alloc (.cells #[.int .i64 p, .slice A n c] 24)
  have q0 := Blk.new w 24 #[.int .i64 p, .slice A n c]
  have y := h.alloc (.cells #[.int .i64 p, .slice A n c] 24)
  have hc := h.cap; have hx := h.mx
  have z0 := q0.at 0 rfl; have z1 := q0.at 1 rfl
  have g0 : decide (p < 0) = false := decide_eq_false (by omega)
  have g1 : decide (24 < p) = false := decide_eq_false (by omega)
  have g2 : (p == 24) = true := beq_iff_eq.2 (by omega)
  have g3 : decide (p < 24) = false := decide_eq_false (by omega)
  have g4 : decide (L ≤ 16384) = true := decide_eq_true (by omega)
  have g5 : decide ((n : Int) - 9 < L) = false := decide_eq_false (by omega)
  have g6 : decide ((n : Int) < 9 + L) = false := decide_eq_false (by omega)
  have g7 : (n : Int) ≥ 9 := by omega
  have g8 : L ≥ 0 := by omega
  have g9 : L ≤ 16384 := by omega
  clear h h0 h2 h3 h4
  go_enter Try.func19, Try.ntmps19
  go_wp2_with fail
  refine wp_scope_hop 1 ?_
  go_upto_region 2 with (first | (go_at_call 29; (with_reducible refine (F1.out _ y).mono ?_); rintro e w1 ⟨rfl, hb⟩; replace b0 := b0.below hb; replace q0 := q0.below hb; have hz := q0.lt; have q3 := Blk.new w1 41 #[.int .i64 L, .int .u8 k, .int .u8 f, .int .i64 s]; replace q0 := q0.alloc (.cells #[.int .i64 L, .int .u8 k, .int .u8 f, .int .i64 s] 41); replace b0 := b0.alloc (.cells #[.int .i64 L, .int .u8 k, .int .u8 f, .int .i64 s] 41); have x0 := q3.at 0 rfl; (try clear z0 z1); have z0 := q0.at 0 rfl; have z1 := q0.at 1 rfl; clear hb y))
  go_upto_region 3 with (first | ((with_reducible refine wpList_id ?_); refine wpList_getG (by rfl) _ _ rfl rfl q0 Try.underlying24 rfl (by rfl) ?_) | (go_at_call 18; (with_reducible refine (fBegun _ _ _ _ _).mono ?_); rintro e w8 ⟨rfl, hb⟩; replace b0 := b0.below hb; replace q0 := q0.below hb; replace q3 := q3.below hb; (try clear x0); have x0 := q3.at 0 rfl; (try clear z0 z1); have z0 := q0.at 0 rfl; have z1 := q0.at 1 rfl; clear hb))
  go_wp2_with (first
    | ((with_reducible refine wp_goto_then rfl ?_)) | ((with_reducible refine wp_goto ?_); refine hop_goto rfl ?_) | ((with_reducible refine wp_label ?_)) | ((with_reducible refine hop_ret ?_)))
  go_ret
  exact ⟨rfl, b0.out⟩
set_option maxHeartbeats 1000000 in
theorem rRRa (p : Int) (A : Option Addr) (n c : Nat) (l : List Int) (L k f s : Int) (ok : Bool) (w : World) (F1 : Hid (∀ W, Byt W A n c l → Calls Try.prog 16 #[.slice A n c] W fun e w' => e = .returned (.tuple #[.agg #[.int .i64 L, .int .u8 k, .int .u8 f, .int .i64 s], .bool ok]) ∧ Below W.heap.size W w')) (h : Byt w A n c l) (h0 : p < 0) :
    Calls Try.prog 7 #[.agg #[.int .i64 p, .slice A n c]] w (BoolP false w) := by
  skip
  have b0 := (Bel.refl w).alloc (.cells #[.int .i64 p, .slice A n c] 24)
  have q0 := Blk.new w 24 #[.int .i64 p, .slice A n c]
  have y := h.alloc (.cells #[.int .i64 p, .slice A n c] 24)
  have hc := h.cap; have hx := h.mx
  have z0 := q0.at 0 rfl; have z1 := q0.at 1 rfl
  have g0 : decide (p < 0) = true := decide_eq_true (by omega)
  clear h h0
  go_enter Try.func7, Try.ntmps7
  go_wp2_with (first
    | (go_at_call 16; (with_reducible refine (F1.out _ y).mono ?_); rintro e w1 ⟨rfl, hb⟩; replace b0 := b0.below hb; replace q0 := q0.below hb; have hz := q0.lt; have q3 := Blk.new w1 41 #[.int .i64 L, .int .u8 k, .int .u8 f, .int .i64 s]; replace q0 := q0.alloc (.cells #[.int .i64 L, .int .u8 k, .int .u8 f, .int .i64 s] 41); replace b0 := b0.alloc (.cells #[.int .i64 L, .int .u8 k, .int .u8 f, .int .i64 s] 41); have x0 := q3.at 0 rfl; (try clear z0 z1); have z0 := q0.at 0 rfl; have z1 := q0.at 1 rfl; clear hb y))
  go_ret
  exact ⟨rfl, b0.out⟩
set_option maxHeartbeats 1000000 in
theorem rRRb (p : Int) (A : Option Addr) (n c : Nat) (l : List Int) (L k f s : Int) (ok : Bool) (w : World) (F1 : Hid (∀ W, Byt W A n c l → Calls Try.prog 16 #[.slice A n c] W fun e w' => e = .returned (.tuple #[.agg #[.int .i64 L, .int .u8 k, .int .u8 f, .int .i64 s], .bool ok]) ∧ Below W.heap.size W w')) (h : Byt w A n c l) (h0 : 24 < p) :
    Calls Try.prog 7 #[.agg #[.int .i64 p, .slice A n c]] w (BoolP false w) := by
  skip
  have b0 := (Bel.refl w).alloc (.cells #[.int .i64 p, .slice A n c] 24)
  have q0 := Blk.new w 24 #[.int .i64 p, .slice A n c]
  have y := h.alloc (.cells #[.int .i64 p, .slice A n c] 24)
  have hc := h.cap; have hx := h.mx
  have z0 := q0.at 0 rfl; have z1 := q0.at 1 rfl
  have g0 : decide (p < 0) = false := decide_eq_false (by omega)
  have g1 : decide (24 < p) = true := decide_eq_true (by omega)
  clear h h0
  go_enter Try.func7, Try.ntmps7
  go_wp2_with (first
    | (go_at_call 16; (with_reducible refine (F1.out _ y).mono ?_); rintro e w1 ⟨rfl, hb⟩; replace b0 := b0.below hb; replace q0 := q0.below hb; have hz := q0.lt; have q3 := Blk.new w1 41 #[.int .i64 L, .int .u8 k, .int .u8 f, .int .i64 s]; replace q0 := q0.alloc (.cells #[.int .i64 L, .int .u8 k, .int .u8 f, .int .i64 s] 41); replace b0 := b0.alloc (.cells #[.int .i64 L, .int .u8 k, .int .u8 f, .int .i64 s] 41); have x0 := q3.at 0 rfl; (try clear z0 z1); have z0 := q0.at 0 rfl; have z1 := q0.at 1 rfl; clear hb y))
  go_ret
  exact ⟨rfl, b0.out⟩
set_option maxHeartbeats 1000000 in
theorem rRRc (p : Int) (A : Option Addr) (n c : Nat) (l : List Int) (L k f s : Int) (ok : Bool) (w : World) (F1 : Hid (∀ W, Byt W A n c l → Calls Try.prog 16 #[.slice A n c] W fun e w' => e = .returned (.tuple #[.agg #[.int .i64 L, .int .u8 k, .int .u8 f, .int .i64 s], .bool ok]) ∧ Below W.heap.size W w')) (h : Byt w A n c l) (h0 : 0 ≤ p) (h1 : p < 24) (h2 : 0 < n) :
    Calls Try.prog 7 #[.agg #[.int .i64 p, .slice A n c]] w (BoolP false w) := by
  skip
  have b0 := (Bel.refl w).alloc (.cells #[.int .i64 p, .slice A n c] 24)
  have q0 := Blk.new w 24 #[.int .i64 p, .slice A n c]
  have y := h.alloc (.cells #[.int .i64 p, .slice A n c] 24)
  have hc := h.cap; have hx := h.mx
  have z0 := q0.at 0 rfl; have z1 := q0.at 1 rfl
  have g0 : decide (p < 0) = false := decide_eq_false (by omega)
  have g1 : decide (24 < p) = false := decide_eq_false (by omega)
  have g2 : (p == 24) = false := beq_eq_false_iff_ne.2 (by omega)
  have g3 : decide (p < 24) = true := decide_eq_true (by omega)
  have g4 : decide (0 < n) = true := decide_eq_true (by omega)
  clear h h0 h1 h2
  go_enter Try.func7, Try.ntmps7
  go_wp2_with (first
    | (go_at_call 16; (with_reducible refine (F1.out _ y).mono ?_); rintro e w1 ⟨rfl, hb⟩; replace b0 := b0.below hb; replace q0 := q0.below hb; have hz := q0.lt; have q3 := Blk.new w1 41 #[.int .i64 L, .int .u8 k, .int .u8 f, .int .i64 s]; replace q0 := q0.alloc (.cells #[.int .i64 L, .int .u8 k, .int .u8 f, .int .i64 s] 41); replace b0 := b0.alloc (.cells #[.int .i64 L, .int .u8 k, .int .u8 f, .int .i64 s] 41); have x0 := q3.at 0 rfl; (try clear z0 z1); have z0 := q0.at 0 rfl; have z1 := q0.at 1 rfl; clear hb y))
  go_ret
  exact ⟨rfl, b0.out⟩
set_option maxHeartbeats 1000000 in
theorem rRRd (p : Int) (A : Option Addr) (n c : Nat) (l : List Int) (L k f s : Int) (ok : Bool) (w : World) (F1 : Hid (∀ W, Byt W A n c l → Calls Try.prog 16 #[.slice A n c] W fun e w' => e = .returned (.tuple #[.agg #[.int .i64 L, .int .u8 k, .int .u8 f, .int .i64 s], .bool ok]) ∧ Below W.heap.size W w')) (h : Byt w A n c l) (h0 : 0 ≤ p) (h1 : p < 24) (h2 : n = 0) (h3 : ok = false) :
    Calls Try.prog 7 #[.agg #[.int .i64 p, .slice A n c]] w (BoolP true w) := by
  subst h3
  have b0 := (Bel.refl w).alloc (.cells #[.int .i64 p, .slice A n c] 24)
  have q0 := Blk.new w 24 #[.int .i64 p, .slice A n c]
  have y := h.alloc (.cells #[.int .i64 p, .slice A n c] 24)
  have hc := h.cap; have hx := h.mx
  have z0 := q0.at 0 rfl; have z1 := q0.at 1 rfl
  have g0 : decide (p < 0) = false := decide_eq_false (by omega)
  have g1 : decide (24 < p) = false := decide_eq_false (by omega)
  have g2 : (p == 24) = false := beq_eq_false_iff_ne.2 (by omega)
  have g3 : decide (p < 24) = true := decide_eq_true (by omega)
  have g4 : decide (0 < n) = false := decide_eq_false (by omega)
  clear h h0 h1 h2
  go_enter Try.func7, Try.ntmps7
  go_wp2_with (first
    | (go_at_call 16; (with_reducible refine (F1.out _ y).mono ?_); rintro e w1 ⟨rfl, hb⟩; replace b0 := b0.below hb; replace q0 := q0.below hb; have hz := q0.lt; have q3 := Blk.new w1 41 #[.int .i64 L, .int .u8 k, .int .u8 f, .int .i64 s]; replace q0 := q0.alloc (.cells #[.int .i64 L, .int .u8 k, .int .u8 f, .int .i64 s] 41); replace b0 := b0.alloc (.cells #[.int .i64 L, .int .u8 k, .int .u8 f, .int .i64 s] 41); have x0 := q3.at 0 rfl; (try clear z0 z1); have z0 := q0.at 0 rfl; have z1 := q0.at 1 rfl; clear hb y))
  go_ret
  exact ⟨rfl, b0.out⟩
set_option maxHeartbeats 1000000 in
theorem rRRe (p : Int) (A : Option Addr) (n c : Nat) (l : List Int) (L k f s : Int) (ok : Bool) (w : World) (F1 : Hid (∀ W, Byt W A n c l → Calls Try.prog 16 #[.slice A n c] W fun e w' => e = .returned (.tuple #[.agg #[.int .i64 L, .int .u8 k, .int .u8 f, .int .i64 s], .bool ok]) ∧ Below W.heap.size W w')) (h : Byt w A n c l) (h0 : p = 24) (h1 : ok = false) :
    Calls Try.prog 7 #[.agg #[.int .i64 p, .slice A n c]] w (BoolP true w) := by
  subst h1
  have b0 := (Bel.refl w).alloc (.cells #[.int .i64 p, .slice A n c] 24)
  have q0 := Blk.new w 24 #[.int .i64 p, .slice A n c]
  have y := h.alloc (.cells #[.int .i64 p, .slice A n c] 24)
  have hc := h.cap; have hx := h.mx
  have z0 := q0.at 0 rfl; have z1 := q0.at 1 rfl
  have g0 : decide (p < 0) = false := decide_eq_false (by omega)
  have g1 : decide (24 < p) = false := decide_eq_false (by omega)
  have g2 : (p == 24) = true := beq_iff_eq.2 (by omega)
  have g3 : decide (p < 24) = false := decide_eq_false (by omega)
  clear h h0
  go_enter Try.func7, Try.ntmps7
  go_wp2_with (first
    | (go_at_call 16; (with_reducible refine (F1.out _ y).mono ?_); rintro e w1 ⟨rfl, hb⟩; replace b0 := b0.below hb; replace q0 := q0.below hb; have hz := q0.lt; have q3 := Blk.new w1 41 #[.int .i64 L, .int .u8 k, .int .u8 f, .int .i64 s]; replace q0 := q0.alloc (.cells #[.int .i64 L, .int .u8 k, .int .u8 f, .int .i64 s] 41); replace b0 := b0.alloc (.cells #[.int .i64 L, .int .u8 k, .int .u8 f, .int .i64 s] 41); have x0 := q3.at 0 rfl; (try clear z0 z1); have z0 := q0.at 0 rfl; have z1 := q0.at 1 rfl; clear hb y))
  go_ret
  exact ⟨rfl, b0.out⟩
set_option maxHeartbeats 1000000 in
theorem rRRg (p : Int) (A : Option Addr) (n c : Nat) (l : List Int) (L k f s : Int) (ok : Bool) (w : World) (F1 : Hid (∀ W, Byt W A n c l → Calls Try.prog 16 #[.slice A n c] W fun e w' => e = .returned (.tuple #[.agg #[.int .i64 L, .int .u8 k, .int .u8 f, .int .i64 s], .bool ok]) ∧ Below W.heap.size W w')) (h : Byt w A n c l) (h0 : p = 24) (h1 : ok = true) (h2 : 16384 < L) :
    Calls Try.prog 7 #[.agg #[.int .i64 p, .slice A n c]] w (BoolP false w) := by
  subst h1
  have b0 := (Bel.refl w).alloc (.cells #[.int .i64 p, .slice A n c] 24)
  have q0 := Blk.new w 24 #[.int .i64 p, .slice A n c]
  have y := h.alloc (.cells #[.int .i64 p, .slice A n c] 24)
  have hc := h.cap; have hx := h.mx
  have z0 := q0.at 0 rfl; have z1 := q0.at 1 rfl
  have g0 : decide (p < 0) = false := decide_eq_false (by omega)
  have g1 : decide (24 < p) = false := decide_eq_false (by omega)
  have g2 : (p == 24) = true := beq_iff_eq.2 (by omega)
  have g3 : decide (p < 24) = false := decide_eq_false (by omega)
  have g4 : decide (L ≤ 16384) = false := decide_eq_false (by omega)
  clear h h0 h2
  go_enter Try.func7, Try.ntmps7
  go_wp2_with (first
    | (go_at_call 16; (with_reducible refine (F1.out _ y).mono ?_); rintro e w1 ⟨rfl, hb⟩; replace b0 := b0.below hb; replace q0 := q0.below hb; have hz := q0.lt; have q3 := Blk.new w1 41 #[.int .i64 L, .int .u8 k, .int .u8 f, .int .i64 s]; replace q0 := q0.alloc (.cells #[.int .i64 L, .int .u8 k, .int .u8 f, .int .i64 s] 41); replace b0 := b0.alloc (.cells #[.int .i64 L, .int .u8 k, .int .u8 f, .int .i64 s] 41); have x0 := q3.at 0 rfl; (try clear z0 z1); have z0 := q0.at 0 rfl; have z1 := q0.at 1 rfl; clear hb y))
  go_ret
  exact ⟨rfl, b0.out⟩
set_option maxHeartbeats 1000000 in
theorem rRRi (p : Int) (A : Option Addr) (n c : Nat) (l : List Int) (L k f s : Int) (ok : Bool) (w : World) (F1 : Hid (∀ W, Byt W A n c l → Calls Try.prog 16 #[.slice A n c] W fun e w' => e = .returned (.tuple #[.agg #[.int .i64 L, .int .u8 k, .int .u8 f, .int .i64 s], .bool ok]) ∧ Below W.heap.size W w')) (h : Byt w A n c l) (h0 : p = 24) (h1 : ok = true) (h2 : 0 ≤ L ∧ L ≤ 16384) (h3 : 9 ≤ n) (h4 : (n : Int) < 9 + L) :
    Calls Try.prog 7 #[.agg #[.int .i64 p, .slice A n c]] w (BoolP true w) := by
  subst h1
  have b0 := (Bel.refl w).alloc (.cells #[.int .i64 p, .slice A n c] 24)
  have q0 := Blk.new w 24 #[.int .i64 p, .slice A n c]
  have y := h.alloc (.cells #[.int .i64 p, .slice A n c] 24)
  have hc := h.cap; have hx := h.mx
  have z0 := q0.at 0 rfl; have z1 := q0.at 1 rfl
  have g0 : decide (p < 0) = false := decide_eq_false (by omega)
  have g1 : decide (24 < p) = false := decide_eq_false (by omega)
  have g2 : (p == 24) = true := beq_iff_eq.2 (by omega)
  have g3 : decide (p < 24) = false := decide_eq_false (by omega)
  have g4 : decide (L ≤ 16384) = true := decide_eq_true (by omega)
  have g5 : decide ((n : Int) - 9 < L) = true := decide_eq_true (by omega)
  have g6 : decide ((n : Int) < 9 + L) = true := decide_eq_true (by omega)
  have g7 : (n : Int) ≥ 9 := by omega
  have g8 : L ≥ 0 := by omega
  have g9 : L ≤ 16384 := by omega
  clear h h0 h2 h3 h4
  go_enter Try.func7, Try.ntmps7
  go_wp2_with (first
    | (go_at_call 16; (with_reducible refine (F1.out _ y).mono ?_); rintro e w1 ⟨rfl, hb⟩; replace b0 := b0.below hb; replace q0 := q0.below hb; have hz := q0.lt; have q3 := Blk.new w1 41 #[.int .i64 L, .int .u8 k, .int .u8 f, .int .i64 s]; replace q0 := q0.alloc (.cells #[.int .i64 L, .int .u8 k, .int .u8 f, .int .i64 s] 41); replace b0 := b0.alloc (.cells #[.int .i64 L, .int .u8 k, .int .u8 f, .int .i64 s] 41); have x0 := q3.at 0 rfl; (try clear z0 z1); have z0 := q0.at 0 rfl; have z1 := q0.at 1 rfl; clear hb y))
  go_ret
  exact ⟨rfl, b0.out⟩
set_option maxHeartbeats 1000000 in
theorem rRRj (p : Int) (A : Option Addr) (n c : Nat) (l : List Int) (L k f s : Int) (ok : Bool) (w : World) (F1 : Hid (∀ W, Byt W A n c l → Calls Try.prog 16 #[.slice A n c] W fun e w' => e = .returned (.tuple #[.agg #[.int .i64 L, .int .u8 k, .int .u8 f, .int .i64 s], .bool ok]) ∧ Below W.heap.size W w')) (h : Byt w A n c l) (h0 : p = 24) (h1 : ok = true) (h2 : 0 ≤ L ∧ L ≤ 16384) (h3 : 9 ≤ n) (h4 : 9 + L ≤ (n : Int)) :
    Calls Try.prog 7 #[.agg #[.int .i64 p, .slice A n c]] w (BoolP false w) := by
  subst h1
  have b0 := (Bel.refl w).alloc (.cells #[.int .i64 p, .slice A n c] 24)
  have q0 := Blk.new w 24 #[.int .i64 p, .slice A n c]
  have y := h.alloc (.cells #[.int .i64 p, .slice A n c] 24)
  have hc := h.cap; have hx := h.mx
  have z0 := q0.at 0 rfl; have z1 := q0.at 1 rfl
  have g0 : decide (p < 0) = false := decide_eq_false (by omega)
  have g1 : decide (24 < p) = false := decide_eq_false (by omega)
  have g2 : (p == 24) = true := beq_iff_eq.2 (by omega)
  have g3 : decide (p < 24) = false := decide_eq_false (by omega)
  have g4 : decide (L ≤ 16384) = true := decide_eq_true (by omega)
  have g5 : decide ((n : Int) - 9 < L) = false := decide_eq_false (by omega)
  have g6 : decide ((n : Int) < 9 + L) = false := decide_eq_false (by omega)
  have g7 : (n : Int) ≥ 9 := by omega
  have g8 : L ≥ 0 := by omega
  have g9 : L ≤ 16384 := by omega
  clear h h0 h2 h3 h4
  go_enter Try.func7, Try.ntmps7
  go_wp2_with (first
    | (go_at_call 16; (with_reducible refine (F1.out _ y).mono ?_); rintro e w1 ⟨rfl, hb⟩; replace b0 := b0.below hb; replace q0 := q0.below hb; have hz := q0.lt; have q3 := Blk.new w1 41 #[.int .i64 L, .int .u8 k, .int .u8 f, .int .i64 s]; replace q0 := q0.alloc (.cells #[.int .i64 L, .int .u8 k, .int .u8 f, .int .i64 s] 41); replace b0 := b0.alloc (.cells #[.int .i64 L, .int .u8 k, .int .u8 f, .int .i64 s] 41); have x0 := q3.at 0 rfl; (try clear z0 z1); have z0 := q0.at 0 rfl; have z1 := q0.at 1 rfl; clear hb y))
  go_ret
  exact ⟨rfl, b0.out⟩
theorem fRRight (p : Int) (A : Option Addr) (n c : Nat) (l : List Int) (w : World) (h : Byt w A n c l) (hn : n ≤ 140737488355328) : Calls Try.prog 19 #[.agg #[.int .i64 p, .slice A n c]] w (BoolP (rightC p l) w) := by
  have F1 : Hid (∀ W, Byt W A n c l → Calls Try.prog 29 #[.slice A n c] W fun e w' => e = .returned (.tuple #[.agg #[.int .i64 (hL l), .int .u8 (hK l), .int .u8 (hF l), .int .i64 (hS l)], .bool (hOk l)]) ∧ Below W.heap.size W w') := Lib.hid fun W h => fFirst A n c l W h hn
  have hl := h.len
  have hb := hL_bd h.bs
  have no : ¬RightC p l → rightC p l = false := fun h => decide_eq_false h
  have yes : RightC p l → rightC p l = true := fun h => decide_eq_true h
  unfold RightC at no yes
  rw [hl] at no yes
  by_cases h0 : p < 0
  · rw [no (by omega)]; exact fRRa p A n c l _ _ _ _ _ w F1 h h0
  by_cases h1 : 24 < p
  · rw [no (by omega)]; exact fRRb p A n c l _ _ _ _ _ w F1 h h1
  by_cases h2 : p < 24
  · by_cases h3 : 0 < n
    · rw [no (by omega)]; exact fRRc p A n c l _ _ _ _ _ w F1 h (by omega) h2 h3
    · rw [yes (by omega)]; exact fRRd p A n c l _ _ _ _ _ w F1 h (by omega) h2 (by omega) (decide_eq_false (by omega))
  by_cases h3 : 9 ≤ n
  · by_cases h4 : 16384 < hL l
    · rw [no (by omega)]; exact fRRg p A n c l _ _ _ _ _ w F1 h (by omega) (decide_eq_true (by omega)) h4
    · by_cases h5 : (n : Int) < 9 + hL l
      · rw [yes (by omega)]; exact fRRi p A n c l _ _ _ _ _ w F1 h (by omega) (decide_eq_true (by omega)) (by omega) h3 h5
      · rw [no (by omega)]; exact fRRj p A n c l _ _ _ _ _ w F1 h (by omega) (decide_eq_true (by omega)) (by omega) h3 (by omega)
  · rw [yes (by omega)]; exact fRRe p A n c l _ _ _ _ _ w F1 h (by omega) (decide_eq_false (by omega))
theorem rRRight (p : Int) (A : Option Addr) (n c : Nat) (l : List Int) (w : World) (h : Byt w A n c l) (hn : n ≤ 140737488355328) : Calls Try.prog 7 #[.agg #[.int .i64 p, .slice A n c]] w (BoolP (rightC p l) w) := by
  have F1 : Hid (∀ W, Byt W A n c l → Calls Try.prog 16 #[.slice A n c] W fun e w' => e = .returned (.tuple #[.agg #[.int .i64 (hL l), .int .u8 (hK l), .int .u8 (hF l), .int .i64 (hS l)], .bool (hOk l)]) ∧ Below W.heap.size W w') := Lib.hid fun W h => rHead A n c l W h hn
  have hl := h.len
  have hb := hL_bd h.bs
  have no : ¬RightC p l → rightC p l = false := fun h => decide_eq_false h
  have yes : RightC p l → rightC p l = true := fun h => decide_eq_true h
  unfold RightC at no yes
  rw [hl] at no yes
  by_cases h0 : p < 0
  · rw [no (by omega)]; exact rRRa p A n c l _ _ _ _ _ w F1 h h0
  by_cases h1 : 24 < p
  · rw [no (by omega)]; exact rRRb p A n c l _ _ _ _ _ w F1 h h1
  by_cases h2 : p < 24
  · by_cases h3 : 0 < n
    · rw [no (by omega)]; exact rRRc p A n c l _ _ _ _ _ w F1 h (by omega) h2 h3
    · rw [yes (by omega)]; exact rRRd p A n c l _ _ _ _ _ w F1 h (by omega) h2 (by omega) (decide_eq_false (by omega))
  by_cases h3 : 9 ≤ n
  · by_cases h4 : 16384 < hL l
    · rw [no (by omega)]; exact rRRg p A n c l _ _ _ _ _ w F1 h (by omega) (decide_eq_true (by omega)) h4
    · by_cases h5 : (n : Int) < 9 + hL l
      · rw [yes (by omega)]; exact rRRi p A n c l _ _ _ _ _ w F1 h (by omega) (decide_eq_true (by omega)) (by omega) h3 h5
      · rw [no (by omega)]; exact rRRj p A n c l _ _ _ _ _ w F1 h (by omega) (decide_eq_true (by omega)) (by omega) h3 (by omega)
  · rw [yes (by omega)]; exact rRRe p A n c l _ _ _ _ _ w F1 h (by omega) (decide_eq_false (by omega))
end Go.Proofs.Ythcnfalfhdeflaa
