/- BlockAlone: while a block is open but a CONTINUATION of its stream is a fault, and without one just a CONTINUATION; a frame that is for others changes nothing: the walk. -/
import Derived.Test.YtbooojpohfdljaaTells
namespace Go.Proofs.Ytbooojpohfdljaa
open Go.RowKit Go.Shelf
set_option linter.unusedVariables false

set_option maxRecDepth 100000 in
set_option maxHeartbeats 4000000 in
theorem aloneBig1 (S : Int) (E : Bool) (A : Option Addr) (n c : Nat) (D : List Int) (K F St : Int) (B : Option Addr) (m d : Nat) (X : List Int) (pd la ic cd : Int) (Pa : Option Addr) (Pn Pc : Nat) (rk al : Bool) (dp wt : Int) (W : World)
    (h : Byt W A n c D) (hx : Byt W B m d X) (g0 : 5000 < m)  :
    Calls Try.prog 5 #[.agg #[.int .i64 S, .bool E, .slice A n c], .agg #[.int .u8 K, .int .u8 F, .int .i64 St, .slice B m d, .int .i64 pd, .int .i64 la, .int .i64 ic, .int .u32 cd, .slice Pa Pn Pc, .bool rk, .bool al, .int .i64 dp, .int .u8 wt]] W fun e w' => e = .returned (.bool true) ∧ Below W.heap.size W w' := by
  have G0 := Lib.hid fun w => fGreatE (A := B) (n := m) (c := d) (b := true) (decide_eq_true (by omega)) (Nat.le_trans hx.cap hx.mx) w
  have b0 := Bel.refl W
  replace b0 := b0.alloc (.cells #[.int .i64 S, .bool E, .slice A n c] 24)
  replace h := h.alloc (.cells #[.int .i64 S, .bool E, .slice A n c] 24)
  replace hx := hx.alloc (.cells #[.int .i64 S, .bool E, .slice A n c] 24)
  have qb := Blk.newAt (b := W.heap.size) W 24 #[.int .i64 S, .bool E, .slice A n c] rfl
  replace b0 := b0.alloc (.cells #[.int .u8 K, .int .u8 F, .int .i64 St, .slice B m d, .int .i64 pd, .int .i64 la, .int .i64 ic, .int .u32 cd, .slice Pa Pn Pc, .bool rk, .bool al, .int .i64 dp, .int .u8 wt] 30)
  replace h := h.alloc (.cells #[.int .u8 K, .int .u8 F, .int .i64 St, .slice B m d, .int .i64 pd, .int .i64 la, .int .i64 ic, .int .u32 cd, .slice Pa Pn Pc, .bool rk, .bool al, .int .i64 dp, .int .u8 wt] 30)
  replace hx := hx.alloc (.cells #[.int .u8 K, .int .u8 F, .int .i64 St, .slice B m d, .int .i64 pd, .int .i64 la, .int .i64 ic, .int .u32 cd, .slice Pa Pn Pc, .bool rk, .bool al, .int .i64 dp, .int .u8 wt] 30)
  replace qb := qb.alloc (.cells #[.int .u8 K, .int .u8 F, .int .i64 St, .slice B m d, .int .i64 pd, .int .i64 la, .int .i64 ic, .int .u32 cd, .slice Pa Pn Pc, .bool rk, .bool al, .int .i64 dp, .int .u8 wt] 30)
  have qf := Blk.newAt (b := W.heap.size + 1) (W.alloc (.cells #[.int .i64 S, .bool E, .slice A n c] 24)) 30 #[.int .u8 K, .int .u8 F, .int .i64 St, .slice B m d, .int .i64 pd, .int .i64 la, .int .i64 ic, .int .u32 cd, .slice Pa Pn Pc, .bool rk, .bool al, .int .i64 dp, .int .u8 wt] (by simp)
  have zqb0 := qb.at 0 rfl
  have zqb1 := qb.at 1 rfl
  have zqb2 := qb.at 2 rfl
  have zqf0 := qf.at 0 rfl
  have zqf1 := qf.at 1 rfl
  have zqf2 := qf.at 2 rfl
  have zqf3 := qf.at 3 rfl
  have zqf4 := qf.at 4 rfl
  have zqf5 := qf.at 5 rfl
  have zqf6 := qf.at 6 rfl
  have zqf7 := qf.at 7 rfl
  have zqf8 := qf.at 8 rfl
  have zqf9 := qf.at 9 rfl
  have zqf10 := qf.at 10 rfl
  have zqf11 := qf.at 11 rfl
  have zqf12 := qf.at 12 rfl
  go_enter Try.func5, Try.ntmps5
  go_wp2_with (first | (go_at_call 7; (with_reducible refine (G0.out _).mono ?_); rintro e w1 ⟨rfl, rfl⟩) | (go_at_call 8; refine (fWakes _).mono ?_; rintro e wk ⟨rfl, hb⟩; replace b0 := b0.below hb) )
  go_ret
  exact ⟨rfl, b0.out⟩

set_option maxRecDepth 100000 in
set_option maxHeartbeats 4000000 in
theorem aloneBig2 (S : Int) (E : Bool) (A : Option Addr) (n c : Nat) (D : List Int) (K F St : Int) (B : Option Addr) (m d : Nat) (X : List Int) (pd la ic cd : Int) (Pa : Option Addr) (Pn Pc : Nat) (rk al : Bool) (dp wt : Int) (W : World)
    (h : Byt W A n c D) (hx : Byt W B m d X) (g0 : m ≤ 5000) (g1 : 5000 < n)  :
    Calls Try.prog 5 #[.agg #[.int .i64 S, .bool E, .slice A n c], .agg #[.int .u8 K, .int .u8 F, .int .i64 St, .slice B m d, .int .i64 pd, .int .i64 la, .int .i64 ic, .int .u32 cd, .slice Pa Pn Pc, .bool rk, .bool al, .int .i64 dp, .int .u8 wt]] W fun e w' => e = .returned (.bool true) ∧ Below W.heap.size W w' := by
  have G0 := Lib.hid fun w => fGreatE (A := B) (n := m) (c := d) (b := false) (decide_eq_false (by omega)) (Nat.le_trans hx.cap hx.mx) w
  have G1 := Lib.hid fun w => fGreatE (A := A) (n := n) (c := c) (b := true) (decide_eq_true (by omega)) (Nat.le_trans h.cap h.mx) w
  have b0 := Bel.refl W
  replace b0 := b0.alloc (.cells #[.int .i64 S, .bool E, .slice A n c] 24)
  replace h := h.alloc (.cells #[.int .i64 S, .bool E, .slice A n c] 24)
  replace hx := hx.alloc (.cells #[.int .i64 S, .bool E, .slice A n c] 24)
  have qb := Blk.newAt (b := W.heap.size) W 24 #[.int .i64 S, .bool E, .slice A n c] rfl
  replace b0 := b0.alloc (.cells #[.int .u8 K, .int .u8 F, .int .i64 St, .slice B m d, .int .i64 pd, .int .i64 la, .int .i64 ic, .int .u32 cd, .slice Pa Pn Pc, .bool rk, .bool al, .int .i64 dp, .int .u8 wt] 30)
  replace h := h.alloc (.cells #[.int .u8 K, .int .u8 F, .int .i64 St, .slice B m d, .int .i64 pd, .int .i64 la, .int .i64 ic, .int .u32 cd, .slice Pa Pn Pc, .bool rk, .bool al, .int .i64 dp, .int .u8 wt] 30)
  replace hx := hx.alloc (.cells #[.int .u8 K, .int .u8 F, .int .i64 St, .slice B m d, .int .i64 pd, .int .i64 la, .int .i64 ic, .int .u32 cd, .slice Pa Pn Pc, .bool rk, .bool al, .int .i64 dp, .int .u8 wt] 30)
  replace qb := qb.alloc (.cells #[.int .u8 K, .int .u8 F, .int .i64 St, .slice B m d, .int .i64 pd, .int .i64 la, .int .i64 ic, .int .u32 cd, .slice Pa Pn Pc, .bool rk, .bool al, .int .i64 dp, .int .u8 wt] 30)
  have qf := Blk.newAt (b := W.heap.size + 1) (W.alloc (.cells #[.int .i64 S, .bool E, .slice A n c] 24)) 30 #[.int .u8 K, .int .u8 F, .int .i64 St, .slice B m d, .int .i64 pd, .int .i64 la, .int .i64 ic, .int .u32 cd, .slice Pa Pn Pc, .bool rk, .bool al, .int .i64 dp, .int .u8 wt] (by simp)
  have zqb0 := qb.at 0 rfl
  have zqb1 := qb.at 1 rfl
  have zqb2 := qb.at 2 rfl
  have zqf0 := qf.at 0 rfl
  have zqf1 := qf.at 1 rfl
  have zqf2 := qf.at 2 rfl
  have zqf3 := qf.at 3 rfl
  have zqf4 := qf.at 4 rfl
  have zqf5 := qf.at 5 rfl
  have zqf6 := qf.at 6 rfl
  have zqf7 := qf.at 7 rfl
  have zqf8 := qf.at 8 rfl
  have zqf9 := qf.at 9 rfl
  have zqf10 := qf.at 10 rfl
  have zqf11 := qf.at 11 rfl
  have zqf12 := qf.at 12 rfl
  go_enter Try.func5, Try.ntmps5
  go_wp2_with (first | (go_at_call 7; (with_reducible refine (G0.out _).mono ?_); rintro e w1 ⟨rfl, rfl⟩) | (go_at_call 7; (with_reducible refine (G1.out _).mono ?_); rintro e w1 ⟨rfl, rfl⟩) | (go_at_call 8; refine (fWakes _).mono ?_; rintro e wk ⟨rfl, hb⟩; replace b0 := b0.below hb) )
  go_ret
  exact ⟨rfl, b0.out⟩

set_option maxRecDepth 100000 in
set_option maxHeartbeats 4000000 in
theorem aloneWrong (S : Int) (E : Bool) (A : Option Addr) (n c : Nat) (D : List Int) (K F St : Int) (B : Option Addr) (m d : Nat) (X : List Int) (pd la ic cd : Int) (Pa : Option Addr) (Pn Pc : Nat) (rk al : Bool) (dp wt : Int) (W : World)
    (h : Byt W A n c D) (hx : Byt W B m d X) (g0 : m ≤ 5000) (g1 : n ≤ 5000) (hr : rightB S E D = false) :
    Calls Try.prog 5 #[.agg #[.int .i64 S, .bool E, .slice A n c], .agg #[.int .u8 K, .int .u8 F, .int .i64 St, .slice B m d, .int .i64 pd, .int .i64 la, .int .i64 ic, .int .u32 cd, .slice Pa Pn Pc, .bool rk, .bool al, .int .i64 dp, .int .u8 wt]] W fun e w' => e = .returned (.bool true) ∧ Below W.heap.size W w' := by
  have G0 := Lib.hid fun w => fGreatE (A := B) (n := m) (c := d) (b := false) (decide_eq_false (by omega)) (Nat.le_trans hx.cap hx.mx) w
  have G1 := Lib.hid fun w => fGreatE (A := A) (n := n) (c := c) (b := false) (decide_eq_false (by omega)) (Nat.le_trans h.cap h.mx) w
  have R1 : Hid (∀ w, Byt w A n c D → Calls Try.prog 13 #[.agg #[.int .i64 S, .bool E, .slice A n c]] w (BoolP false w)) := Lib.hid fun w h => by have := rBRight S E A n c D w h; rwa [hr] at this
  clear hr
  have b0 := Bel.refl W
  replace b0 := b0.alloc (.cells #[.int .i64 S, .bool E, .slice A n c] 24)
  replace h := h.alloc (.cells #[.int .i64 S, .bool E, .slice A n c] 24)
  replace hx := hx.alloc (.cells #[.int .i64 S, .bool E, .slice A n c] 24)
  have qb := Blk.newAt (b := W.heap.size) W 24 #[.int .i64 S, .bool E, .slice A n c] rfl
  replace b0 := b0.alloc (.cells #[.int .u8 K, .int .u8 F, .int .i64 St, .slice B m d, .int .i64 pd, .int .i64 la, .int .i64 ic, .int .u32 cd, .slice Pa Pn Pc, .bool rk, .bool al, .int .i64 dp, .int .u8 wt] 30)
  replace h := h.alloc (.cells #[.int .u8 K, .int .u8 F, .int .i64 St, .slice B m d, .int .i64 pd, .int .i64 la, .int .i64 ic, .int .u32 cd, .slice Pa Pn Pc, .bool rk, .bool al, .int .i64 dp, .int .u8 wt] 30)
  replace hx := hx.alloc (.cells #[.int .u8 K, .int .u8 F, .int .i64 St, .slice B m d, .int .i64 pd, .int .i64 la, .int .i64 ic, .int .u32 cd, .slice Pa Pn Pc, .bool rk, .bool al, .int .i64 dp, .int .u8 wt] 30)
  replace qb := qb.alloc (.cells #[.int .u8 K, .int .u8 F, .int .i64 St, .slice B m d, .int .i64 pd, .int .i64 la, .int .i64 ic, .int .u32 cd, .slice Pa Pn Pc, .bool rk, .bool al, .int .i64 dp, .int .u8 wt] 30)
  have qf := Blk.newAt (b := W.heap.size + 1) (W.alloc (.cells #[.int .i64 S, .bool E, .slice A n c] 24)) 30 #[.int .u8 K, .int .u8 F, .int .i64 St, .slice B m d, .int .i64 pd, .int .i64 la, .int .i64 ic, .int .u32 cd, .slice Pa Pn Pc, .bool rk, .bool al, .int .i64 dp, .int .u8 wt] (by simp)
  have zqb0 := qb.at 0 rfl
  have zqb1 := qb.at 1 rfl
  have zqb2 := qb.at 2 rfl
  have zqf0 := qf.at 0 rfl
  have zqf1 := qf.at 1 rfl
  have zqf2 := qf.at 2 rfl
  have zqf3 := qf.at 3 rfl
  have zqf4 := qf.at 4 rfl
  have zqf5 := qf.at 5 rfl
  have zqf6 := qf.at 6 rfl
  have zqf7 := qf.at 7 rfl
  have zqf8 := qf.at 8 rfl
  have zqf9 := qf.at 9 rfl
  have zqf10 := qf.at 10 rfl
  have zqf11 := qf.at 11 rfl
  have zqf12 := qf.at 12 rfl
  go_enter Try.func5, Try.ntmps5
  go_wp2_with (first | (go_at_call 7; (with_reducible refine (G0.out _).mono ?_); rintro e w1 ⟨rfl, rfl⟩) | (go_at_call 7; (with_reducible refine (G1.out _).mono ?_); rintro e w1 ⟨rfl, rfl⟩) | (go_at_call 8; refine (fWakes _).mono ?_; rintro e wk ⟨rfl, hb⟩; replace b0 := b0.below hb) | (go_at_call 13; refine (R1.out _ h).mono ?_; rintro e wr ⟨rfl, hb⟩; replace b0 := b0.below hb; replace h := h.below hb; replace hx := hx.below hb; replace qb := qb.below hb; replace qf := qf.below hb; have zqb0 := qb.at 0 rfl; have zqb1 := qb.at 1 rfl; have zqb2 := qb.at 2 rfl; have zqf0 := qf.at 0 rfl; have zqf1 := qf.at 1 rfl; have zqf2 := qf.at 2 rfl; have zqf3 := qf.at 3 rfl; have zqf4 := qf.at 4 rfl; have zqf5 := qf.at 5 rfl; have zqf6 := qf.at 6 rfl; have zqf7 := qf.at 7 rfl; have zqf8 := qf.at 8 rfl; have zqf9 := qf.at 9 rfl; have zqf10 := qf.at 10 rfl; have zqf11 := qf.at 11 rfl; have zqf12 := qf.at 12 rfl; have yr := h))
  go_ret
  exact ⟨rfl, b0.out⟩

set_option maxRecDepth 100000 in
set_option maxHeartbeats 4000000 in
theorem aloneLow (S : Int) (E : Bool) (A : Option Addr) (n c : Nat) (D : List Int) (K F St : Int) (B : Option Addr) (m d : Nat) (X : List Int) (pd la ic cd : Int) (Pa : Option Addr) (Pn Pc : Nat) (rk al : Bool) (dp wt : Int) (W : World)
    (h : Byt W A n c D) (hx : Byt W B m d X) (g0 : m ≤ 5000) (g1 : n ≤ 5000) (hr : rightB S E D = true) (s0 : decide (St < 1) = true) :
    Calls Try.prog 5 #[.agg #[.int .i64 S, .bool E, .slice A n c], .agg #[.int .u8 K, .int .u8 F, .int .i64 St, .slice B m d, .int .i64 pd, .int .i64 la, .int .i64 ic, .int .u32 cd, .slice Pa Pn Pc, .bool rk, .bool al, .int .i64 dp, .int .u8 wt]] W fun e w' => e = .returned (.bool true) ∧ Below W.heap.size W w' := by
  have G0 := Lib.hid fun w => fGreatE (A := B) (n := m) (c := d) (b := false) (decide_eq_false (by omega)) (Nat.le_trans hx.cap hx.mx) w
  have G1 := Lib.hid fun w => fGreatE (A := A) (n := n) (c := c) (b := false) (decide_eq_false (by omega)) (Nat.le_trans h.cap h.mx) w
  have R1 : Hid (∀ w, Byt w A n c D → Calls Try.prog 13 #[.agg #[.int .i64 S, .bool E, .slice A n c]] w (BoolP true w)) := Lib.hid fun w h => by have := rBRight S E A n c D w h; rwa [hr] at this
  clear hr
  have b0 := Bel.refl W
  replace b0 := b0.alloc (.cells #[.int .i64 S, .bool E, .slice A n c] 24)
  replace h := h.alloc (.cells #[.int .i64 S, .bool E, .slice A n c] 24)
  replace hx := hx.alloc (.cells #[.int .i64 S, .bool E, .slice A n c] 24)
  have qb := Blk.newAt (b := W.heap.size) W 24 #[.int .i64 S, .bool E, .slice A n c] rfl
  replace b0 := b0.alloc (.cells #[.int .u8 K, .int .u8 F, .int .i64 St, .slice B m d, .int .i64 pd, .int .i64 la, .int .i64 ic, .int .u32 cd, .slice Pa Pn Pc, .bool rk, .bool al, .int .i64 dp, .int .u8 wt] 30)
  replace h := h.alloc (.cells #[.int .u8 K, .int .u8 F, .int .i64 St, .slice B m d, .int .i64 pd, .int .i64 la, .int .i64 ic, .int .u32 cd, .slice Pa Pn Pc, .bool rk, .bool al, .int .i64 dp, .int .u8 wt] 30)
  replace hx := hx.alloc (.cells #[.int .u8 K, .int .u8 F, .int .i64 St, .slice B m d, .int .i64 pd, .int .i64 la, .int .i64 ic, .int .u32 cd, .slice Pa Pn Pc, .bool rk, .bool al, .int .i64 dp, .int .u8 wt] 30)
  replace qb := qb.alloc (.cells #[.int .u8 K, .int .u8 F, .int .i64 St, .slice B m d, .int .i64 pd, .int .i64 la, .int .i64 ic, .int .u32 cd, .slice Pa Pn Pc, .bool rk, .bool al, .int .i64 dp, .int .u8 wt] 30)
  have qf := Blk.newAt (b := W.heap.size + 1) (W.alloc (.cells #[.int .i64 S, .bool E, .slice A n c] 24)) 30 #[.int .u8 K, .int .u8 F, .int .i64 St, .slice B m d, .int .i64 pd, .int .i64 la, .int .i64 ic, .int .u32 cd, .slice Pa Pn Pc, .bool rk, .bool al, .int .i64 dp, .int .u8 wt] (by simp)
  have zqb0 := qb.at 0 rfl
  have zqb1 := qb.at 1 rfl
  have zqb2 := qb.at 2 rfl
  have zqf0 := qf.at 0 rfl
  have zqf1 := qf.at 1 rfl
  have zqf2 := qf.at 2 rfl
  have zqf3 := qf.at 3 rfl
  have zqf4 := qf.at 4 rfl
  have zqf5 := qf.at 5 rfl
  have zqf6 := qf.at 6 rfl
  have zqf7 := qf.at 7 rfl
  have zqf8 := qf.at 8 rfl
  have zqf9 := qf.at 9 rfl
  have zqf10 := qf.at 10 rfl
  have zqf11 := qf.at 11 rfl
  have zqf12 := qf.at 12 rfl
  go_enter Try.func5, Try.ntmps5
  go_wp2_with (first | (go_at_call 7; (with_reducible refine (G0.out _).mono ?_); rintro e w1 ⟨rfl, rfl⟩) | (go_at_call 7; (with_reducible refine (G1.out _).mono ?_); rintro e w1 ⟨rfl, rfl⟩) | (go_at_call 8; refine (fWakes _).mono ?_; rintro e wk ⟨rfl, hb⟩; replace b0 := b0.below hb) | (go_at_call 13; refine (R1.out _ h).mono ?_; rintro e wr ⟨rfl, hb⟩; replace b0 := b0.below hb; replace h := h.below hb; replace hx := hx.below hb; replace qb := qb.below hb; replace qf := qf.below hb; have zqb0 := qb.at 0 rfl; have zqb1 := qb.at 1 rfl; have zqb2 := qb.at 2 rfl; have zqf0 := qf.at 0 rfl; have zqf1 := qf.at 1 rfl; have zqf2 := qf.at 2 rfl; have zqf3 := qf.at 3 rfl; have zqf4 := qf.at 4 rfl; have zqf5 := qf.at 5 rfl; have zqf6 := qf.at 6 rfl; have zqf7 := qf.at 7 rfl; have zqf8 := qf.at 8 rfl; have zqf9 := qf.at 9 rfl; have zqf10 := qf.at 10 rfl; have zqf11 := qf.at 11 rfl; have zqf12 := qf.at 12 rfl; have yr := h))
  go_ret
  exact ⟨rfl, b0.out⟩

set_option maxRecDepth 100000 in
set_option maxHeartbeats 4000000 in
theorem aloneHigh (S : Int) (E : Bool) (A : Option Addr) (n c : Nat) (D : List Int) (K F St : Int) (B : Option Addr) (m d : Nat) (X : List Int) (pd la ic cd : Int) (Pa : Option Addr) (Pn Pc : Nat) (rk al : Bool) (dp wt : Int) (W : World)
    (h : Byt W A n c D) (hx : Byt W B m d X) (g0 : m ≤ 5000) (g1 : n ≤ 5000) (hr : rightB S E D = true) (s0 : decide (St < 1) = false) (s1 : decide (2147483648 ≤ St) = true) :
    Calls Try.prog 5 #[.agg #[.int .i64 S, .bool E, .slice A n c], .agg #[.int .u8 K, .int .u8 F, .int .i64 St, .slice B m d, .int .i64 pd, .int .i64 la, .int .i64 ic, .int .u32 cd, .slice Pa Pn Pc, .bool rk, .bool al, .int .i64 dp, .int .u8 wt]] W fun e w' => e = .returned (.bool true) ∧ Below W.heap.size W w' := by
  have G0 := Lib.hid fun w => fGreatE (A := B) (n := m) (c := d) (b := false) (decide_eq_false (by omega)) (Nat.le_trans hx.cap hx.mx) w
  have G1 := Lib.hid fun w => fGreatE (A := A) (n := n) (c := c) (b := false) (decide_eq_false (by omega)) (Nat.le_trans h.cap h.mx) w
  have R1 : Hid (∀ w, Byt w A n c D → Calls Try.prog 13 #[.agg #[.int .i64 S, .bool E, .slice A n c]] w (BoolP true w)) := Lib.hid fun w h => by have := rBRight S E A n c D w h; rwa [hr] at this
  clear hr
  have b0 := Bel.refl W
  replace b0 := b0.alloc (.cells #[.int .i64 S, .bool E, .slice A n c] 24)
  replace h := h.alloc (.cells #[.int .i64 S, .bool E, .slice A n c] 24)
  replace hx := hx.alloc (.cells #[.int .i64 S, .bool E, .slice A n c] 24)
  have qb := Blk.newAt (b := W.heap.size) W 24 #[.int .i64 S, .bool E, .slice A n c] rfl
  replace b0 := b0.alloc (.cells #[.int .u8 K, .int .u8 F, .int .i64 St, .slice B m d, .int .i64 pd, .int .i64 la, .int .i64 ic, .int .u32 cd, .slice Pa Pn Pc, .bool rk, .bool al, .int .i64 dp, .int .u8 wt] 30)
  replace h := h.alloc (.cells #[.int .u8 K, .int .u8 F, .int .i64 St, .slice B m d, .int .i64 pd, .int .i64 la, .int .i64 ic, .int .u32 cd, .slice Pa Pn Pc, .bool rk, .bool al, .int .i64 dp, .int .u8 wt] 30)
  replace hx := hx.alloc (.cells #[.int .u8 K, .int .u8 F, .int .i64 St, .slice B m d, .int .i64 pd, .int .i64 la, .int .i64 ic, .int .u32 cd, .slice Pa Pn Pc, .bool rk, .bool al, .int .i64 dp, .int .u8 wt] 30)
  replace qb := qb.alloc (.cells #[.int .u8 K, .int .u8 F, .int .i64 St, .slice B m d, .int .i64 pd, .int .i64 la, .int .i64 ic, .int .u32 cd, .slice Pa Pn Pc, .bool rk, .bool al, .int .i64 dp, .int .u8 wt] 30)
  have qf := Blk.newAt (b := W.heap.size + 1) (W.alloc (.cells #[.int .i64 S, .bool E, .slice A n c] 24)) 30 #[.int .u8 K, .int .u8 F, .int .i64 St, .slice B m d, .int .i64 pd, .int .i64 la, .int .i64 ic, .int .u32 cd, .slice Pa Pn Pc, .bool rk, .bool al, .int .i64 dp, .int .u8 wt] (by simp)
  have zqb0 := qb.at 0 rfl
  have zqb1 := qb.at 1 rfl
  have zqb2 := qb.at 2 rfl
  have zqf0 := qf.at 0 rfl
  have zqf1 := qf.at 1 rfl
  have zqf2 := qf.at 2 rfl
  have zqf3 := qf.at 3 rfl
  have zqf4 := qf.at 4 rfl
  have zqf5 := qf.at 5 rfl
  have zqf6 := qf.at 6 rfl
  have zqf7 := qf.at 7 rfl
  have zqf8 := qf.at 8 rfl
  have zqf9 := qf.at 9 rfl
  have zqf10 := qf.at 10 rfl
  have zqf11 := qf.at 11 rfl
  have zqf12 := qf.at 12 rfl
  go_enter Try.func5, Try.ntmps5
  go_wp2_with (first | (go_at_call 7; (with_reducible refine (G0.out _).mono ?_); rintro e w1 ⟨rfl, rfl⟩) | (go_at_call 7; (with_reducible refine (G1.out _).mono ?_); rintro e w1 ⟨rfl, rfl⟩) | (go_at_call 8; refine (fWakes _).mono ?_; rintro e wk ⟨rfl, hb⟩; replace b0 := b0.below hb) | (go_at_call 13; refine (R1.out _ h).mono ?_; rintro e wr ⟨rfl, hb⟩; replace b0 := b0.below hb; replace h := h.below hb; replace hx := hx.below hb; replace qb := qb.below hb; replace qf := qf.below hb; have zqb0 := qb.at 0 rfl; have zqb1 := qb.at 1 rfl; have zqb2 := qb.at 2 rfl; have zqf0 := qf.at 0 rfl; have zqf1 := qf.at 1 rfl; have zqf2 := qf.at 2 rfl; have zqf3 := qf.at 3 rfl; have zqf4 := qf.at 4 rfl; have zqf5 := qf.at 5 rfl; have zqf6 := qf.at 6 rfl; have zqf7 := qf.at 7 rfl; have zqf8 := qf.at 8 rfl; have zqf9 := qf.at 9 rfl; have zqf10 := qf.at 10 rfl; have zqf11 := qf.at 11 rfl; have zqf12 := qf.at 12 rfl; have yr := h))
  go_ret
  exact ⟨rfl, b0.out⟩

set_option maxRecDepth 100000 in
set_option maxHeartbeats 4000000 in
theorem aloneGoMany (S : Int) (E : Bool) (A : Option Addr) (n c : Nat) (D : List Int) (F St : Int) (B : Option Addr) (m d : Nat) (X : List Int) (pd la ic cd : Int) (Pa : Option Addr) (Pn Pc : Nat) (rk al : Bool) (dp wt : Int) (W : World)
    (h : Byt W A n c D) (hx : Byt W B m d X) (g0 : m ≤ 5000) (g1 : n ≤ 5000) (hr : rightB S E D = true) (s0 : decide (St < 1) = false) (s1 : decide (2147483648 ≤ St) = false) (os : openB S = true) (ks : (St != S) = false)
    (T : ∀ w, Byt w A n c D → Byt w B m d X → Calls Try.prog 9 #[.agg #[.int .i64 S, .bool E, .slice A n c], .agg #[.int .u8 9, .int .u8 F, .int .i64 St, .slice B m d, .int .i64 pd, .int .i64 la, .int .i64 ic, .int .u32 cd, .slice Pa Pn Pc, .bool rk, .bool al, .int .i64 dp, .int .u8 wt]] w (TakeP ⟨S, E, D, 0, false, [], false, true, 11, 0⟩ w)) :
    Calls Try.prog 5 #[.agg #[.int .i64 S, .bool E, .slice A n c], .agg #[.int .u8 9, .int .u8 F, .int .i64 St, .slice B m d, .int .i64 pd, .int .i64 la, .int .i64 ic, .int .u32 cd, .slice Pa Pn Pc, .bool rk, .bool al, .int .i64 dp, .int .u8 wt]] W fun e w' => e = .returned (.bool true) ∧ Below W.heap.size W w' := by
  have G0 := Lib.hid fun w => fGreatE (A := B) (n := m) (c := d) (b := false) (decide_eq_false (by omega)) (Nat.le_trans hx.cap hx.mx) w
  have G1 := Lib.hid fun w => fGreatE (A := A) (n := n) (c := c) (b := false) (decide_eq_false (by omega)) (Nat.le_trans h.cap h.mx) w
  have R1 : Hid (∀ w, Byt w A n c D → Calls Try.prog 13 #[.agg #[.int .i64 S, .bool E, .slice A n c]] w (BoolP true w)) := Lib.hid fun w h => by have := rBRight S E A n c D w h; rwa [hr] at this
  clear hr
  have T1 : Hid (∀ w, Byt w A n c D → Byt w B m d X → Calls Try.prog 9 #[.agg #[.int .i64 S, .bool E, .slice A n c], .agg #[.int .u8 9, .int .u8 F, .int .i64 St, .slice B m d, .int .i64 pd, .int .i64 la, .int .i64 ic, .int .u32 cd, .slice Pa Pn Pc, .bool rk, .bool al, .int .i64 dp, .int .u8 wt]] w fun e W' => ∃ A m c B n d, e = .returned (.tuple #[.agg #[.int .i64 S, .bool E, .slice A m c], .agg #[.int .i64 0, .bool false, .slice B n d], .bool false, .agg #[.bool true, .int .i64 0, .int .u32 11], .int .i64 0]) ∧ Mine w.heap.size W' A m c D ∧ Mine w.heap.size W' B n d [] ∧ Below w.heap.size w W') := Lib.hid T
  clear T
  have O1 := Lib.hid fun w => fBOpenE (E := E) (A := A) (n := n) (c := c) os w
  clear os
  have b0 := Bel.refl W
  replace b0 := b0.alloc (.cells #[.int .i64 S, .bool E, .slice A n c] 24)
  replace h := h.alloc (.cells #[.int .i64 S, .bool E, .slice A n c] 24)
  replace hx := hx.alloc (.cells #[.int .i64 S, .bool E, .slice A n c] 24)
  have qb := Blk.newAt (b := W.heap.size) W 24 #[.int .i64 S, .bool E, .slice A n c] rfl
  replace b0 := b0.alloc (.cells #[.int .u8 9, .int .u8 F, .int .i64 St, .slice B m d, .int .i64 pd, .int .i64 la, .int .i64 ic, .int .u32 cd, .slice Pa Pn Pc, .bool rk, .bool al, .int .i64 dp, .int .u8 wt] 30)
  replace h := h.alloc (.cells #[.int .u8 9, .int .u8 F, .int .i64 St, .slice B m d, .int .i64 pd, .int .i64 la, .int .i64 ic, .int .u32 cd, .slice Pa Pn Pc, .bool rk, .bool al, .int .i64 dp, .int .u8 wt] 30)
  replace hx := hx.alloc (.cells #[.int .u8 9, .int .u8 F, .int .i64 St, .slice B m d, .int .i64 pd, .int .i64 la, .int .i64 ic, .int .u32 cd, .slice Pa Pn Pc, .bool rk, .bool al, .int .i64 dp, .int .u8 wt] 30)
  replace qb := qb.alloc (.cells #[.int .u8 9, .int .u8 F, .int .i64 St, .slice B m d, .int .i64 pd, .int .i64 la, .int .i64 ic, .int .u32 cd, .slice Pa Pn Pc, .bool rk, .bool al, .int .i64 dp, .int .u8 wt] 30)
  have qf := Blk.newAt (b := W.heap.size + 1) (W.alloc (.cells #[.int .i64 S, .bool E, .slice A n c] 24)) 30 #[.int .u8 9, .int .u8 F, .int .i64 St, .slice B m d, .int .i64 pd, .int .i64 la, .int .i64 ic, .int .u32 cd, .slice Pa Pn Pc, .bool rk, .bool al, .int .i64 dp, .int .u8 wt] (by simp)
  have zqb0 := qb.at 0 rfl
  have zqb1 := qb.at 1 rfl
  have zqb2 := qb.at 2 rfl
  have zqf0 := qf.at 0 rfl
  have zqf1 := qf.at 1 rfl
  have zqf2 := qf.at 2 rfl
  have zqf3 := qf.at 3 rfl
  have zqf4 := qf.at 4 rfl
  have zqf5 := qf.at 5 rfl
  have zqf6 := qf.at 6 rfl
  have zqf7 := qf.at 7 rfl
  have zqf8 := qf.at 8 rfl
  have zqf9 := qf.at 9 rfl
  have zqf10 := qf.at 10 rfl
  have zqf11 := qf.at 11 rfl
  have zqf12 := qf.at 12 rfl
  go_enter Try.func5, Try.ntmps5
  go_wp2_with (first | (go_at_call 7; (with_reducible refine (G0.out _).mono ?_); rintro e w1 ⟨rfl, rfl⟩) | (go_at_call 7; (with_reducible refine (G1.out _).mono ?_); rintro e w1 ⟨rfl, rfl⟩) | (go_at_call 13; refine (R1.out _ h).mono ?_; rintro e wr ⟨rfl, hb⟩; replace b0 := b0.below hb; replace h := h.below hb; replace hx := hx.below hb; replace qb := qb.below hb; replace qf := qf.below hb; have zqb0 := qb.at 0 rfl; have zqb1 := qb.at 1 rfl; have zqb2 := qb.at 2 rfl; have zqf0 := qf.at 0 rfl; have zqf1 := qf.at 1 rfl; have zqf2 := qf.at 2 rfl; have zqf3 := qf.at 3 rfl; have zqf4 := qf.at 4 rfl; have zqf5 := qf.at 5 rfl; have zqf6 := qf.at 6 rfl; have zqf7 := qf.at 7 rfl; have zqf8 := qf.at 8 rfl; have zqf9 := qf.at 9 rfl; have zqf10 := qf.at 10 rfl; have zqf11 := qf.at 11 rfl; have zqf12 := qf.at 12 rfl; have yr := h))
  refine (T1.out _ yr hx).mono ?_
  rintro e w1 ⟨A1, m1, c1, B1, n1, d1, rfl, mo, mw, hb⟩
  clear yr
  replace b0 := (b0).below hb; replace h := (h).below hb; replace hx := (hx).below hb; replace qb := (qb).below hb; replace qf := (qf).below hb
  have yo := mo.byt
  clear mo mw
  replace b0 := b0.alloc (.cells #[.int .i64 S, .bool E, .slice A1 m1 c1] 24)
  replace h := h.alloc (.cells #[.int .i64 S, .bool E, .slice A1 m1 c1] 24)
  replace hx := hx.alloc (.cells #[.int .i64 S, .bool E, .slice A1 m1 c1] 24)
  replace qb := qb.alloc (.cells #[.int .i64 S, .bool E, .slice A1 m1 c1] 24)
  replace qf := qf.alloc (.cells #[.int .i64 S, .bool E, .slice A1 m1 c1] 24)
  replace yo := yo.alloc (.cells #[.int .i64 S, .bool E, .slice A1 m1 c1] 24)
  have qo := Blk.newAt (b := w1.heap.size) w1 24 #[.int .i64 S, .bool E, .slice A1 m1 c1] rfl
  replace b0 := b0.alloc (.cells #[.int .i64 0, .bool false, .slice B1 n1 d1] 24)
  replace h := h.alloc (.cells #[.int .i64 0, .bool false, .slice B1 n1 d1] 24)
  replace hx := hx.alloc (.cells #[.int .i64 0, .bool false, .slice B1 n1 d1] 24)
  replace qb := qb.alloc (.cells #[.int .i64 0, .bool false, .slice B1 n1 d1] 24)
  replace qf := qf.alloc (.cells #[.int .i64 0, .bool false, .slice B1 n1 d1] 24)
  replace yo := yo.alloc (.cells #[.int .i64 0, .bool false, .slice B1 n1 d1] 24)
  replace qo := qo.alloc (.cells #[.int .i64 0, .bool false, .slice B1 n1 d1] 24)
  replace b0 := b0.alloc (.cells #[.bool true, .int .i64 0, .int .u32 11] 34)
  replace h := h.alloc (.cells #[.bool true, .int .i64 0, .int .u32 11] 34)
  replace hx := hx.alloc (.cells #[.bool true, .int .i64 0, .int .u32 11] 34)
  replace qb := qb.alloc (.cells #[.bool true, .int .i64 0, .int .u32 11] 34)
  replace qf := qf.alloc (.cells #[.bool true, .int .i64 0, .int .u32 11] 34)
  replace yo := yo.alloc (.cells #[.bool true, .int .i64 0, .int .u32 11] 34)
  replace qo := qo.alloc (.cells #[.bool true, .int .i64 0, .int .u32 11] 34)
  have qg := Blk.newAt (b := w1.heap.size + 1 + 1) ((w1.alloc (.cells #[.int .i64 S, .bool E, .slice A1 m1 c1] 24)).alloc (.cells #[.int .i64 0, .bool false, .slice B1 n1 d1] 24)) 34 #[.bool true, .int .i64 0, .int .u32 11] (by simp)
  have zqb0 := qb.at 0 rfl; have zqb1 := qb.at 1 rfl; have zqb2 := qb.at 2 rfl; have zqf0 := qf.at 0 rfl; have zqf1 := qf.at 1 rfl; have zqf2 := qf.at 2 rfl; have zqf3 := qf.at 3 rfl; have zqf4 := qf.at 4 rfl; have zqf5 := qf.at 5 rfl; have zqf6 := qf.at 6 rfl; have zqf7 := qf.at 7 rfl; have zqf8 := qf.at 8 rfl; have zqf9 := qf.at 9 rfl; have zqf10 := qf.at 10 rfl; have zqf11 := qf.at 11 rfl; have zqf12 := qf.at 12 rfl; have zqo0 := qo.at 0 rfl; have zqo1 := qo.at 1 rfl; have zqo2 := qo.at 2 rfl; have zqg0 := qg.at 0 rfl; have zqg1 := qg.at 1 rfl; have zqg2 := qg.at 2 rfl
  go_wp2_with (first | (go_at_call 14; (with_reducible refine (O1.out _).mono ?_); rintro e wo ⟨rfl, hb⟩; replace b0 := b0.below hb; replace h := h.below hb; replace hx := hx.below hb; replace qb := qb.below hb; replace qf := qf.below hb; replace yo := yo.below hb; replace qo := qo.below hb; replace qg := qg.below hb; have zqb0 := qb.at 0 rfl; have zqb1 := qb.at 1 rfl; have zqb2 := qb.at 2 rfl; have zqf0 := qf.at 0 rfl; have zqf1 := qf.at 1 rfl; have zqf2 := qf.at 2 rfl; have zqf3 := qf.at 3 rfl; have zqf4 := qf.at 4 rfl; have zqf5 := qf.at 5 rfl; have zqf6 := qf.at 6 rfl; have zqf7 := qf.at 7 rfl; have zqf8 := qf.at 8 rfl; have zqf9 := qf.at 9 rfl; have zqf10 := qf.at 10 rfl; have zqf11 := qf.at 11 rfl; have zqf12 := qf.at 12 rfl; have zqo0 := qo.at 0 rfl; have zqo1 := qo.at 1 rfl; have zqo2 := qo.at 2 rfl; have zqg0 := qg.at 0 rfl; have zqg1 := qg.at 1 rfl; have zqg2 := qg.at 2 rfl)  | (go_at_call 11; refine (rBSameE (sameB_self S E D) _ yo h).mono ?_; rintro e wo ⟨rfl, hb⟩; replace b0 := b0.below hb) | (go_at_call 8; refine (fWakes _).mono ?_; rintro e wk ⟨rfl, hb⟩; replace b0 := b0.below hb))
  go_ret
  exact ⟨rfl, b0.out⟩

set_option maxRecDepth 100000 in
set_option maxHeartbeats 4000000 in
theorem aloneGoDone (S : Int) (E : Bool) (A : Option Addr) (n c : Nat) (D : List Int) (F St : Int) (B : Option Addr) (m d : Nat) (X : List Int) (pd la ic cd : Int) (Pa : Option Addr) (Pn Pc : Nat) (rk al : Bool) (dp wt : Int) (W : World)
    (h : Byt W A n c D) (hx : Byt W B m d X) (g0 : m ≤ 5000) (g1 : n ≤ 5000) (hr : rightB S E D = true) (s0 : decide (St < 1) = false) (s1 : decide (2147483648 ≤ St) = false) (os : openB S = true) (ks : (St != S) = false) (g4 : (bits .and .u8 F 4 != 0) = true)
    (T : ∀ w, Byt w A n c D → Byt w B m d X → Calls Try.prog 9 #[.agg #[.int .i64 S, .bool E, .slice A n c], .agg #[.int .u8 9, .int .u8 F, .int .i64 St, .slice B m d, .int .i64 pd, .int .i64 la, .int .i64 ic, .int .u32 cd, .slice Pa Pn Pc, .bool rk, .bool al, .int .i64 dp, .int .u8 wt]] w (TakeP ⟨0, false, [], S, E, (D ++ X), true, false, 0, 0⟩ w)) :
    Calls Try.prog 5 #[.agg #[.int .i64 S, .bool E, .slice A n c], .agg #[.int .u8 9, .int .u8 F, .int .i64 St, .slice B m d, .int .i64 pd, .int .i64 la, .int .i64 ic, .int .u32 cd, .slice Pa Pn Pc, .bool rk, .bool al, .int .i64 dp, .int .u8 wt]] W fun e w' => e = .returned (.bool true) ∧ Below W.heap.size W w' := by
  have G0 := Lib.hid fun w => fGreatE (A := B) (n := m) (c := d) (b := false) (decide_eq_false (by omega)) (Nat.le_trans hx.cap hx.mx) w
  have G1 := Lib.hid fun w => fGreatE (A := A) (n := n) (c := c) (b := false) (decide_eq_false (by omega)) (Nat.le_trans h.cap h.mx) w
  have R1 : Hid (∀ w, Byt w A n c D → Calls Try.prog 13 #[.agg #[.int .i64 S, .bool E, .slice A n c]] w (BoolP true w)) := Lib.hid fun w h => by have := rBRight S E A n c D w h; rwa [hr] at this
  clear hr
  have T1 : Hid (∀ w, Byt w A n c D → Byt w B m d X → Calls Try.prog 9 #[.agg #[.int .i64 S, .bool E, .slice A n c], .agg #[.int .u8 9, .int .u8 F, .int .i64 St, .slice B m d, .int .i64 pd, .int .i64 la, .int .i64 ic, .int .u32 cd, .slice Pa Pn Pc, .bool rk, .bool al, .int .i64 dp, .int .u8 wt]] w fun e W' => ∃ A m c B n d, e = .returned (.tuple #[.agg #[.int .i64 0, .bool false, .slice A m c], .agg #[.int .i64 S, .bool E, .slice B n d], .bool true, .agg #[.bool false, .int .i64 0, .int .u32 0], .int .i64 0]) ∧ Mine w.heap.size W' A m c [] ∧ Mine w.heap.size W' B n d (D ++ X) ∧ Below w.heap.size w W') := Lib.hid T
  clear T
  have O1 := Lib.hid fun w => fBOpenE (E := E) (A := A) (n := n) (c := c) os w
  clear os
  have b0 := Bel.refl W
  replace b0 := b0.alloc (.cells #[.int .i64 S, .bool E, .slice A n c] 24)
  replace h := h.alloc (.cells #[.int .i64 S, .bool E, .slice A n c] 24)
  replace hx := hx.alloc (.cells #[.int .i64 S, .bool E, .slice A n c] 24)
  have qb := Blk.newAt (b := W.heap.size) W 24 #[.int .i64 S, .bool E, .slice A n c] rfl
  replace b0 := b0.alloc (.cells #[.int .u8 9, .int .u8 F, .int .i64 St, .slice B m d, .int .i64 pd, .int .i64 la, .int .i64 ic, .int .u32 cd, .slice Pa Pn Pc, .bool rk, .bool al, .int .i64 dp, .int .u8 wt] 30)
  replace h := h.alloc (.cells #[.int .u8 9, .int .u8 F, .int .i64 St, .slice B m d, .int .i64 pd, .int .i64 la, .int .i64 ic, .int .u32 cd, .slice Pa Pn Pc, .bool rk, .bool al, .int .i64 dp, .int .u8 wt] 30)
  replace hx := hx.alloc (.cells #[.int .u8 9, .int .u8 F, .int .i64 St, .slice B m d, .int .i64 pd, .int .i64 la, .int .i64 ic, .int .u32 cd, .slice Pa Pn Pc, .bool rk, .bool al, .int .i64 dp, .int .u8 wt] 30)
  replace qb := qb.alloc (.cells #[.int .u8 9, .int .u8 F, .int .i64 St, .slice B m d, .int .i64 pd, .int .i64 la, .int .i64 ic, .int .u32 cd, .slice Pa Pn Pc, .bool rk, .bool al, .int .i64 dp, .int .u8 wt] 30)
  have qf := Blk.newAt (b := W.heap.size + 1) (W.alloc (.cells #[.int .i64 S, .bool E, .slice A n c] 24)) 30 #[.int .u8 9, .int .u8 F, .int .i64 St, .slice B m d, .int .i64 pd, .int .i64 la, .int .i64 ic, .int .u32 cd, .slice Pa Pn Pc, .bool rk, .bool al, .int .i64 dp, .int .u8 wt] (by simp)
  have zqb0 := qb.at 0 rfl
  have zqb1 := qb.at 1 rfl
  have zqb2 := qb.at 2 rfl
  have zqf0 := qf.at 0 rfl
  have zqf1 := qf.at 1 rfl
  have zqf2 := qf.at 2 rfl
  have zqf3 := qf.at 3 rfl
  have zqf4 := qf.at 4 rfl
  have zqf5 := qf.at 5 rfl
  have zqf6 := qf.at 6 rfl
  have zqf7 := qf.at 7 rfl
  have zqf8 := qf.at 8 rfl
  have zqf9 := qf.at 9 rfl
  have zqf10 := qf.at 10 rfl
  have zqf11 := qf.at 11 rfl
  have zqf12 := qf.at 12 rfl
  go_enter Try.func5, Try.ntmps5
  go_wp2_with (first | (go_at_call 7; (with_reducible refine (G0.out _).mono ?_); rintro e w1 ⟨rfl, rfl⟩) | (go_at_call 7; (with_reducible refine (G1.out _).mono ?_); rintro e w1 ⟨rfl, rfl⟩) | (go_at_call 13; refine (R1.out _ h).mono ?_; rintro e wr ⟨rfl, hb⟩; replace b0 := b0.below hb; replace h := h.below hb; replace hx := hx.below hb; replace qb := qb.below hb; replace qf := qf.below hb; have zqb0 := qb.at 0 rfl; have zqb1 := qb.at 1 rfl; have zqb2 := qb.at 2 rfl; have zqf0 := qf.at 0 rfl; have zqf1 := qf.at 1 rfl; have zqf2 := qf.at 2 rfl; have zqf3 := qf.at 3 rfl; have zqf4 := qf.at 4 rfl; have zqf5 := qf.at 5 rfl; have zqf6 := qf.at 6 rfl; have zqf7 := qf.at 7 rfl; have zqf8 := qf.at 8 rfl; have zqf9 := qf.at 9 rfl; have zqf10 := qf.at 10 rfl; have zqf11 := qf.at 11 rfl; have zqf12 := qf.at 12 rfl; have yr := h))
  refine (T1.out _ yr hx).mono ?_
  rintro e w1 ⟨A1, m1, c1, B1, n1, d1, rfl, mo, mw, hb⟩
  clear yr
  replace b0 := (b0).below hb; replace h := (h).below hb; replace hx := (hx).below hb; replace qb := (qb).below hb; replace qf := (qf).below hb
  have yo := mo.byt
  clear mo mw
  replace b0 := b0.alloc (.cells #[.int .i64 0, .bool false, .slice A1 m1 c1] 24)
  replace h := h.alloc (.cells #[.int .i64 0, .bool false, .slice A1 m1 c1] 24)
  replace hx := hx.alloc (.cells #[.int .i64 0, .bool false, .slice A1 m1 c1] 24)
  replace qb := qb.alloc (.cells #[.int .i64 0, .bool false, .slice A1 m1 c1] 24)
  replace qf := qf.alloc (.cells #[.int .i64 0, .bool false, .slice A1 m1 c1] 24)
  replace yo := yo.alloc (.cells #[.int .i64 0, .bool false, .slice A1 m1 c1] 24)
  have qo := Blk.newAt (b := w1.heap.size) w1 24 #[.int .i64 0, .bool false, .slice A1 m1 c1] rfl
  replace b0 := b0.alloc (.cells #[.int .i64 S, .bool E, .slice B1 n1 d1] 24)
  replace h := h.alloc (.cells #[.int .i64 S, .bool E, .slice B1 n1 d1] 24)
  replace hx := hx.alloc (.cells #[.int .i64 S, .bool E, .slice B1 n1 d1] 24)
  replace qb := qb.alloc (.cells #[.int .i64 S, .bool E, .slice B1 n1 d1] 24)
  replace qf := qf.alloc (.cells #[.int .i64 S, .bool E, .slice B1 n1 d1] 24)
  replace yo := yo.alloc (.cells #[.int .i64 S, .bool E, .slice B1 n1 d1] 24)
  replace qo := qo.alloc (.cells #[.int .i64 S, .bool E, .slice B1 n1 d1] 24)
  replace b0 := b0.alloc (.cells #[.bool false, .int .i64 0, .int .u32 0] 34)
  replace h := h.alloc (.cells #[.bool false, .int .i64 0, .int .u32 0] 34)
  replace hx := hx.alloc (.cells #[.bool false, .int .i64 0, .int .u32 0] 34)
  replace qb := qb.alloc (.cells #[.bool false, .int .i64 0, .int .u32 0] 34)
  replace qf := qf.alloc (.cells #[.bool false, .int .i64 0, .int .u32 0] 34)
  replace yo := yo.alloc (.cells #[.bool false, .int .i64 0, .int .u32 0] 34)
  replace qo := qo.alloc (.cells #[.bool false, .int .i64 0, .int .u32 0] 34)
  have qg := Blk.newAt (b := w1.heap.size + 1 + 1) ((w1.alloc (.cells #[.int .i64 0, .bool false, .slice A1 m1 c1] 24)).alloc (.cells #[.int .i64 S, .bool E, .slice B1 n1 d1] 24)) 34 #[.bool false, .int .i64 0, .int .u32 0] (by simp)
  have zqb0 := qb.at 0 rfl; have zqb1 := qb.at 1 rfl; have zqb2 := qb.at 2 rfl; have zqf0 := qf.at 0 rfl; have zqf1 := qf.at 1 rfl; have zqf2 := qf.at 2 rfl; have zqf3 := qf.at 3 rfl; have zqf4 := qf.at 4 rfl; have zqf5 := qf.at 5 rfl; have zqf6 := qf.at 6 rfl; have zqf7 := qf.at 7 rfl; have zqf8 := qf.at 8 rfl; have zqf9 := qf.at 9 rfl; have zqf10 := qf.at 10 rfl; have zqf11 := qf.at 11 rfl; have zqf12 := qf.at 12 rfl; have zqo0 := qo.at 0 rfl; have zqo1 := qo.at 1 rfl; have zqo2 := qo.at 2 rfl; have zqg0 := qg.at 0 rfl; have zqg1 := qg.at 1 rfl; have zqg2 := qg.at 2 rfl
  go_wp2_with (first | (go_at_call 14; (with_reducible refine (O1.out _).mono ?_); rintro e wo ⟨rfl, hb⟩; replace b0 := b0.below hb; replace h := h.below hb; replace hx := hx.below hb; replace qb := qb.below hb; replace qf := qf.below hb; replace yo := yo.below hb; replace qo := qo.below hb; replace qg := qg.below hb; have zqb0 := qb.at 0 rfl; have zqb1 := qb.at 1 rfl; have zqb2 := qb.at 2 rfl; have zqf0 := qf.at 0 rfl; have zqf1 := qf.at 1 rfl; have zqf2 := qf.at 2 rfl; have zqf3 := qf.at 3 rfl; have zqf4 := qf.at 4 rfl; have zqf5 := qf.at 5 rfl; have zqf6 := qf.at 6 rfl; have zqf7 := qf.at 7 rfl; have zqf8 := qf.at 8 rfl; have zqf9 := qf.at 9 rfl; have zqf10 := qf.at 10 rfl; have zqf11 := qf.at 11 rfl; have zqf12 := qf.at 12 rfl; have zqo0 := qo.at 0 rfl; have zqo1 := qo.at 1 rfl; have zqo2 := qo.at 2 rfl; have zqg0 := qg.at 0 rfl; have zqg1 := qg.at 1 rfl; have zqg2 := qg.at 2 rfl) | (go_at_call 14; (with_reducible refine (fBOpenE (S := 0) (b := false) (by decide) _).mono ?_); rintro e wo ⟨rfl, hb⟩; replace b0 := b0.below hb)  | (go_at_call 8; refine (fWakes _).mono ?_; rintro e wk ⟨rfl, hb⟩; replace b0 := b0.below hb))
  go_ret
  exact ⟨rfl, b0.out⟩

set_option maxRecDepth 100000 in
set_option maxHeartbeats 4000000 in
theorem aloneGoOpen (S : Int) (E : Bool) (A : Option Addr) (n c : Nat) (D : List Int) (F St : Int) (B : Option Addr) (m d : Nat) (X : List Int) (pd la ic cd : Int) (Pa : Option Addr) (Pn Pc : Nat) (rk al : Bool) (dp wt : Int) (W : World)
    (h : Byt W A n c D) (hx : Byt W B m d X) (g0 : m ≤ 5000) (g1 : n ≤ 5000) (hr : rightB S E D = true) (s0 : decide (St < 1) = false) (s1 : decide (2147483648 ≤ St) = false) (os : openB S = true) (ks : (St != S) = false) (g4 : (bits .and .u8 F 4 != 0) = false)
    (T : ∀ w, Byt w A n c D → Byt w B m d X → Calls Try.prog 9 #[.agg #[.int .i64 S, .bool E, .slice A n c], .agg #[.int .u8 9, .int .u8 F, .int .i64 St, .slice B m d, .int .i64 pd, .int .i64 la, .int .i64 ic, .int .u32 cd, .slice Pa Pn Pc, .bool rk, .bool al, .int .i64 dp, .int .u8 wt]] w (TakeP ⟨S, E, (D ++ X), 0, false, [], false, false, 0, 0⟩ w)) :
    Calls Try.prog 5 #[.agg #[.int .i64 S, .bool E, .slice A n c], .agg #[.int .u8 9, .int .u8 F, .int .i64 St, .slice B m d, .int .i64 pd, .int .i64 la, .int .i64 ic, .int .u32 cd, .slice Pa Pn Pc, .bool rk, .bool al, .int .i64 dp, .int .u8 wt]] W fun e w' => e = .returned (.bool true) ∧ Below W.heap.size W w' := by
  have G0 := Lib.hid fun w => fGreatE (A := B) (n := m) (c := d) (b := false) (decide_eq_false (by omega)) (Nat.le_trans hx.cap hx.mx) w
  have G1 := Lib.hid fun w => fGreatE (A := A) (n := n) (c := c) (b := false) (decide_eq_false (by omega)) (Nat.le_trans h.cap h.mx) w
  have R1 : Hid (∀ w, Byt w A n c D → Calls Try.prog 13 #[.agg #[.int .i64 S, .bool E, .slice A n c]] w (BoolP true w)) := Lib.hid fun w h => by have := rBRight S E A n c D w h; rwa [hr] at this
  clear hr
  have T1 : Hid (∀ w, Byt w A n c D → Byt w B m d X → Calls Try.prog 9 #[.agg #[.int .i64 S, .bool E, .slice A n c], .agg #[.int .u8 9, .int .u8 F, .int .i64 St, .slice B m d, .int .i64 pd, .int .i64 la, .int .i64 ic, .int .u32 cd, .slice Pa Pn Pc, .bool rk, .bool al, .int .i64 dp, .int .u8 wt]] w fun e W' => ∃ A m c B n d, e = .returned (.tuple #[.agg #[.int .i64 S, .bool E, .slice A m c], .agg #[.int .i64 0, .bool false, .slice B n d], .bool false, .agg #[.bool false, .int .i64 0, .int .u32 0], .int .i64 0]) ∧ Mine w.heap.size W' A m c (D ++ X) ∧ Mine w.heap.size W' B n d [] ∧ Below w.heap.size w W') := Lib.hid T
  clear T
  have os2 := Lib.hid os
  have O1 := Lib.hid fun w => fBOpenE (E := E) (A := A) (n := n) (c := c) os w
  clear os
  have b0 := Bel.refl W
  replace b0 := b0.alloc (.cells #[.int .i64 S, .bool E, .slice A n c] 24)
  replace h := h.alloc (.cells #[.int .i64 S, .bool E, .slice A n c] 24)
  replace hx := hx.alloc (.cells #[.int .i64 S, .bool E, .slice A n c] 24)
  have qb := Blk.newAt (b := W.heap.size) W 24 #[.int .i64 S, .bool E, .slice A n c] rfl
  replace b0 := b0.alloc (.cells #[.int .u8 9, .int .u8 F, .int .i64 St, .slice B m d, .int .i64 pd, .int .i64 la, .int .i64 ic, .int .u32 cd, .slice Pa Pn Pc, .bool rk, .bool al, .int .i64 dp, .int .u8 wt] 30)
  replace h := h.alloc (.cells #[.int .u8 9, .int .u8 F, .int .i64 St, .slice B m d, .int .i64 pd, .int .i64 la, .int .i64 ic, .int .u32 cd, .slice Pa Pn Pc, .bool rk, .bool al, .int .i64 dp, .int .u8 wt] 30)
  replace hx := hx.alloc (.cells #[.int .u8 9, .int .u8 F, .int .i64 St, .slice B m d, .int .i64 pd, .int .i64 la, .int .i64 ic, .int .u32 cd, .slice Pa Pn Pc, .bool rk, .bool al, .int .i64 dp, .int .u8 wt] 30)
  replace qb := qb.alloc (.cells #[.int .u8 9, .int .u8 F, .int .i64 St, .slice B m d, .int .i64 pd, .int .i64 la, .int .i64 ic, .int .u32 cd, .slice Pa Pn Pc, .bool rk, .bool al, .int .i64 dp, .int .u8 wt] 30)
  have qf := Blk.newAt (b := W.heap.size + 1) (W.alloc (.cells #[.int .i64 S, .bool E, .slice A n c] 24)) 30 #[.int .u8 9, .int .u8 F, .int .i64 St, .slice B m d, .int .i64 pd, .int .i64 la, .int .i64 ic, .int .u32 cd, .slice Pa Pn Pc, .bool rk, .bool al, .int .i64 dp, .int .u8 wt] (by simp)
  have zqb0 := qb.at 0 rfl
  have zqb1 := qb.at 1 rfl
  have zqb2 := qb.at 2 rfl
  have zqf0 := qf.at 0 rfl
  have zqf1 := qf.at 1 rfl
  have zqf2 := qf.at 2 rfl
  have zqf3 := qf.at 3 rfl
  have zqf4 := qf.at 4 rfl
  have zqf5 := qf.at 5 rfl
  have zqf6 := qf.at 6 rfl
  have zqf7 := qf.at 7 rfl
  have zqf8 := qf.at 8 rfl
  have zqf9 := qf.at 9 rfl
  have zqf10 := qf.at 10 rfl
  have zqf11 := qf.at 11 rfl
  have zqf12 := qf.at 12 rfl
  go_enter Try.func5, Try.ntmps5
  go_wp2_with (first | (go_at_call 7; (with_reducible refine (G0.out _).mono ?_); rintro e w1 ⟨rfl, rfl⟩) | (go_at_call 7; (with_reducible refine (G1.out _).mono ?_); rintro e w1 ⟨rfl, rfl⟩) | (go_at_call 13; refine (R1.out _ h).mono ?_; rintro e wr ⟨rfl, hb⟩; replace b0 := b0.below hb; replace h := h.below hb; replace hx := hx.below hb; replace qb := qb.below hb; replace qf := qf.below hb; have zqb0 := qb.at 0 rfl; have zqb1 := qb.at 1 rfl; have zqb2 := qb.at 2 rfl; have zqf0 := qf.at 0 rfl; have zqf1 := qf.at 1 rfl; have zqf2 := qf.at 2 rfl; have zqf3 := qf.at 3 rfl; have zqf4 := qf.at 4 rfl; have zqf5 := qf.at 5 rfl; have zqf6 := qf.at 6 rfl; have zqf7 := qf.at 7 rfl; have zqf8 := qf.at 8 rfl; have zqf9 := qf.at 9 rfl; have zqf10 := qf.at 10 rfl; have zqf11 := qf.at 11 rfl; have zqf12 := qf.at 12 rfl; have yr := h))
  refine (T1.out _ yr hx).mono ?_
  rintro e w1 ⟨A1, m1, c1, B1, n1, d1, rfl, mo, mw, hb⟩
  clear yr
  replace b0 := (b0).below hb; replace h := (h).below hb; replace hx := (hx).below hb; replace qb := (qb).below hb; replace qf := (qf).below hb
  have yo := mo.byt
  clear mo mw
  replace b0 := b0.alloc (.cells #[.int .i64 S, .bool E, .slice A1 m1 c1] 24)
  replace h := h.alloc (.cells #[.int .i64 S, .bool E, .slice A1 m1 c1] 24)
  replace hx := hx.alloc (.cells #[.int .i64 S, .bool E, .slice A1 m1 c1] 24)
  replace qb := qb.alloc (.cells #[.int .i64 S, .bool E, .slice A1 m1 c1] 24)
  replace qf := qf.alloc (.cells #[.int .i64 S, .bool E, .slice A1 m1 c1] 24)
  replace yo := yo.alloc (.cells #[.int .i64 S, .bool E, .slice A1 m1 c1] 24)
  have qo := Blk.newAt (b := w1.heap.size) w1 24 #[.int .i64 S, .bool E, .slice A1 m1 c1] rfl
  replace b0 := b0.alloc (.cells #[.int .i64 0, .bool false, .slice B1 n1 d1] 24)
  replace h := h.alloc (.cells #[.int .i64 0, .bool false, .slice B1 n1 d1] 24)
  replace hx := hx.alloc (.cells #[.int .i64 0, .bool false, .slice B1 n1 d1] 24)
  replace qb := qb.alloc (.cells #[.int .i64 0, .bool false, .slice B1 n1 d1] 24)
  replace qf := qf.alloc (.cells #[.int .i64 0, .bool false, .slice B1 n1 d1] 24)
  replace yo := yo.alloc (.cells #[.int .i64 0, .bool false, .slice B1 n1 d1] 24)
  replace qo := qo.alloc (.cells #[.int .i64 0, .bool false, .slice B1 n1 d1] 24)
  replace b0 := b0.alloc (.cells #[.bool false, .int .i64 0, .int .u32 0] 34)
  replace h := h.alloc (.cells #[.bool false, .int .i64 0, .int .u32 0] 34)
  replace hx := hx.alloc (.cells #[.bool false, .int .i64 0, .int .u32 0] 34)
  replace qb := qb.alloc (.cells #[.bool false, .int .i64 0, .int .u32 0] 34)
  replace qf := qf.alloc (.cells #[.bool false, .int .i64 0, .int .u32 0] 34)
  replace yo := yo.alloc (.cells #[.bool false, .int .i64 0, .int .u32 0] 34)
  replace qo := qo.alloc (.cells #[.bool false, .int .i64 0, .int .u32 0] 34)
  have qg := Blk.newAt (b := w1.heap.size + 1 + 1) ((w1.alloc (.cells #[.int .i64 S, .bool E, .slice A1 m1 c1] 24)).alloc (.cells #[.int .i64 0, .bool false, .slice B1 n1 d1] 24)) 34 #[.bool false, .int .i64 0, .int .u32 0] (by simp)
  have zqb0 := qb.at 0 rfl; have zqb1 := qb.at 1 rfl; have zqb2 := qb.at 2 rfl; have zqf0 := qf.at 0 rfl; have zqf1 := qf.at 1 rfl; have zqf2 := qf.at 2 rfl; have zqf3 := qf.at 3 rfl; have zqf4 := qf.at 4 rfl; have zqf5 := qf.at 5 rfl; have zqf6 := qf.at 6 rfl; have zqf7 := qf.at 7 rfl; have zqf8 := qf.at 8 rfl; have zqf9 := qf.at 9 rfl; have zqf10 := qf.at 10 rfl; have zqf11 := qf.at 11 rfl; have zqf12 := qf.at 12 rfl; have zqo0 := qo.at 0 rfl; have zqo1 := qo.at 1 rfl; have zqo2 := qo.at 2 rfl; have zqg0 := qg.at 0 rfl; have zqg1 := qg.at 1 rfl; have zqg2 := qg.at 2 rfl
  have O2 : Hid (∀ A n c w, Calls Try.prog 14 #[.agg #[.int .i64 S, .bool E, .slice A n c]] w (BoolP true w)) := Lib.hid fun A n c w => fBOpenE os2.out w
  go_wp2_with (first | (go_at_call 14; (with_reducible refine (O1.out _).mono ?_); rintro e wo ⟨rfl, hb⟩; replace b0 := b0.below hb; replace h := h.below hb; replace hx := hx.below hb; replace qb := qb.below hb; replace qf := qf.below hb; replace yo := yo.below hb; replace qo := qo.below hb; replace qg := qg.below hb; have zqb0 := qb.at 0 rfl; have zqb1 := qb.at 1 rfl; have zqb2 := qb.at 2 rfl; have zqf0 := qf.at 0 rfl; have zqf1 := qf.at 1 rfl; have zqf2 := qf.at 2 rfl; have zqf3 := qf.at 3 rfl; have zqf4 := qf.at 4 rfl; have zqf5 := qf.at 5 rfl; have zqf6 := qf.at 6 rfl; have zqf7 := qf.at 7 rfl; have zqf8 := qf.at 8 rfl; have zqf9 := qf.at 9 rfl; have zqf10 := qf.at 10 rfl; have zqf11 := qf.at 11 rfl; have zqf12 := qf.at 12 rfl; have zqo0 := qo.at 0 rfl; have zqo1 := qo.at 1 rfl; have zqo2 := qo.at 2 rfl; have zqg0 := qg.at 0 rfl; have zqg1 := qg.at 1 rfl; have zqg2 := qg.at 2 rfl) | (go_at_call 14; (with_reducible refine (O2.out _ _ _ _).mono ?_); rintro e wo ⟨rfl, hb⟩; replace b0 := b0.below hb)  | (go_at_call 8; refine (fWakes _).mono ?_; rintro e wk ⟨rfl, hb⟩; replace b0 := b0.below hb))
  go_ret
  exact ⟨rfl, b0.out⟩

set_option maxRecDepth 100000 in
set_option maxHeartbeats 4000000 in
theorem aloneOther (S : Int) (E : Bool) (A : Option Addr) (n c : Nat) (D : List Int) (F St : Int) (B : Option Addr) (m d : Nat) (X : List Int) (pd la ic cd : Int) (Pa : Option Addr) (Pn Pc : Nat) (rk al : Bool) (dp wt : Int) (W : World)
    (h : Byt W A n c D) (hx : Byt W B m d X) (g0 : m ≤ 5000) (g1 : n ≤ 5000) (hr : rightB S E D = true) (s0 : decide (St < 1) = false) (s1 : decide (2147483648 ≤ St) = false) (os : openB S = true) (ks : (St != S) = true)
    (T : ∀ w, Byt w A n c D → Byt w B m d X → Calls Try.prog 9 #[.agg #[.int .i64 S, .bool E, .slice A n c], .agg #[.int .u8 9, .int .u8 F, .int .i64 St, .slice B m d, .int .i64 pd, .int .i64 la, .int .i64 ic, .int .u32 cd, .slice Pa Pn Pc, .bool rk, .bool al, .int .i64 dp, .int .u8 wt]] w (TakeP ⟨S, E, D, 0, false, [], false, true, 1, 0⟩ w)) :
    Calls Try.prog 5 #[.agg #[.int .i64 S, .bool E, .slice A n c], .agg #[.int .u8 9, .int .u8 F, .int .i64 St, .slice B m d, .int .i64 pd, .int .i64 la, .int .i64 ic, .int .u32 cd, .slice Pa Pn Pc, .bool rk, .bool al, .int .i64 dp, .int .u8 wt]] W fun e w' => e = .returned (.bool true) ∧ Below W.heap.size W w' := by
  have G0 := Lib.hid fun w => fGreatE (A := B) (n := m) (c := d) (b := false) (decide_eq_false (by omega)) (Nat.le_trans hx.cap hx.mx) w
  have G1 := Lib.hid fun w => fGreatE (A := A) (n := n) (c := c) (b := false) (decide_eq_false (by omega)) (Nat.le_trans h.cap h.mx) w
  have R1 : Hid (∀ w, Byt w A n c D → Calls Try.prog 13 #[.agg #[.int .i64 S, .bool E, .slice A n c]] w (BoolP true w)) := Lib.hid fun w h => by have := rBRight S E A n c D w h; rwa [hr] at this
  clear hr
  have T1 : Hid (∀ w, Byt w A n c D → Byt w B m d X → Calls Try.prog 9 #[.agg #[.int .i64 S, .bool E, .slice A n c], .agg #[.int .u8 9, .int .u8 F, .int .i64 St, .slice B m d, .int .i64 pd, .int .i64 la, .int .i64 ic, .int .u32 cd, .slice Pa Pn Pc, .bool rk, .bool al, .int .i64 dp, .int .u8 wt]] w fun e W' => ∃ A m c B n d, e = .returned (.tuple #[.agg #[.int .i64 S, .bool E, .slice A m c], .agg #[.int .i64 0, .bool false, .slice B n d], .bool false, .agg #[.bool true, .int .i64 0, .int .u32 1], .int .i64 0]) ∧ Mine w.heap.size W' A m c D ∧ Mine w.heap.size W' B n d [] ∧ Below w.heap.size w W') := Lib.hid T
  clear T
  have O1 := Lib.hid fun w => fBOpenE (E := E) (A := A) (n := n) (c := c) os w
  clear os
  have b0 := Bel.refl W
  replace b0 := b0.alloc (.cells #[.int .i64 S, .bool E, .slice A n c] 24)
  replace h := h.alloc (.cells #[.int .i64 S, .bool E, .slice A n c] 24)
  replace hx := hx.alloc (.cells #[.int .i64 S, .bool E, .slice A n c] 24)
  have qb := Blk.newAt (b := W.heap.size) W 24 #[.int .i64 S, .bool E, .slice A n c] rfl
  replace b0 := b0.alloc (.cells #[.int .u8 9, .int .u8 F, .int .i64 St, .slice B m d, .int .i64 pd, .int .i64 la, .int .i64 ic, .int .u32 cd, .slice Pa Pn Pc, .bool rk, .bool al, .int .i64 dp, .int .u8 wt] 30)
  replace h := h.alloc (.cells #[.int .u8 9, .int .u8 F, .int .i64 St, .slice B m d, .int .i64 pd, .int .i64 la, .int .i64 ic, .int .u32 cd, .slice Pa Pn Pc, .bool rk, .bool al, .int .i64 dp, .int .u8 wt] 30)
  replace hx := hx.alloc (.cells #[.int .u8 9, .int .u8 F, .int .i64 St, .slice B m d, .int .i64 pd, .int .i64 la, .int .i64 ic, .int .u32 cd, .slice Pa Pn Pc, .bool rk, .bool al, .int .i64 dp, .int .u8 wt] 30)
  replace qb := qb.alloc (.cells #[.int .u8 9, .int .u8 F, .int .i64 St, .slice B m d, .int .i64 pd, .int .i64 la, .int .i64 ic, .int .u32 cd, .slice Pa Pn Pc, .bool rk, .bool al, .int .i64 dp, .int .u8 wt] 30)
  have qf := Blk.newAt (b := W.heap.size + 1) (W.alloc (.cells #[.int .i64 S, .bool E, .slice A n c] 24)) 30 #[.int .u8 9, .int .u8 F, .int .i64 St, .slice B m d, .int .i64 pd, .int .i64 la, .int .i64 ic, .int .u32 cd, .slice Pa Pn Pc, .bool rk, .bool al, .int .i64 dp, .int .u8 wt] (by simp)
  have zqb0 := qb.at 0 rfl
  have zqb1 := qb.at 1 rfl
  have zqb2 := qb.at 2 rfl
  have zqf0 := qf.at 0 rfl
  have zqf1 := qf.at 1 rfl
  have zqf2 := qf.at 2 rfl
  have zqf3 := qf.at 3 rfl
  have zqf4 := qf.at 4 rfl
  have zqf5 := qf.at 5 rfl
  have zqf6 := qf.at 6 rfl
  have zqf7 := qf.at 7 rfl
  have zqf8 := qf.at 8 rfl
  have zqf9 := qf.at 9 rfl
  have zqf10 := qf.at 10 rfl
  have zqf11 := qf.at 11 rfl
  have zqf12 := qf.at 12 rfl
  go_enter Try.func5, Try.ntmps5
  go_wp2_with (first | (go_at_call 7; (with_reducible refine (G0.out _).mono ?_); rintro e w1 ⟨rfl, rfl⟩) | (go_at_call 7; (with_reducible refine (G1.out _).mono ?_); rintro e w1 ⟨rfl, rfl⟩) | (go_at_call 13; refine (R1.out _ h).mono ?_; rintro e wr ⟨rfl, hb⟩; replace b0 := b0.below hb; replace h := h.below hb; replace hx := hx.below hb; replace qb := qb.below hb; replace qf := qf.below hb; have zqb0 := qb.at 0 rfl; have zqb1 := qb.at 1 rfl; have zqb2 := qb.at 2 rfl; have zqf0 := qf.at 0 rfl; have zqf1 := qf.at 1 rfl; have zqf2 := qf.at 2 rfl; have zqf3 := qf.at 3 rfl; have zqf4 := qf.at 4 rfl; have zqf5 := qf.at 5 rfl; have zqf6 := qf.at 6 rfl; have zqf7 := qf.at 7 rfl; have zqf8 := qf.at 8 rfl; have zqf9 := qf.at 9 rfl; have zqf10 := qf.at 10 rfl; have zqf11 := qf.at 11 rfl; have zqf12 := qf.at 12 rfl; have yr := h))
  refine (T1.out _ yr hx).mono ?_
  rintro e w1 ⟨A1, m1, c1, B1, n1, d1, rfl, mo, mw, hb⟩
  clear yr
  replace b0 := (b0).below hb; replace h := (h).below hb; replace hx := (hx).below hb; replace qb := (qb).below hb; replace qf := (qf).below hb
  have yo := mo.byt
  clear mo mw
  replace b0 := b0.alloc (.cells #[.int .i64 S, .bool E, .slice A1 m1 c1] 24)
  replace h := h.alloc (.cells #[.int .i64 S, .bool E, .slice A1 m1 c1] 24)
  replace hx := hx.alloc (.cells #[.int .i64 S, .bool E, .slice A1 m1 c1] 24)
  replace qb := qb.alloc (.cells #[.int .i64 S, .bool E, .slice A1 m1 c1] 24)
  replace qf := qf.alloc (.cells #[.int .i64 S, .bool E, .slice A1 m1 c1] 24)
  replace yo := yo.alloc (.cells #[.int .i64 S, .bool E, .slice A1 m1 c1] 24)
  have qo := Blk.newAt (b := w1.heap.size) w1 24 #[.int .i64 S, .bool E, .slice A1 m1 c1] rfl
  replace b0 := b0.alloc (.cells #[.int .i64 0, .bool false, .slice B1 n1 d1] 24)
  replace h := h.alloc (.cells #[.int .i64 0, .bool false, .slice B1 n1 d1] 24)
  replace hx := hx.alloc (.cells #[.int .i64 0, .bool false, .slice B1 n1 d1] 24)
  replace qb := qb.alloc (.cells #[.int .i64 0, .bool false, .slice B1 n1 d1] 24)
  replace qf := qf.alloc (.cells #[.int .i64 0, .bool false, .slice B1 n1 d1] 24)
  replace yo := yo.alloc (.cells #[.int .i64 0, .bool false, .slice B1 n1 d1] 24)
  replace qo := qo.alloc (.cells #[.int .i64 0, .bool false, .slice B1 n1 d1] 24)
  replace b0 := b0.alloc (.cells #[.bool true, .int .i64 0, .int .u32 1] 34)
  replace h := h.alloc (.cells #[.bool true, .int .i64 0, .int .u32 1] 34)
  replace hx := hx.alloc (.cells #[.bool true, .int .i64 0, .int .u32 1] 34)
  replace qb := qb.alloc (.cells #[.bool true, .int .i64 0, .int .u32 1] 34)
  replace qf := qf.alloc (.cells #[.bool true, .int .i64 0, .int .u32 1] 34)
  replace yo := yo.alloc (.cells #[.bool true, .int .i64 0, .int .u32 1] 34)
  replace qo := qo.alloc (.cells #[.bool true, .int .i64 0, .int .u32 1] 34)
  have qg := Blk.newAt (b := w1.heap.size + 1 + 1) ((w1.alloc (.cells #[.int .i64 S, .bool E, .slice A1 m1 c1] 24)).alloc (.cells #[.int .i64 0, .bool false, .slice B1 n1 d1] 24)) 34 #[.bool true, .int .i64 0, .int .u32 1] (by simp)
  have zqb0 := qb.at 0 rfl; have zqb1 := qb.at 1 rfl; have zqb2 := qb.at 2 rfl; have zqf0 := qf.at 0 rfl; have zqf1 := qf.at 1 rfl; have zqf2 := qf.at 2 rfl; have zqf3 := qf.at 3 rfl; have zqf4 := qf.at 4 rfl; have zqf5 := qf.at 5 rfl; have zqf6 := qf.at 6 rfl; have zqf7 := qf.at 7 rfl; have zqf8 := qf.at 8 rfl; have zqf9 := qf.at 9 rfl; have zqf10 := qf.at 10 rfl; have zqf11 := qf.at 11 rfl; have zqf12 := qf.at 12 rfl; have zqo0 := qo.at 0 rfl; have zqo1 := qo.at 1 rfl; have zqo2 := qo.at 2 rfl; have zqg0 := qg.at 0 rfl; have zqg1 := qg.at 1 rfl; have zqg2 := qg.at 2 rfl
  go_wp2_with (first | (go_at_call 14; (with_reducible refine (O1.out _).mono ?_); rintro e wo ⟨rfl, hb⟩; replace b0 := b0.below hb; replace h := h.below hb; replace hx := hx.below hb; replace qb := qb.below hb; replace qf := qf.below hb; replace yo := yo.below hb; replace qo := qo.below hb; replace qg := qg.below hb; have zqb0 := qb.at 0 rfl; have zqb1 := qb.at 1 rfl; have zqb2 := qb.at 2 rfl; have zqf0 := qf.at 0 rfl; have zqf1 := qf.at 1 rfl; have zqf2 := qf.at 2 rfl; have zqf3 := qf.at 3 rfl; have zqf4 := qf.at 4 rfl; have zqf5 := qf.at 5 rfl; have zqf6 := qf.at 6 rfl; have zqf7 := qf.at 7 rfl; have zqf8 := qf.at 8 rfl; have zqf9 := qf.at 9 rfl; have zqf10 := qf.at 10 rfl; have zqf11 := qf.at 11 rfl; have zqf12 := qf.at 12 rfl; have zqo0 := qo.at 0 rfl; have zqo1 := qo.at 1 rfl; have zqo2 := qo.at 2 rfl; have zqg0 := qg.at 0 rfl; have zqg1 := qg.at 1 rfl; have zqg2 := qg.at 2 rfl)  | (go_at_call 11; refine (rBSameE (sameB_self S E D) _ yo h).mono ?_; rintro e wo ⟨rfl, hb⟩; replace b0 := b0.below hb) | (go_at_call 8; refine (fWakes _).mono ?_; rintro e wk ⟨rfl, hb⟩; replace b0 := b0.below hb))
  go_ret
  exact ⟨rfl, b0.out⟩

set_option maxRecDepth 100000 in
set_option maxHeartbeats 4000000 in
theorem aloneOpen (S : Int) (E : Bool) (A : Option Addr) (n c : Nat) (D : List Int) (K F St : Int) (B : Option Addr) (m d : Nat) (X : List Int) (pd la ic cd : Int) (Pa : Option Addr) (Pn Pc : Nat) (rk al : Bool) (dp wt : Int) (W : World)
    (h : Byt W A n c D) (hx : Byt W B m d X) (g0 : m ≤ 5000) (g1 : n ≤ 5000) (hr : rightB S E D = true) (s0 : decide (St < 1) = false) (s1 : decide (2147483648 ≤ St) = false) (os : openB S = true) (ks : (K == 9) = false)
    (T : ∀ w, Byt w A n c D → Byt w B m d X → Calls Try.prog 9 #[.agg #[.int .i64 S, .bool E, .slice A n c], .agg #[.int .u8 K, .int .u8 F, .int .i64 St, .slice B m d, .int .i64 pd, .int .i64 la, .int .i64 ic, .int .u32 cd, .slice Pa Pn Pc, .bool rk, .bool al, .int .i64 dp, .int .u8 wt]] w (TakeP ⟨S, E, D, 0, false, [], false, true, 1, 0⟩ w)) :
    Calls Try.prog 5 #[.agg #[.int .i64 S, .bool E, .slice A n c], .agg #[.int .u8 K, .int .u8 F, .int .i64 St, .slice B m d, .int .i64 pd, .int .i64 la, .int .i64 ic, .int .u32 cd, .slice Pa Pn Pc, .bool rk, .bool al, .int .i64 dp, .int .u8 wt]] W fun e w' => e = .returned (.bool true) ∧ Below W.heap.size W w' := by
  have G0 := Lib.hid fun w => fGreatE (A := B) (n := m) (c := d) (b := false) (decide_eq_false (by omega)) (Nat.le_trans hx.cap hx.mx) w
  have G1 := Lib.hid fun w => fGreatE (A := A) (n := n) (c := c) (b := false) (decide_eq_false (by omega)) (Nat.le_trans h.cap h.mx) w
  have R1 : Hid (∀ w, Byt w A n c D → Calls Try.prog 13 #[.agg #[.int .i64 S, .bool E, .slice A n c]] w (BoolP true w)) := Lib.hid fun w h => by have := rBRight S E A n c D w h; rwa [hr] at this
  clear hr
  have T1 : Hid (∀ w, Byt w A n c D → Byt w B m d X → Calls Try.prog 9 #[.agg #[.int .i64 S, .bool E, .slice A n c], .agg #[.int .u8 K, .int .u8 F, .int .i64 St, .slice B m d, .int .i64 pd, .int .i64 la, .int .i64 ic, .int .u32 cd, .slice Pa Pn Pc, .bool rk, .bool al, .int .i64 dp, .int .u8 wt]] w fun e W' => ∃ A m c B n d, e = .returned (.tuple #[.agg #[.int .i64 S, .bool E, .slice A m c], .agg #[.int .i64 0, .bool false, .slice B n d], .bool false, .agg #[.bool true, .int .i64 0, .int .u32 1], .int .i64 0]) ∧ Mine w.heap.size W' A m c D ∧ Mine w.heap.size W' B n d [] ∧ Below w.heap.size w W') := Lib.hid T
  clear T
  have O1 := Lib.hid fun w => fBOpenE (E := E) (A := A) (n := n) (c := c) os w
  clear os
  have b0 := Bel.refl W
  replace b0 := b0.alloc (.cells #[.int .i64 S, .bool E, .slice A n c] 24)
  replace h := h.alloc (.cells #[.int .i64 S, .bool E, .slice A n c] 24)
  replace hx := hx.alloc (.cells #[.int .i64 S, .bool E, .slice A n c] 24)
  have qb := Blk.newAt (b := W.heap.size) W 24 #[.int .i64 S, .bool E, .slice A n c] rfl
  replace b0 := b0.alloc (.cells #[.int .u8 K, .int .u8 F, .int .i64 St, .slice B m d, .int .i64 pd, .int .i64 la, .int .i64 ic, .int .u32 cd, .slice Pa Pn Pc, .bool rk, .bool al, .int .i64 dp, .int .u8 wt] 30)
  replace h := h.alloc (.cells #[.int .u8 K, .int .u8 F, .int .i64 St, .slice B m d, .int .i64 pd, .int .i64 la, .int .i64 ic, .int .u32 cd, .slice Pa Pn Pc, .bool rk, .bool al, .int .i64 dp, .int .u8 wt] 30)
  replace hx := hx.alloc (.cells #[.int .u8 K, .int .u8 F, .int .i64 St, .slice B m d, .int .i64 pd, .int .i64 la, .int .i64 ic, .int .u32 cd, .slice Pa Pn Pc, .bool rk, .bool al, .int .i64 dp, .int .u8 wt] 30)
  replace qb := qb.alloc (.cells #[.int .u8 K, .int .u8 F, .int .i64 St, .slice B m d, .int .i64 pd, .int .i64 la, .int .i64 ic, .int .u32 cd, .slice Pa Pn Pc, .bool rk, .bool al, .int .i64 dp, .int .u8 wt] 30)
  have qf := Blk.newAt (b := W.heap.size + 1) (W.alloc (.cells #[.int .i64 S, .bool E, .slice A n c] 24)) 30 #[.int .u8 K, .int .u8 F, .int .i64 St, .slice B m d, .int .i64 pd, .int .i64 la, .int .i64 ic, .int .u32 cd, .slice Pa Pn Pc, .bool rk, .bool al, .int .i64 dp, .int .u8 wt] (by simp)
  have zqb0 := qb.at 0 rfl
  have zqb1 := qb.at 1 rfl
  have zqb2 := qb.at 2 rfl
  have zqf0 := qf.at 0 rfl
  have zqf1 := qf.at 1 rfl
  have zqf2 := qf.at 2 rfl
  have zqf3 := qf.at 3 rfl
  have zqf4 := qf.at 4 rfl
  have zqf5 := qf.at 5 rfl
  have zqf6 := qf.at 6 rfl
  have zqf7 := qf.at 7 rfl
  have zqf8 := qf.at 8 rfl
  have zqf9 := qf.at 9 rfl
  have zqf10 := qf.at 10 rfl
  have zqf11 := qf.at 11 rfl
  have zqf12 := qf.at 12 rfl
  go_enter Try.func5, Try.ntmps5
  go_wp2_with (first | (go_at_call 7; (with_reducible refine (G0.out _).mono ?_); rintro e w1 ⟨rfl, rfl⟩) | (go_at_call 7; (with_reducible refine (G1.out _).mono ?_); rintro e w1 ⟨rfl, rfl⟩) | (go_at_call 13; refine (R1.out _ h).mono ?_; rintro e wr ⟨rfl, hb⟩; replace b0 := b0.below hb; replace h := h.below hb; replace hx := hx.below hb; replace qb := qb.below hb; replace qf := qf.below hb; have zqb0 := qb.at 0 rfl; have zqb1 := qb.at 1 rfl; have zqb2 := qb.at 2 rfl; have zqf0 := qf.at 0 rfl; have zqf1 := qf.at 1 rfl; have zqf2 := qf.at 2 rfl; have zqf3 := qf.at 3 rfl; have zqf4 := qf.at 4 rfl; have zqf5 := qf.at 5 rfl; have zqf6 := qf.at 6 rfl; have zqf7 := qf.at 7 rfl; have zqf8 := qf.at 8 rfl; have zqf9 := qf.at 9 rfl; have zqf10 := qf.at 10 rfl; have zqf11 := qf.at 11 rfl; have zqf12 := qf.at 12 rfl; have yr := h))
  refine (T1.out _ yr hx).mono ?_
  rintro e w1 ⟨A1, m1, c1, B1, n1, d1, rfl, mo, mw, hb⟩
  clear yr
  replace b0 := (b0).below hb; replace h := (h).below hb; replace hx := (hx).below hb; replace qb := (qb).below hb; replace qf := (qf).below hb
  have yo := mo.byt
  clear mo mw
  replace b0 := b0.alloc (.cells #[.int .i64 S, .bool E, .slice A1 m1 c1] 24)
  replace h := h.alloc (.cells #[.int .i64 S, .bool E, .slice A1 m1 c1] 24)
  replace hx := hx.alloc (.cells #[.int .i64 S, .bool E, .slice A1 m1 c1] 24)
  replace qb := qb.alloc (.cells #[.int .i64 S, .bool E, .slice A1 m1 c1] 24)
  replace qf := qf.alloc (.cells #[.int .i64 S, .bool E, .slice A1 m1 c1] 24)
  replace yo := yo.alloc (.cells #[.int .i64 S, .bool E, .slice A1 m1 c1] 24)
  have qo := Blk.newAt (b := w1.heap.size) w1 24 #[.int .i64 S, .bool E, .slice A1 m1 c1] rfl
  replace b0 := b0.alloc (.cells #[.int .i64 0, .bool false, .slice B1 n1 d1] 24)
  replace h := h.alloc (.cells #[.int .i64 0, .bool false, .slice B1 n1 d1] 24)
  replace hx := hx.alloc (.cells #[.int .i64 0, .bool false, .slice B1 n1 d1] 24)
  replace qb := qb.alloc (.cells #[.int .i64 0, .bool false, .slice B1 n1 d1] 24)
  replace qf := qf.alloc (.cells #[.int .i64 0, .bool false, .slice B1 n1 d1] 24)
  replace yo := yo.alloc (.cells #[.int .i64 0, .bool false, .slice B1 n1 d1] 24)
  replace qo := qo.alloc (.cells #[.int .i64 0, .bool false, .slice B1 n1 d1] 24)
  replace b0 := b0.alloc (.cells #[.bool true, .int .i64 0, .int .u32 1] 34)
  replace h := h.alloc (.cells #[.bool true, .int .i64 0, .int .u32 1] 34)
  replace hx := hx.alloc (.cells #[.bool true, .int .i64 0, .int .u32 1] 34)
  replace qb := qb.alloc (.cells #[.bool true, .int .i64 0, .int .u32 1] 34)
  replace qf := qf.alloc (.cells #[.bool true, .int .i64 0, .int .u32 1] 34)
  replace yo := yo.alloc (.cells #[.bool true, .int .i64 0, .int .u32 1] 34)
  replace qo := qo.alloc (.cells #[.bool true, .int .i64 0, .int .u32 1] 34)
  have qg := Blk.newAt (b := w1.heap.size + 1 + 1) ((w1.alloc (.cells #[.int .i64 S, .bool E, .slice A1 m1 c1] 24)).alloc (.cells #[.int .i64 0, .bool false, .slice B1 n1 d1] 24)) 34 #[.bool true, .int .i64 0, .int .u32 1] (by simp)
  have zqb0 := qb.at 0 rfl; have zqb1 := qb.at 1 rfl; have zqb2 := qb.at 2 rfl; have zqf0 := qf.at 0 rfl; have zqf1 := qf.at 1 rfl; have zqf2 := qf.at 2 rfl; have zqf3 := qf.at 3 rfl; have zqf4 := qf.at 4 rfl; have zqf5 := qf.at 5 rfl; have zqf6 := qf.at 6 rfl; have zqf7 := qf.at 7 rfl; have zqf8 := qf.at 8 rfl; have zqf9 := qf.at 9 rfl; have zqf10 := qf.at 10 rfl; have zqf11 := qf.at 11 rfl; have zqf12 := qf.at 12 rfl; have zqo0 := qo.at 0 rfl; have zqo1 := qo.at 1 rfl; have zqo2 := qo.at 2 rfl; have zqg0 := qg.at 0 rfl; have zqg1 := qg.at 1 rfl; have zqg2 := qg.at 2 rfl
  go_wp2_with (first | (go_at_call 14; (with_reducible refine (O1.out _).mono ?_); rintro e wo ⟨rfl, hb⟩; replace b0 := b0.below hb; replace h := h.below hb; replace hx := hx.below hb; replace qb := qb.below hb; replace qf := qf.below hb; replace yo := yo.below hb; replace qo := qo.below hb; replace qg := qg.below hb; have zqb0 := qb.at 0 rfl; have zqb1 := qb.at 1 rfl; have zqb2 := qb.at 2 rfl; have zqf0 := qf.at 0 rfl; have zqf1 := qf.at 1 rfl; have zqf2 := qf.at 2 rfl; have zqf3 := qf.at 3 rfl; have zqf4 := qf.at 4 rfl; have zqf5 := qf.at 5 rfl; have zqf6 := qf.at 6 rfl; have zqf7 := qf.at 7 rfl; have zqf8 := qf.at 8 rfl; have zqf9 := qf.at 9 rfl; have zqf10 := qf.at 10 rfl; have zqf11 := qf.at 11 rfl; have zqf12 := qf.at 12 rfl; have zqo0 := qo.at 0 rfl; have zqo1 := qo.at 1 rfl; have zqo2 := qo.at 2 rfl; have zqg0 := qg.at 0 rfl; have zqg1 := qg.at 1 rfl; have zqg2 := qg.at 2 rfl)  | (go_at_call 11; refine (rBSameE (sameB_self S E D) _ yo h).mono ?_; rintro e wo ⟨rfl, hb⟩; replace b0 := b0.below hb) | (go_at_call 8; refine (fWakes _).mono ?_; rintro e wk ⟨rfl, hb⟩; replace b0 := b0.below hb))
  go_ret
  exact ⟨rfl, b0.out⟩

set_option maxRecDepth 100000 in
set_option maxHeartbeats 4000000 in
theorem aloneBegMany (S : Int) (E : Bool) (A : Option Addr) (n c : Nat) (D : List Int) (F St : Int) (B : Option Addr) (m d : Nat) (X : List Int) (pd la ic cd : Int) (Pa : Option Addr) (Pn Pc : Nat) (rk al : Bool) (dp wt : Int) (W : World)
    (h : Byt W A n c D) (hx : Byt W B m d X) (g0 : m ≤ 5000) (g1 : n ≤ 5000) (hr : rightB S E D = true) (s0 : decide (St < 1) = false) (s1 : decide (2147483648 ≤ St) = false) (os : openB S = false)
    (T : ∀ w, Byt w A n c D → Byt w B m d X → Calls Try.prog 9 #[.agg #[.int .i64 S, .bool E, .slice A n c], .agg #[.int .u8 1, .int .u8 F, .int .i64 St, .slice B m d, .int .i64 pd, .int .i64 la, .int .i64 ic, .int .u32 cd, .slice Pa Pn Pc, .bool rk, .bool al, .int .i64 dp, .int .u8 wt]] w (TakeP ⟨S, E, D, 0, false, [], false, true, 11, 0⟩ w)) :
    Calls Try.prog 5 #[.agg #[.int .i64 S, .bool E, .slice A n c], .agg #[.int .u8 1, .int .u8 F, .int .i64 St, .slice B m d, .int .i64 pd, .int .i64 la, .int .i64 ic, .int .u32 cd, .slice Pa Pn Pc, .bool rk, .bool al, .int .i64 dp, .int .u8 wt]] W fun e w' => e = .returned (.bool true) ∧ Below W.heap.size W w' := by
  have G0 := Lib.hid fun w => fGreatE (A := B) (n := m) (c := d) (b := false) (decide_eq_false (by omega)) (Nat.le_trans hx.cap hx.mx) w
  have G1 := Lib.hid fun w => fGreatE (A := A) (n := n) (c := c) (b := false) (decide_eq_false (by omega)) (Nat.le_trans h.cap h.mx) w
  have R1 : Hid (∀ w, Byt w A n c D → Calls Try.prog 13 #[.agg #[.int .i64 S, .bool E, .slice A n c]] w (BoolP true w)) := Lib.hid fun w h => by have := rBRight S E A n c D w h; rwa [hr] at this
  clear hr
  have T1 : Hid (∀ w, Byt w A n c D → Byt w B m d X → Calls Try.prog 9 #[.agg #[.int .i64 S, .bool E, .slice A n c], .agg #[.int .u8 1, .int .u8 F, .int .i64 St, .slice B m d, .int .i64 pd, .int .i64 la, .int .i64 ic, .int .u32 cd, .slice Pa Pn Pc, .bool rk, .bool al, .int .i64 dp, .int .u8 wt]] w fun e W' => ∃ A m c B n d, e = .returned (.tuple #[.agg #[.int .i64 S, .bool E, .slice A m c], .agg #[.int .i64 0, .bool false, .slice B n d], .bool false, .agg #[.bool true, .int .i64 0, .int .u32 11], .int .i64 0]) ∧ Mine w.heap.size W' A m c D ∧ Mine w.heap.size W' B n d [] ∧ Below w.heap.size w W') := Lib.hid T
  clear T
  have O1 := Lib.hid fun w => fBOpenE (E := E) (A := A) (n := n) (c := c) os w
  clear os
  have b0 := Bel.refl W
  replace b0 := b0.alloc (.cells #[.int .i64 S, .bool E, .slice A n c] 24)
  replace h := h.alloc (.cells #[.int .i64 S, .bool E, .slice A n c] 24)
  replace hx := hx.alloc (.cells #[.int .i64 S, .bool E, .slice A n c] 24)
  have qb := Blk.newAt (b := W.heap.size) W 24 #[.int .i64 S, .bool E, .slice A n c] rfl
  replace b0 := b0.alloc (.cells #[.int .u8 1, .int .u8 F, .int .i64 St, .slice B m d, .int .i64 pd, .int .i64 la, .int .i64 ic, .int .u32 cd, .slice Pa Pn Pc, .bool rk, .bool al, .int .i64 dp, .int .u8 wt] 30)
  replace h := h.alloc (.cells #[.int .u8 1, .int .u8 F, .int .i64 St, .slice B m d, .int .i64 pd, .int .i64 la, .int .i64 ic, .int .u32 cd, .slice Pa Pn Pc, .bool rk, .bool al, .int .i64 dp, .int .u8 wt] 30)
  replace hx := hx.alloc (.cells #[.int .u8 1, .int .u8 F, .int .i64 St, .slice B m d, .int .i64 pd, .int .i64 la, .int .i64 ic, .int .u32 cd, .slice Pa Pn Pc, .bool rk, .bool al, .int .i64 dp, .int .u8 wt] 30)
  replace qb := qb.alloc (.cells #[.int .u8 1, .int .u8 F, .int .i64 St, .slice B m d, .int .i64 pd, .int .i64 la, .int .i64 ic, .int .u32 cd, .slice Pa Pn Pc, .bool rk, .bool al, .int .i64 dp, .int .u8 wt] 30)
  have qf := Blk.newAt (b := W.heap.size + 1) (W.alloc (.cells #[.int .i64 S, .bool E, .slice A n c] 24)) 30 #[.int .u8 1, .int .u8 F, .int .i64 St, .slice B m d, .int .i64 pd, .int .i64 la, .int .i64 ic, .int .u32 cd, .slice Pa Pn Pc, .bool rk, .bool al, .int .i64 dp, .int .u8 wt] (by simp)
  have zqb0 := qb.at 0 rfl
  have zqb1 := qb.at 1 rfl
  have zqb2 := qb.at 2 rfl
  have zqf0 := qf.at 0 rfl
  have zqf1 := qf.at 1 rfl
  have zqf2 := qf.at 2 rfl
  have zqf3 := qf.at 3 rfl
  have zqf4 := qf.at 4 rfl
  have zqf5 := qf.at 5 rfl
  have zqf6 := qf.at 6 rfl
  have zqf7 := qf.at 7 rfl
  have zqf8 := qf.at 8 rfl
  have zqf9 := qf.at 9 rfl
  have zqf10 := qf.at 10 rfl
  have zqf11 := qf.at 11 rfl
  have zqf12 := qf.at 12 rfl
  go_enter Try.func5, Try.ntmps5
  go_wp2_with (first | (go_at_call 7; (with_reducible refine (G0.out _).mono ?_); rintro e w1 ⟨rfl, rfl⟩) | (go_at_call 7; (with_reducible refine (G1.out _).mono ?_); rintro e w1 ⟨rfl, rfl⟩) | (go_at_call 13; refine (R1.out _ h).mono ?_; rintro e wr ⟨rfl, hb⟩; replace b0 := b0.below hb; replace h := h.below hb; replace hx := hx.below hb; replace qb := qb.below hb; replace qf := qf.below hb; have zqb0 := qb.at 0 rfl; have zqb1 := qb.at 1 rfl; have zqb2 := qb.at 2 rfl; have zqf0 := qf.at 0 rfl; have zqf1 := qf.at 1 rfl; have zqf2 := qf.at 2 rfl; have zqf3 := qf.at 3 rfl; have zqf4 := qf.at 4 rfl; have zqf5 := qf.at 5 rfl; have zqf6 := qf.at 6 rfl; have zqf7 := qf.at 7 rfl; have zqf8 := qf.at 8 rfl; have zqf9 := qf.at 9 rfl; have zqf10 := qf.at 10 rfl; have zqf11 := qf.at 11 rfl; have zqf12 := qf.at 12 rfl; have yr := h))
  refine (T1.out _ yr hx).mono ?_
  rintro e w1 ⟨A1, m1, c1, B1, n1, d1, rfl, mo, mw, hb⟩
  clear yr
  replace b0 := (b0).below hb; replace h := (h).below hb; replace hx := (hx).below hb; replace qb := (qb).below hb; replace qf := (qf).below hb
  have yo := mo.byt
  clear mo mw
  replace b0 := b0.alloc (.cells #[.int .i64 S, .bool E, .slice A1 m1 c1] 24)
  replace h := h.alloc (.cells #[.int .i64 S, .bool E, .slice A1 m1 c1] 24)
  replace hx := hx.alloc (.cells #[.int .i64 S, .bool E, .slice A1 m1 c1] 24)
  replace qb := qb.alloc (.cells #[.int .i64 S, .bool E, .slice A1 m1 c1] 24)
  replace qf := qf.alloc (.cells #[.int .i64 S, .bool E, .slice A1 m1 c1] 24)
  replace yo := yo.alloc (.cells #[.int .i64 S, .bool E, .slice A1 m1 c1] 24)
  have qo := Blk.newAt (b := w1.heap.size) w1 24 #[.int .i64 S, .bool E, .slice A1 m1 c1] rfl
  replace b0 := b0.alloc (.cells #[.int .i64 0, .bool false, .slice B1 n1 d1] 24)
  replace h := h.alloc (.cells #[.int .i64 0, .bool false, .slice B1 n1 d1] 24)
  replace hx := hx.alloc (.cells #[.int .i64 0, .bool false, .slice B1 n1 d1] 24)
  replace qb := qb.alloc (.cells #[.int .i64 0, .bool false, .slice B1 n1 d1] 24)
  replace qf := qf.alloc (.cells #[.int .i64 0, .bool false, .slice B1 n1 d1] 24)
  replace yo := yo.alloc (.cells #[.int .i64 0, .bool false, .slice B1 n1 d1] 24)
  replace qo := qo.alloc (.cells #[.int .i64 0, .bool false, .slice B1 n1 d1] 24)
  replace b0 := b0.alloc (.cells #[.bool true, .int .i64 0, .int .u32 11] 34)
  replace h := h.alloc (.cells #[.bool true, .int .i64 0, .int .u32 11] 34)
  replace hx := hx.alloc (.cells #[.bool true, .int .i64 0, .int .u32 11] 34)
  replace qb := qb.alloc (.cells #[.bool true, .int .i64 0, .int .u32 11] 34)
  replace qf := qf.alloc (.cells #[.bool true, .int .i64 0, .int .u32 11] 34)
  replace yo := yo.alloc (.cells #[.bool true, .int .i64 0, .int .u32 11] 34)
  replace qo := qo.alloc (.cells #[.bool true, .int .i64 0, .int .u32 11] 34)
  have qg := Blk.newAt (b := w1.heap.size + 1 + 1) ((w1.alloc (.cells #[.int .i64 S, .bool E, .slice A1 m1 c1] 24)).alloc (.cells #[.int .i64 0, .bool false, .slice B1 n1 d1] 24)) 34 #[.bool true, .int .i64 0, .int .u32 11] (by simp)
  have zqb0 := qb.at 0 rfl; have zqb1 := qb.at 1 rfl; have zqb2 := qb.at 2 rfl; have zqf0 := qf.at 0 rfl; have zqf1 := qf.at 1 rfl; have zqf2 := qf.at 2 rfl; have zqf3 := qf.at 3 rfl; have zqf4 := qf.at 4 rfl; have zqf5 := qf.at 5 rfl; have zqf6 := qf.at 6 rfl; have zqf7 := qf.at 7 rfl; have zqf8 := qf.at 8 rfl; have zqf9 := qf.at 9 rfl; have zqf10 := qf.at 10 rfl; have zqf11 := qf.at 11 rfl; have zqf12 := qf.at 12 rfl; have zqo0 := qo.at 0 rfl; have zqo1 := qo.at 1 rfl; have zqo2 := qo.at 2 rfl; have zqg0 := qg.at 0 rfl; have zqg1 := qg.at 1 rfl; have zqg2 := qg.at 2 rfl
  go_wp2_with (first | (go_at_call 14; (with_reducible refine (O1.out _).mono ?_); rintro e wo ⟨rfl, hb⟩; replace b0 := b0.below hb; replace h := h.below hb; replace hx := hx.below hb; replace qb := qb.below hb; replace qf := qf.below hb; replace yo := yo.below hb; replace qo := qo.below hb; replace qg := qg.below hb; have zqb0 := qb.at 0 rfl; have zqb1 := qb.at 1 rfl; have zqb2 := qb.at 2 rfl; have zqf0 := qf.at 0 rfl; have zqf1 := qf.at 1 rfl; have zqf2 := qf.at 2 rfl; have zqf3 := qf.at 3 rfl; have zqf4 := qf.at 4 rfl; have zqf5 := qf.at 5 rfl; have zqf6 := qf.at 6 rfl; have zqf7 := qf.at 7 rfl; have zqf8 := qf.at 8 rfl; have zqf9 := qf.at 9 rfl; have zqf10 := qf.at 10 rfl; have zqf11 := qf.at 11 rfl; have zqf12 := qf.at 12 rfl; have zqo0 := qo.at 0 rfl; have zqo1 := qo.at 1 rfl; have zqo2 := qo.at 2 rfl; have zqg0 := qg.at 0 rfl; have zqg1 := qg.at 1 rfl; have zqg2 := qg.at 2 rfl)  | (go_at_call 11; refine (rBSameE (sameB_self S E D) _ yo h).mono ?_; rintro e wo ⟨rfl, hb⟩; replace b0 := b0.below hb) | (go_at_call 8; refine (fWakes _).mono ?_; rintro e wk ⟨rfl, hb⟩; replace b0 := b0.below hb))
  go_ret
  exact ⟨rfl, b0.out⟩

set_option maxRecDepth 100000 in
set_option maxHeartbeats 4000000 in
theorem aloneBegDone (S : Int) (E : Bool) (A : Option Addr) (n c : Nat) (D : List Int) (F St : Int) (B : Option Addr) (m d : Nat) (X : List Int) (pd la ic cd : Int) (Pa : Option Addr) (Pn Pc : Nat) (rk al : Bool) (dp wt : Int) (W : World)
    (h : Byt W A n c D) (hx : Byt W B m d X) (g0 : m ≤ 5000) (g1 : n ≤ 5000) (hr : rightB S E D = true) (s0 : decide (St < 1) = false) (s1 : decide (2147483648 ≤ St) = false) (os : openB S = false) (E2 : Bool) (g4 : (bits .and .u8 F 4 != 0) = true)
    (T : ∀ w, Byt w A n c D → Byt w B m d X → Calls Try.prog 9 #[.agg #[.int .i64 S, .bool E, .slice A n c], .agg #[.int .u8 1, .int .u8 F, .int .i64 St, .slice B m d, .int .i64 pd, .int .i64 la, .int .i64 ic, .int .u32 cd, .slice Pa Pn Pc, .bool rk, .bool al, .int .i64 dp, .int .u8 wt]] w (TakeP ⟨0, false, [], St, E2, X, true, false, 0, 0⟩ w)) :
    Calls Try.prog 5 #[.agg #[.int .i64 S, .bool E, .slice A n c], .agg #[.int .u8 1, .int .u8 F, .int .i64 St, .slice B m d, .int .i64 pd, .int .i64 la, .int .i64 ic, .int .u32 cd, .slice Pa Pn Pc, .bool rk, .bool al, .int .i64 dp, .int .u8 wt]] W fun e w' => e = .returned (.bool true) ∧ Below W.heap.size W w' := by
  have G0 := Lib.hid fun w => fGreatE (A := B) (n := m) (c := d) (b := false) (decide_eq_false (by omega)) (Nat.le_trans hx.cap hx.mx) w
  have G1 := Lib.hid fun w => fGreatE (A := A) (n := n) (c := c) (b := false) (decide_eq_false (by omega)) (Nat.le_trans h.cap h.mx) w
  have R1 : Hid (∀ w, Byt w A n c D → Calls Try.prog 13 #[.agg #[.int .i64 S, .bool E, .slice A n c]] w (BoolP true w)) := Lib.hid fun w h => by have := rBRight S E A n c D w h; rwa [hr] at this
  clear hr
  have T1 : Hid (∀ w, Byt w A n c D → Byt w B m d X → Calls Try.prog 9 #[.agg #[.int .i64 S, .bool E, .slice A n c], .agg #[.int .u8 1, .int .u8 F, .int .i64 St, .slice B m d, .int .i64 pd, .int .i64 la, .int .i64 ic, .int .u32 cd, .slice Pa Pn Pc, .bool rk, .bool al, .int .i64 dp, .int .u8 wt]] w fun e W' => ∃ A m c B n d, e = .returned (.tuple #[.agg #[.int .i64 0, .bool false, .slice A m c], .agg #[.int .i64 St, .bool E2, .slice B n d], .bool true, .agg #[.bool false, .int .i64 0, .int .u32 0], .int .i64 0]) ∧ Mine w.heap.size W' A m c [] ∧ Mine w.heap.size W' B n d X ∧ Below w.heap.size w W') := Lib.hid T
  clear T
  have O1 := Lib.hid fun w => fBOpenE (E := E) (A := A) (n := n) (c := c) os w
  clear os
  have b0 := Bel.refl W
  replace b0 := b0.alloc (.cells #[.int .i64 S, .bool E, .slice A n c] 24)
  replace h := h.alloc (.cells #[.int .i64 S, .bool E, .slice A n c] 24)
  replace hx := hx.alloc (.cells #[.int .i64 S, .bool E, .slice A n c] 24)
  have qb := Blk.newAt (b := W.heap.size) W 24 #[.int .i64 S, .bool E, .slice A n c] rfl
  replace b0 := b0.alloc (.cells #[.int .u8 1, .int .u8 F, .int .i64 St, .slice B m d, .int .i64 pd, .int .i64 la, .int .i64 ic, .int .u32 cd, .slice Pa Pn Pc, .bool rk, .bool al, .int .i64 dp, .int .u8 wt] 30)
  replace h := h.alloc (.cells #[.int .u8 1, .int .u8 F, .int .i64 St, .slice B m d, .int .i64 pd, .int .i64 la, .int .i64 ic, .int .u32 cd, .slice Pa Pn Pc, .bool rk, .bool al, .int .i64 dp, .int .u8 wt] 30)
  replace hx := hx.alloc (.cells #[.int .u8 1, .int .u8 F, .int .i64 St, .slice B m d, .int .i64 pd, .int .i64 la, .int .i64 ic, .int .u32 cd, .slice Pa Pn Pc, .bool rk, .bool al, .int .i64 dp, .int .u8 wt] 30)
  replace qb := qb.alloc (.cells #[.int .u8 1, .int .u8 F, .int .i64 St, .slice B m d, .int .i64 pd, .int .i64 la, .int .i64 ic, .int .u32 cd, .slice Pa Pn Pc, .bool rk, .bool al, .int .i64 dp, .int .u8 wt] 30)
  have qf := Blk.newAt (b := W.heap.size + 1) (W.alloc (.cells #[.int .i64 S, .bool E, .slice A n c] 24)) 30 #[.int .u8 1, .int .u8 F, .int .i64 St, .slice B m d, .int .i64 pd, .int .i64 la, .int .i64 ic, .int .u32 cd, .slice Pa Pn Pc, .bool rk, .bool al, .int .i64 dp, .int .u8 wt] (by simp)
  have zqb0 := qb.at 0 rfl
  have zqb1 := qb.at 1 rfl
  have zqb2 := qb.at 2 rfl
  have zqf0 := qf.at 0 rfl
  have zqf1 := qf.at 1 rfl
  have zqf2 := qf.at 2 rfl
  have zqf3 := qf.at 3 rfl
  have zqf4 := qf.at 4 rfl
  have zqf5 := qf.at 5 rfl
  have zqf6 := qf.at 6 rfl
  have zqf7 := qf.at 7 rfl
  have zqf8 := qf.at 8 rfl
  have zqf9 := qf.at 9 rfl
  have zqf10 := qf.at 10 rfl
  have zqf11 := qf.at 11 rfl
  have zqf12 := qf.at 12 rfl
  go_enter Try.func5, Try.ntmps5
  go_wp2_with (first | (go_at_call 7; (with_reducible refine (G0.out _).mono ?_); rintro e w1 ⟨rfl, rfl⟩) | (go_at_call 7; (with_reducible refine (G1.out _).mono ?_); rintro e w1 ⟨rfl, rfl⟩) | (go_at_call 13; refine (R1.out _ h).mono ?_; rintro e wr ⟨rfl, hb⟩; replace b0 := b0.below hb; replace h := h.below hb; replace hx := hx.below hb; replace qb := qb.below hb; replace qf := qf.below hb; have zqb0 := qb.at 0 rfl; have zqb1 := qb.at 1 rfl; have zqb2 := qb.at 2 rfl; have zqf0 := qf.at 0 rfl; have zqf1 := qf.at 1 rfl; have zqf2 := qf.at 2 rfl; have zqf3 := qf.at 3 rfl; have zqf4 := qf.at 4 rfl; have zqf5 := qf.at 5 rfl; have zqf6 := qf.at 6 rfl; have zqf7 := qf.at 7 rfl; have zqf8 := qf.at 8 rfl; have zqf9 := qf.at 9 rfl; have zqf10 := qf.at 10 rfl; have zqf11 := qf.at 11 rfl; have zqf12 := qf.at 12 rfl; have yr := h))
  refine (T1.out _ yr hx).mono ?_
  rintro e w1 ⟨A1, m1, c1, B1, n1, d1, rfl, mo, mw, hb⟩
  clear yr
  replace b0 := (b0).below hb; replace h := (h).below hb; replace hx := (hx).below hb; replace qb := (qb).below hb; replace qf := (qf).below hb
  have yo := mo.byt
  clear mo mw
  replace b0 := b0.alloc (.cells #[.int .i64 0, .bool false, .slice A1 m1 c1] 24)
  replace h := h.alloc (.cells #[.int .i64 0, .bool false, .slice A1 m1 c1] 24)
  replace hx := hx.alloc (.cells #[.int .i64 0, .bool false, .slice A1 m1 c1] 24)
  replace qb := qb.alloc (.cells #[.int .i64 0, .bool false, .slice A1 m1 c1] 24)
  replace qf := qf.alloc (.cells #[.int .i64 0, .bool false, .slice A1 m1 c1] 24)
  replace yo := yo.alloc (.cells #[.int .i64 0, .bool false, .slice A1 m1 c1] 24)
  have qo := Blk.newAt (b := w1.heap.size) w1 24 #[.int .i64 0, .bool false, .slice A1 m1 c1] rfl
  replace b0 := b0.alloc (.cells #[.int .i64 St, .bool E2, .slice B1 n1 d1] 24)
  replace h := h.alloc (.cells #[.int .i64 St, .bool E2, .slice B1 n1 d1] 24)
  replace hx := hx.alloc (.cells #[.int .i64 St, .bool E2, .slice B1 n1 d1] 24)
  replace qb := qb.alloc (.cells #[.int .i64 St, .bool E2, .slice B1 n1 d1] 24)
  replace qf := qf.alloc (.cells #[.int .i64 St, .bool E2, .slice B1 n1 d1] 24)
  replace yo := yo.alloc (.cells #[.int .i64 St, .bool E2, .slice B1 n1 d1] 24)
  replace qo := qo.alloc (.cells #[.int .i64 St, .bool E2, .slice B1 n1 d1] 24)
  replace b0 := b0.alloc (.cells #[.bool false, .int .i64 0, .int .u32 0] 34)
  replace h := h.alloc (.cells #[.bool false, .int .i64 0, .int .u32 0] 34)
  replace hx := hx.alloc (.cells #[.bool false, .int .i64 0, .int .u32 0] 34)
  replace qb := qb.alloc (.cells #[.bool false, .int .i64 0, .int .u32 0] 34)
  replace qf := qf.alloc (.cells #[.bool false, .int .i64 0, .int .u32 0] 34)
  replace yo := yo.alloc (.cells #[.bool false, .int .i64 0, .int .u32 0] 34)
  replace qo := qo.alloc (.cells #[.bool false, .int .i64 0, .int .u32 0] 34)
  have qg := Blk.newAt (b := w1.heap.size + 1 + 1) ((w1.alloc (.cells #[.int .i64 0, .bool false, .slice A1 m1 c1] 24)).alloc (.cells #[.int .i64 St, .bool E2, .slice B1 n1 d1] 24)) 34 #[.bool false, .int .i64 0, .int .u32 0] (by simp)
  have zqb0 := qb.at 0 rfl; have zqb1 := qb.at 1 rfl; have zqb2 := qb.at 2 rfl; have zqf0 := qf.at 0 rfl; have zqf1 := qf.at 1 rfl; have zqf2 := qf.at 2 rfl; have zqf3 := qf.at 3 rfl; have zqf4 := qf.at 4 rfl; have zqf5 := qf.at 5 rfl; have zqf6 := qf.at 6 rfl; have zqf7 := qf.at 7 rfl; have zqf8 := qf.at 8 rfl; have zqf9 := qf.at 9 rfl; have zqf10 := qf.at 10 rfl; have zqf11 := qf.at 11 rfl; have zqf12 := qf.at 12 rfl; have zqo0 := qo.at 0 rfl; have zqo1 := qo.at 1 rfl; have zqo2 := qo.at 2 rfl; have zqg0 := qg.at 0 rfl; have zqg1 := qg.at 1 rfl; have zqg2 := qg.at 2 rfl
  go_wp2_with (first | (go_at_call 14; (with_reducible refine (O1.out _).mono ?_); rintro e wo ⟨rfl, hb⟩; replace b0 := b0.below hb; replace h := h.below hb; replace hx := hx.below hb; replace qb := qb.below hb; replace qf := qf.below hb; replace yo := yo.below hb; replace qo := qo.below hb; replace qg := qg.below hb; have zqb0 := qb.at 0 rfl; have zqb1 := qb.at 1 rfl; have zqb2 := qb.at 2 rfl; have zqf0 := qf.at 0 rfl; have zqf1 := qf.at 1 rfl; have zqf2 := qf.at 2 rfl; have zqf3 := qf.at 3 rfl; have zqf4 := qf.at 4 rfl; have zqf5 := qf.at 5 rfl; have zqf6 := qf.at 6 rfl; have zqf7 := qf.at 7 rfl; have zqf8 := qf.at 8 rfl; have zqf9 := qf.at 9 rfl; have zqf10 := qf.at 10 rfl; have zqf11 := qf.at 11 rfl; have zqf12 := qf.at 12 rfl; have zqo0 := qo.at 0 rfl; have zqo1 := qo.at 1 rfl; have zqo2 := qo.at 2 rfl; have zqg0 := qg.at 0 rfl; have zqg1 := qg.at 1 rfl; have zqg2 := qg.at 2 rfl) | (go_at_call 14; (with_reducible refine (fBOpenE (S := 0) (b := false) (by decide) _).mono ?_); rintro e wo ⟨rfl, hb⟩; replace b0 := b0.below hb)  | (go_at_call 8; refine (fWakes _).mono ?_; rintro e wk ⟨rfl, hb⟩; replace b0 := b0.below hb))
  go_ret
  exact ⟨rfl, b0.out⟩

set_option maxRecDepth 100000 in
set_option maxHeartbeats 4000000 in
theorem aloneBegOpen (S : Int) (E : Bool) (A : Option Addr) (n c : Nat) (D : List Int) (F St : Int) (B : Option Addr) (m d : Nat) (X : List Int) (pd la ic cd : Int) (Pa : Option Addr) (Pn Pc : Nat) (rk al : Bool) (dp wt : Int) (W : World)
    (h : Byt W A n c D) (hx : Byt W B m d X) (g0 : m ≤ 5000) (g1 : n ≤ 5000) (hr : rightB S E D = true) (s0 : decide (St < 1) = false) (s1 : decide (2147483648 ≤ St) = false) (os : openB S = false) (E2 : Bool) (ot : openB St = true) (g4 : (bits .and .u8 F 4 != 0) = false)
    (T : ∀ w, Byt w A n c D → Byt w B m d X → Calls Try.prog 9 #[.agg #[.int .i64 S, .bool E, .slice A n c], .agg #[.int .u8 1, .int .u8 F, .int .i64 St, .slice B m d, .int .i64 pd, .int .i64 la, .int .i64 ic, .int .u32 cd, .slice Pa Pn Pc, .bool rk, .bool al, .int .i64 dp, .int .u8 wt]] w (TakeP ⟨St, E2, X, 0, false, [], false, false, 0, 0⟩ w)) :
    Calls Try.prog 5 #[.agg #[.int .i64 S, .bool E, .slice A n c], .agg #[.int .u8 1, .int .u8 F, .int .i64 St, .slice B m d, .int .i64 pd, .int .i64 la, .int .i64 ic, .int .u32 cd, .slice Pa Pn Pc, .bool rk, .bool al, .int .i64 dp, .int .u8 wt]] W fun e w' => e = .returned (.bool true) ∧ Below W.heap.size W w' := by
  have G0 := Lib.hid fun w => fGreatE (A := B) (n := m) (c := d) (b := false) (decide_eq_false (by omega)) (Nat.le_trans hx.cap hx.mx) w
  have G1 := Lib.hid fun w => fGreatE (A := A) (n := n) (c := c) (b := false) (decide_eq_false (by omega)) (Nat.le_trans h.cap h.mx) w
  have R1 : Hid (∀ w, Byt w A n c D → Calls Try.prog 13 #[.agg #[.int .i64 S, .bool E, .slice A n c]] w (BoolP true w)) := Lib.hid fun w h => by have := rBRight S E A n c D w h; rwa [hr] at this
  clear hr
  have T1 : Hid (∀ w, Byt w A n c D → Byt w B m d X → Calls Try.prog 9 #[.agg #[.int .i64 S, .bool E, .slice A n c], .agg #[.int .u8 1, .int .u8 F, .int .i64 St, .slice B m d, .int .i64 pd, .int .i64 la, .int .i64 ic, .int .u32 cd, .slice Pa Pn Pc, .bool rk, .bool al, .int .i64 dp, .int .u8 wt]] w fun e W' => ∃ A m c B n d, e = .returned (.tuple #[.agg #[.int .i64 St, .bool E2, .slice A m c], .agg #[.int .i64 0, .bool false, .slice B n d], .bool false, .agg #[.bool false, .int .i64 0, .int .u32 0], .int .i64 0]) ∧ Mine w.heap.size W' A m c X ∧ Mine w.heap.size W' B n d [] ∧ Below w.heap.size w W') := Lib.hid T
  clear T
  have O1 := Lib.hid fun w => fBOpenE (E := E) (A := A) (n := n) (c := c) os w
  clear os
  have O3 := Lib.hid ot
  clear ot
  have b0 := Bel.refl W
  replace b0 := b0.alloc (.cells #[.int .i64 S, .bool E, .slice A n c] 24)
  replace h := h.alloc (.cells #[.int .i64 S, .bool E, .slice A n c] 24)
  replace hx := hx.alloc (.cells #[.int .i64 S, .bool E, .slice A n c] 24)
  have qb := Blk.newAt (b := W.heap.size) W 24 #[.int .i64 S, .bool E, .slice A n c] rfl
  replace b0 := b0.alloc (.cells #[.int .u8 1, .int .u8 F, .int .i64 St, .slice B m d, .int .i64 pd, .int .i64 la, .int .i64 ic, .int .u32 cd, .slice Pa Pn Pc, .bool rk, .bool al, .int .i64 dp, .int .u8 wt] 30)
  replace h := h.alloc (.cells #[.int .u8 1, .int .u8 F, .int .i64 St, .slice B m d, .int .i64 pd, .int .i64 la, .int .i64 ic, .int .u32 cd, .slice Pa Pn Pc, .bool rk, .bool al, .int .i64 dp, .int .u8 wt] 30)
  replace hx := hx.alloc (.cells #[.int .u8 1, .int .u8 F, .int .i64 St, .slice B m d, .int .i64 pd, .int .i64 la, .int .i64 ic, .int .u32 cd, .slice Pa Pn Pc, .bool rk, .bool al, .int .i64 dp, .int .u8 wt] 30)
  replace qb := qb.alloc (.cells #[.int .u8 1, .int .u8 F, .int .i64 St, .slice B m d, .int .i64 pd, .int .i64 la, .int .i64 ic, .int .u32 cd, .slice Pa Pn Pc, .bool rk, .bool al, .int .i64 dp, .int .u8 wt] 30)
  have qf := Blk.newAt (b := W.heap.size + 1) (W.alloc (.cells #[.int .i64 S, .bool E, .slice A n c] 24)) 30 #[.int .u8 1, .int .u8 F, .int .i64 St, .slice B m d, .int .i64 pd, .int .i64 la, .int .i64 ic, .int .u32 cd, .slice Pa Pn Pc, .bool rk, .bool al, .int .i64 dp, .int .u8 wt] (by simp)
  have zqb0 := qb.at 0 rfl
  have zqb1 := qb.at 1 rfl
  have zqb2 := qb.at 2 rfl
  have zqf0 := qf.at 0 rfl
  have zqf1 := qf.at 1 rfl
  have zqf2 := qf.at 2 rfl
  have zqf3 := qf.at 3 rfl
  have zqf4 := qf.at 4 rfl
  have zqf5 := qf.at 5 rfl
  have zqf6 := qf.at 6 rfl
  have zqf7 := qf.at 7 rfl
  have zqf8 := qf.at 8 rfl
  have zqf9 := qf.at 9 rfl
  have zqf10 := qf.at 10 rfl
  have zqf11 := qf.at 11 rfl
  have zqf12 := qf.at 12 rfl
  go_enter Try.func5, Try.ntmps5
  go_wp2_with (first | (go_at_call 7; (with_reducible refine (G0.out _).mono ?_); rintro e w1 ⟨rfl, rfl⟩) | (go_at_call 7; (with_reducible refine (G1.out _).mono ?_); rintro e w1 ⟨rfl, rfl⟩) | (go_at_call 13; refine (R1.out _ h).mono ?_; rintro e wr ⟨rfl, hb⟩; replace b0 := b0.below hb; replace h := h.below hb; replace hx := hx.below hb; replace qb := qb.below hb; replace qf := qf.below hb; have zqb0 := qb.at 0 rfl; have zqb1 := qb.at 1 rfl; have zqb2 := qb.at 2 rfl; have zqf0 := qf.at 0 rfl; have zqf1 := qf.at 1 rfl; have zqf2 := qf.at 2 rfl; have zqf3 := qf.at 3 rfl; have zqf4 := qf.at 4 rfl; have zqf5 := qf.at 5 rfl; have zqf6 := qf.at 6 rfl; have zqf7 := qf.at 7 rfl; have zqf8 := qf.at 8 rfl; have zqf9 := qf.at 9 rfl; have zqf10 := qf.at 10 rfl; have zqf11 := qf.at 11 rfl; have zqf12 := qf.at 12 rfl; have yr := h))
  refine (T1.out _ yr hx).mono ?_
  rintro e w1 ⟨A1, m1, c1, B1, n1, d1, rfl, mo, mw, hb⟩
  clear yr
  replace b0 := (b0).below hb; replace h := (h).below hb; replace hx := (hx).below hb; replace qb := (qb).below hb; replace qf := (qf).below hb
  have yo := mo.byt
  clear mo mw
  replace b0 := b0.alloc (.cells #[.int .i64 St, .bool E2, .slice A1 m1 c1] 24)
  replace h := h.alloc (.cells #[.int .i64 St, .bool E2, .slice A1 m1 c1] 24)
  replace hx := hx.alloc (.cells #[.int .i64 St, .bool E2, .slice A1 m1 c1] 24)
  replace qb := qb.alloc (.cells #[.int .i64 St, .bool E2, .slice A1 m1 c1] 24)
  replace qf := qf.alloc (.cells #[.int .i64 St, .bool E2, .slice A1 m1 c1] 24)
  replace yo := yo.alloc (.cells #[.int .i64 St, .bool E2, .slice A1 m1 c1] 24)
  have qo := Blk.newAt (b := w1.heap.size) w1 24 #[.int .i64 St, .bool E2, .slice A1 m1 c1] rfl
  replace b0 := b0.alloc (.cells #[.int .i64 0, .bool false, .slice B1 n1 d1] 24)
  replace h := h.alloc (.cells #[.int .i64 0, .bool false, .slice B1 n1 d1] 24)
  replace hx := hx.alloc (.cells #[.int .i64 0, .bool false, .slice B1 n1 d1] 24)
  replace qb := qb.alloc (.cells #[.int .i64 0, .bool false, .slice B1 n1 d1] 24)
  replace qf := qf.alloc (.cells #[.int .i64 0, .bool false, .slice B1 n1 d1] 24)
  replace yo := yo.alloc (.cells #[.int .i64 0, .bool false, .slice B1 n1 d1] 24)
  replace qo := qo.alloc (.cells #[.int .i64 0, .bool false, .slice B1 n1 d1] 24)
  replace b0 := b0.alloc (.cells #[.bool false, .int .i64 0, .int .u32 0] 34)
  replace h := h.alloc (.cells #[.bool false, .int .i64 0, .int .u32 0] 34)
  replace hx := hx.alloc (.cells #[.bool false, .int .i64 0, .int .u32 0] 34)
  replace qb := qb.alloc (.cells #[.bool false, .int .i64 0, .int .u32 0] 34)
  replace qf := qf.alloc (.cells #[.bool false, .int .i64 0, .int .u32 0] 34)
  replace yo := yo.alloc (.cells #[.bool false, .int .i64 0, .int .u32 0] 34)
  replace qo := qo.alloc (.cells #[.bool false, .int .i64 0, .int .u32 0] 34)
  have qg := Blk.newAt (b := w1.heap.size + 1 + 1) ((w1.alloc (.cells #[.int .i64 St, .bool E2, .slice A1 m1 c1] 24)).alloc (.cells #[.int .i64 0, .bool false, .slice B1 n1 d1] 24)) 34 #[.bool false, .int .i64 0, .int .u32 0] (by simp)
  have zqb0 := qb.at 0 rfl; have zqb1 := qb.at 1 rfl; have zqb2 := qb.at 2 rfl; have zqf0 := qf.at 0 rfl; have zqf1 := qf.at 1 rfl; have zqf2 := qf.at 2 rfl; have zqf3 := qf.at 3 rfl; have zqf4 := qf.at 4 rfl; have zqf5 := qf.at 5 rfl; have zqf6 := qf.at 6 rfl; have zqf7 := qf.at 7 rfl; have zqf8 := qf.at 8 rfl; have zqf9 := qf.at 9 rfl; have zqf10 := qf.at 10 rfl; have zqf11 := qf.at 11 rfl; have zqf12 := qf.at 12 rfl; have zqo0 := qo.at 0 rfl; have zqo1 := qo.at 1 rfl; have zqo2 := qo.at 2 rfl; have zqg0 := qg.at 0 rfl; have zqg1 := qg.at 1 rfl; have zqg2 := qg.at 2 rfl
  go_wp2_with (first | (go_at_call 14; (with_reducible refine (O1.out _).mono ?_); rintro e wo ⟨rfl, hb⟩; replace b0 := b0.below hb; replace h := h.below hb; replace hx := hx.below hb; replace qb := qb.below hb; replace qf := qf.below hb; replace yo := yo.below hb; replace qo := qo.below hb; replace qg := qg.below hb; have zqb0 := qb.at 0 rfl; have zqb1 := qb.at 1 rfl; have zqb2 := qb.at 2 rfl; have zqf0 := qf.at 0 rfl; have zqf1 := qf.at 1 rfl; have zqf2 := qf.at 2 rfl; have zqf3 := qf.at 3 rfl; have zqf4 := qf.at 4 rfl; have zqf5 := qf.at 5 rfl; have zqf6 := qf.at 6 rfl; have zqf7 := qf.at 7 rfl; have zqf8 := qf.at 8 rfl; have zqf9 := qf.at 9 rfl; have zqf10 := qf.at 10 rfl; have zqf11 := qf.at 11 rfl; have zqf12 := qf.at 12 rfl; have zqo0 := qo.at 0 rfl; have zqo1 := qo.at 1 rfl; have zqo2 := qo.at 2 rfl; have zqg0 := qg.at 0 rfl; have zqg1 := qg.at 1 rfl; have zqg2 := qg.at 2 rfl) | (go_at_call 14; (with_reducible refine (fBOpenE O3.out _).mono ?_); rintro e wo ⟨rfl, hb⟩; replace b0 := b0.below hb)  | (go_at_call 8; refine (fWakes _).mono ?_; rintro e wk ⟨rfl, hb⟩; replace b0 := b0.below hb))
  go_ret
  exact ⟨rfl, b0.out⟩

set_option maxRecDepth 100000 in
set_option maxHeartbeats 4000000 in
theorem aloneMore (S : Int) (E : Bool) (A : Option Addr) (n c : Nat) (D : List Int) (F St : Int) (B : Option Addr) (m d : Nat) (X : List Int) (pd la ic cd : Int) (Pa : Option Addr) (Pn Pc : Nat) (rk al : Bool) (dp wt : Int) (W : World)
    (h : Byt W A n c D) (hx : Byt W B m d X) (g0 : m ≤ 5000) (g1 : n ≤ 5000) (hr : rightB S E D = true) (s0 : decide (St < 1) = false) (s1 : decide (2147483648 ≤ St) = false) (os : openB S = false)
    (T : ∀ w, Byt w A n c D → Byt w B m d X → Calls Try.prog 9 #[.agg #[.int .i64 S, .bool E, .slice A n c], .agg #[.int .u8 9, .int .u8 F, .int .i64 St, .slice B m d, .int .i64 pd, .int .i64 la, .int .i64 ic, .int .u32 cd, .slice Pa Pn Pc, .bool rk, .bool al, .int .i64 dp, .int .u8 wt]] w (TakeP ⟨S, E, D, 0, false, [], false, true, 1, 0⟩ w)) :
    Calls Try.prog 5 #[.agg #[.int .i64 S, .bool E, .slice A n c], .agg #[.int .u8 9, .int .u8 F, .int .i64 St, .slice B m d, .int .i64 pd, .int .i64 la, .int .i64 ic, .int .u32 cd, .slice Pa Pn Pc, .bool rk, .bool al, .int .i64 dp, .int .u8 wt]] W fun e w' => e = .returned (.bool true) ∧ Below W.heap.size W w' := by
  have G0 := Lib.hid fun w => fGreatE (A := B) (n := m) (c := d) (b := false) (decide_eq_false (by omega)) (Nat.le_trans hx.cap hx.mx) w
  have G1 := Lib.hid fun w => fGreatE (A := A) (n := n) (c := c) (b := false) (decide_eq_false (by omega)) (Nat.le_trans h.cap h.mx) w
  have R1 : Hid (∀ w, Byt w A n c D → Calls Try.prog 13 #[.agg #[.int .i64 S, .bool E, .slice A n c]] w (BoolP true w)) := Lib.hid fun w h => by have := rBRight S E A n c D w h; rwa [hr] at this
  clear hr
  have T1 : Hid (∀ w, Byt w A n c D → Byt w B m d X → Calls Try.prog 9 #[.agg #[.int .i64 S, .bool E, .slice A n c], .agg #[.int .u8 9, .int .u8 F, .int .i64 St, .slice B m d, .int .i64 pd, .int .i64 la, .int .i64 ic, .int .u32 cd, .slice Pa Pn Pc, .bool rk, .bool al, .int .i64 dp, .int .u8 wt]] w fun e W' => ∃ A m c B n d, e = .returned (.tuple #[.agg #[.int .i64 S, .bool E, .slice A m c], .agg #[.int .i64 0, .bool false, .slice B n d], .bool false, .agg #[.bool true, .int .i64 0, .int .u32 1], .int .i64 0]) ∧ Mine w.heap.size W' A m c D ∧ Mine w.heap.size W' B n d [] ∧ Below w.heap.size w W') := Lib.hid T
  clear T
  have O1 := Lib.hid fun w => fBOpenE (E := E) (A := A) (n := n) (c := c) os w
  clear os
  have b0 := Bel.refl W
  replace b0 := b0.alloc (.cells #[.int .i64 S, .bool E, .slice A n c] 24)
  replace h := h.alloc (.cells #[.int .i64 S, .bool E, .slice A n c] 24)
  replace hx := hx.alloc (.cells #[.int .i64 S, .bool E, .slice A n c] 24)
  have qb := Blk.newAt (b := W.heap.size) W 24 #[.int .i64 S, .bool E, .slice A n c] rfl
  replace b0 := b0.alloc (.cells #[.int .u8 9, .int .u8 F, .int .i64 St, .slice B m d, .int .i64 pd, .int .i64 la, .int .i64 ic, .int .u32 cd, .slice Pa Pn Pc, .bool rk, .bool al, .int .i64 dp, .int .u8 wt] 30)
  replace h := h.alloc (.cells #[.int .u8 9, .int .u8 F, .int .i64 St, .slice B m d, .int .i64 pd, .int .i64 la, .int .i64 ic, .int .u32 cd, .slice Pa Pn Pc, .bool rk, .bool al, .int .i64 dp, .int .u8 wt] 30)
  replace hx := hx.alloc (.cells #[.int .u8 9, .int .u8 F, .int .i64 St, .slice B m d, .int .i64 pd, .int .i64 la, .int .i64 ic, .int .u32 cd, .slice Pa Pn Pc, .bool rk, .bool al, .int .i64 dp, .int .u8 wt] 30)
  replace qb := qb.alloc (.cells #[.int .u8 9, .int .u8 F, .int .i64 St, .slice B m d, .int .i64 pd, .int .i64 la, .int .i64 ic, .int .u32 cd, .slice Pa Pn Pc, .bool rk, .bool al, .int .i64 dp, .int .u8 wt] 30)
  have qf := Blk.newAt (b := W.heap.size + 1) (W.alloc (.cells #[.int .i64 S, .bool E, .slice A n c] 24)) 30 #[.int .u8 9, .int .u8 F, .int .i64 St, .slice B m d, .int .i64 pd, .int .i64 la, .int .i64 ic, .int .u32 cd, .slice Pa Pn Pc, .bool rk, .bool al, .int .i64 dp, .int .u8 wt] (by simp)
  have zqb0 := qb.at 0 rfl
  have zqb1 := qb.at 1 rfl
  have zqb2 := qb.at 2 rfl
  have zqf0 := qf.at 0 rfl
  have zqf1 := qf.at 1 rfl
  have zqf2 := qf.at 2 rfl
  have zqf3 := qf.at 3 rfl
  have zqf4 := qf.at 4 rfl
  have zqf5 := qf.at 5 rfl
  have zqf6 := qf.at 6 rfl
  have zqf7 := qf.at 7 rfl
  have zqf8 := qf.at 8 rfl
  have zqf9 := qf.at 9 rfl
  have zqf10 := qf.at 10 rfl
  have zqf11 := qf.at 11 rfl
  have zqf12 := qf.at 12 rfl
  go_enter Try.func5, Try.ntmps5
  go_wp2_with (first | (go_at_call 7; (with_reducible refine (G0.out _).mono ?_); rintro e w1 ⟨rfl, rfl⟩) | (go_at_call 7; (with_reducible refine (G1.out _).mono ?_); rintro e w1 ⟨rfl, rfl⟩) | (go_at_call 13; refine (R1.out _ h).mono ?_; rintro e wr ⟨rfl, hb⟩; replace b0 := b0.below hb; replace h := h.below hb; replace hx := hx.below hb; replace qb := qb.below hb; replace qf := qf.below hb; have zqb0 := qb.at 0 rfl; have zqb1 := qb.at 1 rfl; have zqb2 := qb.at 2 rfl; have zqf0 := qf.at 0 rfl; have zqf1 := qf.at 1 rfl; have zqf2 := qf.at 2 rfl; have zqf3 := qf.at 3 rfl; have zqf4 := qf.at 4 rfl; have zqf5 := qf.at 5 rfl; have zqf6 := qf.at 6 rfl; have zqf7 := qf.at 7 rfl; have zqf8 := qf.at 8 rfl; have zqf9 := qf.at 9 rfl; have zqf10 := qf.at 10 rfl; have zqf11 := qf.at 11 rfl; have zqf12 := qf.at 12 rfl; have yr := h))
  refine (T1.out _ yr hx).mono ?_
  rintro e w1 ⟨A1, m1, c1, B1, n1, d1, rfl, mo, mw, hb⟩
  clear yr
  replace b0 := (b0).below hb; replace h := (h).below hb; replace hx := (hx).below hb; replace qb := (qb).below hb; replace qf := (qf).below hb
  have yo := mo.byt
  clear mo mw
  replace b0 := b0.alloc (.cells #[.int .i64 S, .bool E, .slice A1 m1 c1] 24)
  replace h := h.alloc (.cells #[.int .i64 S, .bool E, .slice A1 m1 c1] 24)
  replace hx := hx.alloc (.cells #[.int .i64 S, .bool E, .slice A1 m1 c1] 24)
  replace qb := qb.alloc (.cells #[.int .i64 S, .bool E, .slice A1 m1 c1] 24)
  replace qf := qf.alloc (.cells #[.int .i64 S, .bool E, .slice A1 m1 c1] 24)
  replace yo := yo.alloc (.cells #[.int .i64 S, .bool E, .slice A1 m1 c1] 24)
  have qo := Blk.newAt (b := w1.heap.size) w1 24 #[.int .i64 S, .bool E, .slice A1 m1 c1] rfl
  replace b0 := b0.alloc (.cells #[.int .i64 0, .bool false, .slice B1 n1 d1] 24)
  replace h := h.alloc (.cells #[.int .i64 0, .bool false, .slice B1 n1 d1] 24)
  replace hx := hx.alloc (.cells #[.int .i64 0, .bool false, .slice B1 n1 d1] 24)
  replace qb := qb.alloc (.cells #[.int .i64 0, .bool false, .slice B1 n1 d1] 24)
  replace qf := qf.alloc (.cells #[.int .i64 0, .bool false, .slice B1 n1 d1] 24)
  replace yo := yo.alloc (.cells #[.int .i64 0, .bool false, .slice B1 n1 d1] 24)
  replace qo := qo.alloc (.cells #[.int .i64 0, .bool false, .slice B1 n1 d1] 24)
  replace b0 := b0.alloc (.cells #[.bool true, .int .i64 0, .int .u32 1] 34)
  replace h := h.alloc (.cells #[.bool true, .int .i64 0, .int .u32 1] 34)
  replace hx := hx.alloc (.cells #[.bool true, .int .i64 0, .int .u32 1] 34)
  replace qb := qb.alloc (.cells #[.bool true, .int .i64 0, .int .u32 1] 34)
  replace qf := qf.alloc (.cells #[.bool true, .int .i64 0, .int .u32 1] 34)
  replace yo := yo.alloc (.cells #[.bool true, .int .i64 0, .int .u32 1] 34)
  replace qo := qo.alloc (.cells #[.bool true, .int .i64 0, .int .u32 1] 34)
  have qg := Blk.newAt (b := w1.heap.size + 1 + 1) ((w1.alloc (.cells #[.int .i64 S, .bool E, .slice A1 m1 c1] 24)).alloc (.cells #[.int .i64 0, .bool false, .slice B1 n1 d1] 24)) 34 #[.bool true, .int .i64 0, .int .u32 1] (by simp)
  have zqb0 := qb.at 0 rfl; have zqb1 := qb.at 1 rfl; have zqb2 := qb.at 2 rfl; have zqf0 := qf.at 0 rfl; have zqf1 := qf.at 1 rfl; have zqf2 := qf.at 2 rfl; have zqf3 := qf.at 3 rfl; have zqf4 := qf.at 4 rfl; have zqf5 := qf.at 5 rfl; have zqf6 := qf.at 6 rfl; have zqf7 := qf.at 7 rfl; have zqf8 := qf.at 8 rfl; have zqf9 := qf.at 9 rfl; have zqf10 := qf.at 10 rfl; have zqf11 := qf.at 11 rfl; have zqf12 := qf.at 12 rfl; have zqo0 := qo.at 0 rfl; have zqo1 := qo.at 1 rfl; have zqo2 := qo.at 2 rfl; have zqg0 := qg.at 0 rfl; have zqg1 := qg.at 1 rfl; have zqg2 := qg.at 2 rfl
  go_wp2_with (first | (go_at_call 14; (with_reducible refine (O1.out _).mono ?_); rintro e wo ⟨rfl, hb⟩; replace b0 := b0.below hb; replace h := h.below hb; replace hx := hx.below hb; replace qb := qb.below hb; replace qf := qf.below hb; replace yo := yo.below hb; replace qo := qo.below hb; replace qg := qg.below hb; have zqb0 := qb.at 0 rfl; have zqb1 := qb.at 1 rfl; have zqb2 := qb.at 2 rfl; have zqf0 := qf.at 0 rfl; have zqf1 := qf.at 1 rfl; have zqf2 := qf.at 2 rfl; have zqf3 := qf.at 3 rfl; have zqf4 := qf.at 4 rfl; have zqf5 := qf.at 5 rfl; have zqf6 := qf.at 6 rfl; have zqf7 := qf.at 7 rfl; have zqf8 := qf.at 8 rfl; have zqf9 := qf.at 9 rfl; have zqf10 := qf.at 10 rfl; have zqf11 := qf.at 11 rfl; have zqf12 := qf.at 12 rfl; have zqo0 := qo.at 0 rfl; have zqo1 := qo.at 1 rfl; have zqo2 := qo.at 2 rfl; have zqg0 := qg.at 0 rfl; have zqg1 := qg.at 1 rfl; have zqg2 := qg.at 2 rfl)  | (go_at_call 11; refine (rBSameE (sameB_self S E D) _ yo h).mono ?_; rintro e wo ⟨rfl, hb⟩; replace b0 := b0.below hb) | (go_at_call 8; refine (fWakes _).mono ?_; rintro e wk ⟨rfl, hb⟩; replace b0 := b0.below hb))
  go_ret
  exact ⟨rfl, b0.out⟩

set_option maxRecDepth 100000 in
set_option maxHeartbeats 4000000 in
theorem aloneNone (S : Int) (E : Bool) (A : Option Addr) (n c : Nat) (D : List Int) (K F St : Int) (B : Option Addr) (m d : Nat) (X : List Int) (pd la ic cd : Int) (Pa : Option Addr) (Pn Pc : Nat) (rk al : Bool) (dp wt : Int) (W : World)
    (h : Byt W A n c D) (hx : Byt W B m d X) (g0 : m ≤ 5000) (g1 : n ≤ 5000) (hr : rightB S E D = true) (s0 : decide (St < 1) = false) (s1 : decide (2147483648 ≤ St) = false) (os : openB S = false) (ks : (K == 9) = false) (k1 : (K != 1) = true)
    (T : ∀ w, Byt w A n c D → Byt w B m d X → Calls Try.prog 9 #[.agg #[.int .i64 S, .bool E, .slice A n c], .agg #[.int .u8 K, .int .u8 F, .int .i64 St, .slice B m d, .int .i64 pd, .int .i64 la, .int .i64 ic, .int .u32 cd, .slice Pa Pn Pc, .bool rk, .bool al, .int .i64 dp, .int .u8 wt]] w (TakeP ⟨S, E, D, 0, false, [], false, false, 0, 0⟩ w)) :
    Calls Try.prog 5 #[.agg #[.int .i64 S, .bool E, .slice A n c], .agg #[.int .u8 K, .int .u8 F, .int .i64 St, .slice B m d, .int .i64 pd, .int .i64 la, .int .i64 ic, .int .u32 cd, .slice Pa Pn Pc, .bool rk, .bool al, .int .i64 dp, .int .u8 wt]] W fun e w' => e = .returned (.bool true) ∧ Below W.heap.size W w' := by
  have G0 := Lib.hid fun w => fGreatE (A := B) (n := m) (c := d) (b := false) (decide_eq_false (by omega)) (Nat.le_trans hx.cap hx.mx) w
  have G1 := Lib.hid fun w => fGreatE (A := A) (n := n) (c := c) (b := false) (decide_eq_false (by omega)) (Nat.le_trans h.cap h.mx) w
  have R1 : Hid (∀ w, Byt w A n c D → Calls Try.prog 13 #[.agg #[.int .i64 S, .bool E, .slice A n c]] w (BoolP true w)) := Lib.hid fun w h => by have := rBRight S E A n c D w h; rwa [hr] at this
  clear hr
  have T1 : Hid (∀ w, Byt w A n c D → Byt w B m d X → Calls Try.prog 9 #[.agg #[.int .i64 S, .bool E, .slice A n c], .agg #[.int .u8 K, .int .u8 F, .int .i64 St, .slice B m d, .int .i64 pd, .int .i64 la, .int .i64 ic, .int .u32 cd, .slice Pa Pn Pc, .bool rk, .bool al, .int .i64 dp, .int .u8 wt]] w fun e W' => ∃ A m c B n d, e = .returned (.tuple #[.agg #[.int .i64 S, .bool E, .slice A m c], .agg #[.int .i64 0, .bool false, .slice B n d], .bool false, .agg #[.bool false, .int .i64 0, .int .u32 0], .int .i64 0]) ∧ Mine w.heap.size W' A m c D ∧ Mine w.heap.size W' B n d [] ∧ Below w.heap.size w W') := Lib.hid T
  clear T
  have O1 := Lib.hid fun w => fBOpenE (E := E) (A := A) (n := n) (c := c) os w
  clear os
  have b0 := Bel.refl W
  replace b0 := b0.alloc (.cells #[.int .i64 S, .bool E, .slice A n c] 24)
  replace h := h.alloc (.cells #[.int .i64 S, .bool E, .slice A n c] 24)
  replace hx := hx.alloc (.cells #[.int .i64 S, .bool E, .slice A n c] 24)
  have qb := Blk.newAt (b := W.heap.size) W 24 #[.int .i64 S, .bool E, .slice A n c] rfl
  replace b0 := b0.alloc (.cells #[.int .u8 K, .int .u8 F, .int .i64 St, .slice B m d, .int .i64 pd, .int .i64 la, .int .i64 ic, .int .u32 cd, .slice Pa Pn Pc, .bool rk, .bool al, .int .i64 dp, .int .u8 wt] 30)
  replace h := h.alloc (.cells #[.int .u8 K, .int .u8 F, .int .i64 St, .slice B m d, .int .i64 pd, .int .i64 la, .int .i64 ic, .int .u32 cd, .slice Pa Pn Pc, .bool rk, .bool al, .int .i64 dp, .int .u8 wt] 30)
  replace hx := hx.alloc (.cells #[.int .u8 K, .int .u8 F, .int .i64 St, .slice B m d, .int .i64 pd, .int .i64 la, .int .i64 ic, .int .u32 cd, .slice Pa Pn Pc, .bool rk, .bool al, .int .i64 dp, .int .u8 wt] 30)
  replace qb := qb.alloc (.cells #[.int .u8 K, .int .u8 F, .int .i64 St, .slice B m d, .int .i64 pd, .int .i64 la, .int .i64 ic, .int .u32 cd, .slice Pa Pn Pc, .bool rk, .bool al, .int .i64 dp, .int .u8 wt] 30)
  have qf := Blk.newAt (b := W.heap.size + 1) (W.alloc (.cells #[.int .i64 S, .bool E, .slice A n c] 24)) 30 #[.int .u8 K, .int .u8 F, .int .i64 St, .slice B m d, .int .i64 pd, .int .i64 la, .int .i64 ic, .int .u32 cd, .slice Pa Pn Pc, .bool rk, .bool al, .int .i64 dp, .int .u8 wt] (by simp)
  have zqb0 := qb.at 0 rfl
  have zqb1 := qb.at 1 rfl
  have zqb2 := qb.at 2 rfl
  have zqf0 := qf.at 0 rfl
  have zqf1 := qf.at 1 rfl
  have zqf2 := qf.at 2 rfl
  have zqf3 := qf.at 3 rfl
  have zqf4 := qf.at 4 rfl
  have zqf5 := qf.at 5 rfl
  have zqf6 := qf.at 6 rfl
  have zqf7 := qf.at 7 rfl
  have zqf8 := qf.at 8 rfl
  have zqf9 := qf.at 9 rfl
  have zqf10 := qf.at 10 rfl
  have zqf11 := qf.at 11 rfl
  have zqf12 := qf.at 12 rfl
  go_enter Try.func5, Try.ntmps5
  go_wp2_with (first | (go_at_call 7; (with_reducible refine (G0.out _).mono ?_); rintro e w1 ⟨rfl, rfl⟩) | (go_at_call 7; (with_reducible refine (G1.out _).mono ?_); rintro e w1 ⟨rfl, rfl⟩) | (go_at_call 13; refine (R1.out _ h).mono ?_; rintro e wr ⟨rfl, hb⟩; replace b0 := b0.below hb; replace h := h.below hb; replace hx := hx.below hb; replace qb := qb.below hb; replace qf := qf.below hb; have zqb0 := qb.at 0 rfl; have zqb1 := qb.at 1 rfl; have zqb2 := qb.at 2 rfl; have zqf0 := qf.at 0 rfl; have zqf1 := qf.at 1 rfl; have zqf2 := qf.at 2 rfl; have zqf3 := qf.at 3 rfl; have zqf4 := qf.at 4 rfl; have zqf5 := qf.at 5 rfl; have zqf6 := qf.at 6 rfl; have zqf7 := qf.at 7 rfl; have zqf8 := qf.at 8 rfl; have zqf9 := qf.at 9 rfl; have zqf10 := qf.at 10 rfl; have zqf11 := qf.at 11 rfl; have zqf12 := qf.at 12 rfl; have yr := h))
  refine (T1.out _ yr hx).mono ?_
  rintro e w1 ⟨A1, m1, c1, B1, n1, d1, rfl, mo, mw, hb⟩
  clear yr
  replace b0 := (b0).below hb; replace h := (h).below hb; replace hx := (hx).below hb; replace qb := (qb).below hb; replace qf := (qf).below hb
  have yo := mo.byt
  clear mo mw
  replace b0 := b0.alloc (.cells #[.int .i64 S, .bool E, .slice A1 m1 c1] 24)
  replace h := h.alloc (.cells #[.int .i64 S, .bool E, .slice A1 m1 c1] 24)
  replace hx := hx.alloc (.cells #[.int .i64 S, .bool E, .slice A1 m1 c1] 24)
  replace qb := qb.alloc (.cells #[.int .i64 S, .bool E, .slice A1 m1 c1] 24)
  replace qf := qf.alloc (.cells #[.int .i64 S, .bool E, .slice A1 m1 c1] 24)
  replace yo := yo.alloc (.cells #[.int .i64 S, .bool E, .slice A1 m1 c1] 24)
  have qo := Blk.newAt (b := w1.heap.size) w1 24 #[.int .i64 S, .bool E, .slice A1 m1 c1] rfl
  replace b0 := b0.alloc (.cells #[.int .i64 0, .bool false, .slice B1 n1 d1] 24)
  replace h := h.alloc (.cells #[.int .i64 0, .bool false, .slice B1 n1 d1] 24)
  replace hx := hx.alloc (.cells #[.int .i64 0, .bool false, .slice B1 n1 d1] 24)
  replace qb := qb.alloc (.cells #[.int .i64 0, .bool false, .slice B1 n1 d1] 24)
  replace qf := qf.alloc (.cells #[.int .i64 0, .bool false, .slice B1 n1 d1] 24)
  replace yo := yo.alloc (.cells #[.int .i64 0, .bool false, .slice B1 n1 d1] 24)
  replace qo := qo.alloc (.cells #[.int .i64 0, .bool false, .slice B1 n1 d1] 24)
  replace b0 := b0.alloc (.cells #[.bool false, .int .i64 0, .int .u32 0] 34)
  replace h := h.alloc (.cells #[.bool false, .int .i64 0, .int .u32 0] 34)
  replace hx := hx.alloc (.cells #[.bool false, .int .i64 0, .int .u32 0] 34)
  replace qb := qb.alloc (.cells #[.bool false, .int .i64 0, .int .u32 0] 34)
  replace qf := qf.alloc (.cells #[.bool false, .int .i64 0, .int .u32 0] 34)
  replace yo := yo.alloc (.cells #[.bool false, .int .i64 0, .int .u32 0] 34)
  replace qo := qo.alloc (.cells #[.bool false, .int .i64 0, .int .u32 0] 34)
  have qg := Blk.newAt (b := w1.heap.size + 1 + 1) ((w1.alloc (.cells #[.int .i64 S, .bool E, .slice A1 m1 c1] 24)).alloc (.cells #[.int .i64 0, .bool false, .slice B1 n1 d1] 24)) 34 #[.bool false, .int .i64 0, .int .u32 0] (by simp)
  have zqb0 := qb.at 0 rfl; have zqb1 := qb.at 1 rfl; have zqb2 := qb.at 2 rfl; have zqf0 := qf.at 0 rfl; have zqf1 := qf.at 1 rfl; have zqf2 := qf.at 2 rfl; have zqf3 := qf.at 3 rfl; have zqf4 := qf.at 4 rfl; have zqf5 := qf.at 5 rfl; have zqf6 := qf.at 6 rfl; have zqf7 := qf.at 7 rfl; have zqf8 := qf.at 8 rfl; have zqf9 := qf.at 9 rfl; have zqf10 := qf.at 10 rfl; have zqf11 := qf.at 11 rfl; have zqf12 := qf.at 12 rfl; have zqo0 := qo.at 0 rfl; have zqo1 := qo.at 1 rfl; have zqo2 := qo.at 2 rfl; have zqg0 := qg.at 0 rfl; have zqg1 := qg.at 1 rfl; have zqg2 := qg.at 2 rfl
  go_wp2_with (first | (go_at_call 14; (with_reducible refine (O1.out _).mono ?_); rintro e wo ⟨rfl, hb⟩; replace b0 := b0.below hb; replace h := h.below hb; replace hx := hx.below hb; replace qb := qb.below hb; replace qf := qf.below hb; replace yo := yo.below hb; replace qo := qo.below hb; replace qg := qg.below hb; have zqb0 := qb.at 0 rfl; have zqb1 := qb.at 1 rfl; have zqb2 := qb.at 2 rfl; have zqf0 := qf.at 0 rfl; have zqf1 := qf.at 1 rfl; have zqf2 := qf.at 2 rfl; have zqf3 := qf.at 3 rfl; have zqf4 := qf.at 4 rfl; have zqf5 := qf.at 5 rfl; have zqf6 := qf.at 6 rfl; have zqf7 := qf.at 7 rfl; have zqf8 := qf.at 8 rfl; have zqf9 := qf.at 9 rfl; have zqf10 := qf.at 10 rfl; have zqf11 := qf.at 11 rfl; have zqf12 := qf.at 12 rfl; have zqo0 := qo.at 0 rfl; have zqo1 := qo.at 1 rfl; have zqo2 := qo.at 2 rfl; have zqg0 := qg.at 0 rfl; have zqg1 := qg.at 1 rfl; have zqg2 := qg.at 2 rfl)  | (go_at_call 11; refine (rBSameE (sameB_self S E D) _ yo h).mono ?_; rintro e wo ⟨rfl, hb⟩; replace b0 := b0.below hb) | (go_at_call 8; refine (fWakes _).mono ?_; rintro e wk ⟨rfl, hb⟩; replace b0 := b0.below hb))
  go_ret
  exact ⟨rfl, b0.out⟩

theorem wAlone {W : World} (S : Int) (E : Bool) (A : Option Addr) (n c : Nat) (D : List Int) (bS : -9223372036854775808 ≤ S ∧ S ≤ 9223372036854775807) (h : Byt W A n c D)
    (K F St : Int) (B : Option Addr) (m d : Nat) (X : List Int) (pd la ic cd : Int) (Pa : Option Addr) (Pn Pc : Nat) (rk al : Bool) (dp wt : Int) (bF : 0 ≤ F ∧ F ≤ 255) (hx : Byt W B m d X) :
    Calls Try.prog 5 #[.agg #[.int .i64 S, .bool E, .slice A n c], .agg #[.int .u8 K, .int .u8 F, .int .i64 St, .slice B m d, .int .i64 pd, .int .i64 la, .int .i64 ic, .int .u32 cd, .slice Pa Pn Pc, .bool rk, .bool al, .int .i64 dp, .int .u8 wt]] W fun e w' => e = .returned (.bool true) ∧ Below W.heap.size W w' := by
  have hl := h.len
  have hl' := hx.len
  by_cases g0 : 5000 < m
  · exact aloneBig1 S E A n c D K F St B m d X pd la ic cd Pa Pn Pc rk al dp wt W h hx g0
  by_cases g1 : 5000 < n
  · exact aloneBig2 S E A n c D K F St B m d X pd la ic cd Pa Pn Pc rk al dp wt W h hx (by omega) g1
  cases hr : rightB S E D
  · exact aloneWrong S E A n c D K F St B m d X pd la ic cd Pa Pn Pc rk al dp wt W h hx (by omega) (by omega) hr
  by_cases s0 : St < 1
  · exact aloneLow S E A n c D K F St B m d X pd la ic cd Pa Pn Pc rk al dp wt W h hx (by omega) (by omega) hr (decide_eq_true s0)
  by_cases s1 : 2147483648 ≤ St
  · exact aloneHigh S E A n c D K F St B m d X pd la ic cd Pa Pn Pc rk al dp wt W h hx (by omega) (by omega) hr (decide_eq_false s0) (decide_eq_true s1)
  have T := fun w h h' => fBTake S E A n c D K F St B m d X pd la ic cd Pa Pn Pc rk al dp wt w h h' (by omega) (by omega) bS.1 bS.2 bF.1 bF.2
  have nb : ¬ (rightB S E D = false ∨ (K = 1 ∨ K = 9) ∧ strB St = false) := by
    rw [hr]
    rintro (h | ⟨_, h⟩)
    · cases h
    · exact absurd (of_decide_eq_false h) (by omega)
  have fl := and4 F bF.1 bF.2
  have e4 : ∀ b : Bool, decide (F / 4 % 2 = 1) = b → (bits .and .u8 F 4 != 0) = b := fun b e => by rw [fl, e]
  have ks : ∀ {a b : Int}, a ≠ b → (a == b) = false := fun h => beq_eq_false_iff_ne.2 h
  have ns : ∀ {a b : Int}, a ≠ b → (a != b) = true := fun h => bne_iff_ne.2 h
  have s0' : decide (St < 1) = false := decide_eq_false s0
  have s1' : decide (2147483648 ≤ St) = false := decide_eq_false s1
  unfold takeB at T
  rw [if_neg nb] at T
  by_cases hS : 0 < S
  · rw [if_pos hS] at T
    have os : openB S = true := decide_eq_true hS
    by_cases k9 : K = 9
    · subst k9
      by_cases hss : St = S
      · rw [if_pos ⟨rfl, hss⟩] at T
        have kss : (St != S) = false := by rw [bne_eq_false_iff_eq]; exact hss
        unfold finB at T
        by_cases g4 : 4096 < (D ++ X).length
        · rw [if_pos g4] at T
          exact aloneGoMany S E A n c D F St B m d X pd la ic cd Pa Pn Pc rk al dp wt W h hx (by omega) (by omega) hr s0' s1' os kss T
        rw [if_neg g4] at T
        by_cases g5 : F / 4 % 2 = 1
        · rw [if_pos g5] at T
          exact aloneGoDone S E A n c D F St B m d X pd la ic cd Pa Pn Pc rk al dp wt W h hx (by omega) (by omega) hr s0' s1' os kss (e4 _ (decide_eq_true g5)) T
        · rw [if_neg g5] at T
          exact aloneGoOpen S E A n c D F St B m d X pd la ic cd Pa Pn Pc rk al dp wt W h hx (by omega) (by omega) hr s0' s1' os kss (e4 _ (decide_eq_false g5)) T
      · rw [if_neg (fun h => hss h.2)] at T
        exact aloneOther S E A n c D F St B m d X pd la ic cd Pa Pn Pc rk al dp wt W h hx (by omega) (by omega) hr s0' s1' os (ns hss) T
    · rw [if_neg (fun h => k9 h.1)] at T
      exact aloneOpen S E A n c D K F St B m d X pd la ic cd Pa Pn Pc rk al dp wt W h hx (by omega) (by omega) hr s0' s1' os (ks k9) T
  · rw [if_neg hS] at T
    have os : openB S = false := decide_eq_false hS
    by_cases k1 : K = 1
    · subst k1
      rw [if_pos rfl] at T
      unfold finB at T
      by_cases g4 : 4096 < X.length
      · rw [if_pos g4] at T
        exact aloneBegMany S E A n c D F St B m d X pd la ic cd Pa Pn Pc rk al dp wt W h hx (by omega) (by omega) hr s0' s1' os T
      rw [if_neg g4] at T
      by_cases g5 : F / 4 % 2 = 1
      · rw [if_pos g5] at T
        exact aloneBegDone S E A n c D F St B m d X pd la ic cd Pa Pn Pc rk al dp wt W h hx (by omega) (by omega) hr s0' s1' os _ (e4 _ (decide_eq_true g5)) T
      · rw [if_neg g5] at T
        exact aloneBegOpen S E A n c D F St B m d X pd la ic cd Pa Pn Pc rk al dp wt W h hx (by omega) (by omega) hr s0' s1' os _ (decide_eq_true (by omega)) (e4 _ (decide_eq_false g5)) T
    rw [if_neg k1] at T
    by_cases k9 : K = 9
    · subst k9
      rw [if_pos rfl] at T
      exact aloneMore S E A n c D F St B m d X pd la ic cd Pa Pn Pc rk al dp wt W h hx (by omega) (by omega) hr s0' s1' os T
    · rw [if_neg k9] at T
      exact aloneNone S E A n c D K F St B m d X pd la ic cd Pa Pn Pc rk al dp wt W h hx (by omega) (by omega) hr s0' s1' os (ks k9) (ns k1) T
end Go.Proofs.Ytbooojpohfdljaa
