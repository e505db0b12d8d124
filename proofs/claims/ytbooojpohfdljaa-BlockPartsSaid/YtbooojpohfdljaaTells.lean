/- BlockTells: what the functions answer is what the document's answer: the walk. -/
import Derived.Test.YtbooojpohfdljaaBg
import Derived.Test.YtbooojpohfdljaaBO
import Derived.Test.YtbooojpohfdljaaJc
namespace Go.Proofs.Ytbooojpohfdljaa
open Go.RowKit Go.Shelf
set_option linter.unusedVariables false

theorem fGreat (A : Option Addr) (n c : Nat) (w : World) (h : n ≤ 9223372036854775807) : Calls Try.prog 7 #[.slice A n c] w (Ret (.bool (decide (5000 < (n : Int)))) w) := by
  go_enter Try.func7, Try.ntmps7
  go_wp2
  go_ret
  exact ⟨rfl, rfl⟩
theorem fGreatE {A : Option Addr} {n c : Nat} {b : Bool} (hr : decide (5000 < (n : Int)) = b) (h : n ≤ 9223372036854775807) (w : World) : Calls Try.prog 7 #[.slice A n c] w (Ret (.bool b) w) := by
  subst hr
  exact fGreat A n c w h
theorem sameB_self (S : Int) (E : Bool) (D : List Int) : sameB S E D S E D = true := by simp [sameB, eqB]
set_option maxRecDepth 100000 in
set_option maxHeartbeats 8000000 in
theorem tellsBig1 (S : Int) (E : Bool) (A : Option Addr) (n c : Nat) (D : List Int) (S' : Int) (E' : Bool) (A' : Option Addr) (n' c' : Nat) (D' : List Int) (K F St : Int) (B : Option Addr) (m d : Nat) (X : List Int) (pd la ic cd : Int) (Pa : Option Addr) (Pn Pc : Nat) (rk al : Bool) (dp wt : Int) (W : World)
    (h : Byt W A n c D) (h' : Byt W A' n' c' D') (hx : Byt W B m d X) (g0 : 5000 < n) :
    Calls Try.prog 3 #[.agg #[.int .i64 S, .bool E, .slice A n c], .agg #[.int .i64 S', .bool E', .slice A' n' c'], .agg #[.int .u8 K, .int .u8 F, .int .i64 St, .slice B m d, .int .i64 pd, .int .i64 la, .int .i64 ic, .int .u32 cd, .slice Pa Pn Pc, .bool rk, .bool al, .int .i64 dp, .int .u8 wt]] W fun e w' => e = .returned (.bool true) ∧ Below W.heap.size W w' := by
  have G0 := Lib.hid fun w => fGreatE (A := A) (n := n) (c := c) (b := true) (decide_eq_true (by omega)) (Nat.le_trans h.cap h.mx) w
  clear h h' hx
  have b0 := Bel.refl W
  replace b0 := b0.alloc (.cells #[.int .i64 S, .bool E, .slice A n c] 24)
  have qb := Blk.newAt (b := W.heap.size) W 24 #[.int .i64 S, .bool E, .slice A n c] rfl
  replace b0 := b0.alloc (.cells #[.int .i64 S', .bool E', .slice A' n' c'] 24)
  replace qb := qb.alloc (.cells #[.int .i64 S', .bool E', .slice A' n' c'] 24)
  have qc := Blk.newAt (b := W.heap.size + 1) (W.alloc (.cells #[.int .i64 S, .bool E, .slice A n c] 24)) 24 #[.int .i64 S', .bool E', .slice A' n' c'] (by simp)
  replace b0 := b0.alloc (.cells #[.int .u8 K, .int .u8 F, .int .i64 St, .slice B m d, .int .i64 pd, .int .i64 la, .int .i64 ic, .int .u32 cd, .slice Pa Pn Pc, .bool rk, .bool al, .int .i64 dp, .int .u8 wt] 30)
  replace qb := qb.alloc (.cells #[.int .u8 K, .int .u8 F, .int .i64 St, .slice B m d, .int .i64 pd, .int .i64 la, .int .i64 ic, .int .u32 cd, .slice Pa Pn Pc, .bool rk, .bool al, .int .i64 dp, .int .u8 wt] 30)
  replace qc := qc.alloc (.cells #[.int .u8 K, .int .u8 F, .int .i64 St, .slice B m d, .int .i64 pd, .int .i64 la, .int .i64 ic, .int .u32 cd, .slice Pa Pn Pc, .bool rk, .bool al, .int .i64 dp, .int .u8 wt] 30)
  have qf := Blk.newAt (b := W.heap.size + 1 + 1) ((W.alloc (.cells #[.int .i64 S, .bool E, .slice A n c] 24)).alloc (.cells #[.int .i64 S', .bool E', .slice A' n' c'] 24)) 30 #[.int .u8 K, .int .u8 F, .int .i64 St, .slice B m d, .int .i64 pd, .int .i64 la, .int .i64 ic, .int .u32 cd, .slice Pa Pn Pc, .bool rk, .bool al, .int .i64 dp, .int .u8 wt] (by simp)
  have zqb0 := qb.at 0 rfl
  have zqb1 := qb.at 1 rfl
  have zqb2 := qb.at 2 rfl
  have zqc0 := qc.at 0 rfl
  have zqc1 := qc.at 1 rfl
  have zqc2 := qc.at 2 rfl
  have zqf0 := qf.at 0 rfl
  have zqf1 := qf.at 1 rfl
  have zqf2 := qf.at 2 rfl
  have zqf3 := qf.at 3 rfl
  have zqf4 := qf.at 4 rfl
  have zqf5 := qf.at 5 rfl
  have zqf6 := qf.at 6 rfl
  have zqf7 := qf.at 7 rfl
  have zqf8 := qf.at 8 rfl
  have zqf9 := qf.at 9 rfl
  have zqf10 := qf.at 10 rfl
  have zqf11 := qf.at 11 rfl
  have zqf12 := qf.at 12 rfl
  go_enter Try.func3, Try.ntmps3
  go_wp2_with (first | (go_at_call 7; (with_reducible refine (G0.out _).mono ?_); rintro e w1 ⟨rfl, rfl⟩) | (go_at_call 8; refine (fWakes _).mono ?_; rintro e w1 ⟨rfl, hb⟩; replace b0 := b0.below hb))
  go_ret
  exact ⟨rfl, b0.out⟩

set_option maxRecDepth 100000 in
set_option maxHeartbeats 8000000 in
theorem tellsBig2 (S : Int) (E : Bool) (A : Option Addr) (n c : Nat) (D : List Int) (S' : Int) (E' : Bool) (A' : Option Addr) (n' c' : Nat) (D' : List Int) (K F St : Int) (B : Option Addr) (m d : Nat) (X : List Int) (pd la ic cd : Int) (Pa : Option Addr) (Pn Pc : Nat) (rk al : Bool) (dp wt : Int) (W : World)
    (h : Byt W A n c D) (h' : Byt W A' n' c' D') (hx : Byt W B m d X) (g0 : n ≤ 5000) (g1 : 5000 < n') :
    Calls Try.prog 3 #[.agg #[.int .i64 S, .bool E, .slice A n c], .agg #[.int .i64 S', .bool E', .slice A' n' c'], .agg #[.int .u8 K, .int .u8 F, .int .i64 St, .slice B m d, .int .i64 pd, .int .i64 la, .int .i64 ic, .int .u32 cd, .slice Pa Pn Pc, .bool rk, .bool al, .int .i64 dp, .int .u8 wt]] W fun e w' => e = .returned (.bool true) ∧ Below W.heap.size W w' := by
  have G0 := Lib.hid fun w => fGreatE (A := A) (n := n) (c := c) (b := false) (decide_eq_false (by omega)) (Nat.le_trans h.cap h.mx) w
  have G1 := Lib.hid fun w => fGreatE (A := A') (n := n') (c := c') (b := true) (decide_eq_true (by omega)) (Nat.le_trans h'.cap h'.mx) w
  clear h h' hx
  have b0 := Bel.refl W
  replace b0 := b0.alloc (.cells #[.int .i64 S, .bool E, .slice A n c] 24)
  have qb := Blk.newAt (b := W.heap.size) W 24 #[.int .i64 S, .bool E, .slice A n c] rfl
  replace b0 := b0.alloc (.cells #[.int .i64 S', .bool E', .slice A' n' c'] 24)
  replace qb := qb.alloc (.cells #[.int .i64 S', .bool E', .slice A' n' c'] 24)
  have qc := Blk.newAt (b := W.heap.size + 1) (W.alloc (.cells #[.int .i64 S, .bool E, .slice A n c] 24)) 24 #[.int .i64 S', .bool E', .slice A' n' c'] (by simp)
  replace b0 := b0.alloc (.cells #[.int .u8 K, .int .u8 F, .int .i64 St, .slice B m d, .int .i64 pd, .int .i64 la, .int .i64 ic, .int .u32 cd, .slice Pa Pn Pc, .bool rk, .bool al, .int .i64 dp, .int .u8 wt] 30)
  replace qb := qb.alloc (.cells #[.int .u8 K, .int .u8 F, .int .i64 St, .slice B m d, .int .i64 pd, .int .i64 la, .int .i64 ic, .int .u32 cd, .slice Pa Pn Pc, .bool rk, .bool al, .int .i64 dp, .int .u8 wt] 30)
  replace qc := qc.alloc (.cells #[.int .u8 K, .int .u8 F, .int .i64 St, .slice B m d, .int .i64 pd, .int .i64 la, .int .i64 ic, .int .u32 cd, .slice Pa Pn Pc, .bool rk, .bool al, .int .i64 dp, .int .u8 wt] 30)
  have qf := Blk.newAt (b := W.heap.size + 1 + 1) ((W.alloc (.cells #[.int .i64 S, .bool E, .slice A n c] 24)).alloc (.cells #[.int .i64 S', .bool E', .slice A' n' c'] 24)) 30 #[.int .u8 K, .int .u8 F, .int .i64 St, .slice B m d, .int .i64 pd, .int .i64 la, .int .i64 ic, .int .u32 cd, .slice Pa Pn Pc, .bool rk, .bool al, .int .i64 dp, .int .u8 wt] (by simp)
  have zqb0 := qb.at 0 rfl
  have zqb1 := qb.at 1 rfl
  have zqb2 := qb.at 2 rfl
  have zqc0 := qc.at 0 rfl
  have zqc1 := qc.at 1 rfl
  have zqc2 := qc.at 2 rfl
  have zqf0 := qf.at 0 rfl
  have zqf1 := qf.at 1 rfl
  have zqf2 := qf.at 2 rfl
  have zqf3 := qf.at 3 rfl
  have zqf4 := qf.at 4 rfl
  have zqf5 := qf.at 5 rfl
  have zqf6 := qf.at 6 rfl
  have zqf7 := qf.at 7 rfl
  have zqf8 := qf.at 8 rfl
  have zqf9 := qf.at 9 rfl
  have zqf10 := qf.at 10 rfl
  have zqf11 := qf.at 11 rfl
  have zqf12 := qf.at 12 rfl
  go_enter Try.func3, Try.ntmps3
  go_wp2_with (first | (go_at_call 7; (with_reducible refine (G0.out _).mono ?_); rintro e w1 ⟨rfl, rfl⟩) | (go_at_call 7; (with_reducible refine (G1.out _).mono ?_); rintro e w1 ⟨rfl, rfl⟩) | (go_at_call 8; refine (fWakes _).mono ?_; rintro e w1 ⟨rfl, hb⟩; replace b0 := b0.below hb))
  go_ret
  exact ⟨rfl, b0.out⟩

set_option maxRecDepth 100000 in
set_option maxHeartbeats 8000000 in
theorem tellsBig3 (S : Int) (E : Bool) (A : Option Addr) (n c : Nat) (D : List Int) (S' : Int) (E' : Bool) (A' : Option Addr) (n' c' : Nat) (D' : List Int) (K F St : Int) (B : Option Addr) (m d : Nat) (X : List Int) (pd la ic cd : Int) (Pa : Option Addr) (Pn Pc : Nat) (rk al : Bool) (dp wt : Int) (W : World)
    (h : Byt W A n c D) (h' : Byt W A' n' c' D') (hx : Byt W B m d X) (g0 : n ≤ 5000) (g1 : n' ≤ 5000) (g2 : 5000 < m) :
    Calls Try.prog 3 #[.agg #[.int .i64 S, .bool E, .slice A n c], .agg #[.int .i64 S', .bool E', .slice A' n' c'], .agg #[.int .u8 K, .int .u8 F, .int .i64 St, .slice B m d, .int .i64 pd, .int .i64 la, .int .i64 ic, .int .u32 cd, .slice Pa Pn Pc, .bool rk, .bool al, .int .i64 dp, .int .u8 wt]] W fun e w' => e = .returned (.bool true) ∧ Below W.heap.size W w' := by
  have G0 := Lib.hid fun w => fGreatE (A := A) (n := n) (c := c) (b := false) (decide_eq_false (by omega)) (Nat.le_trans h.cap h.mx) w
  have G1 := Lib.hid fun w => fGreatE (A := A') (n := n') (c := c') (b := false) (decide_eq_false (by omega)) (Nat.le_trans h'.cap h'.mx) w
  have G2 := Lib.hid fun w => fGreatE (A := B) (n := m) (c := d) (b := true) (decide_eq_true (by omega)) (Nat.le_trans hx.cap hx.mx) w
  clear h h' hx
  have b0 := Bel.refl W
  replace b0 := b0.alloc (.cells #[.int .i64 S, .bool E, .slice A n c] 24)
  have qb := Blk.newAt (b := W.heap.size) W 24 #[.int .i64 S, .bool E, .slice A n c] rfl
  replace b0 := b0.alloc (.cells #[.int .i64 S', .bool E', .slice A' n' c'] 24)
  replace qb := qb.alloc (.cells #[.int .i64 S', .bool E', .slice A' n' c'] 24)
  have qc := Blk.newAt (b := W.heap.size + 1) (W.alloc (.cells #[.int .i64 S, .bool E, .slice A n c] 24)) 24 #[.int .i64 S', .bool E', .slice A' n' c'] (by simp)
  replace b0 := b0.alloc (.cells #[.int .u8 K, .int .u8 F, .int .i64 St, .slice B m d, .int .i64 pd, .int .i64 la, .int .i64 ic, .int .u32 cd, .slice Pa Pn Pc, .bool rk, .bool al, .int .i64 dp, .int .u8 wt] 30)
  replace qb := qb.alloc (.cells #[.int .u8 K, .int .u8 F, .int .i64 St, .slice B m d, .int .i64 pd, .int .i64 la, .int .i64 ic, .int .u32 cd, .slice Pa Pn Pc, .bool rk, .bool al, .int .i64 dp, .int .u8 wt] 30)
  replace qc := qc.alloc (.cells #[.int .u8 K, .int .u8 F, .int .i64 St, .slice B m d, .int .i64 pd, .int .i64 la, .int .i64 ic, .int .u32 cd, .slice Pa Pn Pc, .bool rk, .bool al, .int .i64 dp, .int .u8 wt] 30)
  have qf := Blk.newAt (b := W.heap.size + 1 + 1) ((W.alloc (.cells #[.int .i64 S, .bool E, .slice A n c] 24)).alloc (.cells #[.int .i64 S', .bool E', .slice A' n' c'] 24)) 30 #[.int .u8 K, .int .u8 F, .int .i64 St, .slice B m d, .int .i64 pd, .int .i64 la, .int .i64 ic, .int .u32 cd, .slice Pa Pn Pc, .bool rk, .bool al, .int .i64 dp, .int .u8 wt] (by simp)
  have zqb0 := qb.at 0 rfl
  have zqb1 := qb.at 1 rfl
  have zqb2 := qb.at 2 rfl
  have zqc0 := qc.at 0 rfl
  have zqc1 := qc.at 1 rfl
  have zqc2 := qc.at 2 rfl
  have zqf0 := qf.at 0 rfl
  have zqf1 := qf.at 1 rfl
  have zqf2 := qf.at 2 rfl
  have zqf3 := qf.at 3 rfl
  have zqf4 := qf.at 4 rfl
  have zqf5 := qf.at 5 rfl
  have zqf6 := qf.at 6 rfl
  have zqf7 := qf.at 7 rfl
  have zqf8 := qf.at 8 rfl
  have zqf9 := qf.at 9 rfl
  have zqf10 := qf.at 10 rfl
  have zqf11 := qf.at 11 rfl
  have zqf12 := qf.at 12 rfl
  go_enter Try.func3, Try.ntmps3
  go_wp2_with (first | (go_at_call 7; (with_reducible refine (G0.out _).mono ?_); rintro e w1 ⟨rfl, rfl⟩) | (go_at_call 7; (with_reducible refine (G1.out _).mono ?_); rintro e w1 ⟨rfl, rfl⟩) | (go_at_call 7; (with_reducible refine (G2.out _).mono ?_); rintro e w1 ⟨rfl, rfl⟩) | (go_at_call 8; refine (fWakes _).mono ?_; rintro e w1 ⟨rfl, hb⟩; replace b0 := b0.below hb))
  go_ret
  exact ⟨rfl, b0.out⟩

noncomputable def tellsOps : Array Oper := regOf Try.f3 56

set_option maxRecDepth 100000 in
set_option maxHeartbeats 8000000 in
theorem tellsOk (S : Int) (E : Bool) (A : Option Addr) (n c : Nat) (D : List Int) (S' : Int) (E' : Bool) (A' : Option Addr) (n' c' : Nat) (D' : List Int) (K F St : Int) (B : Option Addr) (m d : Nat) (X : List Int) (pd la ic cd : Int) (Pa : Option Addr) (Pn Pc : Nat) (rk al : Bool) (dp wt : Int) (W : World)
    (h : Byt W A n c D) (h' : Byt W A' n' c' D') (hx : Byt W B m d X) (g0 : n ≤ 5000) (g1 : n' ≤ 5000) (g2 : m ≤ 5000) (S0 : -9223372036854775808 ≤ S) (S1 : S ≤ 9223372036854775807) (f0 : 0 ≤ F) (f1 : F ≤ 255) :
    Calls Try.prog 3 #[.agg #[.int .i64 S, .bool E, .slice A n c], .agg #[.int .i64 S', .bool E', .slice A' n' c'], .agg #[.int .u8 K, .int .u8 F, .int .i64 St, .slice B m d, .int .i64 pd, .int .i64 la, .int .i64 ic, .int .u32 cd, .slice Pa Pn Pc, .bool rk, .bool al, .int .i64 dp, .int .u8 wt]] W fun e w' => e = .returned (.bool true) ∧ Below W.heap.size W w' := by
  have G0 := Lib.hid fun w => fGreatE (A := A) (n := n) (c := c) (b := false) (decide_eq_false (by omega)) (Nat.le_trans h.cap h.mx) w
  have G1 := Lib.hid fun w => fGreatE (A := A') (n := n') (c := c') (b := false) (decide_eq_false (by omega)) (Nat.le_trans h'.cap h'.mx) w
  have G2 := Lib.hid fun w => fGreatE (A := B) (n := m) (c := d) (b := false) (decide_eq_false (by omega)) (Nat.le_trans hx.cap hx.mx) w
  obtain ⟨r, hr⟩ : ∃ r, takeB S E D K F St X = r := ⟨_, rfl⟩
  obtain ⟨oS, oE, oD, wS, wE, wD, done, fw, fc, e'⟩ := r
  have T1 : Hid (∀ w, Byt w A n c D → Byt w B m d X → Calls Try.prog 9 #[.agg #[.int .i64 S, .bool E, .slice A n c], .agg #[.int .u8 K, .int .u8 F, .int .i64 St, .slice B m d, .int .i64 pd, .int .i64 la, .int .i64 ic, .int .u32 cd, .slice Pa Pn Pc, .bool rk, .bool al, .int .i64 dp, .int .u8 wt]] w fun e W' => ∃ A m c B n d, e = .returned (.tuple #[.agg #[.int .i64 oS, .bool oE, .slice A m c], .agg #[.int .i64 wS, .bool wE, .slice B n d], .bool done, .agg #[.bool fw, .int .i64 0, .int .u32 fc], .int .i64 e']) ∧ Mine w.heap.size W' A m c oD ∧ Mine w.heap.size W' B n d wD ∧ Below w.heap.size w W') := Lib.hid fun w h h' => by
    have := fBTake S E A n c D K F St B m d X pd la ic cd Pa Pn Pc rk al dp wt w h h' g0 g2 S0 S1 f0 f1
    rw [hr] at this
    exact this
  have T2 : Hid (∀ w, Byt w A n c D → Byt w B m d X → Calls Try.prog 10 #[.agg #[.int .i64 S, .bool E, .slice A n c], .agg #[.int .u8 K, .int .u8 F, .int .i64 St, .slice B m d, .int .i64 pd, .int .i64 la, .int .i64 ic, .int .u32 cd, .slice Pa Pn Pc, .bool rk, .bool al, .int .i64 dp, .int .u8 wt]] w fun e W' => ∃ A m c B n d, e = .returned (.tuple #[.agg #[.int .i64 oS, .bool oE, .slice A m c], .agg #[.int .i64 wS, .bool wE, .slice B n d], .bool done, .agg #[.bool fw, .int .i64 0, .int .u32 fc], .int .i64 e']) ∧ Mine w.heap.size W' A m c oD ∧ Mine w.heap.size W' B n d wD ∧ Below w.heap.size w W') := Lib.hid fun w h h' => by
    have := rBTake S E A n c D K F St B m d X pd la ic cd Pa Pn Pc rk al dp wt w h h' g0 g2 f0 f1
    rw [hr] at this
    exact this
  clear hr f0 f1
  obtain ⟨rb, hrb⟩ : ∃ b, rightB S E D = b := ⟨_, rfl⟩
  obtain ⟨sb, hsb⟩ : ∃ b, sameB S E D S' E' D' = b := ⟨_, rfl⟩
  obtain ⟨ob, hob⟩ : ∃ b, openB S = b := ⟨_, rfl⟩
  have R1 := Lib.hid fun w h => fBRightE (A := A) (n := n) (c := c) hrb w h S0 S1
  have R2 : Hid (∀ w, Byt w A n c D → Calls Try.prog 13 #[.agg #[.int .i64 S, .bool E, .slice A n c]] w (BoolP rb w)) := Lib.hid fun w h => by subst hrb; exact rBRight S E A n c D w h
  have P1 := Lib.hid fun w => fBOpenE (E := E) (A := A) (n := n) (c := c) hob w
  have P2 : Hid (∀ w, Calls Try.prog 15 #[.agg #[.int .i64 S, .bool E, .slice A n c]] w (BoolP ob w)) := Lib.hid fun w => by subst hob; exact rBOpen S E A n c w
  have M1 := Lib.hid fun w h h' => fBSameE (A := A) (n := n) (c := c) (B := A') (m := n') (d := c') hsb w h h'
  have M2 := Lib.hid fun w h h' => rBSameE (A := A) (n := n) (c := c) (B := A') (m := n') (d := c') hsb w h h'
  have O1 : Hid (∀ w, Byt w A n c D → Calls Try.prog 17 #[.agg #[.int .i64 S, .bool E, .slice A n c]] w (OwnP S E n D w)) := Lib.hid fun w h => fBOwn S E A n c D w h (by omega)
  clear hrb hsb hob g0 g1 g2 S0 S1
  have b0 := Bel.refl W
  replace b0 := b0.alloc (.cells #[.int .i64 S, .bool E, .slice A n c] 24)
  replace h := h.alloc (.cells #[.int .i64 S, .bool E, .slice A n c] 24)
  replace h' := h'.alloc (.cells #[.int .i64 S, .bool E, .slice A n c] 24)
  replace hx := hx.alloc (.cells #[.int .i64 S, .bool E, .slice A n c] 24)
  have qb := Blk.newAt (b := W.heap.size) W 24 #[.int .i64 S, .bool E, .slice A n c] rfl
  replace b0 := b0.alloc (.cells #[.int .i64 S', .bool E', .slice A' n' c'] 24)
  replace h := h.alloc (.cells #[.int .i64 S', .bool E', .slice A' n' c'] 24)
  replace h' := h'.alloc (.cells #[.int .i64 S', .bool E', .slice A' n' c'] 24)
  replace hx := hx.alloc (.cells #[.int .i64 S', .bool E', .slice A' n' c'] 24)
  replace qb := qb.alloc (.cells #[.int .i64 S', .bool E', .slice A' n' c'] 24)
  have qc := Blk.newAt (b := W.heap.size + 1) (W.alloc (.cells #[.int .i64 S, .bool E, .slice A n c] 24)) 24 #[.int .i64 S', .bool E', .slice A' n' c'] (by simp)
  replace b0 := b0.alloc (.cells #[.int .u8 K, .int .u8 F, .int .i64 St, .slice B m d, .int .i64 pd, .int .i64 la, .int .i64 ic, .int .u32 cd, .slice Pa Pn Pc, .bool rk, .bool al, .int .i64 dp, .int .u8 wt] 30)
  replace h := h.alloc (.cells #[.int .u8 K, .int .u8 F, .int .i64 St, .slice B m d, .int .i64 pd, .int .i64 la, .int .i64 ic, .int .u32 cd, .slice Pa Pn Pc, .bool rk, .bool al, .int .i64 dp, .int .u8 wt] 30)
  replace h' := h'.alloc (.cells #[.int .u8 K, .int .u8 F, .int .i64 St, .slice B m d, .int .i64 pd, .int .i64 la, .int .i64 ic, .int .u32 cd, .slice Pa Pn Pc, .bool rk, .bool al, .int .i64 dp, .int .u8 wt] 30)
  replace hx := hx.alloc (.cells #[.int .u8 K, .int .u8 F, .int .i64 St, .slice B m d, .int .i64 pd, .int .i64 la, .int .i64 ic, .int .u32 cd, .slice Pa Pn Pc, .bool rk, .bool al, .int .i64 dp, .int .u8 wt] 30)
  replace qb := qb.alloc (.cells #[.int .u8 K, .int .u8 F, .int .i64 St, .slice B m d, .int .i64 pd, .int .i64 la, .int .i64 ic, .int .u32 cd, .slice Pa Pn Pc, .bool rk, .bool al, .int .i64 dp, .int .u8 wt] 30)
  replace qc := qc.alloc (.cells #[.int .u8 K, .int .u8 F, .int .i64 St, .slice B m d, .int .i64 pd, .int .i64 la, .int .i64 ic, .int .u32 cd, .slice Pa Pn Pc, .bool rk, .bool al, .int .i64 dp, .int .u8 wt] 30)
  have qf := Blk.newAt (b := W.heap.size + 1 + 1) ((W.alloc (.cells #[.int .i64 S, .bool E, .slice A n c] 24)).alloc (.cells #[.int .i64 S', .bool E', .slice A' n' c'] 24)) 30 #[.int .u8 K, .int .u8 F, .int .i64 St, .slice B m d, .int .i64 pd, .int .i64 la, .int .i64 ic, .int .u32 cd, .slice Pa Pn Pc, .bool rk, .bool al, .int .i64 dp, .int .u8 wt] (by simp)
  have zqb0 := qb.at 0 rfl
  have zqb1 := qb.at 1 rfl
  have zqb2 := qb.at 2 rfl
  have zqc0 := qc.at 0 rfl
  have zqc1 := qc.at 1 rfl
  have zqc2 := qc.at 2 rfl
  have zqf0 := qf.at 0 rfl
  have zqf1 := qf.at 1 rfl
  have zqf2 := qf.at 2 rfl
  have zqf3 := qf.at 3 rfl
  have zqf4 := qf.at 4 rfl
  have zqf5 := qf.at 5 rfl
  have zqf6 := qf.at 6 rfl
  have zqf7 := qf.at 7 rfl
  have zqf8 := qf.at 8 rfl
  have zqf9 := qf.at 9 rfl
  have zqf10 := qf.at 10 rfl
  have zqf11 := qf.at 11 rfl
  have zqf12 := qf.at 12 rfl
  go_enter Try.func3, Try.ntmps3
  go_wp2_with (first | (go_at_call 7; (with_reducible refine (G0.out _).mono ?_); rintro e w1 ⟨rfl, rfl⟩) | (go_at_call 7; (with_reducible refine (G1.out _).mono ?_); rintro e w1 ⟨rfl, rfl⟩) | (go_at_call 7; (with_reducible refine (G2.out _).mono ?_); rintro e w1 ⟨rfl, rfl⟩))
  refine (T1.out _ h hx).mono ?_
  rintro e w1 ⟨A1, m1, c1, B1, n1, d1, rfl, mo1, mw1, hb⟩
  replace b0 := (b0).below hb; replace h := (h).below hb; replace h' := (h').below hb; replace hx := (hx).below hb; replace qb := (qb).below hb; replace qc := (qc).below hb; replace qf := (qf).below hb
  have yo1 := mo1.byt
  have yw1 := mw1.byt
  clear mo1 mw1
  replace b0 := b0.alloc (.cells #[.int .i64 oS, .bool oE, .slice A1 m1 c1] 24)
  replace h := h.alloc (.cells #[.int .i64 oS, .bool oE, .slice A1 m1 c1] 24)
  replace h' := h'.alloc (.cells #[.int .i64 oS, .bool oE, .slice A1 m1 c1] 24)
  replace hx := hx.alloc (.cells #[.int .i64 oS, .bool oE, .slice A1 m1 c1] 24)
  replace qb := qb.alloc (.cells #[.int .i64 oS, .bool oE, .slice A1 m1 c1] 24)
  replace qc := qc.alloc (.cells #[.int .i64 oS, .bool oE, .slice A1 m1 c1] 24)
  replace qf := qf.alloc (.cells #[.int .i64 oS, .bool oE, .slice A1 m1 c1] 24)
  replace yo1 := yo1.alloc (.cells #[.int .i64 oS, .bool oE, .slice A1 m1 c1] 24)
  replace yw1 := yw1.alloc (.cells #[.int .i64 oS, .bool oE, .slice A1 m1 c1] 24)
  have qo1 := Blk.newAt (b := w1.heap.size) w1 24 #[.int .i64 oS, .bool oE, .slice A1 m1 c1] rfl
  replace b0 := b0.alloc (.cells #[.int .i64 wS, .bool wE, .slice B1 n1 d1] 24)
  replace h := h.alloc (.cells #[.int .i64 wS, .bool wE, .slice B1 n1 d1] 24)
  replace h' := h'.alloc (.cells #[.int .i64 wS, .bool wE, .slice B1 n1 d1] 24)
  replace hx := hx.alloc (.cells #[.int .i64 wS, .bool wE, .slice B1 n1 d1] 24)
  replace qb := qb.alloc (.cells #[.int .i64 wS, .bool wE, .slice B1 n1 d1] 24)
  replace qc := qc.alloc (.cells #[.int .i64 wS, .bool wE, .slice B1 n1 d1] 24)
  replace qf := qf.alloc (.cells #[.int .i64 wS, .bool wE, .slice B1 n1 d1] 24)
  replace yo1 := yo1.alloc (.cells #[.int .i64 wS, .bool wE, .slice B1 n1 d1] 24)
  replace yw1 := yw1.alloc (.cells #[.int .i64 wS, .bool wE, .slice B1 n1 d1] 24)
  replace qo1 := qo1.alloc (.cells #[.int .i64 wS, .bool wE, .slice B1 n1 d1] 24)
  have qw1 := Blk.newAt (b := w1.heap.size + 1) (w1.alloc (.cells #[.int .i64 oS, .bool oE, .slice A1 m1 c1] 24)) 24 #[.int .i64 wS, .bool wE, .slice B1 n1 d1] (by simp)
  replace b0 := b0.alloc (.cells #[.bool fw, .int .i64 0, .int .u32 fc] 34)
  replace h := h.alloc (.cells #[.bool fw, .int .i64 0, .int .u32 fc] 34)
  replace h' := h'.alloc (.cells #[.bool fw, .int .i64 0, .int .u32 fc] 34)
  replace hx := hx.alloc (.cells #[.bool fw, .int .i64 0, .int .u32 fc] 34)
  replace qb := qb.alloc (.cells #[.bool fw, .int .i64 0, .int .u32 fc] 34)
  replace qc := qc.alloc (.cells #[.bool fw, .int .i64 0, .int .u32 fc] 34)
  replace qf := qf.alloc (.cells #[.bool fw, .int .i64 0, .int .u32 fc] 34)
  replace yo1 := yo1.alloc (.cells #[.bool fw, .int .i64 0, .int .u32 fc] 34)
  replace yw1 := yw1.alloc (.cells #[.bool fw, .int .i64 0, .int .u32 fc] 34)
  replace qo1 := qo1.alloc (.cells #[.bool fw, .int .i64 0, .int .u32 fc] 34)
  replace qw1 := qw1.alloc (.cells #[.bool fw, .int .i64 0, .int .u32 fc] 34)
  have qg1 := Blk.newAt (b := w1.heap.size + 1 + 1) ((w1.alloc (.cells #[.int .i64 oS, .bool oE, .slice A1 m1 c1] 24)).alloc (.cells #[.int .i64 wS, .bool wE, .slice B1 n1 d1] 24)) 34 #[.bool fw, .int .i64 0, .int .u32 fc] (by simp)
  clear zqb0 zqb1 zqb2 zqc0 zqc1 zqc2 zqf0 zqf1 zqf2 zqf3 zqf4 zqf5 zqf6 zqf7 zqf8 zqf9 zqf10 zqf11 zqf12
  have zqb0 := qb.at 0 rfl
  have zqb1 := qb.at 1 rfl
  have zqb2 := qb.at 2 rfl
  have zqc0 := qc.at 0 rfl
  have zqc1 := qc.at 1 rfl
  have zqc2 := qc.at 2 rfl
  have zqf0 := qf.at 0 rfl
  have zqf1 := qf.at 1 rfl
  have zqf2 := qf.at 2 rfl
  have zqf3 := qf.at 3 rfl
  have zqf4 := qf.at 4 rfl
  have zqf5 := qf.at 5 rfl
  have zqf6 := qf.at 6 rfl
  have zqf7 := qf.at 7 rfl
  have zqf8 := qf.at 8 rfl
  have zqf9 := qf.at 9 rfl
  have zqf10 := qf.at 10 rfl
  have zqf11 := qf.at 11 rfl
  have zqf12 := qf.at 12 rfl
  have zqo10 := qo1.at 0 rfl
  have zqo11 := qo1.at 1 rfl
  have zqo12 := qo1.at 2 rfl
  have zqw10 := qw1.at 0 rfl
  have zqw11 := qw1.at 1 rfl
  have zqw12 := qw1.at 2 rfl
  have zqg10 := qg1.at 0 rfl
  have zqg11 := qg1.at 1 rfl
  have zqg12 := qg1.at 2 rfl
  go_wp2_with fail
  refine (T2.out _ h hx).mono ?_
  rintro e w2 ⟨A2, m2, c2, B2, n2, d2, rfl, mo2, mw2, hb⟩
  replace b0 := (b0).below hb; replace h := (h).below hb; replace h' := (h').below hb; replace hx := (hx).below hb; replace qb := (qb).below hb; replace qc := (qc).below hb; replace qf := (qf).below hb; replace yo1 := (yo1).below hb; replace yw1 := (yw1).below hb; replace qo1 := (qo1).below hb; replace qw1 := (qw1).below hb; replace qg1 := (qg1).below hb
  have yo2 := mo2.byt
  have yw2 := mw2.byt
  clear mo2 mw2
  replace b0 := b0.alloc (.cells #[.int .i64 oS, .bool oE, .slice A2 m2 c2] 24)
  replace h := h.alloc (.cells #[.int .i64 oS, .bool oE, .slice A2 m2 c2] 24)
  replace h' := h'.alloc (.cells #[.int .i64 oS, .bool oE, .slice A2 m2 c2] 24)
  replace hx := hx.alloc (.cells #[.int .i64 oS, .bool oE, .slice A2 m2 c2] 24)
  replace qb := qb.alloc (.cells #[.int .i64 oS, .bool oE, .slice A2 m2 c2] 24)
  replace qc := qc.alloc (.cells #[.int .i64 oS, .bool oE, .slice A2 m2 c2] 24)
  replace qf := qf.alloc (.cells #[.int .i64 oS, .bool oE, .slice A2 m2 c2] 24)
  replace yo1 := yo1.alloc (.cells #[.int .i64 oS, .bool oE, .slice A2 m2 c2] 24)
  replace yw1 := yw1.alloc (.cells #[.int .i64 oS, .bool oE, .slice A2 m2 c2] 24)
  replace qo1 := qo1.alloc (.cells #[.int .i64 oS, .bool oE, .slice A2 m2 c2] 24)
  replace qw1 := qw1.alloc (.cells #[.int .i64 oS, .bool oE, .slice A2 m2 c2] 24)
  replace qg1 := qg1.alloc (.cells #[.int .i64 oS, .bool oE, .slice A2 m2 c2] 24)
  replace yo2 := yo2.alloc (.cells #[.int .i64 oS, .bool oE, .slice A2 m2 c2] 24)
  replace yw2 := yw2.alloc (.cells #[.int .i64 oS, .bool oE, .slice A2 m2 c2] 24)
  have qo2 := Blk.newAt (b := w2.heap.size) w2 24 #[.int .i64 oS, .bool oE, .slice A2 m2 c2] rfl
  replace b0 := b0.alloc (.cells #[.int .i64 wS, .bool wE, .slice B2 n2 d2] 24)
  replace h := h.alloc (.cells #[.int .i64 wS, .bool wE, .slice B2 n2 d2] 24)
  replace h' := h'.alloc (.cells #[.int .i64 wS, .bool wE, .slice B2 n2 d2] 24)
  replace hx := hx.alloc (.cells #[.int .i64 wS, .bool wE, .slice B2 n2 d2] 24)
  replace qb := qb.alloc (.cells #[.int .i64 wS, .bool wE, .slice B2 n2 d2] 24)
  replace qc := qc.alloc (.cells #[.int .i64 wS, .bool wE, .slice B2 n2 d2] 24)
  replace qf := qf.alloc (.cells #[.int .i64 wS, .bool wE, .slice B2 n2 d2] 24)
  replace yo1 := yo1.alloc (.cells #[.int .i64 wS, .bool wE, .slice B2 n2 d2] 24)
  replace yw1 := yw1.alloc (.cells #[.int .i64 wS, .bool wE, .slice B2 n2 d2] 24)
  replace qo1 := qo1.alloc (.cells #[.int .i64 wS, .bool wE, .slice B2 n2 d2] 24)
  replace qw1 := qw1.alloc (.cells #[.int .i64 wS, .bool wE, .slice B2 n2 d2] 24)
  replace qg1 := qg1.alloc (.cells #[.int .i64 wS, .bool wE, .slice B2 n2 d2] 24)
  replace yo2 := yo2.alloc (.cells #[.int .i64 wS, .bool wE, .slice B2 n2 d2] 24)
  replace yw2 := yw2.alloc (.cells #[.int .i64 wS, .bool wE, .slice B2 n2 d2] 24)
  replace qo2 := qo2.alloc (.cells #[.int .i64 wS, .bool wE, .slice B2 n2 d2] 24)
  have qw2 := Blk.newAt (b := w2.heap.size + 1) (w2.alloc (.cells #[.int .i64 oS, .bool oE, .slice A2 m2 c2] 24)) 24 #[.int .i64 wS, .bool wE, .slice B2 n2 d2] (by simp)
  replace b0 := b0.alloc (.cells #[.bool fw, .int .i64 0, .int .u32 fc] 34)
  replace h := h.alloc (.cells #[.bool fw, .int .i64 0, .int .u32 fc] 34)
  replace h' := h'.alloc (.cells #[.bool fw, .int .i64 0, .int .u32 fc] 34)
  replace hx := hx.alloc (.cells #[.bool fw, .int .i64 0, .int .u32 fc] 34)
  replace qb := qb.alloc (.cells #[.bool fw, .int .i64 0, .int .u32 fc] 34)
  replace qc := qc.alloc (.cells #[.bool fw, .int .i64 0, .int .u32 fc] 34)
  replace qf := qf.alloc (.cells #[.bool fw, .int .i64 0, .int .u32 fc] 34)
  replace yo1 := yo1.alloc (.cells #[.bool fw, .int .i64 0, .int .u32 fc] 34)
  replace yw1 := yw1.alloc (.cells #[.bool fw, .int .i64 0, .int .u32 fc] 34)
  replace qo1 := qo1.alloc (.cells #[.bool fw, .int .i64 0, .int .u32 fc] 34)
  replace qw1 := qw1.alloc (.cells #[.bool fw, .int .i64 0, .int .u32 fc] 34)
  replace qg1 := qg1.alloc (.cells #[.bool fw, .int .i64 0, .int .u32 fc] 34)
  replace yo2 := yo2.alloc (.cells #[.bool fw, .int .i64 0, .int .u32 fc] 34)
  replace yw2 := yw2.alloc (.cells #[.bool fw, .int .i64 0, .int .u32 fc] 34)
  replace qo2 := qo2.alloc (.cells #[.bool fw, .int .i64 0, .int .u32 fc] 34)
  replace qw2 := qw2.alloc (.cells #[.bool fw, .int .i64 0, .int .u32 fc] 34)
  have qg2 := Blk.newAt (b := w2.heap.size + 1 + 1) ((w2.alloc (.cells #[.int .i64 oS, .bool oE, .slice A2 m2 c2] 24)).alloc (.cells #[.int .i64 wS, .bool wE, .slice B2 n2 d2] 24)) 34 #[.bool fw, .int .i64 0, .int .u32 fc] (by simp)
  clear zqb0 zqb1 zqb2 zqc0 zqc1 zqc2 zqf0 zqf1 zqf2 zqf3 zqf4 zqf5 zqf6 zqf7 zqf8 zqf9 zqf10 zqf11 zqf12 zqo10 zqo11 zqo12 zqw10 zqw11 zqw12 zqg10 zqg11 zqg12
  go_wp2_with fail
  generalize ((w2.alloc (.cells #[.int .i64 oS, .bool oE, .slice A2 m2 c2] 24)).alloc (.cells #[.int .i64 wS, .bool wE, .slice B2 n2 d2] 24)).alloc (.cells #[.bool fw, .int .i64 0, .int .u32 fc] 34) = W3 at *
  obtain ⟨SW, HS⟩ : ∃ SW : World → Prop, Hid (SW = CellsAt [(⟨W.heap.size, 0, none⟩, .int .i64 S), (⟨W.heap.size, 1, none⟩, .bool E), (⟨W.heap.size, 2, none⟩, .slice A n c), (⟨W.heap.size + 1, 0, none⟩, .int .i64 S'), (⟨W.heap.size + 1, 1, none⟩, .bool E'), (⟨W.heap.size + 1, 2, none⟩, .slice A' n' c'), (⟨W.heap.size + 1 + 1, 0, none⟩, .int .u8 K), (⟨W.heap.size + 1 + 1, 1, none⟩, .int .u8 F), (⟨W.heap.size + 1 + 1, 2, none⟩, .int .i64 St), (⟨W.heap.size + 1 + 1, 3, none⟩, .slice B m d), (⟨W.heap.size + 1 + 1, 4, none⟩, .int .i64 pd), (⟨W.heap.size + 1 + 1, 5, none⟩, .int .i64 la), (⟨W.heap.size + 1 + 1, 6, none⟩, .int .i64 ic), (⟨W.heap.size + 1 + 1, 7, none⟩, .int .u32 cd), (⟨W.heap.size + 1 + 1, 8, none⟩, .slice Pa Pn Pc), (⟨W.heap.size + 1 + 1, 9, none⟩, .bool rk), (⟨W.heap.size + 1 + 1, 10, none⟩, .bool al), (⟨W.heap.size + 1 + 1, 11, none⟩, .int .i64 dp), (⟨W.heap.size + 1 + 1, 12, none⟩, .int .u8 wt), (⟨w1.heap.size, 0, none⟩, .int .i64 oS), (⟨w1.heap.size, 1, none⟩, .bool oE), (⟨w1.heap.size, 2, none⟩, .slice A1 m1 c1), (⟨w1.heap.size + 1, 0, none⟩, .int .i64 wS), (⟨w1.heap.size + 1, 1, none⟩, .bool wE), (⟨w1.heap.size + 1, 2, none⟩, .slice B1 n1 d1), (⟨w1.heap.size + 1 + 1, 0, none⟩, .bool fw), (⟨w1.heap.size + 1 + 1, 1, none⟩, .int .i64 0), (⟨w1.heap.size + 1 + 1, 2, none⟩, .int .u32 fc), (⟨w2.heap.size, 0, none⟩, .int .i64 oS), (⟨w2.heap.size, 1, none⟩, .bool oE), (⟨w2.heap.size, 2, none⟩, .slice A2 m2 c2), (⟨w2.heap.size + 1, 0, none⟩, .int .i64 wS), (⟨w2.heap.size + 1, 1, none⟩, .bool wE), (⟨w2.heap.size + 1, 2, none⟩, .slice B2 n2 d2), (⟨w2.heap.size + 1 + 1, 0, none⟩, .bool fw), (⟨w2.heap.size + 1 + 1, 1, none⟩, .int .i64 0), (⟨w2.heap.size + 1 + 1, 2, none⟩, .int .u32 fc)]) := ⟨_, Lib.hid rfl⟩
  have sw0 : SW W3.drew := by
    rw [HS.out]
    exact ⟨qb.at 0 rfl, qb.at 1 rfl, qb.at 2 rfl, qc.at 0 rfl, qc.at 1 rfl, qc.at 2 rfl, qf.at 0 rfl, qf.at 1 rfl, qf.at 2 rfl, qf.at 3 rfl, qf.at 4 rfl, qf.at 5 rfl, qf.at 6 rfl, qf.at 7 rfl, qf.at 8 rfl, qf.at 9 rfl, qf.at 10 rfl, qf.at 11 rfl, qf.at 12 rfl, qo1.at 0 rfl, qo1.at 1 rfl, qo1.at 2 rfl, qw1.at 0 rfl, qw1.at 1 rfl, qw1.at 2 rfl, qg1.at 0 rfl, qg1.at 1 rfl, qg1.at 2 rfl, qo2.at 0 rfl, qo2.at 1 rfl, qo2.at 2 rfl, qw2.at 0 rfl, qw2.at 1 rfl, qw2.at 2 rfl, qg2.at 0 rfl, qg2.at 1 rfl, qg2.at 2 rfl, trivial⟩
  replace b0 := b0.drew
  replace h := h.drew
  replace h' := h'.drew
  replace hx := hx.drew
  replace yo1 := yo1.drew
  replace yw1 := yw1.drew
  replace yo2 := yo2.drew
  replace yw2 := yw2.drew
  clear qb qc qf qo1 qw1 qg1 qo2 qw2 qg2
  (try simp only [List.append_eq, List.cons_append, List.nil_append])
  have HB : Hid (∀ w w', SW w → Below w.heap.size w w' → SW w') := Lib.hid fun w w' h hb => by rw [HS.out] at h ⊢; exact CellsAt.below h hb
  refine wp_region_N tellsOps SW (by as_aux_lemma => kernel_rfl) (by as_aux_lemma => kernel_rfl) (fun d _ _ _ _ h => by cases d <;> exact h) (fun Q HQ hp => ?_)
  refine wpAnyG_takesF [0, 1] 54 (by as_aux_lemma => kernel_rfl) (by as_aux_lemma => kernel_rfl) hp sw0 ?_
  refine pureW_e1 7 (by (conv => lhs; whnf; arg 1; whnf)) (by rfl) (by (conv => lhs; whnf)) (fun ρ hρ h1 w1 hSw => by have hc := hρ.const; clear hρ; rw [HS.out] at hSw; simp only [CellsAt] at hSw; go_simp; try with_reducible rfl) ?_; (try simp only [Act.put, List.setIfInBounds_toArray, List.set_cons_succ, List.set_cons_zero])
  refine pureW_e1 12 (by (conv => lhs; whnf; arg 1; whnf)) (by rfl) (by (conv => lhs; whnf)) (fun ρ hρ h1 w1 hSw => by have hc := hρ.const; clear hρ; rw [HS.out] at hSw; simp only [CellsAt] at hSw; go_simp; try with_reducible rfl) ?_; (try simp only [Act.put, List.setIfInBounds_toArray, List.set_cons_succ, List.set_cons_zero])
  refine pureW_nil ?_
  refine wpAnyG_oneN 2 53 (by as_aux_lemma => kernel_rfl) (by as_aux_lemma => kernel_rfl) (by (conv => lhs; whnf; arg 1; whnf)) (by rfl) (fun K hK => ?_)
  go_simp
  refine (rBSameE (sameB_self oS oE oD) _ yo1 yo2).mono ?_
  rintro e wr1 ⟨rfl, hb⟩
  replace b0 := (b0).below hb
  replace h := (h).below hb
  replace h' := (h').below hb
  replace hx := (hx).below hb
  replace yo1 := (yo1).below hb
  replace yw1 := (yw1).below hb
  replace yo2 := (yo2).below hb
  replace yw2 := (yw2).below hb
  have sw1 := HB.out _ _ sw0 hb
  (try go_simp)
  refine hK.out _ _ sw1 ?_
  clear hK K hb sw0
  refine wpAnyG_takesF [3, 4, 5] 50 (by as_aux_lemma => kernel_rfl) (by as_aux_lemma => kernel_rfl) hp sw1 ?_
  refine pureW_e1 51 (by (conv => lhs; whnf; arg 1; whnf)) (by rfl) (by (conv => lhs; whnf)) (fun ρ hρ h1 w1 hSw => by have hc := hρ.const; clear hρ; clear hSw; go_simp; try with_reducible rfl) ?_; (try simp only [Act.put, List.setIfInBounds_toArray, List.set_cons_succ, List.set_cons_zero])
  refine pureW_e1 8 (by (conv => lhs; whnf; arg 1; whnf)) (by rfl) (by (conv => lhs; whnf)) (fun ρ hρ h1 w1 hSw => by have hc := hρ.const; clear hρ; rw [HS.out] at hSw; simp only [CellsAt] at hSw; go_simp; try with_reducible rfl) ?_; (try simp only [Act.put, List.setIfInBounds_toArray, List.set_cons_succ, List.set_cons_zero])
  refine pureW_e1 13 (by (conv => lhs; whnf; arg 1; whnf)) (by rfl) (by (conv => lhs; whnf)) (fun ρ hρ h1 w1 hSw => by have hc := hρ.const; clear hρ; rw [HS.out] at hSw; simp only [CellsAt] at hSw; go_simp; try with_reducible rfl) ?_; (try simp only [Act.put, List.setIfInBounds_toArray, List.set_cons_succ, List.set_cons_zero])
  refine pureW_nil ?_
  refine wpAnyG_oneN 6 49 (by as_aux_lemma => kernel_rfl) (by as_aux_lemma => kernel_rfl) (by (conv => lhs; whnf; arg 1; whnf)) (by rfl) (fun K hK => ?_)
  go_simp
  refine (rBSameE (sameB_self wS wE wD) _ yw1 yw2).mono ?_
  rintro e wr2 ⟨rfl, hb⟩
  replace b0 := (b0).below hb
  replace h := (h).below hb
  replace h' := (h').below hb
  replace hx := (hx).below hb
  replace yo1 := (yo1).below hb
  replace yw1 := (yw1).below hb
  replace yo2 := (yo2).below hb
  replace yw2 := (yw2).below hb
  have sw2 := HB.out _ _ sw1 hb
  (try go_simp)
  refine hK.out _ _ sw2 ?_
  clear hK K hb sw1
  refine wpAnyG_takesF [7, 8, 9, 10, 11, 12, 13, 14, 15, 16, 17, 18, 19, 20, 21, 22, 23, 24, 26] 30 (by as_aux_lemma => kernel_rfl) (by as_aux_lemma => kernel_rfl) hp sw2 ?_
  refine pureW_e2 52 55 (by (conv => lhs; whnf; arg 1; whnf)) (by rfl) (by (conv => lhs; whnf)) (by (conv => lhs; whnf)) (fun ρ hρ h1 h2 w1 hSw => by have hc := hρ.const; clear hρ; clear hSw; go_simp; try with_reducible rfl) ?_; (try simp only [Act.put, List.setIfInBounds_toArray, List.set_cons_succ, List.set_cons_zero])
  refine pureW_e1 56 (by (conv => lhs; whnf; arg 1; whnf)) (by rfl) (by (conv => lhs; whnf)) (fun ρ hρ h1 w1 hSw => by have hc := hρ.const; clear hρ; clear hSw; go_simp; try with_reducible rfl) ?_; (try simp only [Act.put, List.setIfInBounds_toArray, List.set_cons_succ, List.set_cons_zero])
  refine pureW_e1 9 (by (conv => lhs; whnf; arg 1; whnf)) (by rfl) (by (conv => lhs; whnf)) (fun ρ hρ h1 w1 hSw => by have hc := hρ.const; clear hρ; clear hSw; go_simp; try with_reducible rfl) ?_; (try simp only [Act.put, List.setIfInBounds_toArray, List.set_cons_succ, List.set_cons_zero])
  refine pureW_e1 14 (by (conv => lhs; whnf; arg 1; whnf)) (by rfl) (by (conv => lhs; whnf)) (fun ρ hρ h1 w1 hSw => by have hc := hρ.const; clear hρ; clear hSw; go_simp; try with_reducible rfl) ?_; (try simp only [Act.put, List.setIfInBounds_toArray, List.set_cons_succ, List.set_cons_zero])
  refine pureW_e2 58 59 (by (conv => lhs; whnf; arg 1; whnf)) (by rfl) (by (conv => lhs; whnf)) (by (conv => lhs; whnf)) (fun ρ hρ h1 h2 w1 hSw => by have hc := hρ.const; clear hρ; clear hSw; go_simp; try with_reducible rfl) ?_; (try simp only [Act.put, List.setIfInBounds_toArray, List.set_cons_succ, List.set_cons_zero])
  refine pureW_e2 57 60 (by (conv => lhs; whnf; arg 1; whnf)) (by rfl) (by (conv => lhs; whnf)) (by (conv => lhs; whnf)) (fun ρ hρ h1 h2 w1 hSw => by have hc := hρ.const; clear hρ; clear hSw; go_simp; try with_reducible rfl) ?_; (try simp only [Act.put, List.setIfInBounds_toArray, List.set_cons_succ, List.set_cons_zero])
  refine pureW_e1 61 (by (conv => lhs; whnf; arg 1; whnf)) (by rfl) (by (conv => lhs; whnf)) (fun ρ hρ h1 w1 hSw => by have hc := hρ.const; clear hρ; clear hSw; go_simp; try with_reducible rfl) ?_; (try simp only [Act.put, List.setIfInBounds_toArray, List.set_cons_succ, List.set_cons_zero])
  refine pureW_e1 10 (by (conv => lhs; whnf; arg 1; whnf)) (by rfl) (by (conv => lhs; whnf)) (fun ρ hρ h1 w1 hSw => by have hc := hρ.const; clear hρ; rw [HS.out] at hSw; simp only [CellsAt] at hSw; go_simp; try with_reducible rfl) ?_; (try simp only [Act.put, List.setIfInBounds_toArray, List.set_cons_succ, List.set_cons_zero])
  refine pureW_e1 15 (by (conv => lhs; whnf; arg 1; whnf)) (by rfl) (by (conv => lhs; whnf)) (fun ρ hρ h1 w1 hSw => by have hc := hρ.const; clear hρ; rw [HS.out] at hSw; simp only [CellsAt] at hSw; go_simp; try with_reducible rfl) ?_; (try simp only [Act.put, List.setIfInBounds_toArray, List.set_cons_succ, List.set_cons_zero])
  refine pureW_e2 63 64 (by (conv => lhs; whnf; arg 1; whnf)) (by rfl) (by (conv => lhs; whnf)) (by (conv => lhs; whnf)) (fun ρ hρ h1 h2 w1 hSw => by have hc := hρ.const; clear hρ; clear hSw; go_simp; try with_reducible rfl) ?_; (try simp only [Act.put, List.setIfInBounds_toArray, List.set_cons_succ, List.set_cons_zero])
  refine pureW_e2 62 65 (by (conv => lhs; whnf; arg 1; whnf)) (by rfl) (by (conv => lhs; whnf)) (by (conv => lhs; whnf)) (fun ρ hρ h1 h2 w1 hSw => by have hc := hρ.const; clear hρ; clear hSw; go_simp; try with_reducible rfl) ?_; (try simp only [Act.put, List.setIfInBounds_toArray, List.set_cons_succ, List.set_cons_zero])
  refine pureW_e1 66 (by (conv => lhs; whnf; arg 1; whnf)) (by rfl) (by (conv => lhs; whnf)) (fun ρ hρ h1 w1 hSw => by have hc := hρ.const; clear hρ; clear hSw; go_simp; try with_reducible rfl) ?_; (try simp only [Act.put, List.setIfInBounds_toArray, List.set_cons_succ, List.set_cons_zero])
  refine pureW_e1 11 (by (conv => lhs; whnf; arg 1; whnf)) (by rfl) (by (conv => lhs; whnf)) (fun ρ hρ h1 w1 hSw => by have hc := hρ.const; clear hρ; clear hSw; go_simp; try with_reducible rfl) ?_; (try simp only [Act.put, List.setIfInBounds_toArray, List.set_cons_succ, List.set_cons_zero])
  refine pureW_e1 16 (by (conv => lhs; whnf; arg 1; whnf)) (by rfl) (by (conv => lhs; whnf)) (fun ρ hρ h1 w1 hSw => by have hc := hρ.const; clear hρ; clear hSw; go_simp; try with_reducible rfl) ?_; (try simp only [Act.put, List.setIfInBounds_toArray, List.set_cons_succ, List.set_cons_zero])
  refine pureW_e2 68 69 (by (conv => lhs; whnf; arg 1; whnf)) (by rfl) (by (conv => lhs; whnf)) (by (conv => lhs; whnf)) (fun ρ hρ h1 h2 w1 hSw => by have hc := hρ.const; clear hρ; clear hSw; go_simp; try with_reducible rfl) ?_; (try simp only [Act.put, List.setIfInBounds_toArray, List.set_cons_succ, List.set_cons_zero])
  refine pureW_e2 67 70 (by (conv => lhs; whnf; arg 1; whnf)) (by rfl) (by (conv => lhs; whnf)) (by (conv => lhs; whnf)) (fun ρ hρ h1 h2 w1 hSw => by have hc := hρ.const; clear hρ; clear hSw; go_simp; try with_reducible rfl) ?_; (try simp only [Act.put, List.setIfInBounds_toArray, List.set_cons_succ, List.set_cons_zero])
  refine pureW_e1 71 (by (conv => lhs; whnf; arg 1; whnf)) (by rfl) (by (conv => lhs; whnf)) (fun ρ hρ h1 w1 hSw => by have hc := hρ.const; clear hρ; clear hSw; go_simp; try with_reducible rfl) ?_; (try simp only [Act.put, List.setIfInBounds_toArray, List.set_cons_succ, List.set_cons_zero])
  refine pureW_e1 3 (by (conv => lhs; whnf; arg 1; whnf)) (by rfl) (by (conv => lhs; whnf)) (fun ρ hρ h1 w1 hSw => by have hc := hρ.const; clear hρ; rw [HS.out] at hSw; simp only [CellsAt] at hSw; go_simp; try with_reducible rfl) ?_; (try simp only [Act.put, List.setIfInBounds_toArray, List.set_cons_succ, List.set_cons_zero])
  refine pureW_e1 3 (by (conv => lhs; whnf; arg 1; whnf)) (by rfl) (by (conv => lhs; whnf)) (fun ρ hρ h1 w1 hSw => by have hc := hρ.const; clear hρ; rw [HS.out] at hSw; simp only [CellsAt] at hSw; go_simp; try with_reducible rfl) ?_; (try simp only [Act.put, List.setIfInBounds_toArray, List.set_cons_succ, List.set_cons_zero])
  refine pureW_nil ?_
  refine wpAnyG_oneN 25 29 (by as_aux_lemma => kernel_rfl) (by as_aux_lemma => kernel_rfl) (by (conv => lhs; whnf; arg 1; whnf)) (by rfl) (fun K hK => ?_)
  go_simp
  refine (R1.out _ h).mono ?_
  rintro e wr3 ⟨rfl, hb⟩
  replace b0 := (b0).below hb
  replace h := (h).below hb
  replace h' := (h').below hb
  replace hx := (hx).below hb
  replace yo1 := (yo1).below hb
  replace yw1 := (yw1).below hb
  replace yo2 := (yo2).below hb
  replace yw2 := (yw2).below hb
  have sw3 := HB.out _ _ sw2 hb
  (try go_simp)
  refine hK.out _ _ sw3 ?_
  clear hK K hb sw2
  refine wpAnyG_oneN 27 28 (by as_aux_lemma => kernel_rfl) (by as_aux_lemma => kernel_rfl) (by (conv => lhs; whnf; arg 1; whnf)) (by rfl) (fun K hK => ?_)
  go_simp
  refine (R2.out _ h).mono ?_
  rintro e wr4 ⟨rfl, hb⟩
  replace b0 := (b0).below hb
  replace h := (h).below hb
  replace h' := (h').below hb
  replace hx := (hx).below hb
  replace yo1 := (yo1).below hb
  replace yw1 := (yw1).below hb
  replace yo2 := (yo2).below hb
  replace yw2 := (yw2).below hb
  have sw4 := HB.out _ _ sw3 hb
  (try go_simp)
  refine hK.out _ _ sw4 ?_
  clear hK K hb sw3
  refine wpAnyG_takesF [28, 29, 30, 31, 33] 23 (by as_aux_lemma => kernel_rfl) (by as_aux_lemma => kernel_rfl) hp sw4 ?_
  refine pureW_e2 74 76 (by (conv => lhs; whnf; arg 1; whnf)) (by rfl) (by (conv => lhs; whnf)) (by (conv => lhs; whnf)) (fun ρ hρ h1 h2 w1 hSw => by have hc := hρ.const; clear hρ; clear hSw; go_simp; try with_reducible rfl) ?_; (try simp only [Act.put, List.setIfInBounds_toArray, List.set_cons_succ, List.set_cons_zero])
  refine pureW_e2 72 77 (by (conv => lhs; whnf; arg 1; whnf)) (by rfl) (by (conv => lhs; whnf)) (by (conv => lhs; whnf)) (fun ρ hρ h1 h2 w1 hSw => by have hc := hρ.const; clear hρ; clear hSw; go_simp; try with_reducible rfl) ?_; (try simp only [Act.put, List.setIfInBounds_toArray, List.set_cons_succ, List.set_cons_zero])
  refine pureW_e1 78 (by (conv => lhs; whnf; arg 1; whnf)) (by rfl) (by (conv => lhs; whnf)) (fun ρ hρ h1 w1 hSw => by have hc := hρ.const; clear hρ; clear hSw; go_simp; try with_reducible rfl) ?_; (try simp only [Act.put, List.setIfInBounds_toArray, List.set_cons_succ, List.set_cons_zero])
  refine pureW_e1 3 (by (conv => lhs; whnf; arg 1; whnf)) (by rfl) (by (conv => lhs; whnf)) (fun ρ hρ h1 w1 hSw => by have hc := hρ.const; clear hρ; rw [HS.out] at hSw; simp only [CellsAt] at hSw; go_simp; try with_reducible rfl) ?_; (try simp only [Act.put, List.setIfInBounds_toArray, List.set_cons_succ, List.set_cons_zero])
  refine pureW_e1 3 (by (conv => lhs; whnf; arg 1; whnf)) (by rfl) (by (conv => lhs; whnf)) (fun ρ hρ h1 w1 hSw => by have hc := hρ.const; clear hρ; rw [HS.out] at hSw; simp only [CellsAt] at hSw; go_simp; try with_reducible rfl) ?_; (try simp only [Act.put, List.setIfInBounds_toArray, List.set_cons_succ, List.set_cons_zero])
  refine pureW_nil ?_
  refine wpAnyG_oneN 32 22 (by as_aux_lemma => kernel_rfl) (by as_aux_lemma => kernel_rfl) (by (conv => lhs; whnf; arg 1; whnf)) (by rfl) (fun K hK => ?_)
  go_simp
  refine (P1.out _).mono ?_
  rintro e wr5 ⟨rfl, hb⟩
  replace b0 := (b0).below hb
  replace h := (h).below hb
  replace h' := (h').below hb
  replace hx := (hx).below hb
  replace yo1 := (yo1).below hb
  replace yw1 := (yw1).below hb
  replace yo2 := (yo2).below hb
  replace yw2 := (yw2).below hb
  have sw5 := HB.out _ _ sw4 hb
  (try go_simp)
  refine hK.out _ _ sw5 ?_
  clear hK K hb sw4
  refine wpAnyG_oneN 34 21 (by as_aux_lemma => kernel_rfl) (by as_aux_lemma => kernel_rfl) (by (conv => lhs; whnf; arg 1; whnf)) (by rfl) (fun K hK => ?_)
  go_simp
  refine (P2.out _).mono ?_
  rintro e wr6 ⟨rfl, hb⟩
  replace b0 := (b0).below hb
  replace h := (h).below hb
  replace h' := (h').below hb
  replace hx := (hx).below hb
  replace yo1 := (yo1).below hb
  replace yw1 := (yw1).below hb
  replace yo2 := (yo2).below hb
  replace yw2 := (yw2).below hb
  have sw6 := HB.out _ _ sw5 hb
  (try go_simp)
  refine hK.out _ _ sw6 ?_
  clear hK K hb sw5
  refine wpAnyG_takesF [35, 36, 37, 38, 39, 41, 42] 14 (by as_aux_lemma => kernel_rfl) (by as_aux_lemma => kernel_rfl) hp sw6 ?_
  refine pureW_e2 81 83 (by (conv => lhs; whnf; arg 1; whnf)) (by rfl) (by (conv => lhs; whnf)) (by (conv => lhs; whnf)) (fun ρ hρ h1 h2 w1 hSw => by have hc := hρ.const; clear hρ; clear hSw; go_simp; try with_reducible rfl) ?_; (try simp only [Act.put, List.setIfInBounds_toArray, List.set_cons_succ, List.set_cons_zero])
  refine pureW_e2 79 84 (by (conv => lhs; whnf; arg 1; whnf)) (by rfl) (by (conv => lhs; whnf)) (by (conv => lhs; whnf)) (fun ρ hρ h1 h2 w1 hSw => by have hc := hρ.const; clear hρ; clear hSw; go_simp; try with_reducible rfl) ?_; (try simp only [Act.put, List.setIfInBounds_toArray, List.set_cons_succ, List.set_cons_zero])
  refine pureW_e1 85 (by (conv => lhs; whnf; arg 1; whnf)) (by rfl) (by (conv => lhs; whnf)) (fun ρ hρ h1 w1 hSw => by have hc := hρ.const; clear hρ; clear hSw; go_simp; try with_reducible rfl) ?_; (try simp only [Act.put, List.setIfInBounds_toArray, List.set_cons_succ, List.set_cons_zero])
  refine pureW_e1 3 (by (conv => lhs; whnf; arg 1; whnf)) (by rfl) (by (conv => lhs; whnf)) (fun ρ hρ h1 w1 hSw => by have hc := hρ.const; clear hρ; rw [HS.out] at hSw; simp only [CellsAt] at hSw; go_simp; try with_reducible rfl) ?_; (try simp only [Act.put, List.setIfInBounds_toArray, List.set_cons_succ, List.set_cons_zero])
  refine pureW_e1 4 (by (conv => lhs; whnf; arg 1; whnf)) (by rfl) (by (conv => lhs; whnf)) (fun ρ hρ h1 w1 hSw => by have hc := hρ.const; clear hρ; rw [HS.out] at hSw; simp only [CellsAt] at hSw; go_simp; try with_reducible rfl) ?_; (try simp only [Act.put, List.setIfInBounds_toArray, List.set_cons_succ, List.set_cons_zero])
  refine pureW_e1 3 (by (conv => lhs; whnf; arg 1; whnf)) (by rfl) (by (conv => lhs; whnf)) (fun ρ hρ h1 w1 hSw => by have hc := hρ.const; clear hρ; rw [HS.out] at hSw; simp only [CellsAt] at hSw; go_simp; try with_reducible rfl) ?_; (try simp only [Act.put, List.setIfInBounds_toArray, List.set_cons_succ, List.set_cons_zero])
  refine pureW_e1 4 (by (conv => lhs; whnf; arg 1; whnf)) (by rfl) (by (conv => lhs; whnf)) (fun ρ hρ h1 w1 hSw => by have hc := hρ.const; clear hρ; rw [HS.out] at hSw; simp only [CellsAt] at hSw; go_simp; try with_reducible rfl) ?_; (try simp only [Act.put, List.setIfInBounds_toArray, List.set_cons_succ, List.set_cons_zero])
  refine pureW_nil ?_
  refine wpAnyG_oneN 40 13 (by as_aux_lemma => kernel_rfl) (by as_aux_lemma => kernel_rfl) (by (conv => lhs; whnf; arg 1; whnf)) (by rfl) (fun K hK => ?_)
  go_simp
  refine (M1.out _ h h').mono ?_
  rintro e wr7 ⟨rfl, hb⟩
  replace b0 := (b0).below hb
  replace h := (h).below hb
  replace h' := (h').below hb
  replace hx := (hx).below hb
  replace yo1 := (yo1).below hb
  replace yw1 := (yw1).below hb
  replace yo2 := (yo2).below hb
  replace yw2 := (yw2).below hb
  have sw7 := HB.out _ _ sw6 hb
  (try go_simp)
  refine hK.out _ _ sw7 ?_
  clear hK K hb sw6
  refine wpAnyG_oneN 43 12 (by as_aux_lemma => kernel_rfl) (by as_aux_lemma => kernel_rfl) (by (conv => lhs; whnf; arg 1; whnf)) (by rfl) (fun K hK => ?_)
  go_simp
  refine (M2.out _ h h').mono ?_
  rintro e wr8 ⟨rfl, hb⟩
  replace b0 := (b0).below hb
  replace h := (h).below hb
  replace h' := (h').below hb
  replace hx := (hx).below hb
  replace yo1 := (yo1).below hb
  replace yw1 := (yw1).below hb
  replace yo2 := (yo2).below hb
  replace yw2 := (yw2).below hb
  have sw8 := HB.out _ _ sw7 hb
  (try go_simp)
  refine hK.out _ _ sw8 ?_
  clear hK K hb sw7
  refine wpAnyG_takesF [44, 45, 46, 47, 49] 7 (by as_aux_lemma => kernel_rfl) (by as_aux_lemma => kernel_rfl) hp sw8 ?_
  refine pureW_e2 89 92 (by (conv => lhs; whnf; arg 1; whnf)) (by rfl) (by (conv => lhs; whnf)) (by (conv => lhs; whnf)) (fun ρ hρ h1 h2 w1 hSw => by have hc := hρ.const; clear hρ; clear hSw; go_simp; try with_reducible rfl) ?_; (try simp only [Act.put, List.setIfInBounds_toArray, List.set_cons_succ, List.set_cons_zero])
  refine pureW_e2 86 93 (by (conv => lhs; whnf; arg 1; whnf)) (by rfl) (by (conv => lhs; whnf)) (by (conv => lhs; whnf)) (fun ρ hρ h1 h2 w1 hSw => by have hc := hρ.const; clear hρ; clear hSw; go_simp; try with_reducible rfl) ?_; (try simp only [Act.put, List.setIfInBounds_toArray, List.set_cons_succ, List.set_cons_zero])
  refine pureW_e1 94 (by (conv => lhs; whnf; arg 1; whnf)) (by rfl) (by (conv => lhs; whnf)) (fun ρ hρ h1 w1 hSw => by have hc := hρ.const; clear hρ; clear hSw; go_simp; try with_reducible rfl) ?_; (try simp only [Act.put, List.setIfInBounds_toArray, List.set_cons_succ, List.set_cons_zero])
  refine pureW_e1 3 (by (conv => lhs; whnf; arg 1; whnf)) (by rfl) (by (conv => lhs; whnf)) (fun ρ hρ h1 w1 hSw => by have hc := hρ.const; clear hρ; rw [HS.out] at hSw; simp only [CellsAt] at hSw; go_simp; try with_reducible rfl) ?_; (try simp only [Act.put, List.setIfInBounds_toArray, List.set_cons_succ, List.set_cons_zero])
  refine pureW_e1 3 (by (conv => lhs; whnf; arg 1; whnf)) (by rfl) (by (conv => lhs; whnf)) (fun ρ hρ h1 w1 hSw => by have hc := hρ.const; clear hρ; rw [HS.out] at hSw; simp only [CellsAt] at hSw; go_simp; try with_reducible rfl) ?_; (try simp only [Act.put, List.setIfInBounds_toArray, List.set_cons_succ, List.set_cons_zero])
  refine pureW_nil ?_
  refine wpAnyG_oneN 48 6 (by as_aux_lemma => kernel_rfl) (by as_aux_lemma => kernel_rfl) (by (conv => lhs; whnf; arg 1; whnf)) (by rfl) (fun K hK => ?_)
  go_simp
  refine (O1.out _ h).mono ?_
  rintro e wr9 ⟨Ao, co, rfl, mo, hb⟩
  replace b0 := (b0).below hb
  replace h := (h).below hb
  replace h' := (h').below hb
  replace hx := (hx).below hb
  replace yo1 := (yo1).below hb
  replace yw1 := (yw1).below hb
  replace yo2 := (yo2).below hb
  replace yw2 := (yw2).below hb
  have yo := mo.byt
  have sw9 := HB.out _ _ sw8 hb
  (try go_simp)
  refine hK.out _ _ sw9 ?_
  clear hK K hb sw8
  refine wpAnyG_oneN 50 5 (by as_aux_lemma => kernel_rfl) (by as_aux_lemma => kernel_rfl) (by (conv => lhs; whnf; arg 1; whnf)) (by rfl) (fun K hK => ?_)
  go_simp
  refine (rBSameE (sameB_self S E D) _ yo h).mono ?_
  rintro e wr10 ⟨rfl, hb⟩
  replace b0 := (b0).below hb
  replace h := (h).below hb
  replace h' := (h').below hb
  replace hx := (hx).below hb
  replace yo1 := (yo1).below hb
  replace yw1 := (yw1).below hb
  replace yo2 := (yo2).below hb
  replace yw2 := (yw2).below hb
  have sw10 := HB.out _ _ sw9 hb
  (try go_simp)
  refine hK.out _ _ sw10 ?_
  clear hK K hb sw9
  refine wpAnyG_takesF [51, 52] 3 (by as_aux_lemma => kernel_rfl) (by as_aux_lemma => kernel_rfl) hp sw10 ?_
  refine pureW_e2 95 99 (by (conv => lhs; whnf; arg 1; whnf)) (by rfl) (by (conv => lhs; whnf)) (by (conv => lhs; whnf)) (fun ρ hρ h1 h2 w1 hSw => by have hc := hρ.const; clear hρ; clear hSw; go_simp; try with_reducible rfl) ?_; (try simp only [Act.put, List.setIfInBounds_toArray, List.set_cons_succ, List.set_cons_zero])
  refine pureW_e1 100 (by (conv => lhs; whnf; arg 1; whnf)) (by rfl) (by (conv => lhs; whnf)) (fun ρ hρ h1 w1 hSw => by have hc := hρ.const; clear hρ; clear hSw; go_simp; try with_reducible rfl) ?_; (try simp only [Act.put, List.setIfInBounds_toArray, List.set_cons_succ, List.set_cons_zero])
  refine pureW_nil ?_
  refine wpAnyG_oneN 53 2 (by as_aux_lemma => kernel_rfl) (by as_aux_lemma => kernel_rfl) (by (conv => lhs; whnf; arg 1; whnf)) (by rfl) (fun K hK => ?_)
  go_simp
  refine (fWakes _).mono ?_
  rintro e wr11 ⟨rfl, hb⟩
  replace b0 := (b0).below hb
  replace h := (h).below hb
  replace h' := (h').below hb
  replace hx := (hx).below hb
  replace yo1 := (yo1).below hb
  replace yw1 := (yw1).below hb
  replace yo2 := (yo2).below hb
  replace yw2 := (yw2).below hb
  have sw11 := HB.out _ _ sw10 hb
  (try go_simp)
  refine hK.out _ _ sw11 ?_
  clear hK K hb sw10
  refine wpAnyG_takesF [54, 55] 0 (by as_aux_lemma => kernel_rfl) (by as_aux_lemma => kernel_rfl) hp sw11 ?_
  refine pureW_e2 101 102 (by (conv => lhs; whnf; arg 1; whnf)) (by rfl) (by (conv => lhs; whnf)) (by (conv => lhs; whnf)) (fun ρ hρ h1 h2 w1 hSw => by have hc := hρ.const; clear hρ; clear hSw; go_simp; try with_reducible rfl) ?_; (try simp only [Act.put, List.setIfInBounds_toArray, List.set_cons_succ, List.set_cons_zero])
  refine pureW_e1 103 (by (conv => lhs; whnf; arg 1; whnf)) (by rfl) (by (conv => lhs; whnf)) (fun ρ hρ h1 w1 hSw => by have hc := hρ.const; clear hρ; clear hSw; go_simp; try with_reducible rfl) ?_; (try simp only [Act.put, List.setIfInBounds_toArray, List.set_cons_succ, List.set_cons_zero])
  refine pureW_nil ?_
  refine wpAnyG_done (by as_aux_lemma => kernel_rfl) ?_ _
  rw [HQ.out]
  go_wp2
  go_ret
  exact ⟨rfl, b0.out⟩

theorem wTells {W : World} (S : Int) (E : Bool) (A : Option Addr) (n c : Nat) (D : List Int) (bS : -9223372036854775808 ≤ S ∧ S ≤ 9223372036854775807) (h : Byt W A n c D) (S' : Int) (E' : Bool) (A' : Option Addr) (n' c' : Nat) (D' : List Int) (h' : Byt W A' n' c' D')
    (K F St : Int) (B : Option Addr) (m d : Nat) (X : List Int) (pd la ic cd : Int) (Pa : Option Addr) (Pn Pc : Nat) (rk al : Bool) (dp wt : Int) (bF : 0 ≤ F ∧ F ≤ 255) (hx : Byt W B m d X) :
    Calls Try.prog 3 #[.agg #[.int .i64 S, .bool E, .slice A n c], .agg #[.int .i64 S', .bool E', .slice A' n' c'], .agg #[.int .u8 K, .int .u8 F, .int .i64 St, .slice B m d, .int .i64 pd, .int .i64 la, .int .i64 ic, .int .u32 cd, .slice Pa Pn Pc, .bool rk, .bool al, .int .i64 dp, .int .u8 wt]] W fun e w' => e = .returned (.bool true) ∧ Below W.heap.size W w' := by
  by_cases g0 : 5000 < n
  · exact tellsBig1 S E A n c D S' E' A' n' c' D' K F St B m d X pd la ic cd Pa Pn Pc rk al dp wt W h h' hx g0
  by_cases g1 : 5000 < n'
  · exact tellsBig2 S E A n c D S' E' A' n' c' D' K F St B m d X pd la ic cd Pa Pn Pc rk al dp wt W h h' hx (by omega) g1
  by_cases g2 : 5000 < m
  · exact tellsBig3 S E A n c D S' E' A' n' c' D' K F St B m d X pd la ic cd Pa Pn Pc rk al dp wt W h h' hx (by omega) (by omega) g2
  · exact tellsOk S E A n c D S' E' A' n' c' D' K F St B m d X pd la ic cd Pa Pn Pc rk al dp wt W h h' hx (by omega) (by omega) (by omega) bS.1 bS.2 bF.1 bF.2
end Go.Proofs.Ytbooojpohfdljaa
