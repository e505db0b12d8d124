/- The document's frames: what is wrong with values; what is wrong ahead. -/
import Derived.Test.YtnjnpnjjpodnnaaTGra
import Derived.Test.YtnjnpnjjpodnnaaTGw
namespace Go.Proofs.Ytnjnpnjjpodnnaa
open Go.RowKit Go.Shelf
set_option linter.unusedVariables false
set_option linter.unusedSimpArgs false

theorem setWaysR (X Y : Int) : ((X == 2) = true ∧ decide (1 < Y) = true ∧ setS (X, Y) = 1) ∨
    ((X == 2) = false ∧ (X == 9) = true ∧ decide (1 < Y) = true ∧ setS (X, Y) = 1) ∨
    ((X == 2) = true ∧ decide (1 < Y) = false ∧ (X == 5) = false ∧ (X == 4) = false ∧ setS (X, Y) = 0) ∨
    ((X == 2) = false ∧ (X == 9) = true ∧ decide (1 < Y) = false ∧ (X == 5) = false ∧ (X == 4) = false ∧ setS (X, Y) = 0) ∨
    ((X == 2) = false ∧ (X == 9) = false ∧ (X == 5) = true ∧ decide (Y < 16384) = true ∧ setS (X, Y) = 1) ∨
    ((X == 2) = false ∧ (X == 9) = false ∧ (X == 5) = true ∧ decide (Y < 16384) = false ∧ decide (16777215 < Y) = true ∧ setS (X, Y) = 1) ∨
    ((X == 2) = false ∧ (X == 9) = false ∧ (X == 5) = true ∧ decide (Y < 16384) = false ∧ decide (16777215 < Y) = false ∧ (X == 4) = false ∧ setS (X, Y) = 0) ∨
    ((X == 2) = false ∧ (X == 9) = false ∧ (X == 5) = false ∧ (X == 4) = true ∧ decide (2147483647 < Y) = true ∧ setS (X, Y) = 3) ∨
    ((X == 2) = false ∧ (X == 9) = false ∧ (X == 5) = false ∧ (X == 4) = true ∧ decide (2147483647 < Y) = false ∧ setS (X, Y) = 0) ∨
    ((X == 2) = false ∧ (X == 9) = false ∧ (X == 5) = false ∧ (X == 4) = false ∧ setS (X, Y) = 0) := by
  unfold setS
  simp only
  by_cases h2 : X = 2
  · subst h2; by_cases hv : 1 < Y <;> simp [hv]
  by_cases h9 : X = 9
  · subst h9; by_cases hv : 1 < Y <;> simp [hv]
  by_cases h5 : X = 5
  · subst h5; by_cases hv : Y < 16384 <;> by_cases hu : 16777215 < Y <;> simp [hv, hu]
  by_cases h4 : X = 4
  · subst h4; by_cases hv : 2147483647 < Y <;> simp [hv]
  simp [h2, h9, h5, h4]
set_option maxRecDepth 100000 in
set_option maxHeartbeats 2000000 in
theorem rSet (X Y : Int) (w : World) : Calls Try.prog 56 #[.agg #[.int .u16 X, .int .u32 Y]] w (FltP (decide (setS (X, Y) ≠ 0)) 0 (setS (X, Y)) w) := by
  have b0 := ((Bel.refl w).alloc (.cells #[.int .u16 X, .int .u32 Y] 55)).alloc (.cells #[.bool false, .int .i64 0, .int .u32 0] 34)
  have q := (Blk.new w 55 #[.int .u16 X, .int .u32 Y]).alloc (.cells #[.bool false, .int .i64 0, .int .u32 0] 34)
  have qx := Blk.new (w.alloc (.cells #[.int .u16 X, .int .u32 Y] 55)) 34 #[.bool false, .int .i64 0, .int .u32 0]
  rw [World.size_alloc] at qx
  have z0 := q.at 0 rfl
  have z1 := q.at 1 rfl
  have hways := setWaysR X Y
  rcases hways with ⟨f0, f1, hsv⟩ | ⟨f0, f1, f2, hsv⟩ | ⟨f0, f1, f2, f3, hsv⟩ | ⟨f0, f1, f2, f3, f4, hsv⟩ | ⟨f0, f1, f2, f3, hsv⟩ | ⟨f0, f1, f2, f3, f4, hsv⟩ | ⟨f0, f1, f2, f3, f4, f5, hsv⟩ | ⟨f0, f1, f2, f3, f4, hsv⟩ | ⟨f0, f1, f2, f3, f4, hsv⟩ | ⟨f0, f1, f2, f3, hsv⟩
  · rw [hsv]
    obtain rfl : X = 2 := by simpa using f0
    clear f0
    clear hsv
    show Calls _ _ _ _ (FltP true 0 1 w)
    go_enter Try.func56, Try.ntmps56
    go_wp2_with fail
    (go_at_call 21; (with_reducible refine (rWholeF _ _).mono ?_); rintro e w9 ⟨rfl, hb⟩; replace b0 := b0.below hb; replace q := q.below hb; replace qx := qx.below hb; clear hb)
    go_wp2_with ((with_reducible refine wpList_id ?_); refine wpList_putB rfl _ _ _ rfl rfl rfl qx (by rfl) (by rfl) (by rfl) ?_; intro w9 qn hg; replace b0 := b0.grown hg (Nat.le_succ _); replace q := q.grown hg (by omega); clear hg qx; have qx := qn; clear qn)
    exact res1 rfl rfl rfl qx Try.underlying34 rfl (by rfl) ⟨rfl, b0.out⟩
  · rw [hsv]
    obtain rfl : X = 9 := by simpa using f1
    clear f0 f1
    clear hsv
    show Calls _ _ _ _ (FltP true 0 1 w)
    go_enter Try.func56, Try.ntmps56
    go_wp2_with fail
    (go_at_call 21; (with_reducible refine (rWholeF _ _).mono ?_); rintro e w9 ⟨rfl, hb⟩; replace b0 := b0.below hb; replace q := q.below hb; replace qx := qx.below hb; clear hb)
    go_wp2_with ((with_reducible refine wpList_id ?_); refine wpList_putB rfl _ _ _ rfl rfl rfl qx (by rfl) (by rfl) (by rfl) ?_; intro w9 qn hg; replace b0 := b0.grown hg (Nat.le_succ _); replace q := q.grown hg (by omega); clear hg qx; have qx := qn; clear qn)
    exact res1 rfl rfl rfl qx Try.underlying34 rfl (by rfl) ⟨rfl, b0.out⟩
  · rw [hsv]
    obtain rfl : X = 2 := by simpa using f0
    clear f0 f2 f3
    clear hsv
    show Calls _ _ _ _ (FltP false 0 0 w)
    go_enter Try.func56, Try.ntmps56
    go_wp2_with fail
    (go_at_call 33; (with_reducible refine (rFine _).mono ?_); rintro e w9 ⟨rfl, hb⟩; replace b0 := b0.below hb; replace q := q.below hb; replace qx := qx.below hb; clear hb)
    go_wp2_with ((with_reducible refine wpList_id ?_); refine wpList_putB rfl _ _ _ rfl rfl rfl qx (by rfl) (by rfl) (by rfl) ?_; intro w9 qn hg; replace b0 := b0.grown hg (Nat.le_succ _); replace q := q.grown hg (by omega); clear hg qx; have qx := qn; clear qn)
    exact res1 rfl rfl rfl qx Try.underlying34 rfl (by rfl) ⟨rfl, b0.out⟩
  · rw [hsv]
    obtain rfl : X = 9 := by simpa using f1
    clear f0 f1 f3 f4
    clear hsv
    show Calls _ _ _ _ (FltP false 0 0 w)
    go_enter Try.func56, Try.ntmps56
    go_wp2_with fail
    (go_at_call 33; (with_reducible refine (rFine _).mono ?_); rintro e w9 ⟨rfl, hb⟩; replace b0 := b0.below hb; replace q := q.below hb; replace qx := qx.below hb; clear hb)
    go_wp2_with ((with_reducible refine wpList_id ?_); refine wpList_putB rfl _ _ _ rfl rfl rfl qx (by rfl) (by rfl) (by rfl) ?_; intro w9 qn hg; replace b0 := b0.grown hg (Nat.le_succ _); replace q := q.grown hg (by omega); clear hg qx; have qx := qn; clear qn)
    exact res1 rfl rfl rfl qx Try.underlying34 rfl (by rfl) ⟨rfl, b0.out⟩
  · rw [hsv]
    obtain rfl : X = 5 := by simpa using f2
    clear f0 f1 f2
    clear hsv
    show Calls _ _ _ _ (FltP true 0 1 w)
    go_enter Try.func56, Try.ntmps56
    go_wp2_with fail
    (go_at_call 21; (with_reducible refine (rWholeF _ _).mono ?_); rintro e w9 ⟨rfl, hb⟩; replace b0 := b0.below hb; replace q := q.below hb; replace qx := qx.below hb; clear hb)
    go_wp2_with ((with_reducible refine wpList_id ?_); refine wpList_putB rfl _ _ _ rfl rfl rfl qx (by rfl) (by rfl) (by rfl) ?_; intro w9 qn hg; replace b0 := b0.grown hg (Nat.le_succ _); replace q := q.grown hg (by omega); clear hg qx; have qx := qn; clear qn)
    exact res1 rfl rfl rfl qx Try.underlying34 rfl (by rfl) ⟨rfl, b0.out⟩
  · rw [hsv]
    obtain rfl : X = 5 := by simpa using f2
    clear f0 f1 f2
    clear hsv
    show Calls _ _ _ _ (FltP true 0 1 w)
    go_enter Try.func56, Try.ntmps56
    go_wp2_with fail
    (go_at_call 21; (with_reducible refine (rWholeF _ _).mono ?_); rintro e w9 ⟨rfl, hb⟩; replace b0 := b0.below hb; replace q := q.below hb; replace qx := qx.below hb; clear hb)
    go_wp2_with ((with_reducible refine wpList_id ?_); refine wpList_putB rfl _ _ _ rfl rfl rfl qx (by rfl) (by rfl) (by rfl) ?_; intro w9 qn hg; replace b0 := b0.grown hg (Nat.le_succ _); replace q := q.grown hg (by omega); clear hg qx; have qx := qn; clear qn)
    exact res1 rfl rfl rfl qx Try.underlying34 rfl (by rfl) ⟨rfl, b0.out⟩
  · rw [hsv]
    obtain rfl : X = 5 := by simpa using f2
    clear f0 f1 f2 f5
    clear hsv
    show Calls _ _ _ _ (FltP false 0 0 w)
    go_enter Try.func56, Try.ntmps56
    go_wp2_with fail
    (go_at_call 33; (with_reducible refine (rFine _).mono ?_); rintro e w9 ⟨rfl, hb⟩; replace b0 := b0.below hb; replace q := q.below hb; replace qx := qx.below hb; clear hb)
    go_wp2_with ((with_reducible refine wpList_id ?_); refine wpList_putB rfl _ _ _ rfl rfl rfl qx (by rfl) (by rfl) (by rfl) ?_; intro w9 qn hg; replace b0 := b0.grown hg (Nat.le_succ _); replace q := q.grown hg (by omega); clear hg qx; have qx := qn; clear qn)
    exact res1 rfl rfl rfl qx Try.underlying34 rfl (by rfl) ⟨rfl, b0.out⟩
  · rw [hsv]
    obtain rfl : X = 4 := by simpa using f3
    clear f0 f1 f2 f3
    clear hsv
    show Calls _ _ _ _ (FltP true 0 3 w)
    go_enter Try.func56, Try.ntmps56
    go_wp2_with fail
    (go_at_call 21; (with_reducible refine (rWholeF _ _).mono ?_); rintro e w9 ⟨rfl, hb⟩; replace b0 := b0.below hb; replace q := q.below hb; replace qx := qx.below hb; clear hb)
    go_wp2_with ((with_reducible refine wpList_id ?_); refine wpList_putB rfl _ _ _ rfl rfl rfl qx (by rfl) (by rfl) (by rfl) ?_; intro w9 qn hg; replace b0 := b0.grown hg (Nat.le_succ _); replace q := q.grown hg (by omega); clear hg qx; have qx := qn; clear qn)
    exact res1 rfl rfl rfl qx Try.underlying34 rfl (by rfl) ⟨rfl, b0.out⟩
  · rw [hsv]
    obtain rfl : X = 4 := by simpa using f3
    clear f0 f1 f2 f3
    clear hsv
    show Calls _ _ _ _ (FltP false 0 0 w)
    go_enter Try.func56, Try.ntmps56
    go_wp2_with fail
    (go_at_call 33; (with_reducible refine (rFine _).mono ?_); rintro e w9 ⟨rfl, hb⟩; replace b0 := b0.below hb; replace q := q.below hb; replace qx := qx.below hb; clear hb)
    go_wp2_with ((with_reducible refine wpList_id ?_); refine wpList_putB rfl _ _ _ rfl rfl rfl qx (by rfl) (by rfl) (by rfl) ?_; intro w9 qn hg; replace b0 := b0.grown hg (Nat.le_succ _); replace q := q.grown hg (by omega); clear hg qx; have qx := qn; clear qn)
    exact res1 rfl rfl rfl qx Try.underlying34 rfl (by rfl) ⟨rfl, b0.out⟩
  · rw [hsv]
    clear hsv
    show Calls _ _ _ _ (FltP false 0 0 w)
    go_enter Try.func56, Try.ntmps56
    go_wp2_with fail
    (go_at_call 33; (with_reducible refine (rFine _).mono ?_); rintro e w9 ⟨rfl, hb⟩; replace b0 := b0.below hb; replace q := q.below hb; replace qx := qx.below hb; clear hb)
    go_wp2_with ((with_reducible refine wpList_id ?_); refine wpList_putB rfl _ _ _ rfl rfl rfl qx (by rfl) (by rfl) (by rfl) ?_; intro w9 qn hg; replace b0 := b0.grown hg (Nat.le_succ _); replace q := q.grown hg (by omega); clear hg qx; have qx := qn; clear qn)
    exact res1 rfl rfl rfl qx Try.underlying34 rfl (by rfl) ⟨rfl, b0.out⟩
/-- What is wrong ahead of values. -/
def aheadS (kd fl st : Int) (n : Nat) : Flt := if 16384 < n then ⟨true, 0, 6⟩ else if kd = 5 ∨ farK kd st = true then ⟨true, 0, 1⟩ else if longOk kd fl n = false then (if kd = 2 then ⟨false, st, 6⟩ else ⟨true, 0, 6⟩) else ⟨false, 0, 0⟩
set_option maxRecDepth 100000 in
set_option maxHeartbeats 2000000 in
theorem rAhead1 (L kd fl st : Int) (n : Nat) (w : World) (f0l : 0 ≤ fl) (f1l : fl ≤ 255) (hn : n ≤ 140737488355328) (e1 : decide ((16384 : Int) < n) = true) : Calls Try.prog 32 #[.agg #[.int .i64 L, .int .u8 kd, .int .u8 fl, .int .i64 st], .int .i64 n] w (FltP true 0 6 w) := by
  have HF := Lib.hid fun w => rFar L kd fl st w
  have HL := Lib.hid fun w => rLong L kd fl st n w f0l f1l hn
  clear f0l f1l hn
  have b0 := ((Bel.refl w).alloc (.cells #[.int .i64 L, .int .u8 kd, .int .u8 fl, .int .i64 st] 23)).alloc (.cells #[.bool false, .int .i64 0, .int .u32 0] 34)
  have q := (Blk.new w 23 #[.int .i64 L, .int .u8 kd, .int .u8 fl, .int .i64 st]).alloc (.cells #[.bool false, .int .i64 0, .int .u32 0] 34)
  have qx := Blk.new (w.alloc (.cells #[.int .i64 L, .int .u8 kd, .int .u8 fl, .int .i64 st] 23)) 34 #[.bool false, .int .i64 0, .int .u32 0]
  rw [World.size_alloc] at qx
  have z1 := q.at 1 rfl
  have z3 := q.at 3 rfl
  go_enter Try.func32, Try.ntmps32
  go_wp2_with (first | ((with_reducible refine wpList_id ?_); refine wpList_getG (by rfl) _ _ rfl rfl q Try.underlying23 rfl (by rfl) ?_) | (go_at_call 21; (with_reducible refine (rWholeF _ _).mono ?_); rintro e w9 ⟨rfl, hb⟩; replace b0 := b0.below hb; replace q := q.below hb; replace qx := qx.below hb; clear hb; (try clear z1); (try clear z3); have z1 := q.at 1 rfl; have z3 := q.at 3 rfl) | ((with_reducible refine wpList_id ?_); refine wpList_putB rfl _ _ _ rfl rfl rfl qx (by rfl) (by rfl) (by rfl) ?_; intro w9 qn hg; replace b0 := b0.grown hg (Nat.le_succ _); replace q := q.grown hg (by omega); clear hg qx; have qx := qn; clear qn))
  exact res1 rfl rfl rfl qx Try.underlying34 rfl (by rfl) ⟨rfl, b0.out⟩
set_option maxRecDepth 100000 in
set_option maxHeartbeats 2000000 in
theorem rAhead2 (L fl st : Int) (n : Nat) (w : World) (f0l : 0 ≤ fl) (f1l : fl ≤ 255) (hn : n ≤ 140737488355328) (e1 : decide ((16384 : Int) < n) = false) : Calls Try.prog 32 #[.agg #[.int .i64 L, .int .u8 5, .int .u8 fl, .int .i64 st], .int .i64 n] w (FltP true 0 1 w) := by
  have HF := Lib.hid fun w => rFar L 5 fl st w
  have HL := Lib.hid fun w => rLong L 5 fl st n w f0l f1l hn
  clear f0l f1l hn
  have b0 := ((Bel.refl w).alloc (.cells #[.int .i64 L, .int .u8 5, .int .u8 fl, .int .i64 st] 23)).alloc (.cells #[.bool false, .int .i64 0, .int .u32 0] 34)
  have q := (Blk.new w 23 #[.int .i64 L, .int .u8 5, .int .u8 fl, .int .i64 st]).alloc (.cells #[.bool false, .int .i64 0, .int .u32 0] 34)
  have qx := Blk.new (w.alloc (.cells #[.int .i64 L, .int .u8 5, .int .u8 fl, .int .i64 st] 23)) 34 #[.bool false, .int .i64 0, .int .u32 0]
  rw [World.size_alloc] at qx
  have z1 := q.at 1 rfl
  have z3 := q.at 3 rfl
  go_enter Try.func32, Try.ntmps32
  go_wp2_with (first | ((with_reducible refine wpList_id ?_); refine wpList_getG (by rfl) _ _ rfl rfl q Try.underlying23 rfl (by rfl) ?_) | (go_at_call 21; (with_reducible refine (rWholeF _ _).mono ?_); rintro e w9 ⟨rfl, hb⟩; replace b0 := b0.below hb; replace q := q.below hb; replace qx := qx.below hb; clear hb; (try clear z1); (try clear z3); have z1 := q.at 1 rfl; have z3 := q.at 3 rfl) | ((with_reducible refine wpList_id ?_); refine wpList_putB rfl _ _ _ rfl rfl rfl qx (by rfl) (by rfl) (by rfl) ?_; intro w9 qn hg; replace b0 := b0.grown hg (Nat.le_succ _); replace q := q.grown hg (by omega); clear hg qx; have qx := qn; clear qn))
  exact res1 rfl rfl rfl qx Try.underlying34 rfl (by rfl) ⟨rfl, b0.out⟩
set_option maxRecDepth 100000 in
set_option maxHeartbeats 2000000 in
theorem rAhead3 (L kd fl st : Int) (n : Nat) (w : World) (f0l : 0 ≤ fl) (f1l : fl ≤ 255) (hn : n ≤ 140737488355328) (e1 : decide ((16384 : Int) < n) = false) (e5 : (kd == 5) = false) (hfar : farK kd st = true) : Calls Try.prog 32 #[.agg #[.int .i64 L, .int .u8 kd, .int .u8 fl, .int .i64 st], .int .i64 n] w (FltP true 0 1 w) := by
  have HF := Lib.hid fun w => rFar L kd fl st w
  have HL := Lib.hid fun w => rLong L kd fl st n w f0l f1l hn
  rw [hfar] at HF
  clear f0l f1l hn hfar
  have b0 := ((Bel.refl w).alloc (.cells #[.int .i64 L, .int .u8 kd, .int .u8 fl, .int .i64 st] 23)).alloc (.cells #[.bool false, .int .i64 0, .int .u32 0] 34)
  have q := (Blk.new w 23 #[.int .i64 L, .int .u8 kd, .int .u8 fl, .int .i64 st]).alloc (.cells #[.bool false, .int .i64 0, .int .u32 0] 34)
  have qx := Blk.new (w.alloc (.cells #[.int .i64 L, .int .u8 kd, .int .u8 fl, .int .i64 st] 23)) 34 #[.bool false, .int .i64 0, .int .u32 0]
  rw [World.size_alloc] at qx
  have z1 := q.at 1 rfl
  have z3 := q.at 3 rfl
  go_enter Try.func32, Try.ntmps32
  go_wp2_with (first | ((with_reducible refine wpList_id ?_); refine wpList_getG (by rfl) _ _ rfl rfl q Try.underlying23 rfl (by rfl) ?_) | (go_at_call 49; (with_reducible refine (HF.out _).mono ?_); rintro e w9 ⟨rfl, hb⟩; replace b0 := b0.below hb; replace q := q.below hb; replace qx := qx.below hb; clear hb; (try clear z1); (try clear z3); have z1 := q.at 1 rfl; have z3 := q.at 3 rfl) | (go_at_call 21; (with_reducible refine (rWholeF _ _).mono ?_); rintro e w9 ⟨rfl, hb⟩; replace b0 := b0.below hb; replace q := q.below hb; replace qx := qx.below hb; clear hb; (try clear z1); (try clear z3); have z1 := q.at 1 rfl; have z3 := q.at 3 rfl) | ((with_reducible refine wpList_id ?_); refine wpList_putB rfl _ _ _ rfl rfl rfl qx (by rfl) (by rfl) (by rfl) ?_; intro w9 qn hg; replace b0 := b0.grown hg (Nat.le_succ _); replace q := q.grown hg (by omega); clear hg qx; have qx := qn; clear qn))
  exact res1 rfl rfl rfl qx Try.underlying34 rfl (by rfl) ⟨rfl, b0.out⟩
set_option maxRecDepth 100000 in
set_option maxHeartbeats 2000000 in
theorem rAhead4 (L fl st : Int) (n : Nat) (w : World) (f0l : 0 ≤ fl) (f1l : fl ≤ 255) (hn : n ≤ 140737488355328) (e1 : decide ((16384 : Int) < n) = false) (hfar : farK 2 st = false) (hlo : longOk 2 fl n = false) : Calls Try.prog 32 #[.agg #[.int .i64 L, .int .u8 2, .int .u8 fl, .int .i64 st], .int .i64 n] w (FltP false st 6 w) := by
  have HF := Lib.hid fun w => rFar L 2 fl st w
  have HL := Lib.hid fun w => rLong L 2 fl st n w f0l f1l hn
  rw [hfar] at HF
  rw [hlo] at HL
  simp only [Bool.not_true, Bool.not_false] at HL
  clear f0l f1l hn hfar hlo
  have b0 := ((Bel.refl w).alloc (.cells #[.int .i64 L, .int .u8 2, .int .u8 fl, .int .i64 st] 23)).alloc (.cells #[.bool false, .int .i64 0, .int .u32 0] 34)
  have q := (Blk.new w 23 #[.int .i64 L, .int .u8 2, .int .u8 fl, .int .i64 st]).alloc (.cells #[.bool false, .int .i64 0, .int .u32 0] 34)
  have qx := Blk.new (w.alloc (.cells #[.int .i64 L, .int .u8 2, .int .u8 fl, .int .i64 st] 23)) 34 #[.bool false, .int .i64 0, .int .u32 0]
  rw [World.size_alloc] at qx
  have z1 := q.at 1 rfl
  have z3 := q.at 3 rfl
  go_enter Try.func32, Try.ntmps32
  go_wp2_with (first | ((with_reducible refine wpList_id ?_); refine wpList_getG (by rfl) _ _ rfl rfl q Try.underlying23 rfl (by rfl) ?_) | (go_at_call 49; (with_reducible refine (HF.out _).mono ?_); rintro e w9 ⟨rfl, hb⟩; replace b0 := b0.below hb; replace q := q.below hb; replace qx := qx.below hb; clear hb; (try clear z1); (try clear z3); have z1 := q.at 1 rfl; have z3 := q.at 3 rfl) | (go_at_call 50; (with_reducible refine (HL.out _).mono ?_); rintro e w9 ⟨rfl, hb⟩; replace b0 := b0.below hb; replace q := q.below hb; replace qx := qx.below hb; clear hb; (try clear z1); (try clear z3); have z1 := q.at 1 rfl; have z3 := q.at 3 rfl) | (go_at_call 23; (with_reducible refine (rOfF _ _ _).mono ?_); rintro e w9 ⟨rfl, hb⟩; replace b0 := b0.below hb; replace q := q.below hb; replace qx := qx.below hb; clear hb; (try clear z1); (try clear z3); have z1 := q.at 1 rfl; have z3 := q.at 3 rfl) | ((with_reducible refine wpList_id ?_); refine wpList_putB rfl _ _ _ rfl rfl rfl qx (by rfl) (by rfl) (by rfl) ?_; intro w9 qn hg; replace b0 := b0.grown hg (Nat.le_succ _); replace q := q.grown hg (by omega); clear hg qx; have qx := qn; clear qn))
  exact res1 rfl rfl rfl qx Try.underlying34 rfl (by rfl) ⟨rfl, b0.out⟩
set_option maxRecDepth 100000 in
set_option maxHeartbeats 2000000 in
theorem rAhead5 (L kd fl st : Int) (n : Nat) (w : World) (f0l : 0 ≤ fl) (f1l : fl ≤ 255) (hn : n ≤ 140737488355328) (e1 : decide ((16384 : Int) < n) = false) (e5 : (kd == 5) = false) (e2 : (kd == 2) = false) (hfar : farK kd st = false) (hlo : longOk kd fl n = false) : Calls Try.prog 32 #[.agg #[.int .i64 L, .int .u8 kd, .int .u8 fl, .int .i64 st], .int .i64 n] w (FltP true 0 6 w) := by
  have HF := Lib.hid fun w => rFar L kd fl st w
  have HL := Lib.hid fun w => rLong L kd fl st n w f0l f1l hn
  rw [hfar] at HF
  rw [hlo] at HL
  simp only [Bool.not_true, Bool.not_false] at HL
  clear f0l f1l hn hfar hlo
  have b0 := ((Bel.refl w).alloc (.cells #[.int .i64 L, .int .u8 kd, .int .u8 fl, .int .i64 st] 23)).alloc (.cells #[.bool false, .int .i64 0, .int .u32 0] 34)
  have q := (Blk.new w 23 #[.int .i64 L, .int .u8 kd, .int .u8 fl, .int .i64 st]).alloc (.cells #[.bool false, .int .i64 0, .int .u32 0] 34)
  have qx := Blk.new (w.alloc (.cells #[.int .i64 L, .int .u8 kd, .int .u8 fl, .int .i64 st] 23)) 34 #[.bool false, .int .i64 0, .int .u32 0]
  rw [World.size_alloc] at qx
  have z1 := q.at 1 rfl
  have z3 := q.at 3 rfl
  go_enter Try.func32, Try.ntmps32
  go_wp2_with (first | ((with_reducible refine wpList_id ?_); refine wpList_getG (by rfl) _ _ rfl rfl q Try.underlying23 rfl (by rfl) ?_) | (go_at_call 49; (with_reducible refine (HF.out _).mono ?_); rintro e w9 ⟨rfl, hb⟩; replace b0 := b0.below hb; replace q := q.below hb; replace qx := qx.below hb; clear hb; (try clear z1); (try clear z3); have z1 := q.at 1 rfl; have z3 := q.at 3 rfl) | (go_at_call 50; (with_reducible refine (HL.out _).mono ?_); rintro e w9 ⟨rfl, hb⟩; replace b0 := b0.below hb; replace q := q.below hb; replace qx := qx.below hb; clear hb; (try clear z1); (try clear z3); have z1 := q.at 1 rfl; have z3 := q.at 3 rfl) | (go_at_call 21; (with_reducible refine (rWholeF _ _).mono ?_); rintro e w9 ⟨rfl, hb⟩; replace b0 := b0.below hb; replace q := q.below hb; replace qx := qx.below hb; clear hb; (try clear z1); (try clear z3); have z1 := q.at 1 rfl; have z3 := q.at 3 rfl) | ((with_reducible refine wpList_id ?_); refine wpList_putB rfl _ _ _ rfl rfl rfl qx (by rfl) (by rfl) (by rfl) ?_; intro w9 qn hg; replace b0 := b0.grown hg (Nat.le_succ _); replace q := q.grown hg (by omega); clear hg qx; have qx := qn; clear qn))
  exact res1 rfl rfl rfl qx Try.underlying34 rfl (by rfl) ⟨rfl, b0.out⟩
set_option maxRecDepth 100000 in
set_option maxHeartbeats 2000000 in
theorem rAhead6 (L kd fl st : Int) (n : Nat) (w : World) (f0l : 0 ≤ fl) (f1l : fl ≤ 255) (hn : n ≤ 140737488355328) (e1 : decide ((16384 : Int) < n) = false) (e5 : (kd == 5) = false) (hfar : farK kd st = false) (hlo : longOk kd fl n = true) : Calls Try.prog 32 #[.agg #[.int .i64 L, .int .u8 kd, .int .u8 fl, .int .i64 st], .int .i64 n] w (FltP false 0 0 w) := by
  have HF := Lib.hid fun w => rFar L kd fl st w
  have HL := Lib.hid fun w => rLong L kd fl st n w f0l f1l hn
  rw [hfar] at HF
  rw [hlo] at HL
  simp only [Bool.not_true, Bool.not_false] at HL
  clear f0l f1l hn hfar hlo
  have b0 := ((Bel.refl w).alloc (.cells #[.int .i64 L, .int .u8 kd, .int .u8 fl, .int .i64 st] 23)).alloc (.cells #[.bool false, .int .i64 0, .int .u32 0] 34)
  have q := (Blk.new w 23 #[.int .i64 L, .int .u8 kd, .int .u8 fl, .int .i64 st]).alloc (.cells #[.bool false, .int .i64 0, .int .u32 0] 34)
  have qx := Blk.new (w.alloc (.cells #[.int .i64 L, .int .u8 kd, .int .u8 fl, .int .i64 st] 23)) 34 #[.bool false, .int .i64 0, .int .u32 0]
  rw [World.size_alloc] at qx
  have z1 := q.at 1 rfl
  have z3 := q.at 3 rfl
  go_enter Try.func32, Try.ntmps32
  go_wp2_with (first | ((with_reducible refine wpList_id ?_); refine wpList_getG (by rfl) _ _ rfl rfl q Try.underlying23 rfl (by rfl) ?_) | (go_at_call 49; (with_reducible refine (HF.out _).mono ?_); rintro e w9 ⟨rfl, hb⟩; replace b0 := b0.below hb; replace q := q.below hb; replace qx := qx.below hb; clear hb; (try clear z1); (try clear z3); have z1 := q.at 1 rfl; have z3 := q.at 3 rfl) | (go_at_call 50; (with_reducible refine (HL.out _).mono ?_); rintro e w9 ⟨rfl, hb⟩; replace b0 := b0.below hb; replace q := q.below hb; replace qx := qx.below hb; clear hb; (try clear z1); (try clear z3); have z1 := q.at 1 rfl; have z3 := q.at 3 rfl) | (go_at_call 33; (with_reducible refine (rFine _).mono ?_); rintro e w9 ⟨rfl, hb⟩; replace b0 := b0.below hb; replace q := q.below hb; replace qx := qx.below hb; clear hb; (try clear z1); (try clear z3); have z1 := q.at 1 rfl; have z3 := q.at 3 rfl) | ((with_reducible refine wpList_id ?_); refine wpList_putB rfl _ _ _ rfl rfl rfl qx (by rfl) (by rfl) (by rfl) ?_; intro w9 qn hg; replace b0 := b0.grown hg (Nat.le_succ _); replace q := q.grown hg (by omega); clear hg qx; have qx := qn; clear qn))
  exact res1 rfl rfl rfl qx Try.underlying34 rfl (by rfl) ⟨rfl, b0.out⟩
theorem fltP_eq {a b : Flt} (h : a = b) {w : World} : ∀ e W', FltP a.wh a.st a.cd w e W' → FltP b.wh b.st b.cd w e W' := fun _ _ k => h ▸ k
theorem rAhead (L kd fl st : Int) (n : Nat) (w : World) (f0l : 0 ≤ fl) (f1l : fl ≤ 255) (hn : n ≤ 140737488355328) : Calls Try.prog 32 #[.agg #[.int .i64 L, .int .u8 kd, .int .u8 fl, .int .i64 st], .int .i64 n] w (FltP (aheadS kd fl st n).wh (aheadS kd fl st n).st (aheadS kd fl st n).cd w) := by
  by_cases h1 : 16384 < n
  · exact (rAhead1 L kd fl st n w f0l f1l hn (decide_eq_true (by omega))).mono (fltP_eq (a := ⟨true, 0, 6⟩) (by unfold aheadS; rw [if_pos h1]))
  have e1 : decide ((16384 : Int) < n) = false := decide_eq_false (by omega)
  by_cases h5 : kd = 5
  · subst h5
    exact (rAhead2 L fl st n w f0l f1l hn e1).mono (fltP_eq (a := ⟨true, 0, 1⟩) (by unfold aheadS; rw [if_neg h1, if_pos (.inl rfl)]))
  have e5 : (kd == 5) = false := by simpa using h5
  cases hf : farK kd st
  case true => exact (rAhead3 L kd fl st n w f0l f1l hn e1 e5 hf).mono (fltP_eq (a := ⟨true, 0, 1⟩) (by unfold aheadS; rw [if_neg h1, if_pos (.inr hf)]))
  have h3 : ¬(kd = 5 ∨ farK kd st = true) := by simp [h5, hf]
  cases hlo : longOk kd fl n
  case true => exact (rAhead6 L kd fl st n w f0l f1l hn e1 e5 hf hlo).mono (fltP_eq (a := ⟨false, 0, 0⟩) (by unfold aheadS; rw [if_neg h1, if_neg h3, if_neg (by rw [hlo]; decide)]))
  by_cases h2 : kd = 2
  · subst h2
    exact (rAhead4 L fl st n w f0l f1l hn e1 hf hlo).mono (fltP_eq (a := ⟨false, st, 6⟩) (by unfold aheadS; rw [if_neg h1, if_neg h3, if_pos hlo, if_pos rfl]))
  · exact (rAhead5 L kd fl st n w f0l f1l hn e1 e5 (by simpa using h2) hf hlo).mono (fltP_eq (a := ⟨true, 0, 6⟩) (by unfold aheadS; rw [if_neg h1, if_neg h3, if_pos hlo, if_neg h2]))
end Go.Proofs.Ytnjnpnjjpodnnaa
