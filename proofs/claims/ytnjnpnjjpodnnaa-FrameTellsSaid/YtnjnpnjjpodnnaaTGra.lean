/- The document's frames: has, far, long, ahead, set. -/
import Derived.Test.YtnjnpnjjpodnnaaTGq
namespace Go.Proofs.Ytnjnpnjjpodnnaa
open Go.RowKit Go.Shelf
set_option linter.unusedVariables false
set_option linter.unusedSimpArgs false

set_option maxRecDepth 100000 in
theorem rHasF (L k f s flag : Int) (w : World) (f0 : 0 ≤ f) (f1 : f ≤ 255) (g0 : 0 ≤ flag) (g1 : flag ≤ 255) : Calls Try.prog 94 #[.agg #[.int .i64 L, .int .u8 k, .int .u8 f, .int .i64 s], .int .u8 flag] w (BoolP (hasB f flag) w) := by
  have H := Lib.hid fun w => rHas L k f s flag w f0 f1 g0 g1
  have b0 := (Bel.refl w).alloc (.cells #[.int .i64 L, .int .u8 k, .int .u8 f, .int .i64 s] 23)
  have q0 := Blk.new w 23 #[.int .i64 L, .int .u8 k, .int .u8 f, .int .i64 s]
  clear f0 f1 g0 g1
  go_enter Try.func94, Try.ntmps94
  go_wp2_with (first | ((with_reducible refine wpList_id ?_); refine wpList_getG (by rfl) _ _ rfl rfl q0 Try.underlying23 rfl (by rfl) ?_) | (go_at_call 106; (with_reducible refine (H.out _).mono ?_); rintro e w9 ⟨rfl, hb⟩; replace b0 := b0.below hb))
  go_ret
  exact ⟨rfl, b0.out⟩
set_option maxRecDepth 100000 in
set_option maxHeartbeats 2000000 in
theorem rFar (L k f s : Int) (w : World) : Calls Try.prog 49 #[.agg #[.int .i64 L, .int .u8 k, .int .u8 f, .int .i64 s]] w (BoolP (farK k s) w) := by
  have hb := ((Bel.refl w).alloc (.cells #[.int .i64 L, .int .u8 k, .int .u8 f, .int .i64 s] 23)).out
  rcases k10 k with rfl | rfl | rfl | rfl | rfl | rfl | rfl | rfl | rfl | rfl | ⟨h0, h1, h2, h3, h4, h6, h7, h8, h9, h16⟩
  · have z1 := (Blk.new w 23 #[.int .i64 L, .int .u8 0, .int .u8 f, .int .i64 s]).at 1 rfl
    have z3 := (Blk.new w 23 #[.int .i64 L, .int .u8 0, .int .u8 f, .int .i64 s]).at 3 rfl
    go_enter Try.func49, Try.ntmps49
    go_wp2
    go_ret
    refine ⟨?_, hb⟩
    show Ending.returned (Value.bool _) = _
    refine ret_bool ?_
    rw [Bool.eq_iff_iff]
    simp [farK, ofK]
  · have z1 := (Blk.new w 23 #[.int .i64 L, .int .u8 1, .int .u8 f, .int .i64 s]).at 1 rfl
    have z3 := (Blk.new w 23 #[.int .i64 L, .int .u8 1, .int .u8 f, .int .i64 s]).at 3 rfl
    go_enter Try.func49, Try.ntmps49
    go_wp2
    go_ret
    refine ⟨?_, hb⟩
    show Ending.returned (Value.bool _) = _
    refine ret_bool ?_
    rw [Bool.eq_iff_iff]
    simp [farK, ofK]
  · have z1 := (Blk.new w 23 #[.int .i64 L, .int .u8 2, .int .u8 f, .int .i64 s]).at 1 rfl
    have z3 := (Blk.new w 23 #[.int .i64 L, .int .u8 2, .int .u8 f, .int .i64 s]).at 3 rfl
    go_enter Try.func49, Try.ntmps49
    go_wp2
    go_ret
    refine ⟨?_, hb⟩
    show Ending.returned (Value.bool _) = _
    refine ret_bool ?_
    rw [Bool.eq_iff_iff]
    simp [farK, ofK]
  · have z1 := (Blk.new w 23 #[.int .i64 L, .int .u8 3, .int .u8 f, .int .i64 s]).at 1 rfl
    have z3 := (Blk.new w 23 #[.int .i64 L, .int .u8 3, .int .u8 f, .int .i64 s]).at 3 rfl
    go_enter Try.func49, Try.ntmps49
    go_wp2
    go_ret
    refine ⟨?_, hb⟩
    show Ending.returned (Value.bool _) = _
    refine ret_bool ?_
    rw [Bool.eq_iff_iff]
    simp [farK, ofK]
  · have z1 := (Blk.new w 23 #[.int .i64 L, .int .u8 4, .int .u8 f, .int .i64 s]).at 1 rfl
    have z3 := (Blk.new w 23 #[.int .i64 L, .int .u8 4, .int .u8 f, .int .i64 s]).at 3 rfl
    go_enter Try.func49, Try.ntmps49
    go_wp2
    go_ret
    refine ⟨?_, hb⟩
    show Ending.returned (Value.bool _) = _
    refine ret_bool ?_
    rw [Bool.eq_iff_iff]
    simp [farK, ofK]
  · have z1 := (Blk.new w 23 #[.int .i64 L, .int .u8 6, .int .u8 f, .int .i64 s]).at 1 rfl
    have z3 := (Blk.new w 23 #[.int .i64 L, .int .u8 6, .int .u8 f, .int .i64 s]).at 3 rfl
    go_enter Try.func49, Try.ntmps49
    go_wp2
    go_ret
    refine ⟨?_, hb⟩
    show Ending.returned (Value.bool _) = _
    refine ret_bool ?_
    rw [Bool.eq_iff_iff]
    simp [farK, ofK]
  · have z1 := (Blk.new w 23 #[.int .i64 L, .int .u8 7, .int .u8 f, .int .i64 s]).at 1 rfl
    have z3 := (Blk.new w 23 #[.int .i64 L, .int .u8 7, .int .u8 f, .int .i64 s]).at 3 rfl
    go_enter Try.func49, Try.ntmps49
    go_wp2
    go_ret
    refine ⟨?_, hb⟩
    show Ending.returned (Value.bool _) = _
    refine ret_bool ?_
    rw [Bool.eq_iff_iff]
    simp [farK, ofK]
  · have z1 := (Blk.new w 23 #[.int .i64 L, .int .u8 8, .int .u8 f, .int .i64 s]).at 1 rfl
    have z3 := (Blk.new w 23 #[.int .i64 L, .int .u8 8, .int .u8 f, .int .i64 s]).at 3 rfl
    go_enter Try.func49, Try.ntmps49
    go_wp2
    go_ret
    refine ⟨?_, hb⟩
    show Ending.returned (Value.bool _) = _
    refine ret_bool ?_
    rw [Bool.eq_iff_iff]
    simp [farK, ofK]
  · have z1 := (Blk.new w 23 #[.int .i64 L, .int .u8 9, .int .u8 f, .int .i64 s]).at 1 rfl
    have z3 := (Blk.new w 23 #[.int .i64 L, .int .u8 9, .int .u8 f, .int .i64 s]).at 3 rfl
    go_enter Try.func49, Try.ntmps49
    go_wp2
    go_ret
    refine ⟨?_, hb⟩
    show Ending.returned (Value.bool _) = _
    refine ret_bool ?_
    rw [Bool.eq_iff_iff]
    simp [farK, ofK]
  · have z1 := (Blk.new w 23 #[.int .i64 L, .int .u8 16, .int .u8 f, .int .i64 s]).at 1 rfl
    have z3 := (Blk.new w 23 #[.int .i64 L, .int .u8 16, .int .u8 f, .int .i64 s]).at 3 rfl
    go_enter Try.func49, Try.ntmps49
    go_wp2
    go_ret
    refine ⟨?_, hb⟩
    show Ending.returned (Value.bool _) = _
    refine ret_bool ?_
    rw [Bool.eq_iff_iff]
    simp [farK, ofK]
  · have z1 := (Blk.new w 23 #[.int .i64 L, .int .u8 k, .int .u8 f, .int .i64 s]).at 1 rfl
    have n0 : (k == 0) = false := by simpa using h0
    have n1 : (k == 1) = false := by simpa using h1
    have n2 : (k == 2) = false := by simpa using h2
    have n3 : (k == 3) = false := by simpa using h3
    have n4 : (k == 4) = false := by simpa using h4
    have n6 : (k == 6) = false := by simpa using h6
    have n7 : (k == 7) = false := by simpa using h7
    have n8 : (k == 8) = false := by simpa using h8
    have n9 : (k == 9) = false := by simpa using h9
    have n16 : (k == 16) = false := by simpa using h16
    have hr : farK k s = false := by simp [farK, ofK, h0, h1, h2, h3, h4, h6, h7, h8, h9, h16]
    rw [hr]
    clear h0 h1 h2 h3 h4 h6 h7 h8 h9 h16 hr
    go_enter Try.func49, Try.ntmps49
    go_wp2
    go_ret
    exact ⟨rfl, hb⟩
set_option maxRecDepth 100000 in
set_option maxHeartbeats 2000000 in
theorem rLong0 (L f s : Int) (n : Nat) (w : World) (f0 : 0 ≤ f) (f1 : f ≤ 255) (hn : n ≤ 140737488355328) : Calls Try.prog 50 #[.agg #[.int .i64 L, .int .u8 0, .int .u8 f, .int .i64 s], .int .i64 n] w (BoolP (!(longOk 0 f n)) w) := by
  have H8 := Lib.hid fun w => rHasF L 0 f s 8 w f0 f1 (by decide) (by decide)
  have b0 := (Bel.refl w).alloc (.cells #[.int .i64 L, .int .u8 0, .int .u8 f, .int .i64 s] 23)
  have q0 := Blk.new w 23 #[.int .i64 L, .int .u8 0, .int .u8 f, .int .i64 s]
  have z1 := q0.at 1 rfl
  have hs : longOk 0 f n = longOk 0 f n := rfl
  clear f0 f1 hs hn
  unfold longOk needK
  simp only [show ((0 : Int) = 0 ∨ (0 : Int) = 1) = True by simp, show ((0 : Int) = 1) = False by simp, if_true, false_and, if_false]
  generalize hasB f 8 = v8 at *
  cases v8
  all_goals
    go_enter Try.func50, Try.ntmps50
    go_wp2_with (first
      | ((with_reducible refine wpList_id ?_); refine wpList_getG (by rfl) _ _ rfl rfl q0 Try.underlying23 rfl (by rfl) ?_)
      | (go_at_call 94; (with_reducible refine (H8.out _).mono ?_); rintro e w9 ⟨rfl, hb⟩; replace b0 := b0.below hb; replace q0 := q0.below hb; (try clear z1); have z1 := q0.at 1 rfl; clear hb))
    go_ret
    refine ⟨?_, b0.out⟩
    show Ending.returned (Value.bool _) = _
    refine ret_bool ?_
    first
      | rfl
      | (rw [Bool.eq_iff_iff]; simp [longOk, needK]; done)
      | (rw [Bool.eq_iff_iff]; simp [longOk, needK]; omega)
set_option maxRecDepth 100000 in
set_option maxHeartbeats 2000000 in
theorem rLong1 (L f s : Int) (n : Nat) (w : World) (f0 : 0 ≤ f) (f1 : f ≤ 255) (hn : n ≤ 140737488355328) : Calls Try.prog 50 #[.agg #[.int .i64 L, .int .u8 1, .int .u8 f, .int .i64 s], .int .i64 n] w (BoolP (!(longOk 1 f n)) w) := by
  have H8 := Lib.hid fun w => rHasF L 1 f s 8 w f0 f1 (by decide) (by decide)
  have H32 := Lib.hid fun w => rHasF L 1 f s 32 w f0 f1 (by decide) (by decide)
  have b0 := (Bel.refl w).alloc (.cells #[.int .i64 L, .int .u8 1, .int .u8 f, .int .i64 s] 23)
  have q0 := Blk.new w 23 #[.int .i64 L, .int .u8 1, .int .u8 f, .int .i64 s]
  have z1 := q0.at 1 rfl
  unfold longOk needK
  simp only [show ((1 : Int) = 0 ∨ (1 : Int) = 1) = True by simp, if_true, true_and]
  have hw6 : IntKind.i64.wrap ((1 : Int) + 5) = 6 := by decide
  have hw5 : IntKind.i64.wrap ((0 : Int) + 5) = 5 := by decide
  clear f0 f1 hn
  generalize hasB f 8 = v8 at *
  generalize hasB f 32 = v32 at *
  cases v8 <;> cases v32
  all_goals
    have tok1 : True := trivial
    go_enter Try.func50, Try.ntmps50
    go_wp2_with (first
      | ((with_reducible refine wpList_id ?_); refine wpList_getG (by rfl) _ _ rfl rfl q0 Try.underlying23 rfl (by rfl) ?_)
      | (go_at_call 94; have _t := tok1; clear tok1 _t; (with_reducible refine (H8.out _).mono ?_); rintro e w9 ⟨rfl, hb⟩; replace b0 := b0.below hb; replace q0 := q0.below hb; (try clear z1); have z1 := q0.at 1 rfl; clear hb)
      | (go_at_call 94; (with_reducible refine (H32.out _).mono ?_); rintro e w9 ⟨rfl, hb⟩; replace b0 := b0.below hb; replace q0 := q0.below hb; (try clear z1); have z1 := q0.at 1 rfl; clear hb))
    go_ret
    refine ⟨?_, b0.out⟩
    show Ending.returned (Value.bool _) = _
    refine ret_bool ?_
    first
      | rfl
      | (rw [Bool.eq_iff_iff]; simp [longOk, needK]; done)
      | (rw [Bool.eq_iff_iff]; simp [longOk, needK]; omega)
set_option maxRecDepth 100000 in
set_option maxHeartbeats 2000000 in
theorem rLong2 (L f s : Int) (n : Nat) (w : World) (f0 : 0 ≤ f) (f1 : f ≤ 255) (hn : n ≤ 140737488355328) : Calls Try.prog 50 #[.agg #[.int .i64 L, .int .u8 2, .int .u8 f, .int .i64 s], .int .i64 n] w (BoolP (!(longOk 2 f n)) w) := by
  have H8 := Lib.hid fun w => rHasF L 2 f s 8 w f0 f1 (by decide) (by decide)
  have b0 := (Bel.refl w).alloc (.cells #[.int .i64 L, .int .u8 2, .int .u8 f, .int .i64 s] 23)
  have q0 := Blk.new w 23 #[.int .i64 L, .int .u8 2, .int .u8 f, .int .i64 s]
  have z1 := q0.at 1 rfl
  have hs : longOk 2 f n = longOk 2 f n := rfl
  clear f0 f1 hs hn
  generalize hasB f 8 = v8 at *
  cases v8
  all_goals
    go_enter Try.func50, Try.ntmps50
    go_wp2_with (first
      | ((with_reducible refine wpList_id ?_); refine wpList_getG (by rfl) _ _ rfl rfl q0 Try.underlying23 rfl (by rfl) ?_)
      | (go_at_call 94; (with_reducible refine (H8.out _).mono ?_); rintro e w9 ⟨rfl, hb⟩; replace b0 := b0.below hb; replace q0 := q0.below hb; (try clear z1); have z1 := q0.at 1 rfl; clear hb))
    go_ret
    refine ⟨?_, b0.out⟩
    show Ending.returned (Value.bool _) = _
    refine ret_bool ?_
    first
      | rfl
      | (rw [Bool.eq_iff_iff]; simp [longOk, needK]; done)
      | (rw [Bool.eq_iff_iff]; simp [longOk, needK]; omega)
set_option maxRecDepth 100000 in
set_option maxHeartbeats 2000000 in
theorem rLong3 (L f s : Int) (n : Nat) (w : World) (f0 : 0 ≤ f) (f1 : f ≤ 255) (hn : n ≤ 140737488355328) : Calls Try.prog 50 #[.agg #[.int .i64 L, .int .u8 3, .int .u8 f, .int .i64 s], .int .i64 n] w (BoolP (!(longOk 3 f n)) w) := by
  have H8 := Lib.hid fun w => rHasF L 3 f s 8 w f0 f1 (by decide) (by decide)
  have b0 := (Bel.refl w).alloc (.cells #[.int .i64 L, .int .u8 3, .int .u8 f, .int .i64 s] 23)
  have q0 := Blk.new w 23 #[.int .i64 L, .int .u8 3, .int .u8 f, .int .i64 s]
  have z1 := q0.at 1 rfl
  have hs : longOk 3 f n = longOk 3 f n := rfl
  clear f0 f1 hs hn
  generalize hasB f 8 = v8 at *
  cases v8
  all_goals
    go_enter Try.func50, Try.ntmps50
    go_wp2_with (first
      | ((with_reducible refine wpList_id ?_); refine wpList_getG (by rfl) _ _ rfl rfl q0 Try.underlying23 rfl (by rfl) ?_)
      | (go_at_call 94; (with_reducible refine (H8.out _).mono ?_); rintro e w9 ⟨rfl, hb⟩; replace b0 := b0.below hb; replace q0 := q0.below hb; (try clear z1); have z1 := q0.at 1 rfl; clear hb))
    go_ret
    refine ⟨?_, b0.out⟩
    show Ending.returned (Value.bool _) = _
    refine ret_bool ?_
    first
      | rfl
      | (rw [Bool.eq_iff_iff]; simp [longOk, needK]; done)
      | (rw [Bool.eq_iff_iff]; simp [longOk, needK]; omega)
set_option maxRecDepth 100000 in
set_option maxHeartbeats 2000000 in
theorem rLong4 (L f s : Int) (n : Nat) (w : World) (f0 : 0 ≤ f) (f1 : f ≤ 255) (hn : n ≤ 140737488355328) : Calls Try.prog 50 #[.agg #[.int .i64 L, .int .u8 4, .int .u8 f, .int .i64 s], .int .i64 n] w (BoolP (!(longOk 4 f n)) w) := by
  have H8 := Lib.hid fun w => rHasF L 4 f s 8 w f0 f1 (by decide) (by decide)
  have H1 := Lib.hid fun w => rHasF L 4 f s 1 w f0 f1 (by decide) (by decide)
  have b0 := (Bel.refl w).alloc (.cells #[.int .i64 L, .int .u8 4, .int .u8 f, .int .i64 s] 23)
  have q0 := Blk.new w 23 #[.int .i64 L, .int .u8 4, .int .u8 f, .int .i64 s]
  have z1 := q0.at 1 rfl
  unfold longOk
  simp only [show ¬((4 : Int) = 0 ∨ (4 : Int) = 1) by decide, show ¬((4 : Int) = 2) by decide, show ¬((4 : Int) = 3 ∨ (4 : Int) = 8) by decide, if_false, if_true]
  have hw : (decide (n % 6 = 0) = true ∧ decide (n = 0) = true ∧ ((n : Int).tmod 6 != 0) = false ∧ ((n : Int) % 6 != 0) = false ∧ ((n : Int) != 0) = false) ∨ (decide (n % 6 = 0) = true ∧ decide (n = 0) = false ∧ ((n : Int).tmod 6 != 0) = false ∧ ((n : Int) % 6 != 0) = false ∧ ((n : Int) != 0) = true) ∨ (decide (n % 6 = 0) = false ∧ decide (n = 0) = false ∧ ((n : Int).tmod 6 != 0) = true ∧ ((n : Int) % 6 != 0) = true ∧ ((n : Int) != 0) = true) := by
    rw [Int.tmod_eq_emod_of_nonneg (by omega)]
    simp only [decide_eq_true_eq, decide_eq_false_iff_not, bne_eq_false_iff_eq, bne_iff_ne, ne_eq]
    omega
  clear f0 f1 hn
  generalize hasB f 8 = v8 at *
  generalize hasB f 1 = v1 at *
  rcases hw with ⟨d1, d2, e0, e1, e2⟩ | ⟨d1, d2, e0, e1, e2⟩ | ⟨d1, d2, e0, e1, e2⟩
  all_goals
    rw [d1, d2]
    clear d1 d2
    cases v8 <;> cases v1
  all_goals
    have tok1 : True := trivial
    go_enter Try.func50, Try.ntmps50
    go_wp2_with (first
      | ((with_reducible refine wpList_id ?_); refine wpList_getG (by rfl) _ _ rfl rfl q0 Try.underlying23 rfl (by rfl) ?_)
      | (go_at_call 94; have _t := tok1; clear tok1 _t; (with_reducible refine (H8.out _).mono ?_); rintro e w9 ⟨rfl, hb⟩; replace b0 := b0.below hb; replace q0 := q0.below hb; (try clear z1); have z1 := q0.at 1 rfl; clear hb)
      | (go_at_call 94; (with_reducible refine (H1.out _).mono ?_); rintro e w9 ⟨rfl, hb⟩; replace b0 := b0.below hb; replace q0 := q0.below hb; (try clear z1); have z1 := q0.at 1 rfl; clear hb))
    go_ret
    refine ⟨?_, b0.out⟩
    show Ending.returned (Value.bool _) = _
    refine ret_bool ?_
    first
      | rfl
      | (rw [Bool.eq_iff_iff]; simp [longOk, needK]; done)
      | (rw [Bool.eq_iff_iff]; simp [longOk, needK]; omega)
set_option maxRecDepth 100000 in
set_option maxHeartbeats 2000000 in
theorem rLong6 (L f s : Int) (n : Nat) (w : World) (f0 : 0 ≤ f) (f1 : f ≤ 255) (hn : n ≤ 140737488355328) : Calls Try.prog 50 #[.agg #[.int .i64 L, .int .u8 6, .int .u8 f, .int .i64 s], .int .i64 n] w (BoolP (!(longOk 6 f n)) w) := by
  have H8 := Lib.hid fun w => rHasF L 6 f s 8 w f0 f1 (by decide) (by decide)
  have b0 := (Bel.refl w).alloc (.cells #[.int .i64 L, .int .u8 6, .int .u8 f, .int .i64 s] 23)
  have q0 := Blk.new w 23 #[.int .i64 L, .int .u8 6, .int .u8 f, .int .i64 s]
  have z1 := q0.at 1 rfl
  have hs : longOk 6 f n = longOk 6 f n := rfl
  clear f0 f1 hs hn
  generalize hasB f 8 = v8 at *
  cases v8
  all_goals
    go_enter Try.func50, Try.ntmps50
    go_wp2_with (first
      | ((with_reducible refine wpList_id ?_); refine wpList_getG (by rfl) _ _ rfl rfl q0 Try.underlying23 rfl (by rfl) ?_)
      | (go_at_call 94; (with_reducible refine (H8.out _).mono ?_); rintro e w9 ⟨rfl, hb⟩; replace b0 := b0.below hb; replace q0 := q0.below hb; (try clear z1); have z1 := q0.at 1 rfl; clear hb))
    go_ret
    refine ⟨?_, b0.out⟩
    show Ending.returned (Value.bool _) = _
    refine ret_bool ?_
    first
      | rfl
      | (rw [Bool.eq_iff_iff]; simp [longOk, needK]; done)
      | (rw [Bool.eq_iff_iff]; simp [longOk, needK]; omega)
set_option maxRecDepth 100000 in
set_option maxHeartbeats 2000000 in
theorem rLong7 (L f s : Int) (n : Nat) (w : World) (f0 : 0 ≤ f) (f1 : f ≤ 255) (hn : n ≤ 140737488355328) : Calls Try.prog 50 #[.agg #[.int .i64 L, .int .u8 7, .int .u8 f, .int .i64 s], .int .i64 n] w (BoolP (!(longOk 7 f n)) w) := by
  have H8 := Lib.hid fun w => rHasF L 7 f s 8 w f0 f1 (by decide) (by decide)
  have b0 := (Bel.refl w).alloc (.cells #[.int .i64 L, .int .u8 7, .int .u8 f, .int .i64 s] 23)
  have q0 := Blk.new w 23 #[.int .i64 L, .int .u8 7, .int .u8 f, .int .i64 s]
  have z1 := q0.at 1 rfl
  have hs : longOk 7 f n = longOk 7 f n := rfl
  clear f0 f1 hs hn
  generalize hasB f 8 = v8 at *
  cases v8
  all_goals
    go_enter Try.func50, Try.ntmps50
    go_wp2_with (first
      | ((with_reducible refine wpList_id ?_); refine wpList_getG (by rfl) _ _ rfl rfl q0 Try.underlying23 rfl (by rfl) ?_)
      | (go_at_call 94; (with_reducible refine (H8.out _).mono ?_); rintro e w9 ⟨rfl, hb⟩; replace b0 := b0.below hb; replace q0 := q0.below hb; (try clear z1); have z1 := q0.at 1 rfl; clear hb))
    go_ret
    refine ⟨?_, b0.out⟩
    show Ending.returned (Value.bool _) = _
    refine ret_bool ?_
    first
      | rfl
      | (rw [Bool.eq_iff_iff]; simp [longOk, needK]; done)
      | (rw [Bool.eq_iff_iff]; simp [longOk, needK]; omega)
set_option maxRecDepth 100000 in
set_option maxHeartbeats 2000000 in
theorem rLong8 (L f s : Int) (n : Nat) (w : World) (f0 : 0 ≤ f) (f1 : f ≤ 255) (hn : n ≤ 140737488355328) : Calls Try.prog 50 #[.agg #[.int .i64 L, .int .u8 8, .int .u8 f, .int .i64 s], .int .i64 n] w (BoolP (!(longOk 8 f n)) w) := by
  have H8 := Lib.hid fun w => rHasF L 8 f s 8 w f0 f1 (by decide) (by decide)
  have b0 := (Bel.refl w).alloc (.cells #[.int .i64 L, .int .u8 8, .int .u8 f, .int .i64 s] 23)
  have q0 := Blk.new w 23 #[.int .i64 L, .int .u8 8, .int .u8 f, .int .i64 s]
  have z1 := q0.at 1 rfl
  have hs : longOk 8 f n = longOk 8 f n := rfl
  clear f0 f1 hs hn
  generalize hasB f 8 = v8 at *
  cases v8
  all_goals
    go_enter Try.func50, Try.ntmps50
    go_wp2_with (first
      | ((with_reducible refine wpList_id ?_); refine wpList_getG (by rfl) _ _ rfl rfl q0 Try.underlying23 rfl (by rfl) ?_)
      | (go_at_call 94; (with_reducible refine (H8.out _).mono ?_); rintro e w9 ⟨rfl, hb⟩; replace b0 := b0.below hb; replace q0 := q0.below hb; (try clear z1); have z1 := q0.at 1 rfl; clear hb))
    go_ret
    refine ⟨?_, b0.out⟩
    show Ending.returned (Value.bool _) = _
    refine ret_bool ?_
    first
      | rfl
      | (rw [Bool.eq_iff_iff]; simp [longOk, needK]; done)
      | (rw [Bool.eq_iff_iff]; simp [longOk, needK]; omega)
set_option maxRecDepth 100000 in
set_option maxHeartbeats 2000000 in
theorem rLong9 (L f s : Int) (n : Nat) (w : World) (f0 : 0 ≤ f) (f1 : f ≤ 255) (hn : n ≤ 140737488355328) : Calls Try.prog 50 #[.agg #[.int .i64 L, .int .u8 9, .int .u8 f, .int .i64 s], .int .i64 n] w (BoolP (!(longOk 9 f n)) w) := by
  have H8 := Lib.hid fun w => rHasF L 9 f s 8 w f0 f1 (by decide) (by decide)
  have b0 := (Bel.refl w).alloc (.cells #[.int .i64 L, .int .u8 9, .int .u8 f, .int .i64 s] 23)
  have q0 := Blk.new w 23 #[.int .i64 L, .int .u8 9, .int .u8 f, .int .i64 s]
  have z1 := q0.at 1 rfl
  have hs : longOk 9 f n = longOk 9 f n := rfl
  clear f0 f1 hs hn
  generalize hasB f 8 = v8 at *
  cases v8
  all_goals
    go_enter Try.func50, Try.ntmps50
    go_wp2_with (first
      | ((with_reducible refine wpList_id ?_); refine wpList_getG (by rfl) _ _ rfl rfl q0 Try.underlying23 rfl (by rfl) ?_)
      | (go_at_call 94; (with_reducible refine (H8.out _).mono ?_); rintro e w9 ⟨rfl, hb⟩; replace b0 := b0.below hb; replace q0 := q0.below hb; (try clear z1); have z1 := q0.at 1 rfl; clear hb))
    go_ret
    refine ⟨?_, b0.out⟩
    show Ending.returned (Value.bool _) = _
    refine ret_bool ?_
    first
      | rfl
      | (rw [Bool.eq_iff_iff]; simp [longOk, needK]; done)
      | (rw [Bool.eq_iff_iff]; simp [longOk, needK]; omega)
set_option maxRecDepth 100000 in
set_option maxHeartbeats 2000000 in
theorem rLong16 (L f s : Int) (n : Nat) (w : World) (f0 : 0 ≤ f) (f1 : f ≤ 255) (hn : n ≤ 140737488355328) : Calls Try.prog 50 #[.agg #[.int .i64 L, .int .u8 16, .int .u8 f, .int .i64 s], .int .i64 n] w (BoolP (!(longOk 16 f n)) w) := by
  have H8 := Lib.hid fun w => rHasF L 16 f s 8 w f0 f1 (by decide) (by decide)
  have b0 := (Bel.refl w).alloc (.cells #[.int .i64 L, .int .u8 16, .int .u8 f, .int .i64 s] 23)
  have q0 := Blk.new w 23 #[.int .i64 L, .int .u8 16, .int .u8 f, .int .i64 s]
  have z1 := q0.at 1 rfl
  have hs : longOk 16 f n = longOk 16 f n := rfl
  clear f0 f1 hs hn
  generalize hasB f 8 = v8 at *
  cases v8
  all_goals
    go_enter Try.func50, Try.ntmps50
    go_wp2_with (first
      | ((with_reducible refine wpList_id ?_); refine wpList_getG (by rfl) _ _ rfl rfl q0 Try.underlying23 rfl (by rfl) ?_)
      | (go_at_call 94; (with_reducible refine (H8.out _).mono ?_); rintro e w9 ⟨rfl, hb⟩; replace b0 := b0.below hb; replace q0 := q0.below hb; (try clear z1); have z1 := q0.at 1 rfl; clear hb))
    go_ret
    refine ⟨?_, b0.out⟩
    show Ending.returned (Value.bool _) = _
    refine ret_bool ?_
    first
      | rfl
      | (rw [Bool.eq_iff_iff]; simp [longOk, needK]; done)
      | (rw [Bool.eq_iff_iff]; simp [longOk, needK]; omega)
set_option maxRecDepth 100000 in
set_option maxHeartbeats 2000000 in
theorem rLongo (k : Int) (h0 : k ≠ 0) (h1 : k ≠ 1) (h2 : k ≠ 2) (h3 : k ≠ 3) (h4 : k ≠ 4) (h6 : k ≠ 6) (h7 : k ≠ 7) (h8 : k ≠ 8) (h9 : k ≠ 9) (h16 : k ≠ 16) (L f s : Int) (n : Nat) (w : World) (f0 : 0 ≤ f) (f1 : f ≤ 255) (hn : n ≤ 140737488355328) : Calls Try.prog 50 #[.agg #[.int .i64 L, .int .u8 k, .int .u8 f, .int .i64 s], .int .i64 n] w (BoolP (!(longOk k f n)) w) := by
  have H8 := Lib.hid fun w => rHasF L k f s 8 w f0 f1 (by decide) (by decide)
  have b0 := (Bel.refl w).alloc (.cells #[.int .i64 L, .int .u8 k, .int .u8 f, .int .i64 s] 23)
  have q0 := Blk.new w 23 #[.int .i64 L, .int .u8 k, .int .u8 f, .int .i64 s]
  have z1 := q0.at 1 rfl
  have n0 : (k == 0) = false := by simpa using h0
  have n1 : (k == 1) = false := by simpa using h1
  have n2 : (k == 2) = false := by simpa using h2
  have n3 : (k == 3) = false := by simpa using h3
  have n4 : (k == 4) = false := by simpa using h4
  have n6 : (k == 6) = false := by simpa using h6
  have n7 : (k == 7) = false := by simpa using h7
  have n8 : (k == 8) = false := by simpa using h8
  have n9 : (k == 9) = false := by simpa using h9
  have n16 : (k == 16) = false := by simpa using h16
  have hr : longOk k f n = true := by simp [longOk, h0, h1, h2, h3, h4, h6, h7, h8, h9, h16]
  rw [hr]
  clear hr h0 h1 h2 h3 h4 h6 h7 h8 h9 h16
  have hs : longOk k f n = longOk k f n := rfl
  clear f0 f1 hs hn
  generalize hasB f 8 = v8 at *
  cases v8
  all_goals
    go_enter Try.func50, Try.ntmps50
    go_wp2_with (first
      | ((with_reducible refine wpList_id ?_); refine wpList_getG (by rfl) _ _ rfl rfl q0 Try.underlying23 rfl (by rfl) ?_)
      | (go_at_call 94; (with_reducible refine (H8.out _).mono ?_); rintro e w9 ⟨rfl, hb⟩; replace b0 := b0.below hb; replace q0 := q0.below hb; (try clear z1); have z1 := q0.at 1 rfl; clear hb))
    go_ret
    refine ⟨?_, b0.out⟩
    show Ending.returned (Value.bool _) = _
    refine ret_bool ?_
    first
      | rfl
      | (rw [Bool.eq_iff_iff]; simp [longOk, needK]; done)
      | (rw [Bool.eq_iff_iff]; simp [longOk, needK]; omega)
theorem rLong (L k f s : Int) (n : Nat) (w : World) (f0 : 0 ≤ f) (f1 : f ≤ 255) (hn : n ≤ 140737488355328) : Calls Try.prog 50 #[.agg #[.int .i64 L, .int .u8 k, .int .u8 f, .int .i64 s], .int .i64 n] w (BoolP (!(longOk k f n)) w) := by
  rcases k10 k with rfl | rfl | rfl | rfl | rfl | rfl | rfl | rfl | rfl | rfl | ⟨h0, h1, h2, h3, h4, h6, h7, h8, h9, h16⟩
  · exact rLong0 L f s n w f0 f1 hn
  · exact rLong1 L f s n w f0 f1 hn
  · exact rLong2 L f s n w f0 f1 hn
  · exact rLong3 L f s n w f0 f1 hn
  · exact rLong4 L f s n w f0 f1 hn
  · exact rLong6 L f s n w f0 f1 hn
  · exact rLong7 L f s n w f0 f1 hn
  · exact rLong8 L f s n w f0 f1 hn
  · exact rLong9 L f s n w f0 f1 hn
  · exact rLong16 L f s n w f0 f1 hn
  · exact rLongo k h0 h1 h2 h3 h4 h6 h7 h8 h9 h16 L f s n w f0 f1 hn
end Go.Proofs.Ytnjnpnjjpodnnaa
