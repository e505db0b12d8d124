/- WindowBack: what is taken and given back leaves a window as it was, and so on: the walk. -/
import Derived.Test.YtfifjeljbbanmaaK
namespace Go.Proofs.Ytfifjeljbbanmaa
open Go.RowKit

theorem take_cases (w n : Int) : (takeB w n = false ∧ takeV w n = w) ∨ (takeB w n = true ∧ takeV w n = w - n ∧ (-2147483647 ≤ w ∧ w ≤ 2147483647 ∧ 0 ≤ n ∧ n ≤ can w)) := by
  unfold takeB takeV
  by_cases h : -2147483647 ≤ w ∧ w ≤ 2147483647 ∧ 0 ≤ n ∧ n ≤ can w
  · exact .inr ⟨decide_eq_true h, if_pos h, h⟩
  · exact .inl ⟨decide_eq_false h, if_neg h⟩
theorem give_cases (w n : Int) : (giveB w n = false ∧ giveV w n = w) ∨ (giveB w n = true ∧ giveV w n = w + n ∧ (-2147483647 ≤ w ∧ w ≤ 2147483647 ∧ 1 ≤ n ∧ n ≤ 2147483647 ∧ w + n ≤ 2147483647)) := by
  unfold giveB giveV
  by_cases h : -2147483647 ≤ w ∧ w ≤ 2147483647 ∧ 1 ≤ n ∧ n ≤ 2147483647 ∧ w + n ≤ 2147483647
  · exact .inr ⟨decide_eq_true h, if_pos h, h⟩
  · exact .inl ⟨decide_eq_false h, if_neg h⟩
theorem shift_cases (w n : Int) : (shiftB w n = false ∧ shiftV w n = w) ∨ (shiftB w n = true ∧ shiftV w n = w + n ∧ (-2147483647 ≤ w ∧ w ≤ 2147483647 ∧ -2147483647 ≤ n ∧ n ≤ 2147483647 ∧ -2147483647 ≤ w + n ∧ w + n ≤ 2147483647)) := by
  unfold shiftB shiftV
  by_cases h : -2147483647 ≤ w ∧ w ≤ 2147483647 ∧ -2147483647 ≤ n ∧ n ≤ 2147483647 ∧ -2147483647 ≤ w + n ∧ w + n ≤ 2147483647
  · exact .inr ⟨decide_eq_true h, if_pos h, h⟩
  · exact .inl ⟨decide_eq_false h, if_neg h⟩

set_option maxHeartbeats 8000000 in
theorem walkBack (w : Int) (h0 : -9223372036854775808 ≤ w) (h1 : w ≤ 9223372036854775807) (n : Int) (n0 : -9223372036854775808 ≤ n) (n1 : n ≤ 9223372036854775807) (W : World) :
    Calls Try.prog 4 #[.int .i64 w, .int .i64 n] W fun e w' => e = .returned (.bool true) ∧ Below W.heap.size W w' := by
  have b0 := Below.refl W.heap.size W
  have cl := can_le w
  rcases take_cases w n with ⟨t1, t2⟩ | ⟨t1, t2, q1, q2, q3, q4⟩
  · skip
    rcases give_cases w n with ⟨g1, g2⟩ | ⟨g1, g2, p1, p2, p3, p4, p5⟩
    · skip
      rcases shift_cases w n with ⟨s1, s2⟩ | ⟨s1, s2, r1, r2, r3, r4, r5, r6⟩
      · skip
        go_enter Try.func4, Try.ntmps4
        go_wp2_with (first
    | (go_at_call 7; refine (fTake _ _ (by omega) (by omega) (by omega) (by omega) _).mono ?_; rintro e w' ⟨rfl, rfl⟩)
    | (go_at_call 9; refine (fGive _ _ (by omega) (by omega) (by omega) (by omega) _).mono ?_; rintro e w' ⟨rfl, rfl⟩)
    | (go_at_call 11; refine (fShift _ _ (by omega) (by omega) (by omega) (by omega) _).mono ?_; rintro e w' ⟨rfl, rfl⟩)
    | (go_at_call 15; refine (fCan _ (by omega) (by omega) _).mono ?_; rintro e w' ⟨rfl, rfl⟩)
    | (go_at_call 13; refine (fRight _ (by omega) (by omega) _).mono ?_; rintro e w' ⟨rfl, rfl⟩)
    | (go_at_call 8; refine (fTakeR _ _ (by omega) (by omega) (by omega) (by omega) _).mono ?_; rintro e w' ⟨rfl, rfl⟩)
    | (go_at_call 10; refine (fGiveR _ _ (by omega) (by omega) (by omega) (by omega) _).mono ?_; rintro e w' ⟨rfl, rfl⟩)
    | (go_at_call 12; refine (fShiftR _ _ (by omega) (by omega) (by omega) (by omega) _).mono ?_; rintro e w' ⟨rfl, rfl⟩)
    | (go_at_call 16; refine (fCanR _ (by omega) (by omega) _).mono ?_; rintro e w' ⟨rfl, rfl⟩)
    | (go_at_call 14; refine (fRightR _ (by omega) (by omega) _).mono ?_; rintro e w' ⟨rfl, rfl⟩)
    | (go_at_call 17; refine (fCut _ _ _ _ _ (by omega) (by omega) (by omega) (by omega) _).mono ?_; rintro e w' ⟨rfl, hb⟩; replace b0 := b0.trans (hb.mono b0.size))
    | (go_at_call 18; refine (fCutR _ _ _ _ _ (by omega) (by omega) (by omega) (by omega) _).mono ?_; rintro e w' ⟨rfl, rfl⟩)
    | (go_at_call 19; refine (fWakes _).mono ?_; rintro e w' ⟨rfl, hb⟩; replace b0 := b0.trans (hb.mono b0.size)))
        all_goals go_ret
        all_goals exact ⟨rfl, b0⟩
      · have z1 : shiftB (w + n) (-n) = true := decide_eq_true (by omega)
        have z2 : shiftV (w + n) (-n) = w := by unfold shiftV; rw [if_pos (by omega)]; omega
        have z3 := rgt_t (w := w + n) ⟨r5, r6⟩
        go_enter Try.func4, Try.ntmps4
        go_wp2_with (first
    | (go_at_call 7; refine (fTake _ _ (by omega) (by omega) (by omega) (by omega) _).mono ?_; rintro e w' ⟨rfl, rfl⟩)
    | (go_at_call 9; refine (fGive _ _ (by omega) (by omega) (by omega) (by omega) _).mono ?_; rintro e w' ⟨rfl, rfl⟩)
    | (go_at_call 11; refine (fShift _ _ (by omega) (by omega) (by omega) (by omega) _).mono ?_; rintro e w' ⟨rfl, rfl⟩)
    | (go_at_call 15; refine (fCan _ (by omega) (by omega) _).mono ?_; rintro e w' ⟨rfl, rfl⟩)
    | (go_at_call 13; refine (fRight _ (by omega) (by omega) _).mono ?_; rintro e w' ⟨rfl, rfl⟩)
    | (go_at_call 8; refine (fTakeR _ _ (by omega) (by omega) (by omega) (by omega) _).mono ?_; rintro e w' ⟨rfl, rfl⟩)
    | (go_at_call 10; refine (fGiveR _ _ (by omega) (by omega) (by omega) (by omega) _).mono ?_; rintro e w' ⟨rfl, rfl⟩)
    | (go_at_call 12; refine (fShiftR _ _ (by omega) (by omega) (by omega) (by omega) _).mono ?_; rintro e w' ⟨rfl, rfl⟩)
    | (go_at_call 16; refine (fCanR _ (by omega) (by omega) _).mono ?_; rintro e w' ⟨rfl, rfl⟩)
    | (go_at_call 14; refine (fRightR _ (by omega) (by omega) _).mono ?_; rintro e w' ⟨rfl, rfl⟩)
    | (go_at_call 17; refine (fCut _ _ _ _ _ (by omega) (by omega) (by omega) (by omega) _).mono ?_; rintro e w' ⟨rfl, hb⟩; replace b0 := b0.trans (hb.mono b0.size))
    | (go_at_call 18; refine (fCutR _ _ _ _ _ (by omega) (by omega) (by omega) (by omega) _).mono ?_; rintro e w' ⟨rfl, rfl⟩)
    | (go_at_call 19; refine (fWakes _).mono ?_; rintro e w' ⟨rfl, hb⟩; replace b0 := b0.trans (hb.mono b0.size)))
        all_goals go_ret
        all_goals exact ⟨rfl, b0⟩
    · have y1 := rgt_t (w := w + n) ⟨by omega, p5⟩
      by_cases hw : 0 ≤ w
      · have y4 : can (w + n) = w + n := if_pos ⟨by omega, p5⟩
        have y2 : takeB (w + n) n = true := decide_eq_true (by rw [y4]; omega)
        have y3 : takeV (w + n) n = w := by unfold takeV; rw [if_pos (by rw [y4]; omega)]; omega
        clear y4
        rcases shift_cases w n with ⟨s1, s2⟩ | ⟨s1, s2, r1, r2, r3, r4, r5, r6⟩
        · skip
          go_enter Try.func4, Try.ntmps4
          go_wp2_with (first
    | (go_at_call 7; refine (fTake _ _ (by omega) (by omega) (by omega) (by omega) _).mono ?_; rintro e w' ⟨rfl, rfl⟩)
    | (go_at_call 9; refine (fGive _ _ (by omega) (by omega) (by omega) (by omega) _).mono ?_; rintro e w' ⟨rfl, rfl⟩)
    | (go_at_call 11; refine (fShift _ _ (by omega) (by omega) (by omega) (by omega) _).mono ?_; rintro e w' ⟨rfl, rfl⟩)
    | (go_at_call 15; refine (fCan _ (by omega) (by omega) _).mono ?_; rintro e w' ⟨rfl, rfl⟩)
    | (go_at_call 13; refine (fRight _ (by omega) (by omega) _).mono ?_; rintro e w' ⟨rfl, rfl⟩)
    | (go_at_call 8; refine (fTakeR _ _ (by omega) (by omega) (by omega) (by omega) _).mono ?_; rintro e w' ⟨rfl, rfl⟩)
    | (go_at_call 10; refine (fGiveR _ _ (by omega) (by omega) (by omega) (by omega) _).mono ?_; rintro e w' ⟨rfl, rfl⟩)
    | (go_at_call 12; refine (fShiftR _ _ (by omega) (by omega) (by omega) (by omega) _).mono ?_; rintro e w' ⟨rfl, rfl⟩)
    | (go_at_call 16; refine (fCanR _ (by omega) (by omega) _).mono ?_; rintro e w' ⟨rfl, rfl⟩)
    | (go_at_call 14; refine (fRightR _ (by omega) (by omega) _).mono ?_; rintro e w' ⟨rfl, rfl⟩)
    | (go_at_call 17; refine (fCut _ _ _ _ _ (by omega) (by omega) (by omega) (by omega) _).mono ?_; rintro e w' ⟨rfl, hb⟩; replace b0 := b0.trans (hb.mono b0.size))
    | (go_at_call 18; refine (fCutR _ _ _ _ _ (by omega) (by omega) (by omega) (by omega) _).mono ?_; rintro e w' ⟨rfl, rfl⟩)
    | (go_at_call 19; refine (fWakes _).mono ?_; rintro e w' ⟨rfl, hb⟩; replace b0 := b0.trans (hb.mono b0.size)))
          all_goals go_ret
          all_goals exact ⟨rfl, b0⟩
        · have z1 : shiftB (w + n) (-n) = true := decide_eq_true (by omega)
          have z2 : shiftV (w + n) (-n) = w := by unfold shiftV; rw [if_pos (by omega)]; omega
          have z3 := rgt_t (w := w + n) ⟨r5, r6⟩
          go_enter Try.func4, Try.ntmps4
          go_wp2_with (first
    | (go_at_call 7; refine (fTake _ _ (by omega) (by omega) (by omega) (by omega) _).mono ?_; rintro e w' ⟨rfl, rfl⟩)
    | (go_at_call 9; refine (fGive _ _ (by omega) (by omega) (by omega) (by omega) _).mono ?_; rintro e w' ⟨rfl, rfl⟩)
    | (go_at_call 11; refine (fShift _ _ (by omega) (by omega) (by omega) (by omega) _).mono ?_; rintro e w' ⟨rfl, rfl⟩)
    | (go_at_call 15; refine (fCan _ (by omega) (by omega) _).mono ?_; rintro e w' ⟨rfl, rfl⟩)
    | (go_at_call 13; refine (fRight _ (by omega) (by omega) _).mono ?_; rintro e w' ⟨rfl, rfl⟩)
    | (go_at_call 8; refine (fTakeR _ _ (by omega) (by omega) (by omega) (by omega) _).mono ?_; rintro e w' ⟨rfl, rfl⟩)
    | (go_at_call 10; refine (fGiveR _ _ (by omega) (by omega) (by omega) (by omega) _).mono ?_; rintro e w' ⟨rfl, rfl⟩)
    | (go_at_call 12; refine (fShiftR _ _ (by omega) (by omega) (by omega) (by omega) _).mono ?_; rintro e w' ⟨rfl, rfl⟩)
    | (go_at_call 16; refine (fCanR _ (by omega) (by omega) _).mono ?_; rintro e w' ⟨rfl, rfl⟩)
    | (go_at_call 14; refine (fRightR _ (by omega) (by omega) _).mono ?_; rintro e w' ⟨rfl, rfl⟩)
    | (go_at_call 17; refine (fCut _ _ _ _ _ (by omega) (by omega) (by omega) (by omega) _).mono ?_; rintro e w' ⟨rfl, hb⟩; replace b0 := b0.trans (hb.mono b0.size))
    | (go_at_call 18; refine (fCutR _ _ _ _ _ (by omega) (by omega) (by omega) (by omega) _).mono ?_; rintro e w' ⟨rfl, rfl⟩)
    | (go_at_call 19; refine (fWakes _).mono ?_; rintro e w' ⟨rfl, hb⟩; replace b0 := b0.trans (hb.mono b0.size)))
          all_goals go_ret
          all_goals exact ⟨rfl, b0⟩
      · have hw2 : w < 0 := by omega
        clear hw
        rcases shift_cases w n with ⟨s1, s2⟩ | ⟨s1, s2, r1, r2, r3, r4, r5, r6⟩
        · skip
          go_enter Try.func4, Try.ntmps4
          go_wp2_with (first
    | (go_at_call 7; refine (fTake _ _ (by omega) (by omega) (by omega) (by omega) _).mono ?_; rintro e w' ⟨rfl, rfl⟩)
    | (go_at_call 9; refine (fGive _ _ (by omega) (by omega) (by omega) (by omega) _).mono ?_; rintro e w' ⟨rfl, rfl⟩)
    | (go_at_call 11; refine (fShift _ _ (by omega) (by omega) (by omega) (by omega) _).mono ?_; rintro e w' ⟨rfl, rfl⟩)
    | (go_at_call 15; refine (fCan _ (by omega) (by omega) _).mono ?_; rintro e w' ⟨rfl, rfl⟩)
    | (go_at_call 13; refine (fRight _ (by omega) (by omega) _).mono ?_; rintro e w' ⟨rfl, rfl⟩)
    | (go_at_call 8; refine (fTakeR _ _ (by omega) (by omega) (by omega) (by omega) _).mono ?_; rintro e w' ⟨rfl, rfl⟩)
    | (go_at_call 10; refine (fGiveR _ _ (by omega) (by omega) (by omega) (by omega) _).mono ?_; rintro e w' ⟨rfl, rfl⟩)
    | (go_at_call 12; refine (fShiftR _ _ (by omega) (by omega) (by omega) (by omega) _).mono ?_; rintro e w' ⟨rfl, rfl⟩)
    | (go_at_call 16; refine (fCanR _ (by omega) (by omega) _).mono ?_; rintro e w' ⟨rfl, rfl⟩)
    | (go_at_call 14; refine (fRightR _ (by omega) (by omega) _).mono ?_; rintro e w' ⟨rfl, rfl⟩)
    | (go_at_call 17; refine (fCut _ _ _ _ _ (by omega) (by omega) (by omega) (by omega) _).mono ?_; rintro e w' ⟨rfl, hb⟩; replace b0 := b0.trans (hb.mono b0.size))
    | (go_at_call 18; refine (fCutR _ _ _ _ _ (by omega) (by omega) (by omega) (by omega) _).mono ?_; rintro e w' ⟨rfl, rfl⟩)
    | (go_at_call 19; refine (fWakes _).mono ?_; rintro e w' ⟨rfl, hb⟩; replace b0 := b0.trans (hb.mono b0.size)))
          all_goals go_ret
          all_goals exact ⟨rfl, b0⟩
        · have z1 : shiftB (w + n) (-n) = true := decide_eq_true (by omega)
          have z2 : shiftV (w + n) (-n) = w := by unfold shiftV; rw [if_pos (by omega)]; omega
          have z3 := rgt_t (w := w + n) ⟨r5, r6⟩
          go_enter Try.func4, Try.ntmps4
          go_wp2_with (first
    | (go_at_call 7; refine (fTake _ _ (by omega) (by omega) (by omega) (by omega) _).mono ?_; rintro e w' ⟨rfl, rfl⟩)
    | (go_at_call 9; refine (fGive _ _ (by omega) (by omega) (by omega) (by omega) _).mono ?_; rintro e w' ⟨rfl, rfl⟩)
    | (go_at_call 11; refine (fShift _ _ (by omega) (by omega) (by omega) (by omega) _).mono ?_; rintro e w' ⟨rfl, rfl⟩)
    | (go_at_call 15; refine (fCan _ (by omega) (by omega) _).mono ?_; rintro e w' ⟨rfl, rfl⟩)
    | (go_at_call 13; refine (fRight _ (by omega) (by omega) _).mono ?_; rintro e w' ⟨rfl, rfl⟩)
    | (go_at_call 8; refine (fTakeR _ _ (by omega) (by omega) (by omega) (by omega) _).mono ?_; rintro e w' ⟨rfl, rfl⟩)
    | (go_at_call 10; refine (fGiveR _ _ (by omega) (by omega) (by omega) (by omega) _).mono ?_; rintro e w' ⟨rfl, rfl⟩)
    | (go_at_call 12; refine (fShiftR _ _ (by omega) (by omega) (by omega) (by omega) _).mono ?_; rintro e w' ⟨rfl, rfl⟩)
    | (go_at_call 16; refine (fCanR _ (by omega) (by omega) _).mono ?_; rintro e w' ⟨rfl, rfl⟩)
    | (go_at_call 14; refine (fRightR _ (by omega) (by omega) _).mono ?_; rintro e w' ⟨rfl, rfl⟩)
    | (go_at_call 17; refine (fCut _ _ _ _ _ (by omega) (by omega) (by omega) (by omega) _).mono ?_; rintro e w' ⟨rfl, hb⟩; replace b0 := b0.trans (hb.mono b0.size))
    | (go_at_call 18; refine (fCutR _ _ _ _ _ (by omega) (by omega) (by omega) (by omega) _).mono ?_; rintro e w' ⟨rfl, rfl⟩)
    | (go_at_call 19; refine (fWakes _).mono ?_; rintro e w' ⟨rfl, hb⟩; replace b0 := b0.trans (hb.mono b0.size)))
          all_goals go_ret
          all_goals exact ⟨rfl, b0⟩
  · have x1 := rgt_t (w := w - n) (by by_cases hc : 1 ≤ can w; (have := can_of hc; omega); omega)
    by_cases hn : 0 < n
    · have hc : 1 ≤ can w := by omega
      have x2 : 0 ≤ w - n := by have := can_of hc; omega
      have x3 : giveB (w - n) n = true := decide_eq_true (by omega)
      have x4 : giveV (w - n) n = w := by unfold giveV; rw [if_pos (by omega)]; omega
      rcases give_cases w n with ⟨g1, g2⟩ | ⟨g1, g2, p1, p2, p3, p4, p5⟩
      · skip
        rcases shift_cases w n with ⟨s1, s2⟩ | ⟨s1, s2, r1, r2, r3, r4, r5, r6⟩
        · skip
          go_enter Try.func4, Try.ntmps4
          go_wp2_with (first
    | (go_at_call 7; refine (fTake _ _ (by omega) (by omega) (by omega) (by omega) _).mono ?_; rintro e w' ⟨rfl, rfl⟩)
    | (go_at_call 9; refine (fGive _ _ (by omega) (by omega) (by omega) (by omega) _).mono ?_; rintro e w' ⟨rfl, rfl⟩)
    | (go_at_call 11; refine (fShift _ _ (by omega) (by omega) (by omega) (by omega) _).mono ?_; rintro e w' ⟨rfl, rfl⟩)
    | (go_at_call 15; refine (fCan _ (by omega) (by omega) _).mono ?_; rintro e w' ⟨rfl, rfl⟩)
    | (go_at_call 13; refine (fRight _ (by omega) (by omega) _).mono ?_; rintro e w' ⟨rfl, rfl⟩)
    | (go_at_call 8; refine (fTakeR _ _ (by omega) (by omega) (by omega) (by omega) _).mono ?_; rintro e w' ⟨rfl, rfl⟩)
    | (go_at_call 10; refine (fGiveR _ _ (by omega) (by omega) (by omega) (by omega) _).mono ?_; rintro e w' ⟨rfl, rfl⟩)
    | (go_at_call 12; refine (fShiftR _ _ (by omega) (by omega) (by omega) (by omega) _).mono ?_; rintro e w' ⟨rfl, rfl⟩)
    | (go_at_call 16; refine (fCanR _ (by omega) (by omega) _).mono ?_; rintro e w' ⟨rfl, rfl⟩)
    | (go_at_call 14; refine (fRightR _ (by omega) (by omega) _).mono ?_; rintro e w' ⟨rfl, rfl⟩)
    | (go_at_call 17; refine (fCut _ _ _ _ _ (by omega) (by omega) (by omega) (by omega) _).mono ?_; rintro e w' ⟨rfl, hb⟩; replace b0 := b0.trans (hb.mono b0.size))
    | (go_at_call 18; refine (fCutR _ _ _ _ _ (by omega) (by omega) (by omega) (by omega) _).mono ?_; rintro e w' ⟨rfl, rfl⟩)
    | (go_at_call 19; refine (fWakes _).mono ?_; rintro e w' ⟨rfl, hb⟩; replace b0 := b0.trans (hb.mono b0.size)))
          all_goals go_ret
          all_goals exact ⟨rfl, b0⟩
        · have z1 : shiftB (w + n) (-n) = true := decide_eq_true (by omega)
          have z2 : shiftV (w + n) (-n) = w := by unfold shiftV; rw [if_pos (by omega)]; omega
          have z3 := rgt_t (w := w + n) ⟨r5, r6⟩
          go_enter Try.func4, Try.ntmps4
          go_wp2_with (first
    | (go_at_call 7; refine (fTake _ _ (by omega) (by omega) (by omega) (by omega) _).mono ?_; rintro e w' ⟨rfl, rfl⟩)
    | (go_at_call 9; refine (fGive _ _ (by omega) (by omega) (by omega) (by omega) _).mono ?_; rintro e w' ⟨rfl, rfl⟩)
    | (go_at_call 11; refine (fShift _ _ (by omega) (by omega) (by omega) (by omega) _).mono ?_; rintro e w' ⟨rfl, rfl⟩)
    | (go_at_call 15; refine (fCan _ (by omega) (by omega) _).mono ?_; rintro e w' ⟨rfl, rfl⟩)
    | (go_at_call 13; refine (fRight _ (by omega) (by omega) _).mono ?_; rintro e w' ⟨rfl, rfl⟩)
    | (go_at_call 8; refine (fTakeR _ _ (by omega) (by omega) (by omega) (by omega) _).mono ?_; rintro e w' ⟨rfl, rfl⟩)
    | (go_at_call 10; refine (fGiveR _ _ (by omega) (by omega) (by omega) (by omega) _).mono ?_; rintro e w' ⟨rfl, rfl⟩)
    | (go_at_call 12; refine (fShiftR _ _ (by omega) (by omega) (by omega) (by omega) _).mono ?_; rintro e w' ⟨rfl, rfl⟩)
    | (go_at_call 16; refine (fCanR _ (by omega) (by omega) _).mono ?_; rintro e w' ⟨rfl, rfl⟩)
    | (go_at_call 14; refine (fRightR _ (by omega) (by omega) _).mono ?_; rintro e w' ⟨rfl, rfl⟩)
    | (go_at_call 17; refine (fCut _ _ _ _ _ (by omega) (by omega) (by omega) (by omega) _).mono ?_; rintro e w' ⟨rfl, hb⟩; replace b0 := b0.trans (hb.mono b0.size))
    | (go_at_call 18; refine (fCutR _ _ _ _ _ (by omega) (by omega) (by omega) (by omega) _).mono ?_; rintro e w' ⟨rfl, rfl⟩)
    | (go_at_call 19; refine (fWakes _).mono ?_; rintro e w' ⟨rfl, hb⟩; replace b0 := b0.trans (hb.mono b0.size)))
          all_goals go_ret
          all_goals exact ⟨rfl, b0⟩
      · have y1 := rgt_t (w := w + n) ⟨by omega, p5⟩
        by_cases hw : 0 ≤ w
        · have y4 : can (w + n) = w + n := if_pos ⟨by omega, p5⟩
          have y2 : takeB (w + n) n = true := decide_eq_true (by rw [y4]; omega)
          have y3 : takeV (w + n) n = w := by unfold takeV; rw [if_pos (by rw [y4]; omega)]; omega
          clear y4
          rcases shift_cases w n with ⟨s1, s2⟩ | ⟨s1, s2, r1, r2, r3, r4, r5, r6⟩
          · skip
            go_enter Try.func4, Try.ntmps4
            go_wp2_with (first
    | (go_at_call 7; refine (fTake _ _ (by omega) (by omega) (by omega) (by omega) _).mono ?_; rintro e w' ⟨rfl, rfl⟩)
    | (go_at_call 9; refine (fGive _ _ (by omega) (by omega) (by omega) (by omega) _).mono ?_; rintro e w' ⟨rfl, rfl⟩)
    | (go_at_call 11; refine (fShift _ _ (by omega) (by omega) (by omega) (by omega) _).mono ?_; rintro e w' ⟨rfl, rfl⟩)
    | (go_at_call 15; refine (fCan _ (by omega) (by omega) _).mono ?_; rintro e w' ⟨rfl, rfl⟩)
    | (go_at_call 13; refine (fRight _ (by omega) (by omega) _).mono ?_; rintro e w' ⟨rfl, rfl⟩)
    | (go_at_call 8; refine (fTakeR _ _ (by omega) (by omega) (by omega) (by omega) _).mono ?_; rintro e w' ⟨rfl, rfl⟩)
    | (go_at_call 10; refine (fGiveR _ _ (by omega) (by omega) (by omega) (by omega) _).mono ?_; rintro e w' ⟨rfl, rfl⟩)
    | (go_at_call 12; refine (fShiftR _ _ (by omega) (by omega) (by omega) (by omega) _).mono ?_; rintro e w' ⟨rfl, rfl⟩)
    | (go_at_call 16; refine (fCanR _ (by omega) (by omega) _).mono ?_; rintro e w' ⟨rfl, rfl⟩)
    | (go_at_call 14; refine (fRightR _ (by omega) (by omega) _).mono ?_; rintro e w' ⟨rfl, rfl⟩)
    | (go_at_call 17; refine (fCut _ _ _ _ _ (by omega) (by omega) (by omega) (by omega) _).mono ?_; rintro e w' ⟨rfl, hb⟩; replace b0 := b0.trans (hb.mono b0.size))
    | (go_at_call 18; refine (fCutR _ _ _ _ _ (by omega) (by omega) (by omega) (by omega) _).mono ?_; rintro e w' ⟨rfl, rfl⟩)
    | (go_at_call 19; refine (fWakes _).mono ?_; rintro e w' ⟨rfl, hb⟩; replace b0 := b0.trans (hb.mono b0.size)))
            all_goals go_ret
            all_goals exact ⟨rfl, b0⟩
          · have z1 : shiftB (w + n) (-n) = true := decide_eq_true (by omega)
            have z2 : shiftV (w + n) (-n) = w := by unfold shiftV; rw [if_pos (by omega)]; omega
            have z3 := rgt_t (w := w + n) ⟨r5, r6⟩
            go_enter Try.func4, Try.ntmps4
            go_wp2_with (first
    | (go_at_call 7; refine (fTake _ _ (by omega) (by omega) (by omega) (by omega) _).mono ?_; rintro e w' ⟨rfl, rfl⟩)
    | (go_at_call 9; refine (fGive _ _ (by omega) (by omega) (by omega) (by omega) _).mono ?_; rintro e w' ⟨rfl, rfl⟩)
    | (go_at_call 11; refine (fShift _ _ (by omega) (by omega) (by omega) (by omega) _).mono ?_; rintro e w' ⟨rfl, rfl⟩)
    | (go_at_call 15; refine (fCan _ (by omega) (by omega) _).mono ?_; rintro e w' ⟨rfl, rfl⟩)
    | (go_at_call 13; refine (fRight _ (by omega) (by omega) _).mono ?_; rintro e w' ⟨rfl, rfl⟩)
    | (go_at_call 8; refine (fTakeR _ _ (by omega) (by omega) (by omega) (by omega) _).mono ?_; rintro e w' ⟨rfl, rfl⟩)
    | (go_at_call 10; refine (fGiveR _ _ (by omega) (by omega) (by omega) (by omega) _).mono ?_; rintro e w' ⟨rfl, rfl⟩)
    | (go_at_call 12; refine (fShiftR _ _ (by omega) (by omega) (by omega) (by omega) _).mono ?_; rintro e w' ⟨rfl, rfl⟩)
    | (go_at_call 16; refine (fCanR _ (by omega) (by omega) _).mono ?_; rintro e w' ⟨rfl, rfl⟩)
    | (go_at_call 14; refine (fRightR _ (by omega) (by omega) _).mono ?_; rintro e w' ⟨rfl, rfl⟩)
    | (go_at_call 17; refine (fCut _ _ _ _ _ (by omega) (by omega) (by omega) (by omega) _).mono ?_; rintro e w' ⟨rfl, hb⟩; replace b0 := b0.trans (hb.mono b0.size))
    | (go_at_call 18; refine (fCutR _ _ _ _ _ (by omega) (by omega) (by omega) (by omega) _).mono ?_; rintro e w' ⟨rfl, rfl⟩)
    | (go_at_call 19; refine (fWakes _).mono ?_; rintro e w' ⟨rfl, hb⟩; replace b0 := b0.trans (hb.mono b0.size)))
            all_goals go_ret
            all_goals exact ⟨rfl, b0⟩
        · have hw2 : w < 0 := by omega
          clear hw
          rcases shift_cases w n with ⟨s1, s2⟩ | ⟨s1, s2, r1, r2, r3, r4, r5, r6⟩
          · skip
            go_enter Try.func4, Try.ntmps4
            go_wp2_with (first
    | (go_at_call 7; refine (fTake _ _ (by omega) (by omega) (by omega) (by omega) _).mono ?_; rintro e w' ⟨rfl, rfl⟩)
    | (go_at_call 9; refine (fGive _ _ (by omega) (by omega) (by omega) (by omega) _).mono ?_; rintro e w' ⟨rfl, rfl⟩)
    | (go_at_call 11; refine (fShift _ _ (by omega) (by omega) (by omega) (by omega) _).mono ?_; rintro e w' ⟨rfl, rfl⟩)
    | (go_at_call 15; refine (fCan _ (by omega) (by omega) _).mono ?_; rintro e w' ⟨rfl, rfl⟩)
    | (go_at_call 13; refine (fRight _ (by omega) (by omega) _).mono ?_; rintro e w' ⟨rfl, rfl⟩)
    | (go_at_call 8; refine (fTakeR _ _ (by omega) (by omega) (by omega) (by omega) _).mono ?_; rintro e w' ⟨rfl, rfl⟩)
    | (go_at_call 10; refine (fGiveR _ _ (by omega) (by omega) (by omega) (by omega) _).mono ?_; rintro e w' ⟨rfl, rfl⟩)
    | (go_at_call 12; refine (fShiftR _ _ (by omega) (by omega) (by omega) (by omega) _).mono ?_; rintro e w' ⟨rfl, rfl⟩)
    | (go_at_call 16; refine (fCanR _ (by omega) (by omega) _).mono ?_; rintro e w' ⟨rfl, rfl⟩)
    | (go_at_call 14; refine (fRightR _ (by omega) (by omega) _).mono ?_; rintro e w' ⟨rfl, rfl⟩)
    | (go_at_call 17; refine (fCut _ _ _ _ _ (by omega) (by omega) (by omega) (by omega) _).mono ?_; rintro e w' ⟨rfl, hb⟩; replace b0 := b0.trans (hb.mono b0.size))
    | (go_at_call 18; refine (fCutR _ _ _ _ _ (by omega) (by omega) (by omega) (by omega) _).mono ?_; rintro e w' ⟨rfl, rfl⟩)
    | (go_at_call 19; refine (fWakes _).mono ?_; rintro e w' ⟨rfl, hb⟩; replace b0 := b0.trans (hb.mono b0.size)))
            all_goals go_ret
            all_goals exact ⟨rfl, b0⟩
          · have z1 : shiftB (w + n) (-n) = true := decide_eq_true (by omega)
            have z2 : shiftV (w + n) (-n) = w := by unfold shiftV; rw [if_pos (by omega)]; omega
            have z3 := rgt_t (w := w + n) ⟨r5, r6⟩
            go_enter Try.func4, Try.ntmps4
            go_wp2_with (first
    | (go_at_call 7; refine (fTake _ _ (by omega) (by omega) (by omega) (by omega) _).mono ?_; rintro e w' ⟨rfl, rfl⟩)
    | (go_at_call 9; refine (fGive _ _ (by omega) (by omega) (by omega) (by omega) _).mono ?_; rintro e w' ⟨rfl, rfl⟩)
    | (go_at_call 11; refine (fShift _ _ (by omega) (by omega) (by omega) (by omega) _).mono ?_; rintro e w' ⟨rfl, rfl⟩)
    | (go_at_call 15; refine (fCan _ (by omega) (by omega) _).mono ?_; rintro e w' ⟨rfl, rfl⟩)
    | (go_at_call 13; refine (fRight _ (by omega) (by omega) _).mono ?_; rintro e w' ⟨rfl, rfl⟩)
    | (go_at_call 8; refine (fTakeR _ _ (by omega) (by omega) (by omega) (by omega) _).mono ?_; rintro e w' ⟨rfl, rfl⟩)
    | (go_at_call 10; refine (fGiveR _ _ (by omega) (by omega) (by omega) (by omega) _).mono ?_; rintro e w' ⟨rfl, rfl⟩)
    | (go_at_call 12; refine (fShiftR _ _ (by omega) (by omega) (by omega) (by omega) _).mono ?_; rintro e w' ⟨rfl, rfl⟩)
    | (go_at_call 16; refine (fCanR _ (by omega) (by omega) _).mono ?_; rintro e w' ⟨rfl, rfl⟩)
    | (go_at_call 14; refine (fRightR _ (by omega) (by omega) _).mono ?_; rintro e w' ⟨rfl, rfl⟩)
    | (go_at_call 17; refine (fCut _ _ _ _ _ (by omega) (by omega) (by omega) (by omega) _).mono ?_; rintro e w' ⟨rfl, hb⟩; replace b0 := b0.trans (hb.mono b0.size))
    | (go_at_call 18; refine (fCutR _ _ _ _ _ (by omega) (by omega) (by omega) (by omega) _).mono ?_; rintro e w' ⟨rfl, rfl⟩)
    | (go_at_call 19; refine (fWakes _).mono ?_; rintro e w' ⟨rfl, hb⟩; replace b0 := b0.trans (hb.mono b0.size)))
            all_goals go_ret
            all_goals exact ⟨rfl, b0⟩
    · obtain rfl : n = 0 := by omega
      have x5 : takeV w 0 = w := by rw [t2]; omega
      have x6 : rgt w = true := rgt_t ⟨q1, q2⟩
      have g1 : giveB w 0 = false := decide_eq_false (by omega)
      have g2 : giveV w 0 = w := if_neg (by omega)
      have s1 : shiftB w 0 = true := decide_eq_true (by omega)
      have s2 : shiftV w 0 = w := by unfold shiftV; rw [if_pos (by omega)]; omega
      clear t2 x1
      go_enter Try.func4, Try.ntmps4
      go_wp2_with (first
    | (go_at_call 7; refine (fTake _ _ (by omega) (by omega) (by omega) (by omega) _).mono ?_; rintro e w' ⟨rfl, rfl⟩)
    | (go_at_call 9; refine (fGive _ _ (by omega) (by omega) (by omega) (by omega) _).mono ?_; rintro e w' ⟨rfl, rfl⟩)
    | (go_at_call 11; refine (fShift _ _ (by omega) (by omega) (by omega) (by omega) _).mono ?_; rintro e w' ⟨rfl, rfl⟩)
    | (go_at_call 15; refine (fCan _ (by omega) (by omega) _).mono ?_; rintro e w' ⟨rfl, rfl⟩)
    | (go_at_call 13; refine (fRight _ (by omega) (by omega) _).mono ?_; rintro e w' ⟨rfl, rfl⟩)
    | (go_at_call 8; refine (fTakeR _ _ (by omega) (by omega) (by omega) (by omega) _).mono ?_; rintro e w' ⟨rfl, rfl⟩)
    | (go_at_call 10; refine (fGiveR _ _ (by omega) (by omega) (by omega) (by omega) _).mono ?_; rintro e w' ⟨rfl, rfl⟩)
    | (go_at_call 12; refine (fShiftR _ _ (by omega) (by omega) (by omega) (by omega) _).mono ?_; rintro e w' ⟨rfl, rfl⟩)
    | (go_at_call 16; refine (fCanR _ (by omega) (by omega) _).mono ?_; rintro e w' ⟨rfl, rfl⟩)
    | (go_at_call 14; refine (fRightR _ (by omega) (by omega) _).mono ?_; rintro e w' ⟨rfl, rfl⟩)
    | (go_at_call 17; refine (fCut _ _ _ _ _ (by omega) (by omega) (by omega) (by omega) _).mono ?_; rintro e w' ⟨rfl, hb⟩; replace b0 := b0.trans (hb.mono b0.size))
    | (go_at_call 18; refine (fCutR _ _ _ _ _ (by omega) (by omega) (by omega) (by omega) _).mono ?_; rintro e w' ⟨rfl, rfl⟩)
    | (go_at_call 19; refine (fWakes _).mono ?_; rintro e w' ⟨rfl, hb⟩; replace b0 := b0.trans (hb.mono b0.size)))
      all_goals go_ret
      all_goals exact ⟨rfl, b0⟩
end Go.Proofs.Ytfifjeljbbanmaa
