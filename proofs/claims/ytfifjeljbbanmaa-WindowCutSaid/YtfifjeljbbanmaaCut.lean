/- WindowCut: what is cut may be taken of both windows, is no more than each of the others, and no greater number would do: the walk. -/
import Derived.Test.YtfifjeljbbanmaaK
namespace Go.Proofs.Ytfifjeljbbanmaa
open Go.RowKit

/-- What is known of the number that is cut. -/
def CutF (s c f k p m : Int) : Prop :=
  0 ≤ m ∧ m ≤ can s ∧ m ≤ can c ∧ (m ≤ f ∨ m ≤ 0) ∧ (m ≤ k ∨ m ≤ 0) ∧ (m ≤ p ∨ m ≤ 0) ∧ (can s ≤ m ∨ can c ≤ m ∨ f ≤ m ∨ k ≤ m ∨ p ≤ m)
theorem cutF (s c f k p : Int) : CutF s c f k p (cutV s c f k p) := by
  have a := can_le s
  have b := can_le c
  unfold CutF cutV leastOf
  simp only [List.foldl]
  omega
theorem fCutF (s c f k p : Int) (s0 : -9223372036854775808 ≤ s) (s1 : s ≤ 9223372036854775807) (c0 : -9223372036854775808 ≤ c) (c1 : c ≤ 9223372036854775807) (w : World) :
    Calls Try.prog 17 #[.int .i64 s, .int .i64 c, .int .i64 f, .int .i64 k, .int .i64 p] w fun e W' => ∃ m, e = .returned (.int .i64 m) ∧ CutF s c f k p m ∧ Below w.heap.size w W' :=
  (fCut s c f k p s0 s1 c0 c1 w).mono fun _ _ ⟨he, hb⟩ => ⟨_, he, cutF s c f k p, hb⟩
theorem take_in {w n : Int} (h : -2147483647 ≤ w) (k : w ≤ 2147483647) (a : 0 ≤ n) (b : n ≤ can w) : takeB w n = true := decide_eq_true ⟨h, k, a, b⟩
theorem take_on {w n : Int} (h : -2147483647 ≤ w) (k : w ≤ 2147483647) (a : 0 ≤ n) : takeB w (n + 1) = decide (n + 1 ≤ can w) := by
  unfold takeB
  rw [Bool.eq_iff_iff]
  simp only [decide_eq_true_eq]
  omega

set_option maxHeartbeats 8000000 in
theorem walkCut (s : Int) (h0 : -9223372036854775808 ≤ s) (h1 : s ≤ 9223372036854775807) (c : Int) (n0 : -9223372036854775808 ≤ c) (n1 : c ≤ 9223372036854775807)
    (f : Int) (f0 : -9223372036854775808 ≤ f) (f1 : f ≤ 9223372036854775807) (k : Int) (k0 : -9223372036854775808 ≤ k) (k1 : k ≤ 9223372036854775807) (p : Int) (p0 : -9223372036854775808 ≤ p) (p1 : p ≤ 9223372036854775807) (W : World) :
    Calls Try.prog 6 #[.int .i64 s, .int .i64 c, .int .i64 f, .int .i64 k, .int .i64 p] W fun e w' => e = .returned (.bool true) ∧ Below W.heap.size W w' := by
  have b0 := Below.refl W.heap.size W
  have cs := can_le s
  have cc := can_le c
  by_cases hs : -2147483647 ≤ s ∧ s ≤ 2147483647
  · have r1 := rgt_t hs
    obtain ⟨hs1, hs2⟩ := hs
    by_cases hc : -2147483647 ≤ c ∧ c ≤ 2147483647
    · have r2 := rgt_t hc
      obtain ⟨hc1, hc2⟩ := hc
      go_enter Try.func6, Try.ntmps6
      go_wp2_with (first
    | (go_at_call 7; refine (fTake _ _ (by omega) (by omega) (by omega) (by omega) _).mono ?_; rintro e w' ⟨rfl, rfl⟩)
    | (go_at_call 9; refine (fGive _ _ (by omega) (by omega) (by omega) (by omega) _).mono ?_; rintro e w' ⟨rfl, rfl⟩)
    | (go_at_call 11; refine (fShift _ _ (by omega) (by omega) (by omega) (by omega) _).mono ?_; rintro e w' ⟨rfl, rfl⟩)
    | (go_at_call 15; refine (fCan _ (by omega) (by omega) _).mono ?_; rintro e w' ⟨rfl, rfl⟩)
    | (go_at_call 13; refine (fRight _ (by omega) (by omega) _).mono ?_; rintro e w' ⟨rfl, rfl⟩)
    | (go_at_call 8; refine (fTakeR _ _ (by omega) (by omega) (by omega) (by omega) _).mono ?_; rintro e w' ⟨rfl, rfl⟩)
    | (go_at_call 10; refine (fGiveR _ _ (by omega) (by omega) (by omega) (by omega) _).mono ?_; rintro e w' ⟨rfl, rfl⟩)
    | (go_at_call 12; refine (fShiftR _ _ (by omega) (by omega) (by omega) (by omega) _).mono ?_; rintro e w' ⟨rfl, rfl⟩)
    | (go_at_call 16; refine (fCanR _ (by omega) (by omega) _).mono ?_; rintro e w' ⟨rfl, rfl⟩)
    | (go_at_call 14; refine (fRightR _ (by omega) (by omega) _).mono ?_; rintro e w' ⟨rfl, rfl⟩)
    | (go_at_call 17; go_must (refine (fCutF _ _ _ _ _ (by omega) (by omega) (by omega) (by omega) _).mono ?_; rintro e w' ⟨m, rfl, ⟨m0, m1, m2, m3, m4, m5, m6⟩, hb⟩; replace b0 := b0.trans (hb.mono b0.size); have m7 : m ≤ 2147483647 := (by omega); have t1 := take_in hs1 hs2 m0 m1; have t2 := take_in hc1 hc2 m0 m2; have u1 := take_on hs1 hs2 m0; have u2 := take_on hc1 hc2 m0))
    | (go_at_call 18; refine (fCutR _ _ _ _ _ (by omega) (by omega) (by omega) (by omega) _).mono ?_; rintro e w' ⟨rfl, rfl⟩)
    | (go_at_call 19; refine (fWakes _).mono ?_; rintro e w' ⟨rfl, hb⟩; replace b0 := b0.trans (hb.mono b0.size)))
      all_goals go_ret
      all_goals refine ⟨ret_bool ?_, b0⟩
      all_goals first | rfl | (simp; omega)
    · have r2 := rgt_n hc
      go_enter Try.func6, Try.ntmps6
      go_wp2_with (first
    | (go_at_call 7; refine (fTake _ _ (by omega) (by omega) (by omega) (by omega) _).mono ?_; rintro e w' ⟨rfl, rfl⟩)
    | (go_at_call 9; refine (fGive _ _ (by omega) (by omega) (by omega) (by omega) _).mono ?_; rintro e w' ⟨rfl, rfl⟩)
    | (go_at_call 11; refine (fShift _ _ (by omega) (by omega) (by omega) (by omega) _).mono ?_; rintro e w' ⟨rfl, rfl⟩)
    | (go_at_call 15; refine (fCan _ (by omega) (by omega) _).mono ?_; rintro e w' ⟨rfl, rfl⟩)
    | (go_at_call 13; refine (fRight _ (by omega) (by omega) _).mono ?_; rintro e w' ⟨rfl, rfl⟩)
    | (go_at_call 8; refine (fTakeR _ _ (by omega) (by omega) (by omega) (by omega) _).mono ?_; rintro e w' ⟨rfl, rfl⟩)
    | (go_at_call 10; refine (fGiveR _ _ (by omega) (by omega) (by omega) (by omega) _).mono ?_; rintro e w' ⟨rfl, rfl⟩)
    | (go_at_call 12; refine (fShiftR _ _ (by omega) (by omega) (by omega) (by omega) _).mono ?_; rintro e w' ⟨rfl, rfl⟩)
    | (go_at_call 16; refine (fCanR _ (by omega) (by omega) _).mono ?_; rintro e w' ⟨rfl, rfl⟩)
    | (go_at_call 14; refine (fRightR _ (by omega) (by omega) _).mono ?_; rintro e w' ⟨rfl, rfl⟩)
    | (go_at_call 17; refine (fCut _ _ _ _ _ (by omega) (by omega) (by omega) (by omega) _).mono ?_; rintro e w' ⟨rfl, hb⟩; replace b0 := b0.trans (hb.mono b0.size))
    | (go_at_call 18; refine (fCutR _ _ _ _ _ (by omega) (by omega) (by omega) (by omega) _).mono ?_; rintro e w' ⟨rfl, rfl⟩)
    | (go_at_call 19; refine (fWakes _).mono ?_; rintro e w' ⟨rfl, hb⟩; replace b0 := b0.trans (hb.mono b0.size)))
      go_ret
      exact ⟨rfl, b0⟩
  · have r1 := rgt_n hs
    go_enter Try.func6, Try.ntmps6
    go_wp2_with (first
    | (go_at_call 7; refine (fTake _ _ (by omega) (by omega) (by omega) (by omega) _).mono ?_; rintro e w' ⟨rfl, rfl⟩)
    | (go_at_call 9; refine (fGive _ _ (by omega) (by omega) (by omega) (by omega) _).mono ?_; rintro e w' ⟨rfl, rfl⟩)
    | (go_at_call 11; refine (fShift _ _ (by omega) (by omega) (by omega) (by omega) _).mono ?_; rintro e w' ⟨rfl, rfl⟩)
    | (go_at_call 15; refine (fCan _ (by omega) (by omega) _).mono ?_; rintro e w' ⟨rfl, rfl⟩)
    | (go_at_call 13; refine (fRight _ (by omega) (by omega) _).mono ?_; rintro e w' ⟨rfl, rfl⟩)
    | (go_at_call 8; refine (fTakeR _ _ (by omega) (by omega) (by omega) (by omega) _).mono ?_; rintro e w' ⟨rfl, rfl⟩)
    | (go_at_call 10; refine (fGiveR _ _ (by omega) (by omega) (by omega) (by omega) _).mono ?_; rintro e w' ⟨rfl, rfl⟩)
    | (go_at_call 12; refine (fShiftR _ _ (by omega) (by omega) (by omega) (by omega) _).mono ?_; rintro e w' ⟨rfl, rfl⟩)
    | (go_at_call 16; refine (fCanR _ (by omega) (by omega) _).mono ?_; rintro e w' ⟨rfl, rfl⟩)
    | (go_at_call 14; refine (fRightR _ (by omega) (by omega) _).mono ?_; rintro e w' ⟨rfl, rfl⟩)
    | (go_at_call 17; refine (fCut _ _ _ _ _ (by omega) (by omega) (by omega) (by omega) _).mono ?_; rintro e w' ⟨rfl, hb⟩; replace b0 := b0.trans (hb.mono b0.size))
    | (go_at_call 18; refine (fCutR _ _ _ _ _ (by omega) (by omega) (by omega) (by omega) _).mono ?_; rintro e w' ⟨rfl, rfl⟩)
    | (go_at_call 19; refine (fWakes _).mono ?_; rintro e w' ⟨rfl, hb⟩; replace b0 := b0.trans (hb.mono b0.size)))
    go_ret
    exact ⟨rfl, b0⟩
end Go.Proofs.Ytfifjeljbbanmaa
