/- The windows' contracts that streams want. -/
import Derived.Test.YtaaeflomjcpfpaaSd
namespace Go.Proofs.Ytaaeflomjcpfpaa
open Go.RowKit
set_option linter.unusedVariables false

def rgt (w : Int) : Bool := decide (-2147483647 ≤ w ∧ w ≤ 2147483647)
def giveB (w n : Int) : Bool := decide (-2147483647 ≤ w ∧ w ≤ 2147483647 ∧ 1 ≤ n ∧ n ≤ 2147483647 ∧ w + n ≤ 2147483647)
def giveV (w n : Int) : Int := if -2147483647 ≤ w ∧ w ≤ 2147483647 ∧ 1 ≤ n ∧ n ≤ 2147483647 ∧ w + n ≤ 2147483647 then w + n else w
def shiftB (w n : Int) : Bool := decide (-2147483647 ≤ w ∧ w ≤ 2147483647 ∧ -2147483647 ≤ n ∧ n ≤ 2147483647 ∧ -2147483647 ≤ w + n ∧ w + n ≤ 2147483647)
def shiftV (w n : Int) : Int := if -2147483647 ≤ w ∧ w ≤ 2147483647 ∧ -2147483647 ≤ n ∧ n ≤ 2147483647 ∧ -2147483647 ≤ w + n ∧ w + n ≤ 2147483647 then w + n else w
def movB (w by' : Int) (so : Bool) : Bool := so && rgt w && rgt (w + by')
def movV (w by' : Int) (so : Bool) : Int := if movB w by' so then w + by' else w
theorem rgt_eq {w : Int} {b : Bool} (h : b = true ↔ (-2147483647 ≤ w ∧ w ≤ 2147483647)) : b = rgt w := by
  cases b <;> simp_all [rgt]
theorem rgt_t {w : Int} (h : -2147483647 ≤ w ∧ w ≤ 2147483647) : rgt w = true := (rgt_eq (b := true) (by simpa using h)).symm
theorem rgt_n {w : Int} (h : ¬(-2147483647 ≤ w ∧ w ≤ 2147483647)) : rgt w = false := (rgt_eq (b := false) (by simpa using h)).symm
theorem wnRight (w : Int) (h0 : -9223372036854775808 ≤ w) (h1 : w ≤ 9223372036854775807) (W : World) :
    Calls Try.prog 49 #[.int .i64 w] W (Ret (.bool (rgt w)) W) := by
  go_enter Try.func49, Try.ntmps49
  go_wp2
  all_goals go_ret
  all_goals refine ⟨ret_bool (rgt_eq ?_), rfl⟩
  all_goals simp [wrap64] at *
  all_goals omega
theorem wnRightR (w : Int) (h0 : -9223372036854775808 ≤ w) (h1 : w ≤ 9223372036854775807) (W : World) :
    Calls Try.prog 50 #[.int .i64 w] W (Ret (.bool (rgt w)) W) := by
  go_enter Try.func50, Try.ntmps50
  go_wp2
  all_goals go_ret
  all_goals refine ⟨ret_bool (rgt_eq ?_), rfl⟩
  all_goals simp at *
  all_goals omega
theorem wnMoved_no (w y : Int) (W : World) :
    Calls Try.prog 57 #[.int .i64 w, .int .i64 y, .bool false] W (Ret (.tuple #[.int .i64 w, .bool false]) W) := by
  go_enter Try.func57, Try.ntmps57
  go_wp2_with fail
  refine wp_scope_hop 1 ?_
  go_wp2_with (first | (refine wp_goto_then rfl ?_) | (refine wp_label ?_) | (refine hop_ret ?_))
  go_ret2
  exact ⟨rfl, rfl⟩
theorem wnMoved (w y : Int) (h0 : -9223372036854775808 ≤ w) (h1 : w ≤ 9223372036854775807) (y0 : -2147483648 ≤ y) (y1 : y ≤ 2147483648) (W : World) :
    Calls Try.prog 57 #[.int .i64 w, .int .i64 y, .bool true] W (Ret (.tuple #[.int .i64 (movV w y true), .bool (movB w y true)]) W) := by
  by_cases hr : -2147483647 ≤ w ∧ w ≤ 2147483647
  · have hb := rgt_t hr
    obtain ⟨r1, r2⟩ := hr
    by_cases hs : -2147483647 ≤ w + y ∧ w + y ≤ 2147483647
    · have hc := rgt_t hs
      have e1 : movV w y true = w + y := by simp [movV, movB, hb, hc]
      have e2 : movB w y true = true := by simp [movB, hb, hc]
      rw [e1, e2]
      clear e1 e2
      obtain ⟨s1, s2⟩ := hs
      go_enter Try.func57, Try.ntmps57
      go_wp2_with fail
      refine wp_scope_hop 1 ?_
      go_wp2_with (first | (go_at_call 49; refine (wnRight _ (by omega) (by omega) _).mono ?_; rintro e w' ⟨rfl, rfl⟩) | (refine wp_goto_then rfl ?_) | (refine wp_label ?_) | (refine hop_ret ?_))
      go_ret2
      exact ⟨rfl, rfl⟩
    · have hc := rgt_n hs
      have e1 : movV w y true = w := by simp [movV, movB, hb, hc]
      have e2 : movB w y true = false := by simp [movB, hb, hc]
      rw [e1, e2]
      clear e1 e2
      go_enter Try.func57, Try.ntmps57
      go_wp2_with fail
      refine wp_scope_hop 1 ?_
      go_wp2_with (first | (go_at_call 49; refine (wnRight _ (by omega) (by omega) _).mono ?_; rintro e w' ⟨rfl, rfl⟩) | (refine wp_goto_then rfl ?_) | (refine wp_label ?_) | (refine hop_ret ?_))
      go_ret2
      exact ⟨rfl, rfl⟩
  · have hb := rgt_n hr
    have e1 : movV w y true = w := by simp [movV, movB, hb]
    have e2 : movB w y true = false := by simp [movB, hb]
    rw [e1, e2]
    clear e1 e2
    go_enter Try.func57, Try.ntmps57
    go_wp2_with fail
    refine wp_scope_hop 1 ?_
    go_wp2_with (first | (go_at_call 49; refine (wnRight _ (by omega) (by omega) _).mono ?_; rintro e w' ⟨rfl, rfl⟩) | (refine wp_goto_then rfl ?_) | (refine wp_label ?_) | (refine hop_ret ?_))
    go_ret2
    exact ⟨rfl, rfl⟩
theorem movGive {w n : Int} (a : 1 ≤ n) (b : n ≤ 2147483647) : movV w n true = giveV w n ∧ movB w n true = giveB w n := by
  have hb : movB w n true = giveB w n := by
    rw [Bool.eq_iff_iff]; simp only [movB, giveB, rgt, Bool.true_and, Bool.and_eq_true, decide_eq_true_eq]; omega
  refine ⟨?_, hb⟩
  unfold movV
  rw [hb]
  simp only [giveB, giveV, decide_eq_true_eq]
theorem noGive {w n : Int} (h : ¬(1 ≤ n ∧ n ≤ 2147483647)) : giveV w n = w ∧ giveB w n = false := by
  simp only [giveV, giveB, decide_eq_false_iff_not]
  exact ⟨if_neg (fun k => h ⟨k.2.2.1, k.2.2.2.1⟩), fun k => h ⟨k.2.2.1, k.2.2.2.1⟩⟩
theorem movShift {w n : Int} (a : -2147483647 ≤ n ∧ n ≤ 2147483647) : movV w n true = shiftV w n ∧ movB w n true = shiftB w n := by
  have hb : movB w n true = shiftB w n := by
    rw [Bool.eq_iff_iff]; simp only [movB, shiftB, rgt, Bool.true_and, Bool.and_eq_true, decide_eq_true_eq]; omega
  refine ⟨?_, hb⟩
  unfold movV
  rw [hb]
  simp only [shiftB, shiftV, decide_eq_true_eq]
theorem noShift {w n : Int} (h : ¬(-2147483647 ≤ n ∧ n ≤ 2147483647)) : shiftV w n = w ∧ shiftB w n = false := by
  simp only [shiftV, shiftB, decide_eq_false_iff_not]
  exact ⟨if_neg (fun k => h ⟨k.2.2.1, k.2.2.2.1⟩), fun k => h ⟨k.2.2.1, k.2.2.2.1⟩⟩
theorem wnGive (w n : Int) (h0 : -9223372036854775808 ≤ w) (h1 : w ≤ 9223372036854775807) (n0 : -9223372036854775808 ≤ n) (n1 : n ≤ 9223372036854775807) (W : World) :
    Calls Try.prog 45 #[.int .i64 w, .int .i64 n] W (Ret (.tuple #[.int .i64 (giveV w n), .bool (giveB w n)]) W) := by
  by_cases hs : 1 ≤ n ∧ n ≤ 2147483647
  · rw [← (movGive hs.1 hs.2).1, ← (movGive hs.1 hs.2).2]
    obtain ⟨s1, s2⟩ := hs
    go_enter Try.func45, Try.ntmps45
    go_wp2_with (first | (go_at_call 57; refine (wnMoved _ _ (by omega) (by omega) (by omega) (by omega) _).mono ?_; rintro e w' ⟨rfl, rfl⟩))
    go_ret2
    exact ⟨rfl, rfl⟩
  · rw [(noGive hs).1, (noGive hs).2]
    by_cases hn : 1 ≤ n
    · have hc : decide (n ≤ 2147483647) = false := decide_eq_false (by omega)
      clear hs
      go_enter Try.func45, Try.ntmps45
      go_wp2_with (first | (go_at_call 57; refine (wnMoved_no _ _ _).mono ?_; rintro e w' ⟨rfl, rfl⟩))
      go_ret2
      exact ⟨rfl, rfl⟩
    · have hc : n < 1 := by omega
      clear hs hn
      go_enter Try.func45, Try.ntmps45
      go_wp2_with (first | (go_at_call 57; refine (wnMoved_no _ _ _).mono ?_; rintro e w' ⟨rfl, rfl⟩))
      go_ret2
      exact ⟨rfl, rfl⟩
theorem wnShift (w n : Int) (h0 : -9223372036854775808 ≤ w) (h1 : w ≤ 9223372036854775807) (n0 : -9223372036854775808 ≤ n) (n1 : n ≤ 9223372036854775807) (W : World) :
    Calls Try.prog 47 #[.int .i64 w, .int .i64 n] W (Ret (.tuple #[.int .i64 (shiftV w n), .bool (shiftB w n)]) W) := by
  by_cases hs : -2147483647 ≤ n ∧ n ≤ 2147483647
  · rw [← (movShift hs).1, ← (movShift hs).2]
    have hb := rgt_t hs
    obtain ⟨s1, s2⟩ := hs
    go_enter Try.func47, Try.ntmps47
    go_wp2_with (first | (go_at_call 49; refine (wnRight _ (by omega) (by omega) _).mono ?_; rintro e w' ⟨rfl, rfl⟩) | (go_at_call 57; refine (wnMoved _ _ (by omega) (by omega) (by omega) (by omega) _).mono ?_; rintro e w' ⟨rfl, rfl⟩))
    go_ret2
    exact ⟨rfl, rfl⟩
  · rw [(noShift hs).1, (noShift hs).2]
    have hb := rgt_n hs
    go_enter Try.func47, Try.ntmps47
    go_wp2_with (first | (go_at_call 49; refine (wnRight _ (by omega) (by omega) _).mono ?_; rintro e w' ⟨rfl, rfl⟩) | (go_at_call 57; refine (wnMoved_no _ _ _).mono ?_; rintro e w' ⟨rfl, rfl⟩))
    go_ret2
    exact ⟨rfl, rfl⟩
theorem wnGiveR (w n : Int) (h0 : -9223372036854775808 ≤ w) (h1 : w ≤ 9223372036854775807) (n0 : -9223372036854775808 ≤ n) (n1 : n ≤ 9223372036854775807) (W : World) :
    Calls Try.prog 46 #[.int .i64 w, .int .i64 n] W (Ret (.tuple #[.int .i64 (giveV w n), .bool (giveB w n)]) W) := by
  by_cases hr : -2147483647 ≤ w ∧ w ≤ 2147483647
  · have hb := rgt_t hr
    by_cases hs : 1 ≤ n ∧ n ≤ 2147483647
    · by_cases ht : w + n ≤ 2147483647
      · have e1 : giveV w n = w + n := if_pos ⟨hr.1, hr.2, hs.1, hs.2, ht⟩
        have e2 : giveB w n = true := decide_eq_true ⟨hr.1, hr.2, hs.1, hs.2, ht⟩
        rw [e1, e2]
        clear e1 e2
        obtain ⟨r1, r2⟩ := hr
        obtain ⟨s1, s2⟩ := hs
        go_enter Try.func46, Try.ntmps46
        go_wp2_with (first | (go_at_call 50; refine (wnRightR _ (by omega) (by omega) _).mono ?_; rintro e w' ⟨rfl, rfl⟩))
        go_ret2
        exact ⟨rfl, rfl⟩
      · have e1 : giveV w n = w := if_neg (fun k => ht k.2.2.2.2)
        have e2 : giveB w n = false := decide_eq_false (fun k => ht k.2.2.2.2)
        rw [e1, e2]
        clear e1 e2
        obtain ⟨r1, r2⟩ := hr
        obtain ⟨s1, s2⟩ := hs
        go_enter Try.func46, Try.ntmps46
        go_wp2_with (first | (go_at_call 50; refine (wnRightR _ (by omega) (by omega) _).mono ?_; rintro e w' ⟨rfl, rfl⟩))
        go_ret2
        exact ⟨rfl, rfl⟩
    · rw [(noGive hs).1, (noGive hs).2]
      by_cases hn : 1 ≤ n
      · have hc : 2147483647 < n := by omega
        clear hs
        go_enter Try.func46, Try.ntmps46
        go_wp2_with (first | (go_at_call 50; refine (wnRightR _ (by omega) (by omega) _).mono ?_; rintro e w' ⟨rfl, rfl⟩))
        go_ret2
        exact ⟨rfl, rfl⟩
      · have hc : n < 1 := by omega
        clear hs hn
        go_enter Try.func46, Try.ntmps46
        go_wp2_with (first | (go_at_call 50; refine (wnRightR _ (by omega) (by omega) _).mono ?_; rintro e w' ⟨rfl, rfl⟩))
        go_ret2
        exact ⟨rfl, rfl⟩
  · have hb := rgt_n hr
    have e1 : giveV w n = w := if_neg (fun k => hr ⟨k.1, k.2.1⟩)
    have e2 : giveB w n = false := decide_eq_false (fun k => hr ⟨k.1, k.2.1⟩)
    rw [e1, e2]
    clear e1 e2
    go_enter Try.func46, Try.ntmps46
    go_wp2_with (first | (go_at_call 50; refine (wnRightR _ (by omega) (by omega) _).mono ?_; rintro e w' ⟨rfl, rfl⟩))
    go_ret2
    exact ⟨rfl, rfl⟩
theorem wnShiftR (w n : Int) (h0 : -9223372036854775808 ≤ w) (h1 : w ≤ 9223372036854775807) (n0 : -9223372036854775808 ≤ n) (n1 : n ≤ 9223372036854775807) (W : World) :
    Calls Try.prog 48 #[.int .i64 w, .int .i64 n] W (Ret (.tuple #[.int .i64 (shiftV w n), .bool (shiftB w n)]) W) := by
  by_cases hr : -2147483647 ≤ w ∧ w ≤ 2147483647
  · have hb := rgt_t hr
    by_cases hs : -2147483647 ≤ n ∧ n ≤ 2147483647
    · have hc := rgt_t hs
      by_cases ht : -2147483647 ≤ w + n ∧ w + n ≤ 2147483647
      · have hd := rgt_t ht
        have e1 : shiftV w n = w + n := if_pos ⟨hr.1, hr.2, hs.1, hs.2, ht.1, ht.2⟩
        have e2 : shiftB w n = true := decide_eq_true ⟨hr.1, hr.2, hs.1, hs.2, ht.1, ht.2⟩
        rw [e1, e2]
        clear e1 e2
        obtain ⟨r1, r2⟩ := hr
        obtain ⟨s1, s2⟩ := hs
        go_enter Try.func48, Try.ntmps48
        go_wp2_with (first | (go_at_call 50; refine (wnRightR _ (by omega) (by omega) _).mono ?_; rintro e w' ⟨rfl, rfl⟩))
        go_ret2
        exact ⟨rfl, rfl⟩
      · have hd := rgt_n ht
        have e1 : shiftV w n = w := if_neg (fun k => ht k.2.2.2.2)
        have e2 : shiftB w n = false := decide_eq_false (fun k => ht k.2.2.2.2)
        rw [e1, e2]
        clear e1 e2
        obtain ⟨r1, r2⟩ := hr
        obtain ⟨s1, s2⟩ := hs
        go_enter Try.func48, Try.ntmps48
        go_wp2_with (first | (go_at_call 50; refine (wnRightR _ (by omega) (by omega) _).mono ?_; rintro e w' ⟨rfl, rfl⟩))
        go_ret2
        exact ⟨rfl, rfl⟩
    · have hc := rgt_n hs
      rw [(noShift hs).1, (noShift hs).2]
      go_enter Try.func48, Try.ntmps48
      go_wp2_with (first | (go_at_call 50; refine (wnRightR _ (by omega) (by omega) _).mono ?_; rintro e w' ⟨rfl, rfl⟩))
      go_ret2
      exact ⟨rfl, rfl⟩
  · have hb := rgt_n hr
    have e1 : shiftV w n = w := if_neg (fun k => hr ⟨k.1, k.2.1⟩)
    have e2 : shiftB w n = false := decide_eq_false (fun k => hr ⟨k.1, k.2.1⟩)
    rw [e1, e2]
    clear e1 e2
    go_enter Try.func48, Try.ntmps48
    go_wp2_with (first | (go_at_call 50; refine (wnRightR _ (by omega) (by omega) _).mono ?_; rintro e w' ⟨rfl, rfl⟩))
    go_ret2
    exact ⟨rfl, rfl⟩
end Go.Proofs.Ytaaeflomjcpfpaa
