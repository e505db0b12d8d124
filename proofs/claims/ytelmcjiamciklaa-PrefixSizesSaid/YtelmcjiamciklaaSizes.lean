/- PrefixSizes: a number has as many bytes as it needs: the walk. -/
import Derived.Test.YtelmcjiamciklaaPw
import Derived.Test.YtelmcjiamciklaaPo
import Derived.Test.YtelmcjiamciklaaO
namespace Go.Proofs.Ytelmcjiamciklaa
open Go.RowKit Go.Shelf
set_option linter.unusedVariables false

/-- How many bytes a number has. -/
def szOf (n b : Int) : Int := ((putR n b 0).length : Int)
theorem fSz (n b : Int) (n0 : -9223372036854775808 ≤ n) (n1 : n ≤ 9223372036854775807) (w : World) :
    Calls Try.prog 15 #[.int .i64 n, .int .i64 b] w fun e W' => e = .returned (.int .i64 (szOf n b)) ∧ Below w.heap.size w W' := fSize n b n0 n1 w
/-- Of what is left: how many bytes stand behind the first. -/
def sl (t : Nat) : Int := ((septs t).length : Int)

/-- How often what is left is parted by 128 till nought is left. -/
def it (t : Nat) : Int := if t = 0 then 0 else sl t
theorem it_step {t : Nat} (h : 0 < t) : it t = 1 + it (t / 128) := by
  unfold it sl
  rw [if_neg (by omega)]
  by_cases ht : t < 128
  · rw [septs_lt ht, if_pos (by omega)]; rfl
  · rw [septs_ge ht, if_neg (by omega)]; simp; omega
theorem sl_it (t : Nat) : sl t = 1 + it (t / 128) := by
  by_cases h : 0 < t
  · rw [← it_step h]; unfold it; rw [if_neg (by omega)]
  · obtain rfl : t = 0 := by omega
    unfold sl it
    rw [septs_lt (by omega)]
    rfl

set_option maxRecDepth 100000 in
set_option maxHeartbeats 8000000 in
theorem sizesNo (n m b : Int) (n0 : -9223372036854775808 ≤ n) (n1 : n ≤ 9223372036854775807) (m0 : -9223372036854775808 ≤ m) (m1 : m ≤ 9223372036854775807) (W : World)
    (h : b < 1 ∨ 8 < b ∨ n < 0 ∨ m < n ∨ 2147483647 < m) :
    Calls Try.prog 6 #[.int .i64 n, .int .i64 m, .int .i64 b] W fun e w' => e = .returned (.bool true) ∧ Below W.heap.size W w' := by
  have b0 := Bel.refl W
  have hz : szOf n 0 = 0 := by
    unfold szOf putR
    rw [show okNum n 0 = false from decide_eq_false (by omega)]
    rfl
  by_cases h1 : b < 1
  · have f1 : decide (b < 1) = true := decide_eq_true h1
    clear h h1
    go_enter Try.func6, Try.ntmps6
    go_wp2_with (first
      | (go_at_call 15; refine (fSz _ _ (by omega) (by omega) _).mono ?_; rintro e w' ⟨rfl, hb⟩; replace b0 := Bel.step b0 hb; clear hb)
      | (go_at_call 7; refine (fWakes _).mono ?_; rintro e w' ⟨rfl, hb⟩; replace b0 := Bel.step b0 hb; clear hb))
    go_ret
    exact ⟨rfl, b0.out⟩
  · have f1 : decide (b < 1) = false := decide_eq_false h1
    by_cases h2 : 8 < b
    · have f2 : decide (8 < b) = true := decide_eq_true h2
      clear h h1 h2
      go_enter Try.func6, Try.ntmps6
      go_wp2_with (first
        | (go_at_call 15; refine (fSz _ _ (by omega) (by omega) _).mono ?_; rintro e w' ⟨rfl, hb⟩; replace b0 := Bel.step b0 hb; clear hb)
        | (go_at_call 7; refine (fWakes _).mono ?_; rintro e w' ⟨rfl, hb⟩; replace b0 := Bel.step b0 hb; clear hb))
      go_ret
      exact ⟨rfl, b0.out⟩
    · have f2 : decide (8 < b) = false := decide_eq_false h2
      by_cases h3 : n < 0
      · have f3 : decide (n < 0) = true := decide_eq_true h3
        clear h h1 h2
        go_enter Try.func6, Try.ntmps6
        go_wp2_with (first
          | (go_at_call 15; refine (fSz _ _ (by omega) (by omega) _).mono ?_; rintro e w' ⟨rfl, hb⟩; replace b0 := Bel.step b0 hb; clear hb)
          | (go_at_call 7; refine (fWakes _).mono ?_; rintro e w' ⟨rfl, hb⟩; replace b0 := Bel.step b0 hb; clear hb))
        go_ret
        exact ⟨rfl, b0.out⟩
      · have f3 : decide (n < 0) = false := decide_eq_false h3
        by_cases h4 : m < n
        · have f4 : decide (m < n) = true := decide_eq_true h4
          clear h h1 h2
          go_enter Try.func6, Try.ntmps6
          go_wp2_with (first
            | (go_at_call 15; refine (fSz _ _ (by omega) (by omega) _).mono ?_; rintro e w' ⟨rfl, hb⟩; replace b0 := Bel.step b0 hb; clear hb)
            | (go_at_call 7; refine (fWakes _).mono ?_; rintro e w' ⟨rfl, hb⟩; replace b0 := Bel.step b0 hb; clear hb))
          go_ret
          exact ⟨rfl, b0.out⟩
        · have f4 : decide (m < n) = false := decide_eq_false h4
          have f5 : decide (2147483647 < m) = true := decide_eq_true (by omega)
          clear h h1 h2
          go_enter Try.func6, Try.ntmps6
          go_wp2_with (first
            | (go_at_call 15; refine (fSz _ _ (by omega) (by omega) _).mono ?_; rintro e w' ⟨rfl, hb⟩; replace b0 := Bel.step b0 hb; clear hb)
            | (go_at_call 7; refine (fWakes _).mono ?_; rintro e w' ⟨rfl, hb⟩; replace b0 := Bel.step b0 hb; clear hb))
          go_ret
          exact ⟨rfl, b0.out⟩

set_option maxRecDepth 100000 in
set_option maxHeartbeats 8000000 in
theorem sizesYes (x y k : Nat) (M want : Int) (W : World) (hk1 : 1 ≤ k) (hk2 : k ≤ 8) (hxy : x ≤ y) (hy : y ≤ 2147483647) (M1 : 2 ≤ M) (M2 : M ≤ 256) (hsh : wrap64 (2 ^ k) = M)
    (hw : want = if (x : Int) < M - 1 then 1 else 1 + sl (x - (M.toNat - 1))) (z1 : szOf x k = want) (z2 : want ≤ szOf y k) (z3 : k = 8 ∨ szOf x ((k : Int) + 1) ≤ want) :
    Calls Try.prog 6 #[.int .i64 x, .int .i64 y, .int .i64 k] W fun e w' => e = .returned (.bool true) ∧ Below W.heap.size W w' := by
  have b0 := Bel.refl W
  have f1 : decide ((k : Int) < 1) = false := decide_eq_false (by omega)
  have f2 : decide (8 < (k : Int)) = false := decide_eq_false (by omega)
  have f3 : decide ((x : Int) < 0) = false := decide_eq_false (by omega)
  have f4 : decide ((y : Int) < (x : Int)) = false := decide_eq_false (by omega)
  have f4' : decide (y < x) = false := decide_eq_false (by omega)
  have f5 : decide (2147483647 < (y : Int)) = false := decide_eq_false (by omega)
  have HW := Lib.hid hw
  have Z1 := Lib.hid z1
  clear hw z1
  by_cases hlt : (x : Int) < M - 1
  · have hw1 : want = 1 := by rw [HW.out, if_pos hlt]
    subst hw1
    have Z1' := Z1.out
    by_cases h8 : k = 8
    · subst h8
      go_enter Try.func6, Try.ntmps6
      go_wp2_with (first
        | (go_at_call 15; refine (fSz _ _ (by omega) (by omega) _).mono ?_; rintro e w' ⟨rfl, hb⟩; replace b0 := Bel.step b0 hb; clear hb)
        | (go_at_call 7; refine (fWakes _).mono ?_; rintro e w' ⟨rfl, hb⟩; replace b0 := Bel.step b0 hb; clear hb))
      go_ret
      exact ⟨rfl, b0.out⟩
    · have h8' : ((k : Int) == 8) = false := by rw [beq_eq_false_iff_ne]; omega
      have z3' := z3.resolve_left h8
      clear z3 h8
      go_enter Try.func6, Try.ntmps6
      go_wp2_with (first
        | (go_at_call 15; refine (fSz _ _ (by omega) (by omega) _).mono ?_; rintro e w' ⟨rfl, hb⟩; replace b0 := Bel.step b0 hb; clear hb)
        | (go_at_call 7; refine (fWakes _).mono ?_; rintro e w' ⟨rfl, hb⟩; replace b0 := Bel.step b0 hb; clear hb))
      go_ret
      exact ⟨rfl, b0.out⟩
  · have hge : M - 1 ≤ (x : Int) := by omega
    obtain ⟨m, hm⟩ : ∃ m, m = x - (M.toNat - 1) := ⟨_, rfl⟩
    have hw1 : want = 1 + sl m := by rw [HW.out, if_neg hlt, ← hm]
    have hxm : (x : Int) - (M - 1) = (m : Int) := by omega
    have HW1 := Lib.hid hw1
    have Hm := Lib.hid hm
    clear hw1 hm hlt
    go_enter Try.func6, Try.ntmps6
    go_wp2_with (first
      | (go_at_call 15; refine (fSz _ _ (by omega) (by omega) _).mono ?_; rintro e w' ⟨rfl, hb⟩; replace b0 := Bel.step b0 hb; clear hb)
      | (go_at_call 7; refine (fWakes _).mono ?_; rintro e w' ⟨rfl, hb⟩; replace b0 := Bel.step b0 hb; clear hb))
    go_loop [8, 9] (fun v lv => ∃ (q : Int) (t : Nat), v = .int .i64 q ∧ lv = .int .i64 t ∧ q + it t = want ∧ 0 ≤ q ∧ q + t ≤ 2147483647)
      (fun _ lv => (intOf lv).toNat)
    case atStart => exact ⟨2, m / 128, rfl, by simp, by rw [HW1.out, sl_it]; omega, by omega, by omega⟩
    case round =>
      obtain ⟨q, t, rfl, rfl, hq, hq0, hqt⟩ := hrel
      have Hq := Lib.hid hq
      clear hq
      by_cases ht : 0 < t
      · have hti : (0 : Int) < (t : Int) := by omega
        go_wp2
        exact ⟨⟨q + 1, t / 128, rfl, by simp, by rw [← Hq.out, it_step ht]; omega, by omega, by omega⟩, by simp [intOf]; omega⟩
      · obtain rfl : t = 0 := by omega
        have hq1 : q = want := by have := Hq.out; unfold it at this; simp at this; omega
        subst hq1
        have Z1' := Z1.out
        by_cases h8 : k = 8
        · subst h8
          go_wp2_with (first
            | (go_at_call 15; refine (fSz _ _ (by omega) (by omega) _).mono ?_; rintro e w' ⟨rfl, hb⟩; replace b0 := Bel.step b0 hb; clear hb)
            | (go_at_call 7; refine (fWakes _).mono ?_; rintro e w' ⟨rfl, hb⟩; replace b0 := Bel.step b0 hb; clear hb))
          go_ret
          exact ⟨rfl, b0.out⟩
        · have h8' : ((k : Int) == 8) = false := by rw [beq_eq_false_iff_ne]; omega
          have z3' := z3.resolve_left h8
          clear z3 h8
          go_wp2_with (first
            | (go_at_call 15; refine (fSz _ _ (by omega) (by omega) _).mono ?_; rintro e w' ⟨rfl, hb⟩; replace b0 := Bel.step b0 hb; clear hb)
            | (go_at_call 7; refine (fWakes _).mono ?_; rintro e w' ⟨rfl, hb⟩; replace b0 := Bel.step b0 hb; clear hb))
          go_ret
          exact ⟨rfl, b0.out⟩

theorem szOf_eq (x k : Nat) (hk1 : 1 ≤ k) (hk2 : k ≤ 8) (hx : x ≤ 2147483647) : szOf x k = if x < 2 ^ k - 1 then 1 else 1 + sl (x - (2 ^ k - 1)) := by
  have ok : okNum x k = true := decide_eq_true (by omega)
  unfold szOf putR
  rw [if_pos ok]
  simp only [Int.toNat_natCast]
  unfold putL
  split
  · rfl
  · simp [sl]; omega
theorem sl_pos (t : Nat) : 1 ≤ sl t := by have := septs_pos t; unfold sl; omega
theorem sl_mono {s t : Nat} (h : s ≤ t) : sl s ≤ sl t := by have := septs_mono t s h; unfold sl; omega

theorem wSizes (n : Int) (n0 : -9223372036854775808 ≤ n) (n1 : n ≤ 9223372036854775807) (m : Int) (m0 : -9223372036854775808 ≤ m) (m1 : m ≤ 9223372036854775807) (b : Int) (_ : -9223372036854775808 ≤ b) (_ : b ≤ 9223372036854775807) (W : World) :
    Calls Try.prog 6 #[.int .i64 n, .int .i64 m, .int .i64 b] W fun e w' => e = .returned (.bool true) ∧ Below W.heap.size W w' := by
  by_cases h : b < 1 ∨ 8 < b ∨ n < 0 ∨ m < n ∨ 2147483647 < m
  · exact sizesNo n m b n0 n1 m0 m1 W h
  · obtain ⟨k, rfl⟩ := toNat_lit (show 0 ≤ b by omega)
    obtain ⟨x, rfl⟩ := toNat_lit (show 0 ≤ n by omega)
    obtain ⟨y, rfl⟩ := toNat_lit (show 0 ≤ m by omega)
    have hp1 := pow_ge (k := k) (by omega)
    have hp2 : 2 ^ k ≤ 2 ^ 8 := Nat.pow_le_pow_right (by decide) (by omega)
    have ex := szOf_eq x k (by omega) (by omega) (by omega)
    have ey := szOf_eq y k (by omega) (by omega) (by omega)
    refine sizesYes x y k ((2 ^ k : Nat) : Int) _ W (by omega) (by omega) (by omega) (by omega) (by omega) (by omega) (wrap_pow (by omega)) rfl ?_ ?_ ?_
    · rw [ex, Int.toNat_natCast]
      by_cases hl : x < 2 ^ k - 1
      · rw [if_pos hl, if_pos (by omega)]
      · rw [if_neg hl, if_neg (by omega)]
    · rw [ey, Int.toNat_natCast]
      have h1 := sl_pos (y - (2 ^ k - 1))
      have h2 := sl_mono (s := x - (2 ^ k - 1)) (t := y - (2 ^ k - 1)) (by omega)
      split <;> split <;> omega
    · by_cases h8 : k = 8
      · exact .inl h8
      · right
        have ez := szOf_eq x (k + 1) (by omega) (by omega) (by omega)
        have hpk : 2 ^ (k + 1) = 2 ^ k * 2 := Nat.pow_succ 2 k
        rw [show ((k : Int) + 1) = ((k + 1 : Nat) : Int) by simp, ez, Int.toNat_natCast]
        have h1 := sl_pos (x - (2 ^ k - 1))
        have h2 := sl_mono (s := x - (2 ^ (k + 1) - 1)) (t := x - (2 ^ k - 1)) (by omega)
        split <;> split <;> omega
end Go.Proofs.Ytelmcjiamciklaa
