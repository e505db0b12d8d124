/- A rank put: the contracts. -/
import Derived.Test.YtlomaoabofpegaaFb
import Derived.Test.YtlomaoabofpegaaOp
import Derived.Test.YtlomaoabofpegaaOq
namespace Go.Proofs.Ytlomaoabofpegaa
open Go.RowKit Go.Shelf
set_option linter.unusedVariables false

def rankB (dp : Int) : Bool := decide (0 ≤ dp ∧ dp < 2147483648)
def rankN (al : Bool) (dp : Int) : Nat := if al then dp.toNat + 2147483648 else dp.toNat
def rankL (al : Bool) (dp wt : Int) : List Int := if rankB dp then bigE 4 (rankN al dp) ++ [wt] else []
def rankE (dp : Int) : Int := if rankB dp then 0 else 2

theorem or_top (d : Nat) (h : d < 2147483648) : bits .or .u32 (d : Int) 2147483648 = (d : Int) + 2147483648 := by
  have h1 : bits .or .u32 (d : Int) 2147483648 = ((d ||| 2147483648 : Nat) : Int) := by
    rw [u32_or _ _ (by omega) (by omega) (by decide) (by decide)]
    rfl
  rw [h1]
  have h2 := Nat.two_pow_add_eq_or_of_lt (i := 31) (b := d) (by omega) 1
  have h3 : d ||| 2147483648 = 2147483648 + d := by
    rw [Nat.or_comm]
    simpa using h2.symm
  omega

set_option maxHeartbeats 800000 in
theorem fPutRankNo (al : Bool) (dp wt : Int) (w : World) (d0 : -9223372036854775808 ≤ dp) (d1 : dp ≤ 9223372036854775807) (no : ¬(0 ≤ dp ∧ dp < 2147483648)) :
    Calls Try.prog 13 #[.agg #[.bool al, .int .i64 dp, .int .u8 wt]] w (BytP [] 2 w) := by
  obtain ⟨R, hR, r0, r1, e1⟩ : ∃ R, bits .andNot .u32 (dp % 4294967296) 2147483648 = R ∧ 0 ≤ R ∧ R < 2147483648 ∧ (dp != R) = true := by
    refine ⟨_, rfl, ?_⟩
    rw [andNot_top _ (by omega) (by omega), bne_iff_ne]
    omega
  have b0 := (Bel.refl w).alloc (.cells #[.bool al, .int .i64 dp, .int .u8 wt] 24)
  clear no
  go_enter Try.func13, Try.ntmps13
  go_wp2
  go_ret2
  exact ⟨none, 0, 0, rfl, Mine.nil _ _, b0.out⟩

theorem putRankP (N : Nat) (hN : N < 4294967296) (NI : Int) (e : NI = N) (w : World) : Calls Try.prog 26 #[.int .i64 NI, .int .i64 4] w fun e W' => ∃ A c, e = .returned (.tuple #[.slice A 4 c, .int .i64 0]) ∧ Mine w.heap.size W' A 4 c (bigE 4 N) ∧ Below w.heap.size w W' := by
  subst e
  refine (oputYes N 4 w (by decide) (by decide) (by omega) (by omega)).mono ?_
  rintro e W' ⟨⟨A, c, rfl, hm⟩, hb⟩
  exact ⟨A, c, rfl, hm, hb⟩
theorem putRankR (N : Nat) (hN : N < 4294967296) (NI : Int) (e : NI = N) (w : World) : Calls Try.prog 27 #[.int .i64 NI, .int .i64 4] w fun e W' => ∃ A c, e = .returned (.tuple #[.slice A 4 c, .int .i64 0]) ∧ Mine w.heap.size W' A 4 c (bigE 4 N) ∧ Below w.heap.size w W' := by
  subst e
  refine (rputYes N 4 w (by decide) (by decide) (by omega) (by omega)).mono ?_
  rintro e W' ⟨⟨A, c, rfl, hm⟩, hb⟩
  exact ⟨A, c, rfl, hm, hb⟩

set_option maxHeartbeats 1600000 in
theorem fPutRankYes (al : Bool) (d : Nat) (wt : Int) (w : World) (d1 : d < 2147483648) (w0 : 0 ≤ wt) (w1 : wt ≤ 255) :
    Calls Try.prog 13 #[.agg #[.bool al, .int .i64 d, .int .u8 wt]] w (BytP (bigE 4 (rankN al d) ++ [wt]) 0 w) := by
  have e1 : bits .andNot .u32 (d : Int) 2147483648 = (d : Int) := by
    rw [andNot_top _ (by omega) (by omega)]
    omega
  have e2 := or_top d d1
  have k0 : (0 : Int) ≤ (d : Int) := by omega
  have k1 : (d : Int) < 2147483648 := by omega
  have q0 := Blk.new w 24 #[.bool al, .int .i64 d, .int .u8 wt]
  have b0 := (Bel.refl w).alloc (.cells #[.bool al, .int .i64 d, .int .u8 wt] 24)
  have z2 := q0.at 2 rfl
  cases al
  · have P := Lib.hid fun w => putRankP (rankN false d) (by unfold rankN; simp; omega) (d : Int) (by unfold rankN; simp) w
    go_enter Try.func13, Try.ntmps13
    go_wp2_with (first
      | (go_at_call 26; refine (P.out _).mono ?_; rintro e wa ⟨A1, c1, rfl, hm, hb⟩; replace q0 := q0.below hb; replace b0 := b0.below hb; have y2 := q0.at 2 rfl)
      | (with_reducible refine wpList_app1 _ rfl (.tmp 28) (.tmp 31) rfl _ A1 4 c1 _ rfl hm wt rfl rfl ⟨w0, w1⟩ (by omega) (Nat.le_trans (Nat.le_refl _) hb.size) ?_; intro A2 c2 wb hm2 hb2 _))
    go_ret2
    exact ⟨_, _, _, rfl, hm2.base_le (by simp), (b0.stepB hb2 (by simp)).out⟩
  · have P := Lib.hid fun w => putRankP (rankN true d) (by unfold rankN; simp; omega) ((d : Int) + 2147483648) (by unfold rankN; simp) w
    go_enter Try.func13, Try.ntmps13
    go_wp2_with (first
      | (go_at_call 26; refine (P.out _).mono ?_; rintro e wa ⟨A1, c1, rfl, hm, hb⟩; replace q0 := q0.below hb; replace b0 := b0.below hb; have y2 := q0.at 2 rfl)
      | (with_reducible refine wpList_app1 _ rfl (.tmp 28) (.tmp 31) rfl _ A1 4 c1 _ rfl hm wt rfl rfl ⟨w0, w1⟩ (by omega) (Nat.le_trans (Nat.le_refl _) hb.size) ?_; intro A2 c2 wb hm2 hb2 _))
    go_ret2
    exact ⟨_, _, _, rfl, hm2.base_le (by simp), (b0.stepB hb2 (by simp)).out⟩

set_option maxHeartbeats 800000 in
theorem rPutRankNo (al : Bool) (dp wt : Int) (w : World) (no : ¬(0 ≤ dp ∧ dp < 2147483648)) :
    Calls Try.prog 14 #[.agg #[.bool al, .int .i64 dp, .int .u8 wt]] w (BytP [] 2 w) := by
  have b0 := (Bel.refl w).alloc (.cells #[.bool al, .int .i64 dp, .int .u8 wt] 24)
  by_cases h0 : dp < 0
  · have e0 : decide (dp < 0) = true := decide_eq_true h0
    clear no h0
    go_enter Try.func14, Try.ntmps14
    go_wp2
    go_ret2
    exact ⟨none, 0, 0, rfl, Mine.nil _ _, b0.out⟩
  · have e0 : decide (dp < 0) = false := decide_eq_false h0
    have e1 : decide (2147483648 ≤ dp) = true := decide_eq_true (by omega)
    clear no h0
    go_enter Try.func14, Try.ntmps14
    go_wp2
    go_ret2
    exact ⟨none, 0, 0, rfl, Mine.nil _ _, b0.out⟩

set_option maxHeartbeats 1600000 in
theorem rPutRankYes (al : Bool) (d : Nat) (wt : Int) (w : World) (d1 : d < 2147483648) (w0 : 0 ≤ wt) (w1 : wt ≤ 255) :
    Calls Try.prog 14 #[.agg #[.bool al, .int .i64 d, .int .u8 wt]] w (BytP (bigE 4 (rankN al d) ++ [wt]) 0 w) := by
  have k0 : (0 : Int) ≤ (d : Int) := by omega
  have k1 : (d : Int) < 2147483648 := by omega
  have e0 : decide ((d : Int) < 0) = false := decide_eq_false (by omega)
  have e1 : decide (2147483648 ≤ (d : Int)) = false := decide_eq_false (by omega)
  have q0 := Blk.new w 24 #[.bool al, .int .i64 d, .int .u8 wt]
  have b0 := (Bel.refl w).alloc (.cells #[.bool al, .int .i64 d, .int .u8 wt] 24)
  have z2 := q0.at 2 rfl
  cases al
  · have P := Lib.hid fun w => putRankR (rankN false d) (by unfold rankN; simp; omega) (d : Int) (by unfold rankN; simp) w
    go_enter Try.func14, Try.ntmps14
    go_wp2_with (first
      | (go_at_call 27; refine (P.out _).mono ?_; rintro e wa ⟨A1, c1, rfl, hm, hb⟩; replace q0 := q0.below hb; replace b0 := b0.below hb; have y2 := q0.at 2 rfl)
      | (with_reducible refine wpList_app1 _ rfl (.tmp 26) (.tmp 29) rfl _ A1 4 c1 _ rfl hm wt rfl rfl ⟨w0, w1⟩ (by omega) (Nat.le_trans (Nat.le_refl _) hb.size) ?_; intro A2 c2 wb hm2 hb2 _))
    go_ret2
    exact ⟨_, _, _, rfl, hm2.base_le (by simp), (b0.stepB hb2 (by simp)).out⟩
  · have P := Lib.hid fun w => putRankR (rankN true d) (by unfold rankN; simp; omega) ((d : Int) + 2147483648) (by unfold rankN; simp) w
    go_enter Try.func14, Try.ntmps14
    go_wp2_with (first
      | (go_at_call 27; refine (P.out _).mono ?_; rintro e wa ⟨A1, c1, rfl, hm, hb⟩; replace q0 := q0.below hb; replace b0 := b0.below hb; have y2 := q0.at 2 rfl)
      | (with_reducible refine wpList_app1 _ rfl (.tmp 26) (.tmp 29) rfl _ A1 4 c1 _ rfl hm wt rfl rfl ⟨w0, w1⟩ (by omega) (Nat.le_trans (Nat.le_refl _) hb.size) ?_; intro A2 c2 wb hm2 hb2 _))
    go_ret2
    exact ⟨_, _, _, rfl, hm2.base_le (by simp), (b0.stepB hb2 (by simp)).out⟩

theorem fPutRank (al : Bool) (dp wt : Int) (w : World) (d0 : -9223372036854775808 ≤ dp) (d1 : dp ≤ 9223372036854775807) (w0 : 0 ≤ wt) (w1 : wt ≤ 255) :
    Calls Try.prog 13 #[.agg #[.bool al, .int .i64 dp, .int .u8 wt]] w (BytP (rankL al dp wt) (rankE dp) w) := by
  unfold rankL rankE rankB
  by_cases ok : 0 ≤ dp ∧ dp < 2147483648
  · rw [decide_eq_true ok]
    obtain ⟨d, rfl⟩ := toNat_lit ok.1
    exact fPutRankYes al d wt w (by omega) w0 w1
  · rw [decide_eq_false ok]
    exact fPutRankNo al dp wt w d0 d1 ok
theorem rPutRank (al : Bool) (dp wt : Int) (w : World) (w0 : 0 ≤ wt) (w1 : wt ≤ 255) :
    Calls Try.prog 14 #[.agg #[.bool al, .int .i64 dp, .int .u8 wt]] w (BytP (rankL al dp wt) (rankE dp) w) := by
  unfold rankL rankE rankB
  by_cases ok : 0 ≤ dp ∧ dp < 2147483648
  · rw [decide_eq_true ok]
    obtain ⟨d, rfl⟩ := toNat_lit ok.1
    exact rPutRankYes al d wt w (by omega) w0 w1
  · rw [decide_eq_false ok]
    exact rPutRankNo al dp wt w ok
end Go.Proofs.Ytlomaoabofpegaa
