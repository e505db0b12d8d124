/- The contracts of the putting of numbers into bytes. -/
import Derived.Test.YtlomaoabofpegaaOc
import Derived.Test.YtlomaoabofpegaaOpl
namespace Go.Proofs.Ytlomaoabofpegaa
open Go.RowKit Go.Shelf
set_option linter.unusedVariables false

set_option maxRecDepth 100000 in
set_option maxHeartbeats 4000000 in
theorem oputYes (n s : Nat) (w : World) (s1 : 1 ≤ s) (s4 : s ≤ 4) (hn : n < 256 ^ s) (hn2 : n ≤ 4294967295) :
    Calls Try.prog 26 #[.int .i64 n, .int .i64 s] w (fun e w' => (∃ A c, e = .returned (.tuple #[.slice A s c, .int .i64 0]) ∧ Mine w.heap.size w' A s c (bigE s n)) ∧ Below w.heap.size w w') := by
  have ok : okSize s = true := decide_eq_true (by omega)
  have hmk := make8 s (by omega)
  have g0 : ((n : Int) / 2 ^ (8 * s) != 0) = false := by
    rw [bne_eq_false_iff_eq]
    rw [pow256] at hn
    have : n / 2 ^ (8 * s) = 0 := Nat.div_eq_of_lt hn
    exact_mod_cast this
  go_enter Try.func26, Try.ntmps26
  go_wp2_with (go_at_call 33; refine (fSized _ _).mono ?_; rintro e w' ⟨rfl, rfl⟩)
  go_loopw [26] (fun v wr => ∃ j : Nat, j ≤ s ∧ v = .int .i64 j ∧ Mine w.heap.size wr (some ⟨w.heap.size, 0, none⟩) s s (bigF s n j) ∧ Below w.heap.size w wr) (fun v _ => s - (intOf v).toNat)
  case atStart => exact ⟨0, Nat.zero_le _, rfl, by rw [bigF_zero]; exact Mine.make w s (Nat.le_refl _) (by omega), (Below.refl _ _).alloc (Nat.le_refl _) _⟩
  case round =>
    obtain ⟨j, hj, rfl, hmn, hbel⟩ := hrel
    by_cases hlt : j < s
    · have hc1 := hmn.cellAt hlt
      have hf1 := hmn.frozenAt j
      have hst := hmn.stored j (y := ((n / 256 ^ (s - 1 - j) % 256 : Nat) : Int)) (by omega) (by omega)
      rw [bigF_set s n hlt] at hst
      rw [pow256, Int.natCast_emod, Int.natCast_ediv, Int.natCast_pow] at hst
      simp only [Int.cast_ofNat_Int] at hst
      generalize (bigF s n j)[j]?.getD 0 = y at *
      go_wp2
      exact ⟨⟨j + 1, by omega, by simp, hst, hbel.setCell (Nat.le_refl _) _⟩, by simp [intOf]; omega⟩
    · obtain rfl : j = s := by omega
      rw [bigF_all] at hmn
      go_wp2
      go_ret2
      exact ⟨⟨_, _, rfl, hmn⟩, hbel⟩

set_option maxRecDepth 100000 in
theorem oputNo (n s : Int) (w : World) (n1 : n ≤ 9223372036854775807) (no : okO n s = false) :
    Calls Try.prog 26 #[.int .i64 n, .int .i64 s] w (Ret (.tuple #[.slice none 0 0, .int .i64 2]) w) := by
  have no' := of_decide_eq_false no
  go_enter Try.func26, Try.ntmps26
  by_cases hs : 1 ≤ s ∧ s ≤ 4
  · have ok : okSize s = true := decide_eq_true (by omega)
    by_cases h0 : n < 0
    · go_wp2_with (go_at_call 33; refine (fSized _ _).mono ?_; rintro e w' ⟨rfl, rfl⟩)
      go_ret2
      exact ⟨rfl, rfl⟩
    · obtain ⟨s', rfl⟩ := toNat_lit (show 0 ≤ s by omega)
      obtain ⟨n', rfl⟩ := toNat_lit (show 0 ≤ n by omega)
      have hn : ¬ n' < 256 ^ s' := by
        intro h
        exact no' ⟨by omega, by omega, by omega, by simpa using (by exact_mod_cast h : ((n' : Nat) : Int) < ((256 ^ s' : Nat) : Int))⟩
      have h0' : decide ((n' : Int) < 0) = false := decide_eq_false h0
      have g0 : ((n' : Int) / 2 ^ (8 * s') != 0) = true := by
        rw [bne_iff_ne]
        rw [pow256] at hn
        intro h
        have h2 : n' / 2 ^ (8 * s') = 0 := by exact_mod_cast h
        rw [Nat.div_eq_zero_iff] at h2
        have := Nat.two_pow_pos (8 * s')
        omega
      have hs4 : s' ≤ 4 := by omega
      clear hn no no' h0
      go_wp2_with (go_at_call 33; refine (fSized _ _).mono ?_; rintro e w' ⟨rfl, rfl⟩)
      go_ret2
      exact ⟨rfl, rfl⟩
  · have ok : okSize s = false := decide_eq_false (by omega)
    go_wp2_with (go_at_call 33; refine (fSized _ _).mono ?_; rintro e w' ⟨rfl, rfl⟩)
    go_ret2
    exact ⟨rfl, rfl⟩

theorem fOPut (n s : Int) (w : World) (n1 : n ≤ 9223372036854775807) : Calls Try.prog 26 #[.int .i64 n, .int .i64 s] w (PutPost n s w) := by
  unfold PutPost putO putOe
  cases ok : okO n s
  · refine (oputNo n s w n1 ok).mono ?_
    rintro e w' ⟨rfl, rfl⟩
    exact ⟨⟨none, 0, 0, rfl, Mine.nil _ _⟩, Below.refl _ _⟩
  · have ok' := of_decide_eq_true ok
    obtain ⟨s', rfl⟩ := toNat_lit (show 0 ≤ s by omega)
    obtain ⟨n', rfl⟩ := toNat_lit (show 0 ≤ n by omega)
    simp only [Int.toNat_natCast] at ok'
    have h1 : n' < 256 ^ s' := by exact_mod_cast ok'.2.2.2
    have h2 : 256 ^ s' ≤ 256 ^ 4 := Nat.pow_le_pow_right (by decide) (by omega)
    refine (oputYes n' s' w (by omega) (by omega) h1 (by omega)).mono ?_
    rintro e w' ⟨⟨A, c, rfl, hm⟩, hb⟩
    exact ⟨⟨A, s', c, rfl, by simpa using hm⟩, hb⟩
end Go.Proofs.Ytlomaoabofpegaa
