/- The contract of the document's putting of numbers into bytes; and of its Same. -/
import Derived.Test.YthcnfalfhdeflaaOpl
import Derived.Test.YthcnfalfhdeflaaOr
namespace Go.Proofs.Ythcnfalfhdeflaa
open Go.RowKit Go.Shelf
set_option linter.unusedVariables false

/-- Noughts, behind them the last j. -/
def bigG (s n j : Nat) : List Int := List.replicate (s - j) 0 ++ (bigE s n).drop (s - j)
theorem bigG_zero (s n : Nat) : bigG s n 0 = List.replicate s 0 := by simp [bigG, List.drop_of_length_le (Nat.le_of_eq (bigE_len s n))]
theorem bigG_all (s n : Nat) : bigG s n s = bigE s n := by simp [bigG]
theorem bigG_set (s n : Nat) {j : Nat} (hj : j < s) : (bigG s n j).set (s - 1 - j) ((n / 256 ^ j % 256 : Nat) : Int) = bigG s n (j + 1) := by
  unfold bigG
  have e1 : s - j = (s - 1 - j) + 1 := by omega
  rw [List.set_append_left _ _ (by rw [List.length_replicate]; omega), e1, List.replicate_succ', List.set_append_right _ _ (by rw [List.length_replicate]; exact Nat.le_refl _), List.length_replicate, Nat.sub_self, List.set_cons_zero, List.append_assoc]
  have e2 : s - (j + 1) = s - 1 - j := by omega
  rw [e2]
  have h2 : s - 1 - j < (bigE s n).length := by rw [bigE_len]; omega
  rw [List.drop_eq_getElem_cons h2]
  congr 1
  have := bigE_get s n (k := s - 1 - j) (by omega)
  rw [List.getElem?_eq_getElem h2] at this
  simp only [Option.some.injEq] at this
  rw [this, show s - 1 - (s - 1 - j) = j by omega]
  rfl

set_option maxRecDepth 100000 in
set_option maxHeartbeats 4000000 in
theorem rputYes (n s : Nat) (w : World) (s1 : 1 ≤ s) (s4 : s ≤ 4) (hn : n < 256 ^ s) (hn2 : n ≤ 4294967295) :
    Calls Try.prog 25 #[.int .i64 n, .int .i64 s] w (fun e w' => (∃ A c, e = .returned (.tuple #[.slice A s c, .int .i64 0]) ∧ Mine w.heap.size w' A s c (bigE s n)) ∧ Below w.heap.size w w') := by
  have hmk := make8 s (by omega)
  have g1 : decide ((s : Int) < 1) = false := decide_eq_false (by omega)
  have g2 : decide (4 < (s : Int)) = false := decide_eq_false (by omega)
  have g3 : decide ((n : Int) < 0) = false := decide_eq_false (by omega)
  have g4 : decide (wrap64 (2 ^ (8 * s)) ≤ (n : Int)) = false := by
    obtain rfl | rfl | rfl | rfl : s = 1 ∨ s = 2 ∨ s = 3 ∨ s = 4 := by omega
    all_goals exact decide_eq_false (fun h => absurd hn (by have h' : _ ≤ (n : Int) := h; simp [wrap64] at h'; omega))
  go_enter Try.func25, Try.ntmps25
  go_wp2
  go_loopw [0, 7] (fun nv v wr => ∃ k : Nat, k ≤ s ∧ v = .int .i64 ((k : Int) - 1) ∧ nv = .int .i64 ((n / 256 ^ (s - k) : Nat) : Int) ∧ Mine w.heap.size wr (some ⟨w.heap.size, 0, none⟩) s s (bigG s n (s - k)) ∧ Below w.heap.size w wr) (fun _ v _ => (intOf v + 1).toNat)
  case atStart => exact ⟨s, Nat.le_refl _, rfl, by simp, by rw [Nat.sub_self, bigG_zero]; exact Mine.make w s (Nat.le_refl _) (by omega), (Below.refl _ _).alloc (Nat.le_refl _) _⟩
  case round =>
    obtain ⟨k, hk, rfl, rfl, hmn, hbel⟩ := hrel
    rcases k with _ | k
    · rw [Nat.sub_zero, bigG_all] at hmn
      go_wp2
      go_ret2
      exact ⟨⟨_, _, rfl, hmn⟩, hbel⟩
    · have hc1 := hmn.cellAt (show k < s by omega)
      have hf1 := hmn.frozenAt k
      have hst := hmn.stored k (y := ((n / 256 ^ (s - (k + 1)) % 256 : Nat) : Int)) (by omega) (by omega)
      have e := bigG_set s n (j := s - (k + 1)) (by omega)
      rw [show s - 1 - (s - (k + 1)) = k by omega] at e
      rw [e, show s - (k + 1) + 1 = s - k by omega, Int.natCast_emod] at hst
      have hnx : n / 256 ^ (s - (k + 1)) / 256 = n / 256 ^ (s - k) := by
        rw [Nat.div_div_eq_div_mul, ← Nat.pow_succ, show (s - (k + 1)).succ = s - k by omega]
      have HN := Lib.hid hnx
      have hlt : n / 256 ^ (s - (k + 1)) ≤ n := Nat.div_le_self _ _
      clear hnx e
      generalize (bigG s n (s - (k + 1)))[k]?.getD 0 = y at *
      generalize n / 256 ^ (s - (k + 1)) = N at *
      rw [show ((k + 1 : Nat) : Int) - 1 = (k : Int) by omega]
      go_wp2
      exact ⟨⟨k, by omega, by simp, by rw [← HN.out]; simp, hst, hbel.setCell (Nat.le_refl _) _⟩, by simp [intOf]⟩

theorem wrapP {s : Nat} (s1 : 1 ≤ s) (s4 : s ≤ 4) : wrap64 (2 ^ (8 * s)) = ((256 ^ s : Nat) : Int) := by
  rw [pow256]
  obtain rfl | rfl | rfl | rfl : s = 1 ∨ s = 2 ∨ s = 3 ∨ s = 4 := by omega
  all_goals simp [wrap64]

set_option maxRecDepth 100000 in
theorem rputNo (n s : Int) (w : World) (n1 : n ≤ 9223372036854775807) (no : okO n s = false) :
    Calls Try.prog 25 #[.int .i64 n, .int .i64 s] w (Ret (.tuple #[.slice none 0 0, .int .i64 2]) w) := by
  have no' := of_decide_eq_false no
  go_enter Try.func25, Try.ntmps25
  by_cases h1 : s < 1
  · go_wp2
    go_ret2
    exact ⟨rfl, rfl⟩
  · have g1 : decide (s < 1) = false := decide_eq_false h1
    by_cases h2 : 4 < s
    · go_wp2
      go_ret2
      exact ⟨rfl, rfl⟩
    · have g2 : decide (4 < s) = false := decide_eq_false h2
      by_cases h3 : n < 0
      · go_wp2
        go_ret2
        exact ⟨rfl, rfl⟩
      · have g3 : decide (n < 0) = false := decide_eq_false h3
        obtain ⟨s', rfl⟩ := toNat_lit (show 0 ≤ s by omega)
        obtain ⟨n', rfl⟩ := toNat_lit (show 0 ≤ n by omega)
        have g4 : wrap64 (2 ^ (8 * s')) ≤ (n' : Int) := by
          rw [wrapP (by omega) (by omega)]
          have : ¬ ((n' : Int) < ((256 ^ s' : Nat) : Int)) := fun h => no' ⟨by omega, by omega, by omega, by simpa using h⟩
          omega
        have h4 : s' ≤ 4 := by omega
        have h5 : 1 ≤ s' := by omega
        clear no no' h1 h2 h3
        go_wp2
        go_ret2
        exact ⟨rfl, rfl⟩

theorem rOPut (n s : Int) (w : World) (n1 : n ≤ 9223372036854775807) : Calls Try.prog 25 #[.int .i64 n, .int .i64 s] w (PutPost n s w) := by
  unfold PutPost putO putOe
  cases ok : okO n s
  · refine (rputNo n s w n1 ok).mono ?_
    rintro e w' ⟨rfl, rfl⟩
    exact ⟨⟨none, 0, 0, rfl, Mine.nil _ _⟩, Below.refl _ _⟩
  · have ok' := of_decide_eq_true ok
    obtain ⟨s', rfl⟩ := toNat_lit (show 0 ≤ s by omega)
    obtain ⟨n', rfl⟩ := toNat_lit (show 0 ≤ n by omega)
    simp only [Int.toNat_natCast] at ok'
    have h1 : n' < 256 ^ s' := by exact_mod_cast ok'.2.2.2
    have h2 : 256 ^ s' ≤ 256 ^ 4 := Nat.pow_le_pow_right (by decide) (by omega)
    refine (rputYes n' s' w (by omega) (by omega) h1 (by omega)).mono ?_
    rintro e w' ⟨⟨A, c, rfl, hm⟩, hb⟩
    exact ⟨⟨A, s', c, rfl, by simpa using hm⟩, hb⟩
end Go.Proofs.Ythcnfalfhdeflaa
