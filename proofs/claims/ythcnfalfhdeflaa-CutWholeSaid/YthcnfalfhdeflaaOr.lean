/- The contracts of the document's taking of numbers out of bytes, and of its Put. -/
import Derived.Test.YthcnfalfhdeflaaOc
namespace Go.Proofs.Ythcnfalfhdeflaa
open Go.RowKit Go.Shelf
set_option linter.unusedVariables false

set_option maxRecDepth 100000 in
set_option maxHeartbeats 4000000 in
theorem roctYes (b o n c : Nat) (l : List Int) (a s : Nat) (w : World) (h : Byt w (some ⟨b, o, none⟩) n c l) (s1 : 1 ≤ s) (s4 : s ≤ 4) (hn : a + s ≤ n) (hn2 : n ≤ 9223372036854775807) :
    Calls Try.prog 26 #[.slice (some ⟨b, o, none⟩) n c, .int .i64 a, .int .i64 s] w (Ret (.tuple #[.int .i64 (num ((l.drop a).take s)), .int .i64 0]) w) := by
  have hl := h.len
  obtain ⟨b', o', e', hb', hc0⟩ := h.cell (by omega)
  obtain ⟨rfl, rfl⟩ : b = b' ∧ o = o' := by simpa using e'
  have Hc := Lib.hid hc0
  have H := Lib.hid h
  have Hl := Lib.hid hl
  have g1 : decide ((n : Int) < (a : Int)) = false := decide_eq_false (by omega)
  have g1' : decide (n < a) = false := decide_eq_false (by omega)
  have g2 : decide ((n : Int) - (a : Int) < (s : Int)) = false := decide_eq_false (by omega)
  have g3 : decide ((s : Int) < 1) = false := decide_eq_false (by omega)
  have g4 : decide (4 < (s : Int)) = false := decide_eq_false (by omega)
  clear hc0 h hl e'
  have hseg : ((l.drop a).take s).length = s := by simp; have := Hl.out; omega
  have Hseg := Lib.hid hseg
  clear hseg
  have Hbs : Bs ((l.drop a).take s) := (H.out.bs.drop _).take _
  go_enter Try.func26, Try.ntmps26
  go_wp2
  go_loop [8, 9] (fun v i => ∃ j : Nat, j ≤ s ∧ v = .int .i64 (num (((l.drop a).take s).take j)) ∧ i = .int .i64 j) (fun _ i => s - (intOf i).toNat)
  case atStart => exact ⟨0, Nat.zero_le _, rfl, rfl⟩
  case round =>
    obtain ⟨j, hj, rfl, rfl⟩ := hrel
    by_cases hlt : j < s
    · have hc1 := Hc.out (a + j) (by omega)
      have hy := H.out.bs.get (a + j)
      have hnx : num (((l.drop a).take s).take (j + 1)) = num (((l.drop a).take s).take j) * 256 + l[a + j]?.getD 0 := by
        have hj2 : j < ((l.drop a).take s).length := by rw [Hseg.out]; exact hlt
        rw [List.take_succ_eq_append_getElem hj2, num_snoc]
        congr 1
        have : a + j < l.length := by have := Hl.out; omega
        simp [this]
      have hV := num_bd (Hbs.take j)
      have hV2 := num_le (Hbs.take j) (by rw [List.length_take]; omega)
      have HN := Lib.hid hnx
      clear hnx
      generalize l[a + j]?.getD 0 = y at *
      generalize num (((l.drop a).take s).take j) = V at *
      have hV3 := hV.1
      clear hV
      have hy0 := hy.1
      have hy1 := hy.2
      go_wp2
      exact ⟨⟨j + 1, by omega, by rw [HN.out], by simp⟩, by simp [intOf]; omega⟩
    · obtain rfl : j = s := by omega
      have e1 : ((l.drop a).take j).take j = (l.drop a).take j := List.take_of_length_le (by rw [Hseg.out]; exact Nat.le_refl _)
      rw [e1]
      generalize num ((l.drop a).take j) = V at *
      go_wp2
      go_ret2
      exact ⟨rfl, rfl⟩

set_option maxRecDepth 100000 in
theorem roctNo (A : Option Addr) (n c : Nat) (a s : Int) (w : World) (ho : ¬(1 ≤ s ∧ s ≤ 4 ∧ 0 ≤ a)) :
    Calls Try.prog 26 #[.slice A n c, .int .i64 a, .int .i64 s] w (Ret (.tuple #[.int .i64 0, .int .i64 2]) w) := by
  go_enter Try.func26, Try.ntmps26
  by_cases h1 : s < 1
  · go_wp2
    go_ret2
    exact ⟨rfl, rfl⟩
  · have g1 : decide (s < 1) = false := decide_eq_false h1
    by_cases h2 : 4 < s
    · go_wp2
      go_ret2
      exact ⟨rfl, rfl⟩
    · have g2 : decide (4 < s) = false := decide_eq_false h2
      have g3 : a < 0 := by omega
      go_wp2
      go_ret2
      exact ⟨rfl, rfl⟩

set_option maxRecDepth 100000 in
theorem roctShort (A : Option Addr) (n c : Nat) (a s : Int) (w : World) (s1 : 1 ≤ s) (s4 : s ≤ 4) (a0 : 0 ≤ a) (a1 : a ≤ 9223372036854775807) (hn2 : n ≤ 9223372036854775807) (hs : (n : Int) < a + s) :
    Calls Try.prog 26 #[.slice A n c, .int .i64 a, .int .i64 s] w (Ret (.tuple #[.int .i64 0, .int .i64 10]) w) := by
  have g0 : decide (a < 0) = false := decide_eq_false (by omega)
  have g3 : decide (s < 1) = false := decide_eq_false (by omega)
  have g4 : decide (4 < s) = false := decide_eq_false (by omega)
  go_enter Try.func26, Try.ntmps26
  by_cases ha : (n : Int) < a
  · go_wp2
    go_ret2
    exact ⟨rfl, rfl⟩
  · have g1 : decide ((n : Int) < a) = false := decide_eq_false ha
    have g2 : (n : Int) - a < s := by omega
    have ha2 : a ≤ n := by omega
    clear ha
    go_wp2
    go_ret2
    exact ⟨rfl, rfl⟩

theorem rOTake (A : Option Addr) (n c : Nat) (l : List Int) (a s : Int) (w : World) (a1 : a ≤ 9223372036854775807) (h : Byt w A n c l) :
    Calls Try.prog 26 #[.slice A n c, .int .i64 a, .int .i64 s] w (Ret (.tuple #[.int .i64 (takeO l a s).1, .int .i64 (takeO l a s).2]) w) := by
  have hl := h.len
  have hc := h.cap
  have hm := h.mx
  unfold takeO
  by_cases ho : 1 ≤ s ∧ s ≤ 4 ∧ 0 ≤ a
  · rw [if_pos ho]
    by_cases hs : a + s ≤ (l.length : Int)
    · rw [if_pos hs]
      obtain ⟨a', rfl⟩ := toNat_lit ho.2.2
      obtain ⟨s', rfl⟩ := toNat_lit (show 0 ≤ s by omega)
      obtain ⟨b, o, rfl, _, _⟩ := h.cell (by omega)
      exact roctYes b o n c l a' s' w h (by omega) (by omega) (by omega) (by omega)
    · rw [if_neg hs]
      exact roctShort A n c a s w ho.1 ho.2.1 ho.2.2 a1 (by omega) (by omega)
  · rw [if_neg ho]
    exact roctNo A n c a s w ho
end Go.Proofs.Ythcnfalfhdeflaa
