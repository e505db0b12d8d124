/- The contracts of the document's Bit, Bits, Same. -/
import Derived.Test.YtejogehkehjelaaOg
namespace Go.Proofs.Ytejogehkehjelaa
open Go.RowKit Go.Shelf
set_option linter.unusedVariables false

theorem code_one (l : List Int) (a : Nat) (h : a < 8 * l.length) : code l a 1 = bitAt l a := by
  unfold code
  rw [bitsFrom_cons l a h]
  simp [bnum]
theorem valB_one (l : List Int) (a : Nat) (h : a < 8 * l.length) : valB l a 1 = bitAt l a := by
  unfold valB
  have : okB l a 1 = true := decide_eq_true (by omega)
  rw [this, if_pos rfl]
  exact code_one l a h
theorem code_succ (l : List Int) (a j : Nat) (h : a + j < 8 * l.length) : code l a (j + 1) = code l a j * 2 + bitAt l (a + j) := by
  unfold code
  have h1 : j < (bitsFrom l a).length := by rw [bitsFrom_len]; omega
  rw [List.take_succ_eq_append_getElem h1, bnum_snoc]
  congr 1
  simp [bitsFrom]
theorem code_bd (l : List Int) (a j : Nat) : 0 ≤ code l a j ∧ code l a j < ((2 ^ j : Nat) : Int) := by
  have hb : ∀ x ∈ (bitsFrom l a).take j, 0 ≤ x ∧ x ≤ 1 := fun x hx => by
    have := List.mem_of_mem_take hx
    simp only [bitsFrom, List.mem_map] at this
    obtain ⟨k, _, rfl⟩ := this
    exact bitAt_bd l _
  have := bnum_bd hb
  have h2 : 2 ^ ((bitsFrom l a).take j).length ≤ 2 ^ j := Nat.pow_le_pow_right (by decide) (by rw [List.length_take]; omega)
  unfold code
  omega

set_option maxRecDepth 100000 in
set_option maxHeartbeats 4000000 in
theorem rbitYes (A : Option Addr) (m c : Nat) (l : List Int) (a : Nat) (w : World) (h : Byt w A m c l) (hm : m ≤ 100000000) (ha : a < 8 * m) :
    Calls Try.prog 17 #[.slice A m c, .int .i64 a] w (Ret (.tuple #[.int .i64 (bitAt l a), .bool true]) w) := by
  have hl := h.len
  obtain ⟨b, o, rfl, hb, hcell⟩ := h.cell (by omega)
  have hc1 := hcell (a / 8) (by omega)
  have hy := h.bs.get (a / 8)
  have hba : l[a / 8]?.getD 0 / 2 ^ (7 - a % 8) % 2 = bitAt l a := rfl
  have Hba := Lib.hid hba
  clear hba h hcell
  have g1 : decide ((a : Int) < 0) = false := decide_eq_false (by omega)
  have g2 : decide ((m : Int) ≤ (a : Int) / 8) = false := decide_eq_false (by omega)
  generalize l[a / 8]?.getD 0 = y at *
  go_enter Try.func17, Try.ntmps17
  go_wp2
  go_loop [6, 7] (fun v i => ∃ j : Nat, j ≤ 7 - a % 8 ∧ v = .int .i64 (y / 2 ^ j) ∧ i = .int .i64 j) (fun _ i => 8 - (intOf i).toNat)
  case atStart => exact ⟨0, Nat.zero_le _, by simp, rfl⟩
  case round =>
    obtain ⟨j, hj, rfl, rfl⟩ := hrel
    have e1 : y / 2 ^ j ≤ y := Int.ediv_le_self _ hy.1
    have e0 : 0 ≤ y / 2 ^ j := Int.ediv_nonneg hy.1 (by have := Nat.two_pow_pos j; exact_mod_cast Nat.zero_le _)
    have e2 : y / 2 ^ j / 2 = y / 2 ^ (j + 1) := by rw [Int.pow_succ, Int.ediv_ediv_of_nonneg (by have := Nat.two_pow_pos j; exact_mod_cast Nat.zero_le _)]
    by_cases hlt : j < 7 - a % 8
    · have g3 : (j : Int) < 7 - (a : Int) % 8 := by omega
      have E2 := Lib.hid e2
      clear e2
      generalize y / 2 ^ j = V at *
      go_wp2
      exact ⟨⟨j + 1, by omega, by rw [E2.out], by simp⟩, by simp [intOf]; omega⟩
    · obtain rfl : j = 7 - a % 8 := by omega
      have g3 : decide (((7 - a % 8 : Nat) : Int) < 7 - (a : Int) % 8) = false := decide_eq_false (by omega)
      clear e2
      have hfin : y / 2 ^ (7 - a % 8) % 2 = bitAt l a := Hba.out
      generalize y / 2 ^ (7 - a % 8) = V at *
      generalize ((7 - a % 8 : Nat) : Int) = k at *
      go_wp2
      go_ret2
      exact ⟨by rw [← hfin]; rfl, rfl⟩

theorem rbitNo (A : Option Addr) (m c : Nat) (a : Int) (w : World) (hm : m ≤ 100000000) (ha1 : a ≤ 9223372036854775807) (ha : ¬(0 ≤ a ∧ a < 8 * m)) :
    Calls Try.prog 17 #[.slice A m c, .int .i64 a] w (Ret (.tuple #[.int .i64 0, .bool false]) w) := by
  by_cases h0 : a < 0
  · clear ha
    go_enter Try.func17, Try.ntmps17
    go_wp2
    go_ret2
    exact ⟨rfl, rfl⟩
  · have g1 : decide (a < 0) = false := decide_eq_false h0
    have g2 : (m : Int) ≤ a / 8 := by omega
    clear ha
    go_enter Try.func17, Try.ntmps17
    go_wp2
    go_ret2
    exact ⟨rfl, rfl⟩

theorem rOBit (A : Option Addr) (m c : Nat) (l : List Int) (a : Int) (w : World) (h : Byt w A m c l) (hm : m ≤ 100000000) (ha : a ≤ 9223372036854775807) :
    Calls Try.prog 17 #[.slice A m c, .int .i64 a] w (Ret (.tuple #[.int .i64 (valB l a 1), .bool (okB l a 1)]) w) := by
  have hl := h.len
  by_cases ok : 0 ≤ a ∧ a < 8 * m
  · obtain ⟨a', rfl⟩ := toNat_lit ok.1
    have e1 : okB l a' 1 = true := decide_eq_true (by omega)
    rw [e1, valB_one l a' (by omega)]
    exact rbitYes A m c l a' w h hm (by omega)
  · have e1 : okB l a 1 = false := decide_eq_false (by omega)
    have e2 : valB l a 1 = 0 := by simp [valB, e1]
    rw [e1, e2]
    exact rbitNo A m c a w hm ha ok

set_option maxRecDepth 100000 in
set_option maxHeartbeats 4000000 in
theorem rbitsYes (A : Option Addr) (m c : Nat) (l : List Int) (a s : Nat) (w : World) (h : Byt w A m c l) (hm : m ≤ 100000000) (hs : s ≤ 30) (ha : a + s ≤ 8 * m) :
    Calls Try.prog 19 #[.slice A m c, .int .i64 a, .int .i64 s] w (Ret (.tuple #[.int .i64 (code l a s), .bool true]) w) := by
  have hl := h.len
  have g1 : decide ((s : Int) < 0) = false := decide_eq_false (by omega)
  have g2 : decide (30 < (s : Int)) = false := decide_eq_false (by omega)
  have g3 : decide ((a : Int) < 0) = false := decide_eq_false (by omega)
  have g4 : decide (8 * (m : Int) < (a : Int)) = false := decide_eq_false (by omega)
  have g5 : decide (8 * (m : Int) - (a : Int) < (s : Int)) = false := decide_eq_false (by omega)
  have hbit := fun k (hk : k < 8 * m) => rbitYes A m c l k w h hm hk
  have HB := Lib.hid hbit
  clear hbit h
  go_enter Try.func19, Try.ntmps19
  go_wp2
  go_loop [8, 9] (fun v i => ∃ j : Nat, j ≤ s ∧ v = .int .i64 (code l a j) ∧ i = .int .i64 j) (fun _ i => s - (intOf i).toNat)
  case atStart => exact ⟨0, Nat.zero_le _, by simp [code, bnum], rfl⟩
  case round =>
    obtain ⟨j, hj, rfl, rfl⟩ := hrel
    by_cases hlt : j < s
    · have hb1 := HB.out (a + j) (by omega)
      have hcs := code_succ l a j (by omega)
      have hbd := code_bd l a j
      have hbb := bitAt_bd l (a + j)
      have hp : 2 ^ j ≤ 2 ^ 30 := Nat.pow_le_pow_right (by decide) (by omega)
      have hV1 : code l a j < 1073741824 := by omega
      have hV0 := hbd.1
      have hx0 := hbb.1
      have hx1 := hbb.2
      have HC := Lib.hid hcs
      have H1 := Lib.hid hb1
      clear hcs hbd hbb hp hb1
      generalize code l a j = V at *
      generalize bitAt l (a + j) = x at *
      go_wp2_with (go_at_call 17; refine H1.out.mono ?_; rintro e w' ⟨rfl, rfl⟩)
      exact ⟨⟨j + 1, by omega, by rw [HC.out, Int.mul_comm], by simp⟩, by simp [intOf]; omega⟩
    · obtain rfl : j = s := by omega
      generalize code l a j = V at *
      go_wp2
      go_ret2
      exact ⟨rfl, rfl⟩

theorem rbitsNo (A : Option Addr) (m c : Nat) (a s : Int) (w : World) (hm : m ≤ 100000000) (ha1 : a ≤ 9223372036854775807) (ha : ¬(0 ≤ s ∧ s ≤ 30 ∧ 0 ≤ a ∧ a + s ≤ 8 * m)) :
    Calls Try.prog 19 #[.slice A m c, .int .i64 a, .int .i64 s] w (Ret (.tuple #[.int .i64 0, .bool false]) w) := by
  by_cases h1 : s < 0
  · clear ha
    go_enter Try.func19, Try.ntmps19
    go_wp2
    go_ret2
    exact ⟨rfl, rfl⟩
  have g1 : decide (s < 0) = false := decide_eq_false h1
  by_cases h2 : 30 < s
  · clear ha
    go_enter Try.func19, Try.ntmps19
    go_wp2
    go_ret2
    exact ⟨rfl, rfl⟩
  have g2 : decide (30 < s) = false := decide_eq_false h2
  by_cases h3 : a < 0
  · clear ha
    go_enter Try.func19, Try.ntmps19
    go_wp2
    go_ret2
    exact ⟨rfl, rfl⟩
  have g3 : decide (a < 0) = false := decide_eq_false h3
  by_cases h4 : 8 * (m : Int) < a
  · clear ha
    go_enter Try.func19, Try.ntmps19
    go_wp2
    go_ret2
    exact ⟨rfl, rfl⟩
  have g4 : decide (8 * (m : Int) < a) = false := decide_eq_false h4
  have g5 : 8 * (m : Int) - a < s := by omega
  have g6 : 0 ≤ a := by omega
  clear ha
  go_enter Try.func19, Try.ntmps19
  go_wp2
  go_ret2
  exact ⟨rfl, rfl⟩

theorem rOBits (A : Option Addr) (m c : Nat) (l : List Int) (a s : Int) (w : World) (h : Byt w A m c l) (hm : m ≤ 100000000) (ha : a ≤ 9223372036854775807) :
    Calls Try.prog 19 #[.slice A m c, .int .i64 a, .int .i64 s] w (Ret (.tuple #[.int .i64 (valB l a s), .bool (okB l a s)]) w) := by
  have hl := h.len
  by_cases ok : 0 ≤ s ∧ s ≤ 30 ∧ 0 ≤ a ∧ a + s ≤ 8 * m
  · have e1 : okB l a s = true := decide_eq_true (by rw [hl]; exact ok)
    obtain ⟨a', rfl⟩ := toNat_lit ok.2.2.1
    obtain ⟨s', rfl⟩ := toNat_lit ok.1
    have e2 : valB l a' s' = code l a' s' := by simp [valB, e1]
    rw [e1, e2]
    exact rbitsYes A m c l a' s' w h hm (by omega) (by omega)
  · have e1 : okB l a s = false := decide_eq_false (by rw [hl]; exact ok)
    have e2 : valB l a s = 0 := by simp [valB, e1]
    rw [e1, e2]
    exact rbitsNo A m c a s w hm ha ok
end Go.Proofs.Ytejogehkehjelaa
