/- OctetBits: a code is its bits, the highest first; a byte's bits are its own: the walk. -/
import Derived.Test.YtejogehkehjelaaTells
namespace Go.Proofs.Ytejogehkehjelaa
open Go.RowKit Go.Shelf
set_option linter.unusedVariables false

set_option maxRecDepth 100000 in
set_option maxHeartbeats 8000000 in
theorem bitsBig (A : Option Addr) (n c : Nat) (x0 x1 : Int) (W : World) (hl : 100 < n) :
    Calls Try.prog 6 #[.slice A n c, .int .i64 x0, .int .i64 x1] W fun e w' => e = .returned (.bool true) ∧ Below W.heap.size W w' := by
  have b0 := Bel.refl W
  go_enter Try.func6, Try.ntmps6
  go_wp2_with (first | (go_at_call 8; refine (fWakes _).mono ?_; rintro e w' ⟨rfl, hb⟩; replace b0 := Bel.step (W := W) (by repeat (first | exact b0 | refine Bel.alloc ?_ _)) hb))
  go_ret
  exact ⟨rfl, ((by repeat (first | exact b0 | refine Bel.alloc ?_ _)) : Bel W _).out⟩

set_option maxRecDepth 100000 in
set_option maxHeartbeats 8000000 in
theorem bitsNo (A : Option Addr) (n c : Nat) (l : List Int) (a many : Int) (W : World) (h : Byt W A n c l) (h1 : n ≤ 100) (a1 : a ≤ 9223372036854775807) (no : ¬(0 ≤ many ∧ many ≤ 30 ∧ 0 ≤ a ∧ a + many ≤ 8 * (n : Int))) :
    Calls Try.prog 6 #[.slice A n c, .int .i64 a, .int .i64 many] W fun e w' => e = .returned (.bool true) ∧ Below W.heap.size W w' := by
  have b0 := Bel.refl W
  have hl := h.len
  have ok : okB l a many = false := decide_eq_false (by rw [hl]; exact no)
  have hv : valB l a many = 0 := by unfold valB; rw [ok]; rfl
  have hc := fOBitsE hv ok W h (by omega) a1
  have HC := Lib.hid hc
  clear hc ok hv hl
  by_cases g1 : many < 0
  · clear no
    go_enter Try.func6, Try.ntmps6
    go_wp2_with (first | (go_at_call 18; refine HC.out.mono ?_; rintro e w' ⟨rfl, hb⟩; replace b0 := Bel.step (W := W) (by repeat (first | exact b0 | refine Bel.alloc ?_ _)) hb) | (go_at_call 8; refine (fWakes _).mono ?_; rintro e w' ⟨rfl, hb⟩; replace b0 := Bel.step (W := W) (by repeat (first | exact b0 | refine Bel.alloc ?_ _)) hb))
    go_ret
    exact ⟨rfl, ((by repeat (first | exact b0 | refine Bel.alloc ?_ _)) : Bel W _).out⟩
  have g1' : decide (0 ≤ many) = true := decide_eq_true (by omega)
  by_cases g2 : 30 < many
  · clear no g1
    go_enter Try.func6, Try.ntmps6
    go_wp2_with (first | (go_at_call 18; refine HC.out.mono ?_; rintro e w' ⟨rfl, hb⟩; replace b0 := Bel.step (W := W) (by repeat (first | exact b0 | refine Bel.alloc ?_ _)) hb) | (go_at_call 8; refine (fWakes _).mono ?_; rintro e w' ⟨rfl, hb⟩; replace b0 := Bel.step (W := W) (by repeat (first | exact b0 | refine Bel.alloc ?_ _)) hb))
    go_ret
    exact ⟨rfl, ((by repeat (first | exact b0 | refine Bel.alloc ?_ _)) : Bel W _).out⟩
  have g2' : decide (many ≤ 30) = true := decide_eq_true (by omega)
  by_cases g3 : a < 0
  · clear no g1 g2
    go_enter Try.func6, Try.ntmps6
    go_wp2_with (first | (go_at_call 18; refine HC.out.mono ?_; rintro e w' ⟨rfl, hb⟩; replace b0 := Bel.step (W := W) (by repeat (first | exact b0 | refine Bel.alloc ?_ _)) hb) | (go_at_call 8; refine (fWakes _).mono ?_; rintro e w' ⟨rfl, hb⟩; replace b0 := Bel.step (W := W) (by repeat (first | exact b0 | refine Bel.alloc ?_ _)) hb))
    go_ret
    exact ⟨rfl, ((by repeat (first | exact b0 | refine Bel.alloc ?_ _)) : Bel W _).out⟩
  have g3' : decide (0 ≤ a) = true := decide_eq_true (by omega)
  by_cases g4 : 8 * (n : Int) < a
  · clear no g1 g2 g3
    go_enter Try.func6, Try.ntmps6
    go_wp2_with (first | (go_at_call 18; refine HC.out.mono ?_; rintro e w' ⟨rfl, hb⟩; replace b0 := Bel.step (W := W) (by repeat (first | exact b0 | refine Bel.alloc ?_ _)) hb) | (go_at_call 8; refine (fWakes _).mono ?_; rintro e w' ⟨rfl, hb⟩; replace b0 := Bel.step (W := W) (by repeat (first | exact b0 | refine Bel.alloc ?_ _)) hb))
    go_ret
    exact ⟨rfl, ((by repeat (first | exact b0 | refine Bel.alloc ?_ _)) : Bel W _).out⟩
  have g4' : decide (a ≤ 8 * (n : Int)) = true := decide_eq_true (by omega)
  have g5 : 8 * (n : Int) - a < many := by omega
  have g6 : 0 ≤ a := by omega
  have g7 : a ≤ 8 * (n : Int) := by omega
  clear no g1 g2 g3 g4
  go_enter Try.func6, Try.ntmps6
  go_wp2_with (first | (go_at_call 18; refine HC.out.mono ?_; rintro e w' ⟨rfl, hb⟩; replace b0 := Bel.step (W := W) (by repeat (first | exact b0 | refine Bel.alloc ?_ _)) hb) | (go_at_call 8; refine (fWakes _).mono ?_; rintro e w' ⟨rfl, hb⟩; replace b0 := Bel.step (W := W) (by repeat (first | exact b0 | refine Bel.alloc ?_ _)) hb))
  go_ret
  exact ⟨rfl, ((by repeat (first | exact b0 | refine Bel.alloc ?_ _)) : Bel W _).out⟩

theorem code_eight {l : List Int} (h : Bs l) (i : Nat) (hi : i < l.length) : code l (8 * i) 8 = l[i]?.getD 0 := by
  have hy := h.get i
  have e : ∀ t, t < 8 → bitAt l (8 * i + t) = l[i]?.getD 0 / 2 ^ (7 - t) % 2 := fun t ht => by
    unfold bitAt
    rw [show (8 * i + t) / 8 = i by omega, show (8 * i + t) % 8 = t by omega]
  have c0 : code l (8 * i) 0 = 0 := by simp [code, bnum]
  rw [code_succ l _ 7 (by omega), code_succ l _ 6 (by omega), code_succ l _ 5 (by omega), code_succ l _ 4 (by omega), code_succ l _ 3 (by omega), code_succ l _ 2 (by omega), code_succ l _ 1 (by omega), code_succ l _ 0 (by omega), c0]
  rw [e 0 (by decide), e 1 (by decide), e 2 (by decide), e 3 (by decide), e 4 (by decide), e 5 (by decide), e 6 (by decide), e 7 (by decide)]
  generalize l[i]?.getD 0 = y at *
  simp only [Nat.sub_self, Nat.reduceSub, Int.reducePow]
  omega

theorem and1i (x : Int) (h0 : 0 ≤ x) (h1 : x < 4294967296) : bits .and .i64 x 1 = x % 2 := by
  have := and_mask64 x 1 h0 h1 (by decide)
  simpa using this

set_option maxRecDepth 100000 in
set_option maxHeartbeats 8000000 in
theorem bitsYes (A : Option Addr) (n c : Nat) (l : List Int) (a many : Nat) (W : World) (h : Byt W A n c l) (h1 : n ≤ 100) (h2 : many ≤ 30) (h3 : a + many ≤ 8 * n) :
    Calls Try.prog 6 #[.slice A n c, .int .i64 a, .int .i64 many] W fun e w' => e = .returned (.bool true) ∧ Below W.heap.size W w' := by
  have b0 := Bel.refl W
  have hl := h.len
  have ok : okB l a many = true := decide_eq_true (by rw [hl]; omega)
  have hv : valB l a many = code l a many := by unfold valB; rw [ok]; simp
  have hc := fOBitsE hv ok W h (by omega) (by omega)
  have HC := Lib.hid hc
  have H := Lib.hid h
  have HL := Lib.hid hl
  clear hc ok hv hl h
  have g1 : decide ((0 : Int) ≤ (many : Int)) = true := decide_eq_true (by omega)
  have g2 : decide ((many : Int) ≤ 30) = true := decide_eq_true (by omega)
  have g3 : decide ((0 : Int) ≤ (a : Int)) = true := decide_eq_true (by omega)
  have g4 : decide ((a : Int) ≤ 8 * (n : Int)) = true := decide_eq_true (by omega)
  have g5 : decide ((many : Int) ≤ 8 * (n : Int) - (a : Int)) = true := decide_eq_true (by omega)
  go_enter Try.func6, Try.ntmps6
  go_wp2_with (first | (go_at_call 18; refine HC.out.mono ?_; rintro e w' ⟨rfl, hb⟩; replace b0 := Bel.step (W := W) (by repeat (first | exact b0 | refine Bel.alloc ?_ _)) hb))
  go_loopw [7, 10] (fun nv v wr => ∃ k : Nat, k ≤ many ∧ v = .int .i64 ((k : Int) - 1) ∧ nv = .int .i64 (code l a k) ∧ Below W.heap.size W wr) (fun _ v _ => (intOf v + 1).toNat)
  case atStart => exact ⟨many, Nat.le_refl _, rfl, rfl, hb⟩
  case round =>
    obtain ⟨k, hk, rfl, rfl, hbel⟩ := hrel
    have hh := H.out.below hbel
    rcases k with _ | k
    · have c0 : code l a 0 = 0 := by simp [code, bnum]
      rw [c0, show ((0 : Nat) : Int) - 1 = -1 from rfl]
      clear c0 HC b0 hb
      go_wp2
      obtain ⟨wo, rfl⟩ : ∃ wo : World, wo = wr := ⟨_, rfl⟩
      go_loopw [13] (fun v W' => ∃ i : Nat, i ≤ n ∧ v = .int .i64 i ∧ Below W.heap.size W W') (fun v _ => n - (intOf v).toNat)
      case atStart => exact ⟨0, Nat.zero_le _, rfl, hbel⟩
      case round =>
        obtain ⟨i, hi, rfl, hbq⟩ := hrel
        have hq := H.out.below hbq
        by_cases hlt : i < n
        · have ok8 : okB l ((8 * i : Nat) : Int) 8 = true := decide_eq_true (by have := HL.out; omega)
          have hv8 : valB l ((8 * i : Nat) : Int) 8 = l[i]?.getD 0 := by
            unfold valB
            rw [ok8, if_pos rfl]
            exact code_eight H.out.bs i (by have := HL.out; omega)
          have hc8 := fOBitsE hv8 ok8 wr hq (by omega) (by omega)
          rw [show ((8 * i : Nat) : Int) = 8 * (i : Int) by omega] at hc8
          have HC8 := Lib.hid hc8
          obtain ⟨b, o, rfl, hbl, hcell⟩ := hq.at_ hlt
          have hy := H.out.bs.get i
          generalize l[i]?.getD 0 = y at *
          have HQ := Lib.hid hbq
          clear hq hc8 ok8 hv8 hh hbel hbq
          go_wp2_with (first | (go_at_call 18; refine HC8.out.mono ?_; rintro e w8 ⟨rfl, hb8⟩; have hcell8 := (hb8.cell (p := ⟨b, o + i, none⟩) hbl).trans hcell))
          exact ⟨⟨i + 1, by omega, by simp, HQ.out.trans (hb8.mono HQ.out.size)⟩, by simp [intOf]; omega⟩
        · obtain rfl : i = n := by omega
          replace b0 : Bel W wr := ⟨hbq⟩
          go_wp2_with (first | (go_at_call 8; refine (fWakes _).mono ?_; rintro e w' ⟨rfl, hb⟩; replace b0 := Bel.step (W := W) (by repeat (first | exact b0 | refine Bel.alloc ?_ _)) hb))
          go_ret
          exact ⟨rfl, ((by repeat (first | exact b0 | refine Bel.alloc ?_ _)) : Bel W _).out⟩
    · have ok1 : okB l ((a + k : Nat) : Int) 1 = true := decide_eq_true (by have := HL.out; omega)
      have hv1 : valB l ((a + k : Nat) : Int) 1 = bitAt l (a + k) := valB_one l (a + k) (by have := HL.out; omega)
      have hc1 := fOBitE hv1 ok1 wr hh (by omega) (by omega)
      rw [show ((a + k : Nat) : Int) = (a : Int) + (k : Int) by omega] at hc1
      have HC1 := Lib.hid hc1
      have hcs := code_succ l a k (by have := HL.out; omega)
      have hbd := code_bd l a k
      have hbb := bitAt_bd l (a + k)
      have hp : 2 ^ k ≤ 2 ^ 30 := Nat.pow_le_pow_right (by decide) (by omega)
      have HB := Lib.hid hbel
      clear hc1 ok1 hv1 hh hbel
      generalize code l a (k + 1) = C1 at *
      have hC0 := hbd.1
      have hC1 : code l a k < 1073741824 := by omega
      generalize hCk : code l a k = C0 at *
      generalize bitAt l (a + k) = x at *
      have hand := and1i C1 (by omega) (by omega)
      rw [show C1 % 2 = x by omega] at hand
      have hsh : C1 / 2 = C0 := by omega
      have HCk := Lib.hid hCk
      have HCs := Lib.hid hcs
      clear hCk hcs hbd hp
      rw [show ((k + 1 : Nat) : Int) - 1 = (k : Int) by omega]
      go_wp2_with (first | (go_at_call 16; refine HC1.out.mono ?_; rintro e w' ⟨rfl, hb1⟩))
      exact ⟨⟨k, by omega, by simp, by rw [HCk.out], HB.out.trans (hb1.mono HB.out.size)⟩, by simp [intOf]⟩

theorem wBits {W : World} (A : Option Addr) (n c : Nat) (l : List Int) (h : Byt W A n c l) (a : Int) (_ : -9223372036854775808 ≤ a) (a1 : a ≤ 9223372036854775807) (many : Int) (_ : -9223372036854775808 ≤ many) (_ : many ≤ 9223372036854775807) :
    Calls Try.prog 6 #[.slice A n c, .int .i64 a, .int .i64 many] W fun e w' => e = .returned (.bool true) ∧ Below W.heap.size W w' := by
  by_cases hl : 100 < n
  · exact bitsBig A n c a many W hl
  by_cases ok : 0 ≤ many ∧ many ≤ 30 ∧ 0 ≤ a ∧ a + many ≤ 8 * (n : Int)
  · obtain ⟨m, rfl⟩ := toNat_lit ok.1
    obtain ⟨k, rfl⟩ := toNat_lit ok.2.2.1
    exact bitsYes A n c l k m W h (by omega) (by omega) (by omega)
  · exact bitsNo A n c l a many W h (by omega) a1 ok
end Go.Proofs.Ytejogehkehjelaa
