/- PrefixOnly: what is taken is put in as many bytes, or fewer, and what stands behind it is the end of the bytes: the walk. -/
import Derived.Test.YtelmcjiamciklaaPw
import Derived.Test.YtelmcjiamciklaaPo
import Derived.Test.YtelmcjiamciklaaO
namespace Go.Proofs.Ytelmcjiamciklaa
open Go.RowKit Go.Shelf
set_option linter.unusedVariables false

set_option maxRecDepth 100000 in
set_option maxHeartbeats 8000000 in
theorem onlyErr (A : Option Addr) (len cap : Nat) (l : List Int) (b e' : Int) (W : World) (h : Byt W A len cap l) (hlen : len ≤ 300) (hr : takeR l b = (0, [], e'))
    (q : (b < 1 ∨ 8 < b) ∧ e' = 2 ∨ (1 ≤ b ∧ b ≤ 8) ∧ (e' = 10 ∨ e' = 60 ∧ len ≠ 0)) :
    Calls Try.prog 5 #[.slice A len cap, .int .i64 b] W fun e w' => e = .returned (.bool true) ∧ Below W.heap.size W w' := by
  have b0 := Bel.refl W
  have HR := Lib.hid hr
  clear hr
  rcases q with ⟨q | q, rfl⟩ | ⟨⟨q1, q2⟩, rfl | ⟨rfl, q3⟩⟩
  · have f1 : decide (b < 1) = true := decide_eq_true q
    by_cases h0 : len = 0
    · subst h0
      go_enter Try.func5, Try.ntmps5
      go_wp2_with fail
      refine (fTakeE HR.out _ h (by omega)).mono ?_
      rintro e w1 ⟨A1, c1, rfl, m1, hb⟩
      replace b0 := Bel.step b0 hb
      clear hb
      go_wp2_with (go_at_call 7; refine (fWakes _).mono ?_; rintro e w' ⟨rfl, hb⟩; replace b0 := Bel.step b0 hb; clear hb)
      go_ret
      exact ⟨rfl, b0.out⟩
    · have g0 : ((len : Int) == 0) = false := by rw [beq_eq_false_iff_ne]; omega
      have g1 : ((len : Int) != 0) = true := by rw [bne_iff_ne]; omega
      go_enter Try.func5, Try.ntmps5
      go_wp2_with fail
      refine (fTakeE HR.out _ h (by omega)).mono ?_
      rintro e w1 ⟨A1, c1, rfl, m1, hb⟩
      replace b0 := Bel.step b0 hb
      clear hb
      go_wp2_with (go_at_call 7; refine (fWakes _).mono ?_; rintro e w' ⟨rfl, hb⟩; replace b0 := Bel.step b0 hb; clear hb)
      go_ret
      exact ⟨rfl, b0.out⟩
  · have f1 : decide (b < 1) = false := decide_eq_false (by omega)
    have f2 : decide (8 < b) = true := decide_eq_true q
    by_cases h0 : len = 0
    · subst h0
      go_enter Try.func5, Try.ntmps5
      go_wp2_with fail
      refine (fTakeE HR.out _ h (by omega)).mono ?_
      rintro e w1 ⟨A1, c1, rfl, m1, hb⟩
      replace b0 := Bel.step b0 hb
      clear hb
      go_wp2_with (go_at_call 7; refine (fWakes _).mono ?_; rintro e w' ⟨rfl, hb⟩; replace b0 := Bel.step b0 hb; clear hb)
      go_ret
      exact ⟨rfl, b0.out⟩
    · have g0 : ((len : Int) == 0) = false := by rw [beq_eq_false_iff_ne]; omega
      have g1 : ((len : Int) != 0) = true := by rw [bne_iff_ne]; omega
      go_enter Try.func5, Try.ntmps5
      go_wp2_with fail
      refine (fTakeE HR.out _ h (by omega)).mono ?_
      rintro e w1 ⟨A1, c1, rfl, m1, hb⟩
      replace b0 := Bel.step b0 hb
      clear hb
      go_wp2_with (go_at_call 7; refine (fWakes _).mono ?_; rintro e w' ⟨rfl, hb⟩; replace b0 := Bel.step b0 hb; clear hb)
      go_ret
      exact ⟨rfl, b0.out⟩
  · have f1 : decide (b < 1) = false := decide_eq_false (by omega)
    have f2 : decide (8 < b) = false := decide_eq_false (by omega)
    by_cases h0 : len = 0
    · subst h0
      go_enter Try.func5, Try.ntmps5
      go_wp2_with fail
      refine (fTakeE HR.out _ h (by omega)).mono ?_
      rintro e w1 ⟨A1, c1, rfl, m1, hb⟩
      replace b0 := Bel.step b0 hb
      clear hb
      go_wp2_with (go_at_call 7; refine (fWakes _).mono ?_; rintro e w' ⟨rfl, hb⟩; replace b0 := Bel.step b0 hb; clear hb)
      go_ret
      exact ⟨rfl, b0.out⟩
    · have g0 : ((len : Int) == 0) = false := by rw [beq_eq_false_iff_ne]; omega
      have g1 : ((len : Int) != 0) = true := by rw [bne_iff_ne]; omega
      go_enter Try.func5, Try.ntmps5
      go_wp2_with fail
      refine (fTakeE HR.out _ h (by omega)).mono ?_
      rintro e w1 ⟨A1, c1, rfl, m1, hb⟩
      replace b0 := Bel.step b0 hb
      clear hb
      go_wp2_with (go_at_call 7; refine (fWakes _).mono ?_; rintro e w' ⟨rfl, hb⟩; replace b0 := Bel.step b0 hb; clear hb)
      go_ret
      exact ⟨rfl, b0.out⟩
  · have f1 : decide (b < 1) = false := decide_eq_false (by omega)
    have f2 : decide (8 < b) = false := decide_eq_false (by omega)
    have g0 : ((len : Int) == 0) = false := by rw [beq_eq_false_iff_ne]; omega
    have g1 : ((len : Int) != 0) = true := by rw [bne_iff_ne]; omega
    go_enter Try.func5, Try.ntmps5
    go_wp2_with fail
    refine (fTakeE HR.out _ h (by omega)).mono ?_
    rintro e w1 ⟨A1, c1, rfl, m1, hb⟩
    replace b0 := Bel.step b0 hb
    clear hb
    go_wp2_with (go_at_call 7; refine (fWakes _).mono ?_; rintro e w' ⟨rfl, hb⟩; replace b0 := Bel.step b0 hb; clear hb)
    go_ret
    exact ⟨rfl, b0.out⟩

set_option maxRecDepth 100000 in
set_option maxHeartbeats 8000000 in
theorem onlyYes (A : Option Addr) (len cap : Nat) (l c r : List Int) (b n : Int) (P : List Int) (W : World) (h : Byt W A len cap l) (hlen : len ≤ 300) (hr : takeR l b = (n, r, 0)) (b1 : 1 ≤ b) (b2 : b ≤ 8) (n0 : 0 ≤ n) (n1 : n ≤ 2147483647)
    (hl : l = c ++ r) (c1 : 1 ≤ c.length) (c6 : c.length ≤ 6) (hP : putR n b 0 = P) (hE : putE n b = 0) (hp : P.length ≤ c.length) :
    Calls Try.prog 5 #[.slice A len cap, .int .i64 b] W fun e w' => e = .returned (.bool true) ∧ Below W.heap.size W w' := by
  have b0 := Bel.refl W
  have hll := h.len
  have g2 : (len : Int) - (r.length : Int) = (c.length : Int) := by rw [← hll, hl]; simp
  have g3 : (c.length : Nat) ≤ len := by rw [← hll, hl]; simp
  have hd : l.drop c.length = r := by rw [hl]; simp
  have HR := Lib.hid hr
  have HP := Lib.hid hP
  have HE := Lib.hid hE
  have HD := Lib.hid hd
  have Hll := Lib.hid hll
  have g4 : decide ((1 : Int) ≤ (c.length : Int)) = true := decide_eq_true (by omega)
  have g5 : decide ((c.length : Int) ≤ 6) = true := decide_eq_true (by omega)
  have g6 : decide ((P.length : Int) ≤ (c.length : Int)) = true := decide_eq_true (by omega)
  have g7 : decide (P.length ≤ c.length) = true := decide_eq_true hp
  have g8 : decide (n ≤ 2147483647) = true := decide_eq_true n1
  have g9 : decide (0 ≤ n) = true := decide_eq_true n0
  clear hr hP hE hl hd hll
  go_enter Try.func5, Try.ntmps5
  go_wp2_with fail
  refine (fTakeE HR.out _ h (by omega)).mono ?_
  rintro e w1 ⟨A1, c1', rfl, m1, hb⟩
  replace b0 := Bel.step b0 hb
  have h1 := h.below hb
  clear hb
  go_wp2_with fail
  refine (fPutE HP.out HE.out (by omega) (by omega) (by decide) (by decide) _).mono ?_
  rintro e w2 ⟨A2, c2, rfl, m2, hb⟩
  replace b0 := Bel.step b0 hb
  have m1' := m1.byt.below hb
  have h2 := h1.below hb
  clear hb
  obtain ⟨bb, o, rfl, _, _⟩ := h2.cell (by omega)
  by_cases hcap : cap = c.length
  · subst hcap
    have ht := h2.tail_all (by omega)
    rw [HD.out] at ht
    go_wp2_with fail
    refine (fSameT _ _ _ r _ _ _ _ m1' (by simpa using ht)).mono ?_
    rintro e w' ⟨rfl, rfl⟩
    go_wp2_with (go_at_call 7; refine (fWakes _).mono ?_; rintro e w' ⟨rfl, hb⟩; replace b0 := Bel.step b0 hb; clear hb)
    go_ret
    exact ⟨rfl, b0.out⟩
  · have ht := h2.tail (k := c.length) (by omega) hcap
    rw [HD.out] at ht
    go_wp2_with fail
    refine (fSameT _ _ _ r _ _ _ _ m1' (by simpa using ht)).mono ?_
    rintro e w' ⟨rfl, rfl⟩
    go_wp2_with (go_at_call 7; refine (fWakes _).mono ?_; rintro e w' ⟨rfl, hb⟩; replace b0 := Bel.step b0 hb; clear hb)
    go_ret
    exact ⟨rfl, b0.out⟩

theorem wOnly {W : World} (A : Option Addr) (len cap : Nat) (l : List Int) (h : Byt W A len cap l) (b : Int) (_ : -9223372036854775808 ≤ b) (_ : b ≤ 9223372036854775807) :
    Calls Try.prog 5 #[.slice A len cap, .int .i64 b] W fun e w' => e = .returned (.bool true) ∧ Below W.heap.size W w' := by
  by_cases hl : 300 < len
  · clear h
    go_enter Try.func5, Try.ntmps5
    go_wp2_with (go_at_call 7; refine (fWakes _).mono ?_; rintro e w' ⟨rfl, hb⟩)
    go_ret
    exact ⟨rfl, hb⟩
  · obtain ⟨n, r, e, hr⟩ : ∃ n r e, takeR l b = (n, r, e) := ⟨_, _, _, rfl⟩
    by_cases he : e = 0
    · subst he
      obtain ⟨b1, b2, n0, n1, c, hc, c1, c6, hp⟩ := take_only h.bs hr
      have ok : okNum n b = true := decide_eq_true ⟨b1, b2, n0, n1⟩
      exact onlyYes A len cap l c r b n _ W h (by omega) hr b1 b2 n0 n1 hc c1 c6 rfl (by unfold putE; rw [if_pos ok]) hp
    · obtain ⟨rfl, rfl, hq⟩ := take_err hr he
      refine onlyErr A len cap l b e W h (by omega) hr ?_
      rcases hq with ⟨hb, he⟩ | ⟨hb, he | ⟨he, hne⟩⟩
      · exact .inl ⟨by omega, he⟩
      · exact .inr ⟨hb, .inl he⟩
      · exact .inr ⟨hb, .inr ⟨he, fun h0 => hne (List.eq_nil_of_length_eq_zero (by rw [h.len]; exact h0))⟩⟩
end Go.Proofs.Ytelmcjiamciklaa
