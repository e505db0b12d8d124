/- The contracts of Bit, Bits. -/
import Derived.Test.YtejogehkehjelaaOf
namespace Go.Proofs.Ytejogehkehjelaa
open Go.RowKit Go.Shelf
set_option linter.unusedVariables false

theorem fFirst (A : Option Addr) (m c : Nat) (l : List Int) (a many : Int) (w : World) (h : Byt w A m c l) (hm : m ≤ 100000000) (ha : a ≤ 9223372036854775807) (m1 : 1 ≤ many) (m2 : many ≤ 30) :
    Calls Try.prog 24 #[.slice A m c, .int .i64 a, .int .i64 many] w fun e W' =>
      e = .returned (.tuple #[.int .i64 (codeN l a many), .bool (okBitsO l a many)]) ∧ Below w.heap.size w W' := by
  by_cases h0 : a < 0
  · have hno : okBitsO l a many = false := decide_eq_false (by omega)
    have hc : codeN l a many = 0 := by simp [codeN, hno]
    rw [hno, hc]
    have hb := ((Bel.refl w).alloc (.cells #[.int .i64 0] 3)).alloc (.cells #[.bool false] 4)
    go_enter Try.func24, Try.ntmps24
    go_wp2
    refine bodyPost_ret (v := .tuple #[.int .i64 0, .bool false]) (by simp [results, Try.f24, go_sem]) rfl ⟨rfl, ?_⟩
    simpa using hb.out
  · obtain ⟨a', rfl⟩ := toNat_lit (show 0 ≤ a by omega)
    obtain ⟨m', rfl⟩ := toNat_lit (show 0 ≤ many by omega)
    exact callsIn_wide.1 (first_in A m c l a' m' w h hm (by omega) (by omega) (by omega))

def okB (l : List Int) (a many : Int) : Bool := decide (0 ≤ many ∧ many ≤ 30 ∧ 0 ≤ a ∧ a + many ≤ 8 * (l.length : Int))
def valB (l : List Int) (a many : Int) : Int := if okB l a many then code l a.toNat many.toNat else 0

theorem fOBit (A : Option Addr) (m c : Nat) (l : List Int) (a : Int) (w : World) (h : Byt w A m c l) (hm : m ≤ 100000000) (ha : a ≤ 9223372036854775807) :
    Calls Try.prog 16 #[.slice A m c, .int .i64 a] w fun e W' =>
      e = .returned (.tuple #[.int .i64 (valB l a 1), .bool (okB l a 1)]) ∧ Below w.heap.size w W' := by
  have hf := fFirst A m c l a 1 w h hm ha (by decide) (by decide)
  have e1 : okBitsO l a 1 = okB l a 1 := by unfold okBitsO okB; rw [Bool.eq_iff_iff]; simp
  have e2 : codeN l a 1 = valB l a 1 := by unfold codeN valB; rw [e1]
  rw [e1, e2] at hf
  have HF := Lib.hid hf
  clear hf h
  go_enter Try.func16, Try.ntmps16
  go_wp2_with (go_at_call 24; refine HF.out.mono ?_; rintro e w' ⟨rfl, hb⟩)
  go_ret2
  exact ⟨rfl, hb⟩

theorem fOBits (A : Option Addr) (m c : Nat) (l : List Int) (a many : Int) (w : World) (h : Byt w A m c l) (hm : m ≤ 100000000) (ha : a ≤ 9223372036854775807) :
    Calls Try.prog 18 #[.slice A m c, .int .i64 a, .int .i64 many] w fun e W' =>
      e = .returned (.tuple #[.int .i64 (valB l a many), .bool (okB l a many)]) ∧ Below w.heap.size w W' := by
  have hl := h.len
  by_cases h0 : many = 0
  · subst h0
    have hv : valB l a 0 = 0 := by unfold valB; split <;> simp [code, bnum]
    rw [hv]
    by_cases ok : 0 ≤ a ∧ a ≤ 8 * (l.length : Int)
    · have hok : okB l a 0 = true := decide_eq_true (by omega)
      rw [hok]
      rw [hl] at ok
      obtain ⟨o1, o2⟩ := ok
      clear h
      go_enter Try.func18, Try.ntmps18
      go_wp2
      go_ret2
      exact ⟨rfl, Below.refl _ _⟩
    · have hok : okB l a 0 = false := decide_eq_false (by omega)
      rw [hok]
      rw [hl] at ok
      clear h
      by_cases h1 : a < 0
      · have g1 : decide (0 ≤ a) = false := decide_eq_false (by omega)
        clear ok
        go_enter Try.func18, Try.ntmps18
        go_wp2
        go_ret2
        exact ⟨rfl, Below.refl _ _⟩
      · have g1 : 0 ≤ a := by omega
        have g2 : decide (a ≤ 8 * (m : Int)) = false := decide_eq_false (by omega)
        clear ok
        go_enter Try.func18, Try.ntmps18
        go_wp2
        go_ret2
        exact ⟨rfl, Below.refl _ _⟩
  · have g0 : (many == 0) = false := beq_eq_false_iff_ne.2 h0
    by_cases hr : 1 ≤ many ∧ many ≤ 30
    · obtain ⟨r1, r2⟩ := hr
      have hf := fFirst A m c l a many w h hm ha r1 r2
      have e1 : okBitsO l a many = okB l a many := by unfold okBitsO okB; rw [Bool.eq_iff_iff]; simp only [decide_eq_true_eq]; omega
      have e2 : codeN l a many = valB l a many := by unfold codeN valB; rw [e1]
      rw [e1, e2] at hf
      have HF := Lib.hid hf
      have g1 : decide (many < 0) = false := decide_eq_false (by omega)
      have g2 : decide (30 < many) = false := decide_eq_false (by omega)
      clear hf h
      go_enter Try.func18, Try.ntmps18
      go_wp2_with (go_at_call 24; refine HF.out.mono ?_; rintro e w' ⟨rfl, hb⟩)
      go_ret2
      exact ⟨rfl, hb⟩
    · have hok : okB l a many = false := decide_eq_false (by omega)
      have hv : valB l a many = 0 := by simp [valB, hok]
      rw [hok, hv]
      clear h
      by_cases h1 : many < 0
      · go_enter Try.func18, Try.ntmps18
        go_wp2
        go_ret2
        exact ⟨rfl, Below.refl _ _⟩
      · have g1 : decide (many < 0) = false := decide_eq_false h1
        have g2 : 30 < many := by omega
        clear hr
        go_enter Try.func18, Try.ntmps18
        go_wp2
        go_ret2
        exact ⟨rfl, Below.refl _ _⟩
end Go.Proofs.Ytejogehkehjelaa
