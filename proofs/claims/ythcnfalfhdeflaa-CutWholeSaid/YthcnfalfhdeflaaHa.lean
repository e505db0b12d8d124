/- Which heads may be; flags: the contracts of both. -/
import Derived.Test.YthcnfalfhdeflaaOq
namespace Go.Proofs.Ythcnfalfhdeflaa
open Go.RowKit Go.Shelf
set_option linter.unusedVariables false

def okH (L s : Int) : Bool := decide (0 ≤ L ∧ L < 16777216 ∧ 0 ≤ s ∧ s < 2147483648)
def BoolP (b : Bool) (w : World) (e : Ending) (w' : World) : Prop := e = .returned (.bool b) ∧ Below w.heap.size w w'

set_option maxRecDepth 100000 in
theorem rHRight (L k f s : Int) (w : World) (L0 : -9223372036854775808 ≤ L) (L1 : L ≤ 9223372036854775807) (s0 : -9223372036854775808 ≤ s) (s1 : s ≤ 9223372036854775807) :
    Calls Try.prog 24 #[.agg #[.int .i64 L, .int .u8 k, .int .u8 f, .int .i64 s]] w (BoolP (okH L s) w) := by
  have b0 : Below w.heap.size w (w.alloc (.cells #[.int .i64 L, .int .u8 k, .int .u8 f, .int .i64 s] 41)) := (Below.refl _ _).alloc (Nat.le_refl _) _
  by_cases h1 : L < 0
  · have e : okH L s = false := decide_eq_false (by omega)
    rw [e]
    have g1 : decide (0 ≤ L) = false := decide_eq_false (by omega)
    go_enter Try.func24, Try.ntmps24
    go_wp2
    go_ret
    exact ⟨rfl, b0⟩
  have g1 : decide (0 ≤ L) = true := decide_eq_true (by omega)
  by_cases h2 : 16777216 ≤ L
  · have e : okH L s = false := decide_eq_false (by omega)
    rw [e]
    have g2 : decide (L < 16777216) = false := decide_eq_false (by omega)
    clear h1 h2
    go_enter Try.func24, Try.ntmps24
    go_wp2
    go_ret
    exact ⟨rfl, b0⟩
  have g2 : decide (L < 16777216) = true := decide_eq_true (by omega)
  by_cases h3 : s < 0
  · have e : okH L s = false := decide_eq_false (by omega)
    rw [e]
    have g3 : decide (0 ≤ s) = false := decide_eq_false (by omega)
    clear h1 h2
    go_enter Try.func24, Try.ntmps24
    go_wp2
    go_ret
    exact ⟨rfl, b0⟩
  have g3 : decide (0 ≤ s) = true := decide_eq_true (by omega)
  by_cases h4 : 2147483648 ≤ s
  · have e : okH L s = false := decide_eq_false (by omega)
    rw [e]
    have g4 : decide (s < 2147483648) = false := decide_eq_false (by omega)
    clear h1 h2 h3 h4
    go_enter Try.func24, Try.ntmps24
    go_wp2
    go_ret
    exact ⟨rfl, b0⟩
  have g4 : decide (s < 2147483648) = true := decide_eq_true (by omega)
  have e : okH L s = true := decide_eq_true (by omega)
  rw [e]
  clear h1 h2 h3 h4
  go_enter Try.func24, Try.ntmps24
  go_wp2
  go_ret
  exact ⟨rfl, b0⟩

/-- Are all of these flags set? -/
def hasB (f flag : Int) : Bool := f.toNat &&& flag.toNat == flag.toNat
theorem andNot_nat : ∀ a : Fin 256, ∀ b : Fin 256, (a.1 &&& (255 - b.1) == 0) = (b.1 &&& a.1 == a.1) := by decide +kernel
theorem hasNot (f flag : Int) (f0 : 0 ≤ f) (f1 : f ≤ 255) (g0 : 0 ≤ flag) (g1 : flag ≤ 255) : (bits .andNot .u8 flag f == 0) = hasB f flag := by
  obtain ⟨a, rfl⟩ := toNat_lit g0
  obtain ⟨b, rfl⟩ := toNat_lit f0
  rw [u8_andNot _ _ g0 (by omega) f0 (by omega)]
  have := andNot_nat ⟨a, by omega⟩ ⟨b, by omega⟩
  unfold hasB
  simp only [Int.toNat_natCast]
  rw [← this, Bool.eq_iff_iff]
  simp
theorem hasAnd (f flag : Int) (f0 : 0 ≤ f) (f1 : f ≤ 255) (g0 : 0 ≤ flag) (g1 : flag ≤ 255) : (bits .and .u8 f flag == flag) = hasB f flag := by
  obtain ⟨a, rfl⟩ := toNat_lit g0
  obtain ⟨b, rfl⟩ := toNat_lit f0
  rw [u8_and _ _ f0 (by omega) g0 (by omega)]
  unfold hasB
  simp only [Int.toNat_natCast]
  rw [Bool.eq_iff_iff]
  simp
  omega

end Go.Proofs.Ythcnfalfhdeflaa
