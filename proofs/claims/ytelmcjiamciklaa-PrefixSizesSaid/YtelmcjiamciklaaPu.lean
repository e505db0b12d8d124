/- The contracts of Upper, and of the document's Upper and Take. -/
import Derived.Test.YtelmcjiamciklaaPr
import Derived.Deep.QuietTactic
import Derived.BigQuiet
namespace Go.Proofs.Ytelmcjiamciklaa
open Go.RowKit Go.Shelf
set_option linter.unusedVariables false

def upperR (l : List Int) (b : Int) : Int × Int :=
  if 1 ≤ b ∧ b ≤ 8 then
    match l with
    | [] => (0, 10)
    | x :: _ => (x / ((2 ^ b.toNat : Nat) : Int) * ((2 ^ b.toNat : Nat) : Int), 0)
  else (0, 2)
def UpperP (w : World) (R : Int × Int) (e : Ending) (W' : World) : Prop := e = .returned (.tuple #[.int .u8 R.1, .int .i64 R.2]) ∧ Below w.heap.size w W'

theorem below_drewN' {B : Nat} {a w : World} (h : Below B a w) (n : Nat) : Below B a (w.drewN n) := ⟨h.os, h.tape, h.output, h.size, h.block⟩

theorem upperOne (b0 o n c : Nat) (x : Int) (k : Nat) (U : Int) (w : World) (hn : 0 < n) (hcx : w.cell? ⟨b0, o, none⟩ = some (.int .u8 x)) (hk1 : 1 ≤ k) (hk2 : k ≤ 8)
    (hU : bits .andNot .u8 x ((2 ^ k - 1) % 256) = U) :
    Calls Try.prog 12 #[.slice (some ⟨b0, o, none⟩) n c, .int .i64 k] w (UpperP w (U, 0)) := by
  have ok : okBits k = true := decide_eq_true (by omega)
  have hne : ((n : Int) == 0) = false := by simp; omega
  have hlt : (0 : Int) < (n : Int) := by omega
  have hb := Below.refl w.heap.size w
  go_enter Try.func12, Try.ntmps12
  go_wp2_with (go_at_call 17; refine (fRight _ _).mono ?_; rintro e w' ⟨rfl, rfl⟩)
  go_quiet (fail)
  go_wp2
  go_ret2
  exact ⟨rfl, below_drewN' hb _⟩

theorem upperNil (A : Option Addr) (c : Nat) (b : Int) (w : World) (ok : okBits b = true) :
    Calls Try.prog 12 #[.slice A 0 c, .int .i64 b] w (UpperP w (0, 10)) := by
  go_enter Try.func12, Try.ntmps12
  go_wp2_with (go_at_call 17; refine (fRight _ _).mono ?_; rintro e w' ⟨rfl, rfl⟩)
  go_ret2
  exact ⟨rfl, Below.refl _ _⟩
theorem upperNo (A : Option Addr) (n c : Nat) (b : Int) (w : World) (ok : okBits b = false) :
    Calls Try.prog 12 #[.slice A n c, .int .i64 b] w (UpperP w (0, 2)) := by
  go_enter Try.func12, Try.ntmps12
  go_wp2_with (go_at_call 17; refine (fRight _ _).mono ?_; rintro e w' ⟨rfl, rfl⟩)
  go_ret2
  exact ⟨rfl, Below.refl _ _⟩

theorem fUpper (A : Option Addr) (n c : Nat) (l : List Int) (b : Int) (w : World) (h : Byt w A n c l) :
    Calls Try.prog 12 #[.slice A n c, .int .i64 b] w (UpperP w (upperR l b)) := by
  unfold upperR
  by_cases hb : 1 ≤ b ∧ b ≤ 8
  · rw [if_pos hb]
    have ok : okBits b = true := decide_eq_true hb
    have hl := h.len
    cases l with
    | nil =>
      simp at hl
      subst hl
      exact upperNil A c b w ok
    | cons x r =>
      simp at hl
      obtain ⟨b0, o, rfl, _, hc⟩ := h.cell (by omega)
      obtain ⟨k, rfl⟩ := toNat_lit (show 0 ≤ b by omega)
      have hx := h.bs x (by simp)
      have hcx := hc 0 (by omega)
      simp only [Nat.add_zero, List.getElem?_cons_zero, Option.getD_some] at hcx
      have hp : 2 ^ k ≤ 2 ^ 8 := Nat.pow_le_pow_right (by decide) (by omega)
      have hp1 := pow_ge (k := k) (by omega)
      simp only [Int.toNat_natCast]
      refine upperOne b0 o n c x k _ w (by omega) hcx (by omega) (by omega) ?_
      rw [show ((2 : Int) ^ k - 1) % 256 = ((2 ^ k - 1 : Nat) : Int) by
        rw [show ((2 : Int) ^ k) = ((2 ^ k : Nat) : Int) by simp]
        generalize 2 ^ k = M at *
        omega]
      exact andNot_mask x k hx.1 hx.2 (by omega)
  · rw [if_neg hb]
    exact upperNo A n c b w (decide_eq_false hb)

theorem rupperOne (b0 o n c : Nat) (x : Int) (k : Nat) (M U : Int) (w : World) (hn : 0 < n) (hcx : w.cell? ⟨b0, o, none⟩ = some (.int .u8 x)) (hk1 : 1 ≤ k) (hk2 : k ≤ 8)
    (x0 : 0 ≤ x) (x1 : x ≤ 255) (M1 : 2 ≤ M) (M2 : M ≤ 256) (U1 : 0 ≤ U) (U2 : U ≤ 255)
    (hsh : wrap64 (2 ^ k) = M) (hU : x / M * M = U) :
    Calls Try.prog 13 #[.slice (some ⟨b0, o, none⟩) n c, .int .i64 k] w (UpperP w (U, 0)) := by
  have hne : ((n : Int) == 0) = false := by simp; omega
  have hlt : (0 : Int) < (n : Int) := by omega
  have hb := Below.refl w.heap.size w
  have hMM : M - 1 + 1 = M := by omega
  have z1 : decide ((k : Int) < 1) = false := decide_eq_false (by omega)
  have z2 : decide (8 < (k : Int)) = false := decide_eq_false (by omega)
  go_enter Try.func13, Try.ntmps13
  go_wp2_with (first
    | (go_at_call 20; refine (fMost k M (by omega) (by omega) (by omega) hsh _).mono ?_; rintro e w' ⟨rfl, rfl⟩))
  go_ret2
  exact ⟨rfl, hb⟩
theorem rupperNil (A : Option Addr) (c : Nat) (b : Int) (w : World) (h1 : 1 ≤ b) (h2 : b ≤ 8) :
    Calls Try.prog 13 #[.slice A 0 c, .int .i64 b] w (UpperP w (0, 10)) := by
  have z1 : decide (b < 1) = false := decide_eq_false (by omega)
  have z2 : decide (8 < b) = false := decide_eq_false (by omega)
  go_enter Try.func13, Try.ntmps13
  go_wp2
  go_ret2
  exact ⟨rfl, Below.refl _ _⟩
theorem rupperNo (A : Option Addr) (n c : Nat) (b : Int) (w : World) (hb : ¬(1 ≤ b ∧ b ≤ 8)) :
    Calls Try.prog 13 #[.slice A n c, .int .i64 b] w (UpperP w (0, 2)) := by
  by_cases h1 : b < 1
  · clear hb
    go_enter Try.func13, Try.ntmps13
    go_wp2
    go_ret2
    exact ⟨rfl, Below.refl _ _⟩
  · have h2 : 8 < b := by omega
    have z1 : decide (b < 1) = false := decide_eq_false (by omega)
    clear hb h1
    go_enter Try.func13, Try.ntmps13
    go_wp2
    go_ret2
    exact ⟨rfl, Below.refl _ _⟩

theorem rUpper (A : Option Addr) (n c : Nat) (l : List Int) (b : Int) (w : World) (h : Byt w A n c l) :
    Calls Try.prog 13 #[.slice A n c, .int .i64 b] w (UpperP w (upperR l b)) := by
  unfold upperR
  by_cases hb : 1 ≤ b ∧ b ≤ 8
  · rw [if_pos hb]
    have hl := h.len
    cases l with
    | nil =>
      simp at hl
      subst hl
      exact rupperNil A c b w hb.1 hb.2
    | cons x r =>
      simp at hl
      obtain ⟨b0, o, rfl, _, hc⟩ := h.cell (by omega)
      obtain ⟨k, rfl⟩ := toNat_lit (show 0 ≤ b by omega)
      have hx := h.bs x (by simp)
      have hcx := hc 0 (by omega)
      simp only [Nat.add_zero, List.getElem?_cons_zero, Option.getD_some] at hcx
      have hp : 2 ^ k ≤ 2 ^ 8 := Nat.pow_le_pow_right (by decide) (by omega)
      have hp1 := pow_ge (k := k) (by omega)
      have hbd := div_mul_bd x _ hx.1 hx.2 k (by omega) rfl
      simp only [Int.toNat_natCast]
      exact rupperOne b0 o n c x k ((2 ^ k : Nat) : Int) _ w (by omega) hcx (by omega) (by omega) hx.1 hx.2 (by omega) (by omega) hbd.1 (by omega) (wrap_pow (by omega)) rfl
  · rw [if_neg hb]
    exact rupperNo A n c b w hb
end Go.Proofs.Ytelmcjiamciklaa
