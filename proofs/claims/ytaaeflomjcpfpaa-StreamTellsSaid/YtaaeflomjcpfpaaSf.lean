/- Streams: which may be, one's own, the same: the contracts. -/
import Derived.Test.YtaaeflomjcpfpaaSe
namespace Go.Proofs.Ytaaeflomjcpfpaa
open Go.RowKit Go.Shelf
set_option linter.unusedVariables false

structure Str where
  id : Int
  st : Int
  sd : Int
  rc : Int
  ow : Int
  an : Bool
  en : Bool
  out : List Int
  ur : Int
  inc : Bool
  sl : Int
deriving DecidableEq
structure StrOk (s : Str) : Prop where
  id : -9223372036854775808 ≤ s.id ∧ s.id ≤ 9223372036854775807
  st : 0 ≤ s.st ∧ s.st ≤ 255
  sd : -9223372036854775808 ≤ s.sd ∧ s.sd ≤ 9223372036854775807
  rc : -9223372036854775808 ≤ s.rc ∧ s.rc ≤ 9223372036854775807
  ow : -9223372036854775808 ≤ s.ow ∧ s.ow ≤ 9223372036854775807
  ur : 0 ≤ s.ur ∧ s.ur ≤ 255
  sl : -9223372036854775808 ≤ s.sl ∧ s.sl ≤ 9223372036854775807
  bs : Bs s.out
def RightS (s : Str) : Prop :=
  (1 ≤ s.id ∧ s.id ≤ 2147483647 ∧ s.id % 2 = 1) ∧ (1 ≤ s.st ∧ s.st < 7) ∧ (-2147483647 ≤ s.sd ∧ s.sd ≤ 2147483647) ∧ (0 ≤ s.rc ∧ s.rc ≤ 2147483647) ∧ (0 ≤ s.ow ∧ s.ow ≤ 2147483647) ∧ s.out.length ≤ 65535 ∧ s.ur ≤ 7 ∧
    (-1 ≤ s.sl ∧ s.sl ≤ 7) ∧ ((s.st = 1 ∨ s.st = 2) ∨ (s.out.length = 0 ∧ s.en = false))
instance (s : Str) : Decidable (RightS s) := by unfold RightS; infer_instance
def rightS (s : Str) : Bool := decide (RightS s)
theorem rightS_yes {s : Str} (h : RightS s) : rightS s = true := decide_eq_true h
theorem rightS_no {s : Str} (h : ¬RightS s) : rightS s = false := decide_eq_false h

theorem ansB_yes {st : Int} (h : ansB st = true) : st = 1 ∨ st = 2 := by simpa [ansB] using h
theorem ansB_no {st : Int} (h : ansB st = false) : ¬(st = 1 ∨ st = 2) := by simpa [ansB] using h
theorem and_one (x : Int) : bits .and .i64 x 1 = x % 2 := by
  have h : bits .and .i64 x 1 = IntKind.i64.wrap (((BitVec.ofInt 64 x &&& BitVec.ofInt 64 1).toNat : Nat) : Int) := rfl
  rw [h]
  have e : (BitVec.ofInt 64 x &&& BitVec.ofInt 64 1).toNat = ((x % 18446744073709551616).toNat) % 2 := by
    rw [BitVec.toNat_and, BitVec.toNat_ofInt]
    have : (BitVec.ofInt 64 1).toNat = 1 := by decide
    rw [this, Nat.and_one_is_mod]
    rfl
  rw [e]
  have : IntKind.i64.wrap ((((x % 18446744073709551616).toNat % 2 : Nat)) : Int) = (((x % 18446744073709551616).toNat % 2 : Nat) : Int) := by
    have h2 : (x % 18446744073709551616).toNat % 2 < 2 := Nat.mod_lt _ (by decide)
    generalize (x % 18446744073709551616).toNat % 2 = r at *
    rcases (by omega : r = 0 ∨ r = 1) with rfl | rfl <;> rfl
  rw [this]
  omega
end Go.Proofs.Ytaaeflomjcpfpaa
