/- Guarded loads of whole structs, calls' results' fields. -/
import Derived.Test.YthcnfalfhdeflaaSy
namespace Go.Proofs.Ythcnfalfhdeflaa
open Go.RowKit
set_option linter.unusedVariables false

section
variable {P : Program} {W : World} {ops : Array Oper} {rest : List Oper} {o : Oper} {a : Act} {Q : Exit → Act → World → Prop} {g : Nat} {t : TypeId} {old : Array Value}
/-- A whole value is loaded, under a guard that stands. -/
theorem wpList_getG (hw : Region.wanted o (yielded ops a.tmps) = true) (ty : TypeId) (x : Operand) (ho : o.op = .load ty x) (hx : a.eval x = .pointer (some ⟨g, 0, none⟩))
    (q : Blk W g t old) {d : TypeDesc} (hu : P.underlying ty = some d) (hd : (match d with | .struct _ | .array _ _ => true | _ => false) = true) (hi : (P.info? ty).map (·.size) = some old.size)
    (h : wpList P ops Q rest (a.put o.dst (.agg old)) W) : wpList P ops Q (o :: rest) a W := by
  refine wpList_step fun K hK => ?_
  rw [if_pos hw]
  unfold Oper.wp
  rw [exec_getB ho hx q hu hd hi]
  exact hK _ _ h
end
end Go.Proofs.Ythcnfalfhdeflaa
