/- Whole structs at an operation that comes up alone. -/
import Derived.Test.YthcnfalfhdeflaaSx
import Derived.Test.YthcnfalfhdeflaaJ
namespace Go.Proofs.Ythcnfalfhdeflaa
open Go.RowKit
set_option linter.unusedVariables false

section
variable {P : Program} {W : World} {ops : Array Oper} {o : Oper} {a : Act} {Q : Exit → Act → World → Prop} {K : Act → World → Prop} {g : Nat} {t : TypeId} {old cells : Array Value}
theorem exec_getB {ty : TypeId} {x : Operand} (ho : o.op = .load ty x) (hx : a.eval x = .pointer (some ⟨g, 0, none⟩)) (q : Blk W g t old) {d : TypeDesc} (hu : P.underlying ty = some d) (hd : (match d with | .struct _ | .array _ _ => true | _ => false) = true)
    (hi : (P.info? ty).map (·.size) = some old.size) : (execOp a.eval o).run P W = .ok (.value (.agg old)) W := by
  unfold execOp
  simp only [ho, hx, Instr.loadAt, Instr.sureAddr, Sem.run_bind, Sem.run_pure, Result.andThen_ok, run_loadVar_row W g t ty old (0, 0) d q hu hd hi]
theorem wp_putB (ty : TypeId) (x y : Operand) (ho : o.op = .store ty x y) (hx : a.eval x = .pointer (some ⟨g, 0, none⟩)) (hy : a.eval y = .agg cells)
    (q : Blk W g t old) (hi : (P.info? ty).map (·.size) = some cells.size) (hold : old.size = cells.size) (h1 : cells.toList.all (·.oneCell') = true)
    (h : ∀ W', Blk W' g t cells → W.grownBy W' (some g) → K (a.put o.dst undef) W') : Oper.wp P o a W K Q :=
  wp_store_row ty x y ho g cells hx hy t old q hi hold (by rw [← Array.all_toList]; exact h1) (h _ (setRow_heap W g old cells t (0, 0) q) (setRow_grown W g cells))
theorem wpList_id {rest : List Oper} (h : wpList P ops Q rest a W) : wpList P ops Q rest a W := h
end
end Go.Proofs.Ythcnfalfhdeflaa
