/- One field of a struct in a block: stored, loaded. -/
import Derived.Test.YthcnfalfhdeflaaSv
namespace Go.Proofs.Ythcnfalfhdeflaa
open Go.RowKit
set_option linter.unusedVariables false

section
variable {P : Program} {W : World} {ops : Array Oper} {rest : List Oper} {o : Oper} {a : Act} {Q : Exit → Act → World → Prop} {g i : Nat} {t : TypeId} {old : Array Value} {v u : Value}
theorem run_storeVar_fld (q : Blk W g t old) (hi : old[i]? = some u) {ty : TypeId} (hs : (P.info? ty).map (·.size) = some 1) (h1 : v.oneCell' = true) : (storeVar ty ⟨g, i, none⟩ v).run P W = .ok () (W.setCell ⟨g, i, none⟩ v) := by
  have hc := q.at i hi
  have hf := q.frozen i
  cases hq : P.info? ty with
  | none => simp [hq] at hs
  | some j =>
    have hs' : j.size = 1 := by simpa [hq] using hs
    have hv : v.cells = #[v] := by cases v <;> first | rfl | (simp [Value.oneCell'] at h1)
    have h2 : (storeCells ⟨g, i, none⟩ [v] 0).run P W = .ok () (W.setCell ⟨g, i, none⟩ v) := by
      have hst := run_store P W ⟨g, i, none⟩ v .plain h1
      rw [hc] at hst
      simp only [hf] at hst
      have e0 : (⟨g, i, none⟩ : Addr).add 0 = ⟨g, i, none⟩ := by simp [Addr.add]
      simp [storeCells, e0, hst]
    simp [storeVar, sizeOf, typeInfo, hq, hs', hv, h2]
/-- A field is stored. -/
theorem wpList_putF (hgd : o.guard = none) (ty : TypeId) (x y : Operand) (ho : o.op = .store ty x y) (hx : a.eval x = .pointer (some ⟨g, i, none⟩)) (hy : a.eval y = v)
    (q : Blk W g t old) (hi : old[i]? = some u) (hs : (P.info? ty).map (·.size) = some 1) (h1 : v.oneCell' = true)
    (h : ∀ W', Blk W' g t (old.setIfInBounds i v) → W.grownBy W' (some g) → wpList P ops Q rest (a.put o.dst undef) W') : wpList P ops Q (o :: rest) a W := by
  refine wpList_plain hgd fun K hK => ?_
  unfold Oper.wp execOp
  simp only [ho, hx, hy, Instr.storeAt, Instr.sureAddr, Sem.run_bind, Sem.run_pure, Result.andThen_ok, run_storeVar_fld q hi hs h1]
  exact hK _ _ (h _ (q.set i v) ⟨rfl, rfl, rfl, by simp, fun k _ hk => Below.heap_setCell W ⟨g, i, none⟩ v k (fun e => hk (by rw [e]))⟩)
end
end Go.Proofs.Ythcnfalfhdeflaa
