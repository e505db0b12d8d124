/- A region that draws its order, walked by hand: cells that hold values; operations that are not carried out. -/
import Derived.Test.YthcnfalfhdeflaaJ
namespace Go.Proofs.Ythcnfalfhdeflaa
open Go.RowKit Go.Shelf
set_option linter.unusedVariables false

/-- These cells hold these values. -/
def CellsAt : List (Addr × Value) → World → Prop
  | [], _ => True
  | x :: r, w => w.cell? x.1 = some x.2 ∧ CellsAt r w
theorem CellsAt.below {l : List (Addr × Value)} {w w' : World} (h : CellsAt l w) (hb : Below w.heap.size w w') : CellsAt l w' := by
  induction l with
  | nil => trivial
  | cons x r ih => exact ⟨(hb.cell (World.block_lt_of_cell? w x.1 h.1)).trans h.1, ih h.2⟩
section
variable {P : Program} {ops : Array Oper} {Q : Exit → Act → World → Prop}
/-- Number i is not carried out: its guard says no. -/
theorem wpAnyG_skipN {md : Region.Mode} {S : World → Prop} (i fuel : Nat) {o : Oper} {fuel' : Nat} {listed : Array Bool} {a : Act} {w : World} (hf : fuel' = fuel + 1) (hr : Region.ready md ops listed = [i]) (ho : ops[i]? = some o)
    (hw : Region.wanted o (yielded ops a.tmps) = false) (hS : S w) (h : wpAnyG P md ops Q S [] fuel (listed.setIfInBounds i true) (a.put o.dst undef) w) :
    wpAnyG P md ops Q S [] fuel' listed a w := by
  subst hf
  refine wpAnyG_one i hr ho fun K hK => ?_
  rw [hw]
  exact hK.out _ _ (fun _ => hS) h
end
/-- What an operation yields hangs on its operands alone. -/
structure Rho (ρ : Operand → Value) : Prop where
  const : ∀ v, ρ (.const v) = v
  global : ∀ g, ρ (.global g) = .pointer (some ⟨g, 0, none⟩)
  func : ∀ f, ρ (.func f) = .func (.func f) #[] #[]
theorem Rho.eval (a : Act) : Rho a.eval := ⟨fun _ => rfl, fun _ => rfl, fun _ => rfl⟩
section
variable {P : Program} {ops : Array Oper} {S : World → Prop} {i : Nat} {r : List Nat} {K : Act → Prop} {a : Act} {o : Oper} {v : Value}
theorem pureW_e0 (ho : ops[i]? = some o) (hw : Region.wanted o (yielded ops a.tmps) = true) (hy : ∀ ρ, Rho ρ → ∀ w, S w → (execOp ρ o).run P w = .ok (.value v) w)
    (h : pureW P ops S r K (a.put o.dst v)) : pureW P ops S (i :: r) K a := pureW_step ho hw (fun w => hy a.eval (Rho.eval a) w) h
theorem pureW_e1 (n1 : Nat) {v1 : Value} (ho : ops[i]? = some o) (hw : Region.wanted o (yielded ops a.tmps) = true) (h1 : a.eval (.tmp n1) = v1) (hy : ∀ ρ, Rho ρ → ρ (.tmp n1) = v1 → ∀ w, S w → (execOp ρ o).run P w = .ok (.value v) w)
    (h : pureW P ops S r K (a.put o.dst v)) : pureW P ops S (i :: r) K a := pureW_step ho hw (fun w => hy a.eval (Rho.eval a) h1 w) h
theorem pureW_e2 (n1 n2 : Nat) {v1 v2 : Value} (ho : ops[i]? = some o) (hw : Region.wanted o (yielded ops a.tmps) = true) (h1 : a.eval (.tmp n1) = v1) (h2 : a.eval (.tmp n2) = v2) (hy : ∀ ρ, Rho ρ → ρ (.tmp n1) = v1 → ρ (.tmp n2) = v2 → ∀ w, S w → (execOp ρ o).run P w = .ok (.value v) w)
    (h : pureW P ops S r K (a.put o.dst v)) : pureW P ops S (i :: r) K a := pureW_step ho hw (fun w => hy a.eval (Rho.eval a) h1 h2 w) h
theorem pureW_e3 (n1 n2 n3 : Nat) {v1 v2 v3 : Value} (ho : ops[i]? = some o) (hw : Region.wanted o (yielded ops a.tmps) = true) (h1 : a.eval (.tmp n1) = v1) (h2 : a.eval (.tmp n2) = v2) (h3 : a.eval (.tmp n3) = v3) (hy : ∀ ρ, Rho ρ → ρ (.tmp n1) = v1 → ρ (.tmp n2) = v2 → ρ (.tmp n3) = v3 → ∀ w, S w → (execOp ρ o).run P w = .ok (.value v) w)
    (h : pureW P ops S r K (a.put o.dst v)) : pureW P ops S (i :: r) K a := pureW_step ho hw (fun w => hy a.eval (Rho.eval a) h1 h2 h3 w) h
end
end Go.Proofs.Ythcnfalfhdeflaa
