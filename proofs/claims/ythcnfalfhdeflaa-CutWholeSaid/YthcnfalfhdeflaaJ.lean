/- A region that draws its order, walked by hand: many operations that only read or reckon, taken at once. -/
import Derived.Test.YthcnfalfhdeflaaI
namespace Go.Proofs.Ythcnfalfhdeflaa
open Go.RowKit Go.Shelf
set_option linter.unusedVariables false

section
variable {P : Program} {ops : Array Oper} {Q : Exit → Act → World → Prop} {md : Region.Mode} {S : World → Prop} {ex : List Nat}
/-- These operations, one behind the other, yield their values in every world that meets S; behind them K. -/
def pureW (P : Program) (ops : Array Oper) (S : World → Prop) : List Nat → (Act → Prop) → Act → Prop
  | [], K, a => K a
  | i :: r, K, a => ∃ o v, ops[i]? = some o ∧ YieldsIf P ops S o v a ∧ pureW P ops S r K (a.put o.dst v)
theorem pureW_nil {K : Act → Prop} {a : Act} (h : K a) : pureW P ops S [] K a := h
theorem pureW_step {i : Nat} {r : List Nat} {K : Act → Prop} {a : Act} {o : Oper} {v : Value} (ho : ops[i]? = some o) (hw : Region.wanted o (yielded ops a.tmps) = true) (hy : ∀ w, S w → (execOp a.eval o).run P w = .ok (.value v) w)
    (h : pureW P ops S r K (a.put o.dst v)) : pureW P ops S (i :: r) K a := ⟨o, v, ho, .inl ⟨hw, hy⟩, h⟩
theorem pureW_skip {i : Nat} {r : List Nat} {K : Act → Prop} {a : Act} {o : Oper} (ho : ops[i]? = some o) (hw : Region.wanted o (yielded ops a.tmps) = false)
    (h : pureW P ops S r K (a.put o.dst undef)) : pureW P ops S (i :: r) K a := ⟨o, undef, ho, .inr ⟨hw, rfl⟩, h⟩
/-- They may be taken so, by computation. -/
def takesB (md : Region.Mode) (ops : Array Oper) (ex : List Nat) : List Nat → Array Bool → Bool
  | [], _ => true
  | i :: r, L => Region.noSelect ops && Region.free md ops L i && (Region.ready md ops L).contains i && waitB md ops ex i && takesB md ops ex r (L.setIfInBounds i true)
theorem wpAnyG_takes (js : List Nat) {fuel : Nat} {listed : Array Bool} {a : Act} {w : World} (hc : takesB md ops ex js listed = true)
    (hQ : ∀ d v c a w, Q (.panic c) (a.put d v) w → Q (.panic c) a w) (hS : S w)
    (h : pureW P ops S js (fun a' => wpAnyG P md ops Q S ex fuel (js.foldl (fun L i => L.setIfInBounds i true) listed) a' w) a) : wpAnyG P md ops Q S ex (fuel + js.length) listed a w := by
  induction js generalizing listed a with
  | nil => exact h
  | cons i r ih =>
    obtain ⟨o, v, ho, hy, hr⟩ := h
    simp only [takesB, Bool.and_eq_true] at hc
    obtain ⟨⟨⟨⟨h1, h2⟩, h3⟩, h4⟩, h5⟩ := hc
    refine wpAnyG_take i ho (by simp only [Bool.and_eq_true]; exact ⟨⟨⟨h1, h2⟩, h3⟩, h4⟩) (fun c a w => hQ _ _ _ _ _) hS hy ?_
    exact ih h5 hr
/-- The same, how many are left by computation. -/
theorem wpAnyG_takesF (js : List Nat) (fuel : Nat) {fuel' : Nat} {listed : Array Bool} {a : Act} {w : World} (hf : fuel' = fuel + js.length) (hc : takesB md ops ex js listed = true)
    (hQ : ∀ d v c a w, Q (.panic c) (a.put d v) w → Q (.panic c) a w) (hS : S w)
    (h : pureW P ops S js (fun a' => wpAnyG P md ops Q S ex fuel (js.foldl (fun L i => L.setIfInBounds i true) listed) a' w) a) : wpAnyG P md ops Q S ex fuel' listed a w := by
  subst hf
  exact wpAnyG_takes js hc hQ hS h
end
/-- The regions of a code, in the order of the text. -/
def regsOf : Code → List (Array Oper)
  | .region _ ops _ => [ops]
  | .seq a b => regsOf a ++ regsOf b
  | .cond _ a b => regsOf a ++ regsOf b
  | .block _ c => regsOf c
  | .loop c => regsOf c
  | .rangeFunc _ _ x y => regsOf x ++ regsOf y
  | .scope c => regsOf c
  | _ => []
/-- The first region of a function that has n operations. -/
noncomputable def regOf (f : Func) (n : Nat) : Array Oper := (((f.body.map regsOf).getD []).find? fun r => r.size == n).getD #[]
section
variable {P : Program} {ops : Array Oper} {Q : Exit → Act → World → Prop}
/-- The beginning, with the operations and what follows behind names. -/
theorem wp_region_N (ops' : Array Oper) (S : World → Prop) {id : Nat} {a : Act} {w : World} (hm : P.follows .mixedOrders = true) (ho : ops = ops')
    (hp : ∀ d v c a w, Q (.panic c) (a.put d v) w → Q (.panic c) a w)
    (h : ∀ Q' : Exit → Act → World → Prop, Hid (Q' = Q) → (∀ d v c a w, Q' (.panic c) (a.put d v) w → Q' (.panic c) a w) → wpAnyG P .any ops' Q' S [] ops'.size (Array.replicate ops'.size false) a w.drew) : (Code.region id ops true).wp P Q a w := by
  subst ho
  exact wp_region_G S [] hm (h Q (Lib.hid rfl) hp)
/-- Number i is carried out, a call or an allocation. -/
theorem wpAnyG_oneN {md : Region.Mode} {S : World → Prop} (i fuel : Nat) {o : Oper} {fuel' : Nat} {listed : Array Bool} {a : Act} {w : World} (hf : fuel' = fuel + 1) (hr : Region.ready md ops listed = [i]) (ho : ops[i]? = some o)
    (hw : Region.wanted o (yielded ops a.tmps) = true)
    (h : ∀ K : Act → World → Prop, Shut (∀ a w, S w → wpAnyG P md ops Q S [] fuel (listed.setIfInBounds i true) a w → K a w) → Oper.wp P o a w K Q) :
    wpAnyG P md ops Q S [] fuel' listed a w := by
  subst hf
  refine wpAnyG_one i hr ho fun K hK => ?_
  rw [if_pos hw]
  exact h K (fun a w hS => hK.out a w (fun _ => hS))
end
end Go.Proofs.Ythcnfalfhdeflaa
