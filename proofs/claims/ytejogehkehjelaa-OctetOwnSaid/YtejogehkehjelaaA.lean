/- append([]byte, ..) of bytes that are made empty just now: a copy. -/
import Derived.Test.YtejogehkehjelaaBf
namespace Go.Proofs.Ytejogehkehjelaa
open Go.RowKit Go.ChangeShapes Go.WideShapes

/-- append([]byte (of none), u...). -/
theorem wpList_copy (W : World) {ops : Array Oper} {rest : List Oper} {o : Oper} {a : Act} {Q : Exit → Act → World → Prop} (hgd : o.guard = none) (s x : Operand)
    (ho : o.op = .call { callee := .builtin .append, args := #[s, x], argTypes := #[22, 22] })
    {g0 : Nat} (hs : a.eval s = .slice (some ⟨g0, 0, none⟩) 0 0) (hg0 : W.heap.size = g0)
    (B : Option Addr) (m d : Nat) (l' : List Int) (hx : a.eval x = .slice B m d) (hr : Byt W B m d l') (hlen : m ≤ 140737488355328)
    (h : ∀ A' c' w', Mine W.heap.size w' A' m c' l' → Below W.heap.size W w' → wpList Try.prog ops Q rest (a.put o.dst (.slice A' m c')) w') : wpList Try.prog ops Q (o :: rest) a (W.alloc (.cells #[] 5)) := by
  subst hg0
  have hl' := hr.len
  refine wpList_app _ hgd s x ho W.heap.size (some ⟨W.heap.size, 0, none⟩) 0 0 [] hs (by exact Mine.lit W [] (Nat.le_refl _) Bs.nil (by simp) 0 rfl) B m d l' hx (hr.alloc _) (by simp; omega) (by simp) ?_
  intro A' c' w' h1 h2 _ _
  rw [Nat.zero_add] at h1 ⊢
  exact h A' c' w' (by simpa using h1) (((Below.refl _ _).alloc (Nat.le_refl _) _).trans h2)
end Go.Proofs.Ytejogehkehjelaa
