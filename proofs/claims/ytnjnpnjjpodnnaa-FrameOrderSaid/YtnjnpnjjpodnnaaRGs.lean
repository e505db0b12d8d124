/- Stores of fields and of inner structs at an operation that comes up alone; loads of inner structs. -/
import Derived.Test.YtnjnpnjjpodnnaaRYF
import Derived.Deep.MidRow
namespace Go.Proofs.Ytnjnpnjjpodnnaa
open Go.RowKit Go.Shelf
set_option linter.unusedVariables false
set_option linter.unusedSimpArgs false

def putsA (old : Array Value) : Nat → List Value → Array Value
  | _, [] => old
  | o, v :: r => putsA (old.setIfInBounds o v) (o + 1) r
section
variable {P : Program} {W W' : World} {ops : Array Oper} {rest : List Oper} {o : Oper} {a : Act} {Q : Exit → Act → World → Prop} {K : Act → World → Prop} {g i : Nat} {t : TypeId} {old cells : Array Value} {u v : Value}
theorem Blk.sets : ∀ (vs : List Value) (o : Nat) {W : World} {old : Array Value}, Blk W g t old → Blk (W.setCells g o vs) g t (putsA old o vs)
  | [], _, _, _, q => q
  | v :: r, o, W, old, q => Blk.sets r (o + 1) (q.set o v)
theorem setCell_grown (W : World) (g i : Nat) (v : Value) : W.grownBy (W.setCell ⟨g, i, none⟩ v) (some g) := ⟨rfl, rfl, rfl, by simp, fun k _ hk => Below.heap_setCell W ⟨g, i, none⟩ v k (fun e => hk (by rw [e]))⟩
theorem sets_grown (g : Nat) : ∀ (vs : List Value) (o : Nat) (W : World), W.grownBy (W.setCells g o vs) (some g)
  | [], _, W => ⟨rfl, rfl, rfl, Nat.le_refl _, fun _ _ _ => rfl⟩
  | v :: r, o, W => (setCell_grown W g o v).trans (sets_grown g r (o + 1) _)
theorem Blk.there (q : Blk W g t old) {n : Nat} (h : i + n ≤ old.size) : W.there g i n := fun j hj => by
  have hlt : i + j < old.size := by omega
  rw [q.at (i + j) (Array.getElem?_eq_getElem hlt)]
  exact ⟨rfl, q.frozen _⟩
/-- A field is stored. -/
theorem wp_putF (ty : TypeId) (x y : Operand) (ho : o.op = .store ty x y) (hx : a.eval x = .pointer (some ⟨g, i, none⟩)) (hy : a.eval y = v)
    (q : Blk W g t old) (hi : old[i]? = some u) (hs : (P.info? ty).map (·.size) = some 1) (h1 : v.oneCell' = true)
    (h : ∀ W', Blk W' g t (old.setIfInBounds i v) → W.grownBy W' (some g) → K (a.put o.dst undef) W') : Oper.wp P o a W K Q := by
  unfold Oper.wp execOp
  simp only [ho, hx, hy, Instr.storeAt, Instr.sureAddr, Sem.run_bind, Sem.run_pure, Result.andThen_ok, run_storeVar_fld q hi hs h1]
  exact h _ (q.set i v) (setCell_grown W g i v)
/-- An inner struct is stored. -/
theorem wp_putM (ty : TypeId) (x y : Operand) (ho : o.op = .store ty x y) (hx : a.eval x = .pointer (some ⟨g, i, none⟩)) (hy : a.eval y = .agg cells)
    (q : Blk W g t old) (hb : i + cells.size ≤ old.size) (hi : (P.info? ty).map (·.size) = some cells.size) (h1 : cells.toList.all (·.oneCell') = true)
    (h : ∀ W', Blk W' g t (putsA old i cells.toList) → W.grownBy W' (some g) → K (a.put o.dst undef) W') : Oper.wp P o a W K Q :=
  wp_store_mid ty x y ho g i cells hx hy (q.there hb) hi (by rw [← Array.all_toList]; exact h1) (h _ (q.sets cells.toList i) (sets_grown g _ i W))
/-- An inner struct is loaded. -/
theorem exec_getM {ty : TypeId} {x : Operand} {cs : List Value} (ho : o.op = .load ty x) (hx : a.eval x = .pointer (some ⟨g, i, none⟩)) (q : Blk W g t old) (he : (old.extract i (i + cs.length)).toList = cs) {d : TypeDesc} (hu : P.underlying ty = some d) (hd : d.isRow = true)
    (hi : (P.info? ty).map (·.size) = some cs.length) : (execOp a.eval o).run P W = .ok (.value (.agg cs.toArray)) W := by
  have hc : W.rangeAt g i cs := by
    have := World.rangeAt_of_block (show W.heap[g]? = some (.cells old t (0, 0)) from q) i cs.length
    rwa [he] at this
  unfold execOp
  simp only [ho, hx, run_loadAt_mid W g i ty cs d hc hu hd hi, Sem.run_bind, Sem.run_pure, Result.andThen_ok]
theorem wpList_getM (hw : Region.wanted o (yielded ops a.tmps) = true) {cs : List Value} (ty : TypeId) (x : Operand) (ho : o.op = .load ty x) (hx : a.eval x = .pointer (some ⟨g, i, none⟩)) (q : Blk W g t old) (he : (old.extract i (i + cs.length)).toList = cs) {d : TypeDesc} (hu : P.underlying ty = some d) (hd : d.isRow = true)
    (hi : (P.info? ty).map (·.size) = some cs.length) (h : wpList P ops Q rest (a.put o.dst (.agg cs.toArray)) W) : wpList P ops Q (o :: rest) a W := by
  refine wpList_step fun K hK => ?_
  rw [if_pos hw]
  unfold Oper.wp
  rw [exec_getM ho hx q he hu hd hi]
  exact hK _ _ h
end
/-- What lies behind a world, but for one block. -/
structure Gro (g : Nat) (W w : World) : Prop where
  out : W.grownBy w (some g)
theorem Gro.refl (g : Nat) (W : World) : Gro g W W := ⟨⟨rfl, rfl, rfl, Nat.le_refl _, fun _ _ _ => rfl⟩⟩
theorem grown_of_below {W w : World} {g : Nat} (h : Below W.heap.size W w) : W.grownBy w (some g) := ⟨h.os, h.tape, h.output, h.size, fun i hi _ => h.block i hi⟩
theorem Gro.below {g : Nat} {W w w' : World} (h : Gro g W w) (k : Below w.heap.size w w') : Gro g W w' := ⟨h.out.trans (grown_of_below k)⟩
theorem Gro.alloc {g : Nat} {W w : World} (h : Gro g W w) (o : Obj) : Gro g W (w.alloc o) := h.below ((Below.refl _ _).alloc (Nat.le_refl _) o)
theorem Gro.grown {g : Nat} {W w w' : World} (h : Gro g W w) (k : w.grownBy w' (some g)) : Gro g W w' := ⟨h.out.trans k⟩
theorem Gro.drew {g : Nat} {W w : World} (h : Gro g W w) : Gro g W w.drew := h.below (drew_below _ _)
theorem Gro.grownO {g k : Nat} {W w w' : World} (h : Gro g W w) (hg : w.grownBy w' (some k)) (hk : W.heap.size ≤ k) : Gro g W w' :=
  ⟨⟨hg.os.trans h.out.os, hg.tape.trans h.out.tape, hg.output.trans h.out.output, Nat.le_trans h.out.size hg.size, fun i hi hne => (hg.block i (Nat.lt_of_lt_of_le hi h.out.size) (fun e => by cases e; omega)).trans (h.out.block i hi hne)⟩⟩
end Go.Proofs.Ytnjnpnjjpodnnaa
