/- Whole structs: stored into a block, loaded out of it, handed back out of it. -/
import Derived.Test.YthcnfalfhdeflaaL
import Derived.Laws.Tables
namespace Go.Proofs.Ythcnfalfhdeflaa
open Go.RowKit
set_option linter.unusedVariables false

theorem Bel.grown {W w w' : World} (h : Bel W w) {g : Nat} (hg : w.grownBy w' (some g)) (hle : W.heap.size ≤ g) : Bel W w' :=
  ⟨h.out.grown hg h.out.size (fun k e => by simp at e; omega)⟩
theorem Blk.grown {W W' : World} {b g : Nat} {t : TypeId} {cs : Array Value} (h : Blk W b t cs) (hg : W.grownBy W' (some g)) (hne : b ≠ g) : Blk W' b t cs :=
  (hg.block b h.lt (fun e => hne (by simpa using e))).trans h
theorem Mine.grownB {W W' : World} {g : Nat} {t : TypeId} {cs : Array Value} {base : Nat} {A : Option Addr} {n c : Nat} {l : List Int} (hm : Mine base W A n c l) (q : Blk W g t cs) (ht : t ≠ 5) (hg : W.grownBy W' (some g)) : Mine base W' A n c l :=
  hm.grown hg (fun g' e e' => q.not_row ht hm g' e (by simpa using e'))
theorem setRow_grown (w : World) (g : Nat) (cs : Array Value) : w.grownBy (w.setRow g cs) (some g) := ⟨rfl, rfl, rfl, by simp, fun k _ hk => setRow_other w g k cs (fun e => hk (by rw [e]))⟩
section
variable {P : Program} {W : World} {ops : Array Oper} {rest : List Oper} {o : Oper} {a : Act} {Q : Exit → Act → World → Prop} {g : Nat} {t : TypeId} {old cells : Array Value}
/-- A whole value is stored. -/
theorem wpList_putB (hgd : o.guard = none) (ty : TypeId) (x y : Operand) (ho : o.op = .store ty x y) (hx : a.eval x = .pointer (some ⟨g, 0, none⟩)) (hy : a.eval y = .agg cells)
    (q : Blk W g t old) (hi : (P.info? ty).map (·.size) = some cells.size) (hold : old.size = cells.size) (h1 : cells.toList.all (·.oneCell') = true)
    (h : ∀ W', Blk W' g t cells → W.grownBy W' (some g) → wpList P ops Q rest (a.put o.dst undef) W') : wpList P ops Q (o :: rest) a W :=
  wpList_plain hgd fun K hK => wp_store_row ty x y ho g cells hx hy t old q hi hold (by rw [← Array.all_toList]; exact h1) (hK _ _ (h _ (setRow_heap W g old cells t (0, 0) q) (setRow_grown W g cells)))
/-- A whole value is loaded. -/
theorem wpList_getB (hgd : o.guard = none) (ty : TypeId) (x : Operand) (ho : o.op = .load ty x) (hx : a.eval x = .pointer (some ⟨g, 0, none⟩))
    (q : Blk W g t old) {d : TypeDesc} (hu : P.underlying ty = some d) (hd : (match d with | .struct _ | .array _ _ => true | _ => false) = true) (hi : (P.info? ty).map (·.size) = some old.size)
    (h : wpList P ops Q rest (a.put o.dst (.agg old)) W) : wpList P ops Q (o :: rest) a W := by
  refine wpList_plain hgd fun K hK => ?_
  unfold Oper.wp execOp
  simp only [ho, hx, Instr.loadAt, Instr.sureAddr, Sem.run_bind, Sem.run_pure, Result.andThen_ok, run_loadVar_row W g t ty old (0, 0) d q hu hd hi]
  exact hK _ _ h
end
/-- What a cell of a result holds. -/
theorem Blk.out {P : Program} {W : World} {g : Nat} {t : TypeId} {cs : Array Value} (q : Blk W g t cs) {ty : TypeId} {d : TypeDesc} (hu : P.underlying ty = some d) (hd : (match d with | .struct _ | .array _ _ => true | _ => false) = true)
    (hi : (P.info? ty).map (·.size) = some cs.size) : (loadVar ty ⟨g, 0, none⟩).run P W = .ok (.agg cs) W := run_loadVar_row W g t ty cs (0, 0) d q hu hd hi
/-- How a result is handed back out of its cell: alone, ahead of another result, ahead of another cell. -/
theorem res1 {P : Program} {f : Func} {n : Nat} {ty : TypeId} {d : TypeDesc} (hf : f.results = #[.cell n ty]) {R : Ending → World → Prop} {a : Act} {W : World} {g : Nat} {t : TypeId} {cs : Array Value} (ha : a.tmps[n]?.getD undef = .pointer (some ⟨g, 0, none⟩)) (hd : a.defers = [])
    (q : Blk W g t cs) (hu : P.underlying ty = some d) (hdd : (match d with | .struct _ | .array _ _ => true | _ => false) = true) (hi : (P.info? ty).map (·.size) = some cs.size) (hR : R (.returned (.agg cs)) W) : bodyPost P f R .ret a W := by
  have := q.out hu hdd hi
  exact bodyPost_ret (v := .agg cs) (by simp [results, hf, asAddr, ha, this]) hd hR
theorem res2ct {P : Program} {f : Func} {n m : Nat} {ty : TypeId} {d : TypeDesc} (hf : f.results = #[.cell n ty, .tmp m]) {R : Ending → World → Prop} {a : Act} {W : World} {g : Nat} {t : TypeId} {cs : Array Value} {v : Value} (ha : a.tmps[n]?.getD undef = .pointer (some ⟨g, 0, none⟩)) (hv : a.tmps[m]?.getD undef = v) (hd : a.defers = [])
    (q : Blk W g t cs) (hu : P.underlying ty = some d) (hdd : (match d with | .struct _ | .array _ _ => true | _ => false) = true) (hi : (P.info? ty).map (·.size) = some cs.size) (hR : R (.returned (.tuple #[.agg cs, v])) W) : bodyPost P f R .ret a W := by
  have := q.out hu hdd hi
  exact bodyPost_ret (v := .tuple #[.agg cs, v]) (by simp [results, hf, asAddr, ha, hv, this]) hd hR
theorem res2cc {P : Program} {f : Func} {n m : Nat} {ty ty' : TypeId} {d d' : TypeDesc} (hf : f.results = #[.cell n ty, .cell m ty']) {R : Ending → World → Prop} {a : Act} {W : World} {g g' : Nat} {t t' : TypeId} {cs cs' : Array Value} (ha : a.tmps[n]?.getD undef = .pointer (some ⟨g, 0, none⟩)) (ha' : a.tmps[m]?.getD undef = .pointer (some ⟨g', 0, none⟩)) (hd : a.defers = [])
    (q : Blk W g t cs) (hu : P.underlying ty = some d) (hdd : (match d with | .struct _ | .array _ _ => true | _ => false) = true) (hi : (P.info? ty).map (·.size) = some cs.size)
    (q' : Blk W g' t' cs') (hu' : P.underlying ty' = some d') (hdd' : (match d' with | .struct _ | .array _ _ => true | _ => false) = true) (hi' : (P.info? ty').map (·.size) = some cs'.size) (hR : R (.returned (.tuple #[.agg cs, .agg cs'])) W) : bodyPost P f R .ret a W := by
  have h1 := q.out hu hdd hi
  have h2 := q'.out hu' hdd' hi'
  exact bodyPost_ret (v := .tuple #[.agg cs, .agg cs']) (by simp [results, hf, asAddr, ha, ha', h1, h2]) hd hR
end Go.Proofs.Ythcnfalfhdeflaa
