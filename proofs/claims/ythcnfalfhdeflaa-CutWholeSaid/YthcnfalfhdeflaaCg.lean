/- Feed's range over frames: what a round keeps. -/
import Derived.Test.YthcnfalfhdeflaaCe
namespace Go.Proofs.Ythcnfalfhdeflaa
open Go.RowKit Go.Shelf
set_option linter.unusedVariables false

theorem Byt.sameB {W W' : World} {A : Option Addr} {n c : Nat} {l : List Int} {bb : Nat} (hy : Byt W A n c l) (hs : W.heap.size ≤ W'.heap.size) (hh : W'.heap[bb]? = W.heap[bb]?) (hf : ∀ b o, A = some ⟨b, o, none⟩ → b = bb) : Byt W' A n c l :=
  ⟨hy.len, hy.cap, hy.mx, hy.nn, hy.bs, fun hn => by
    obtain ⟨b, q, e, hlt, hcell⟩ := hy.cell hn
    have := hf b q e
    subst this
    exact ⟨b, q, e, Nat.lt_of_lt_of_le hlt hs, fun i hi => (World.cell?_of_block hh).trans (hcell i hi)⟩⟩
/-- The round's facts: B the buffer's block, O what it holds; q how many bytes of the preface came; l0 the buffer. -/
structure FI (w : World) (bb : Nat) (O : Array Value) (T : TypeId) (q : Int) (l0 : List Int) (Ba : Nat) (pre : List It) (W : World) : Prop where
  pc : ∃ B d es, Blk W (w.heap.size + 1 + 1) 28 #[.slice B pre.length d] ∧ MineC w.heap.size W B pre.length d es ∧ es.map (·.p) = pre.map (·.p)
  le : ∀ x ∈ pre, x.p.L ≤ 16384
  rd : ∃ A n c, Blk W (w.heap.size + 1) 24 #[.int .i64 q, .slice A n c] ∧ Byt W A n c (lastR l0 (pre.map itP)) ∧ ∀ b o, A = some ⟨b, o, none⟩ → b = bb
  fl : Blk W (w.heap.size + 1 + 1 + 1) 31 #[.bool false, .int .i64 0, .int .u32 0]
  bx : ∃ v, Blk W Ba 22 #[v]
  bel : Below w.heap.size w W
  bo : Blk W bb T O
/-- What holds where it stops. -/
structure FX (w : World) (q : Int) (pre : List It) (W : World) : Prop where
  ex : ∃ xs x, pre = xs ++ [x] ∧ (∀ y ∈ xs, y.p.L ≤ 16384) ∧ 16384 < x.p.L ∧ ∃ B d es, Blk W (w.heap.size + 1 + 1) 28 #[.slice B xs.length d] ∧ MineC w.heap.size W B xs.length d es ∧ es.map (·.p) = xs.map (·.p)
  rd : Blk W (w.heap.size + 1) 24 #[.int .i64 q, .slice none 0 0]
  fl : Blk W (w.heap.size + 1 + 1 + 1) 31 #[.bool true, .int .i64 0, .int .u32 6]
  bel : Below w.heap.size w W
theorem Byt.keptN {W W' : World} {A : Option Addr} {n c : Nat} {l : List Int} {row : Option Nat} (h : Byt W A n c l) (hg : W.grownBy W' row) (hr : ∀ r, row = some r → ∃ o : Obj, W.heap[r]? = some o ∧ o.isCells = false) : Byt W' A n c l :=
  ⟨h.len, h.cap, h.mx, h.nn, h.bs, fun hn => by
    obtain ⟨b, o, e, hb, hc⟩ := h.cell hn
    exact ⟨b, o, e, Nat.lt_of_lt_of_le hb hg.size, fun i hi => cell_kept (hc i hi) hg hr⟩⟩
theorem ItE.keptN {base bb : Nat} {x : It} {W W' : World} {row : Option Nat} (h : ItE base bb x W) (hg : W.grownBy W' row) (hr : ∀ r, row = some r → ∃ o : Obj, W.heap[r]? = some o ∧ o.isCells = false) : ItE base bb x W' :=
  ⟨h.1, h.2.1.keptN hg hr, h.2.2.1.keptN hg hr, h.2.2.2⟩
theorem ItE.below {base bb : Nat} {x : It} {W W' : World} (h : ItE base bb x W) (hb : Below W.heap.size W W') : ItE base bb x W' :=
  ⟨h.1, h.2.1.below hb, h.2.2.1.below hb, h.2.2.2⟩
theorem MineC.keptN {base : Nat} {W W' : World} {A : Option Addr} {n c : Nat} {l : List Pe} {row : Option Nat} (h : MineC base W A n c l) (hg : W.grownBy W' row) (hr : ∀ r, row = some r → ∃ o : Obj, W.heap[r]? = some o ∧ o.isCells = false) : MineC base W' A n c l :=
  h.keep (fun g hlt e => by
    subst e
    obtain ⟨cur, hc⟩ := h.row
    exact grownBy_keeps_cells hg hr hc rfl) (fun e he => (h.2 e he).2.keptN hg hr)
theorem Blk.keptN {W W' : World} {b : Nat} {t : TypeId} {cs : Array Value} {row : Option Nat} (q : Blk W b t cs) (hg : W.grownBy W' row) (hr : ∀ r, row = some r → ∃ o : Obj, W.heap[r]? = some o ∧ o.isCells = false) : Blk W' b t cs :=
  (grownBy_keeps_cells hg hr q rfl).trans q
section
variable {w : World} {bb : Nat} {O : Array Value} {T : TypeId} {q : Int} {l0 : List Int} {Ba : Nat} {pre : List It} {W W' : World}
theorem FI.own (B : Nat) (hB : w.heap.size ≤ B) : OwnFrom B (FI w bb O T q l0 Ba) := fun pre X Y row h hg hr => by
  have hr2 : ∀ r, row = some r → ∃ o : Obj, X.heap[r]? = some o ∧ o.isCells = false := fun r e => (hr r e).2
  obtain ⟨⟨B1, d, es, p1, p2, p3⟩, le, ⟨A, n, c, r1, r2, r3⟩, fl, ⟨v, bx⟩, bel, bo⟩ := h
  have bo' := bo.keptN hg hr2
  exact ⟨⟨B1, d, es, p1.keptN hg hr2, p2.keptN hg hr2, p3⟩, le, ⟨A, n, c, r1.keptN hg hr2, r2.sameB hg.size (bo'.trans bo.symm) r3, r3⟩, fl.keptN hg hr2, ⟨v, bx.keptN hg hr2⟩,
    bel.grown hg bel.size (fun r e => by have := (hr r e).1; omega), bo'⟩
theorem FI.below (h : FI w bb O T q l0 Ba pre W) (hb : Below W.heap.size W W') : FI w bb O T q l0 Ba pre W' := by
  obtain ⟨⟨B1, d, es, p1, p2, p3⟩, le, ⟨A, n, c, r1, r2, r3⟩, fl, ⟨v, bx⟩, bel, bo⟩ := h
  exact ⟨⟨B1, d, es, p1.below hb, p2.below hb, p3⟩, le, ⟨A, n, c, r1.below hb, r2.below hb, r3⟩, fl.below hb, ⟨v, bx.below hb⟩, bel.trans (hb.mono bel.size), bo.below hb⟩
theorem FI.priv (h : FI w bb O T q l0 Ba pre W) (hBa : w.heap.size + 1 + 1 + 1 < Ba) (hne : bb ≠ Ba) (v : Value) : FI w bb O T q l0 Ba pre (W.setCell ⟨Ba, 0, none⟩ v) := by
  obtain ⟨⟨B1, d, es, p1, p2, p3⟩, le, ⟨A, n, c, r1, r2, r3⟩, fl, ⟨u, bx⟩, bel, bo⟩ := h
  have hg : W.grownBy (W.setCell ⟨Ba, 0, none⟩ v) (some Ba) := ⟨rfl, rfl, rfl, by simp, fun k _ hk => Below.heap_setCell W ⟨Ba, 0, none⟩ v k (fun e => hk (by rw [e]))⟩
  have bo' := bo.grown hg hne
  exact ⟨⟨B1, d, es, p1.grown hg (by omega), p2.grownB bx (by decide) (by decide) hg, p3⟩, le, ⟨A, n, c, r1.grown hg (by omega), r2.sameB hg.size (bo'.trans bo.symm) r3, r3⟩, fl.grown hg (by omega), ⟨v, bx.set 0 v⟩,
    bel.setCell (p := ⟨Ba, 0, none⟩) (by simp only; omega) v, bo'⟩
theorem FX.own (B : Nat) (hB : w.heap.size ≤ B) : OwnFrom B (FX w q) := fun pre X Y row h hg hr => by
  have hr2 : ∀ r, row = some r → ∃ o : Obj, X.heap[r]? = some o ∧ o.isCells = false := fun r e => (hr r e).2
  obtain ⟨⟨xs, x, e1, e2, e3, B1, d, es, p1, p2, p3⟩, rd, fl, bel⟩ := h
  exact ⟨⟨xs, x, e1, e2, e3, B1, d, es, p1.keptN hg hr2, p2.keptN hg hr2, p3⟩, rd.keptN hg hr2, fl.keptN hg hr2, bel.grown hg bel.size (fun r e => by have := (hr r e).1; omega)⟩
end
/-- A block of another type lies through an append to bytes. -/
theorem Blk.app {W W' : World} {b : Nat} {t : TypeId} {cs : Array Value} (q : Blk W b t cs) (ht : t ≠ 5) {base : Nat} {A : Option Addr} {n c : Nat} {l : List Int} (hm : Mine base W A n c l) (hg : W.grownBy W' (Value.slice A n c).ownBlock) : Blk W' b t cs :=
  (hg.block b q.lt (fun e => by
    rcases hm.cases with ⟨rfl, _⟩ | ⟨g, rfl, _⟩
    · simp [Value.ownBlock] at e
    · simp [Value.ownBlock] at e
      exact q.not_row ht hm g rfl e.symm)).trans q
/-- Through an append to pieces. -/
theorem Blk.appC {W W' : World} {b : Nat} {t : TypeId} {cs : Array Value} (q : Blk W b t cs) (ht : t ≠ 43) {base : Nat} {A : Option Addr} {n c : Nat} {l : List Pe} (hm : MineC base W A n c l) (hg : W.grownBy W' (Value.slice A n c).ownBlock) : Blk W' b t cs :=
  (hg.block b q.lt (fun e => by
    rcases A with _ | ⟨g, o, sp⟩
    · simp [Value.ownBlock] at e
    · rcases hm.1.2 with ⟨e0, _⟩ | ⟨g1, cap, cur, e0, _, hg1, _⟩
      · simp at e0
      · simp at e0
        obtain ⟨⟨rfl, rfl, rfl⟩, _⟩ := e0
        simp [Value.ownBlock] at e
        subst e
        rw [show W.heap[b]? = _ from q] at hg1
        simp at hg1
        exact ht hg1.2)).trans q
/-- The block that bytes of the call's own lie in, or one that is there. -/
theorem Mine.buf {base : Nat} {W : World} {A : Option Addr} {n c : Nat} {l : List Int} (m : Mine base W A n c l) {b0 : Nat} {t0 : TypeId} {cs0 : Array Value} (q : Blk W b0 t0 cs0) (h0 : t0 ≠ 43) :
    ∃ bb O T, Blk W bb T O ∧ T ≠ 43 ∧ (∀ b o, A = some ⟨b, o, none⟩ → b = bb) ∧ ∀ b t cs, Blk W b t cs → t ≠ 5 → b ≠ b0 → bb ≠ b := by
  rcases m.1.2 with ⟨e, _⟩ | ⟨g, cap, cur, e, hb, hg, _⟩
  · simp at e
    obtain ⟨rfl, _⟩ := e
    exact ⟨b0, cs0, t0, q, h0, fun _ _ e => (by cases e), fun b t cs _ _ hb e => hb e.symm⟩
  · simp at e
    obtain ⟨rfl, _⟩ := e
    refine ⟨g, cur, 5, hg, by decide, fun b o e => by cases e; rfl, fun b t cs q' ht _ => ?_⟩
    exact q'.not_row ht m g rfl
section
variable {P : Program} {W : World} {ops : Array Oper} {rest : List Oper} {o : Oper} {a : Act} {Q : Exit → Act → World → Prop} {g i : Nat} {ty' : TypeId} {old cells : Array Value} {u v : Value} {t nF : Nat}
/-- Stores and loads of whole structs within a round. -/
theorem wpListIn_putB (hgd : o.guard = none) (ty : TypeId) (x y : Operand) (ho : o.op = .store ty x y) (hx : a.eval x = .pointer (some ⟨g, 0, none⟩)) (hy : a.eval y = .agg cells)
    (q : Blk W g ty' old) (hi : (P.info? ty).map (·.size) = some cells.size) (hold : old.size = cells.size) (h1 : cells.toList.all (·.oneCell') = true)
    (h : ∀ W', Blk W' g ty' cells → W.grownBy W' (some g) → wpListIn (Fence.wide.inRound t) nF P ops Q rest (a.put o.dst undef) W') : wpListIn (Fence.wide.inRound t) nF P ops Q (o :: rest) a W :=
  wpListIn_plain hgd fun K hK => opIn_of_op (ro := some t) (by rw [ho]; intro c e; cases e) (wp_putB ty x y ho hx hy q hi hold h1 fun W' q' hg => hK _ _ (h W' q' hg))
theorem wpListIn_getB (hgd : o.guard = none) (ty : TypeId) (x : Operand) (ho : o.op = .load ty x) (hx : a.eval x = .pointer (some ⟨g, 0, none⟩))
    (q : Blk W g ty' old) {d : TypeDesc} (hu : P.underlying ty = some d) (hd : (match d with | .struct _ | .array _ _ => true | _ => false) = true) (hi : (P.info? ty).map (·.size) = some old.size)
    (h : wpListIn (Fence.wide.inRound t) nF P ops Q rest (a.put o.dst (.agg old)) W) : wpListIn (Fence.wide.inRound t) nF P ops Q (o :: rest) a W :=
  wpListIn_plain hgd fun K hK => opIn_of_op (ro := some t) (by rw [ho]; intro c e; cases e) (by
    unfold Oper.wp
    rw [exec_getB ho hx q hu hd hi]
    exact hK _ _ h)
/-- A field is stored, at an operation that comes up alone. -/
theorem wp_putF (ty : TypeId) (x y : Operand) (ho : o.op = .store ty x y) (hx : a.eval x = .pointer (some ⟨g, i, none⟩)) (hy : a.eval y = v) {K : Act → World → Prop}
    (q : Blk W g ty' old) (hi : old[i]? = some u) (hs : (P.info? ty).map (·.size) = some 1) (h1 : v.oneCell' = true)
    (h : ∀ W', Blk W' g ty' (old.setIfInBounds i v) → W.grownBy W' (some g) → K (a.put o.dst undef) W') : Oper.wp P o a W K Q := by
  unfold Oper.wp execOp
  simp only [ho, hx, hy, Instr.storeAt, Instr.sureAddr, Sem.run_bind, Sem.run_pure, Result.andThen_ok, run_storeVar_fld q hi hs h1]
  exact h _ (q.set i v) ⟨rfl, rfl, rfl, by simp, fun k _ hk => Below.heap_setCell W ⟨g, i, none⟩ v k (fun e => hk (by rw [e]))⟩
theorem wpListIn_putF (hgd : o.guard = none) (ty : TypeId) (x y : Operand) (ho : o.op = .store ty x y) (hx : a.eval x = .pointer (some ⟨g, i, none⟩)) (hy : a.eval y = v)
    (q : Blk W g ty' old) (hi : old[i]? = some u) (hs : (P.info? ty).map (·.size) = some 1) (h1 : v.oneCell' = true)
    (h : ∀ W', Blk W' g ty' (old.setIfInBounds i v) → W.grownBy W' (some g) → wpListIn (Fence.wide.inRound t) nF P ops Q rest (a.put o.dst undef) W') : wpListIn (Fence.wide.inRound t) nF P ops Q (o :: rest) a W :=
  wpListIn_plain hgd fun K hK => opIn_of_op (ro := some t) (by rw [ho]; intro c e; cases e) (wp_putF ty x y ho hx hy q hi hs h1 fun W' q' hg => hK _ _ (h W' q' hg))
end
/-- What a round leaves, from its beginning on. -/
structure KK (Ba bb : Nat) (W0 W : World) : Prop where
  ko : KeepsOthers W0 W
  sz : W0.heap.size ≤ W.heap.size
  ba : W.heap[Ba]? = W0.heap[Ba]?
  bb : W.heap[bb]? = W0.heap[bb]?
theorem KK.refl (Ba bb : Nat) (W : World) : KK Ba bb W W := ⟨⟨Nat.le_refl _, fun _ _ h _ => h⟩, Nat.le_refl _, rfl, rfl⟩
theorem KK.step {Ba bb : Nat} {W0 W W' : World} (h : KK Ba bb W0 W) {row : Option Nat} (hg : W.grownBy W' row) (hr : ∀ g, row = some g → ∃ t cs fr, W.heap[g]? = some (.cells cs t fr)) (h1 : W'.heap[Ba]? = W.heap[Ba]?) (h2 : W'.heap[bb]? = W.heap[bb]?) : KK Ba bb W0 W' :=
  ⟨⟨Nat.le_trans h.sz hg.size, fun k o hk hc => by
    have hk2 := h.ko.2 k o hk hc
    refine (hg.block k (Array.getElem?_eq_some_iff.1 hk2).1 (fun e => ?_)).trans hk2
    obtain ⟨t, cs, fr, hcs⟩ := hr k e.symm
    rw [hcs] at hk2
    cases hk2
    cases hc⟩, Nat.le_trans h.sz hg.size, h1.trans h.ba, h2.trans h.bb⟩
theorem KK.below {Ba bb : Nat} {W0 W W' : World} (h : KK Ba bb W0 W) (hb : Below W.heap.size W W') (h1 : Ba < W.heap.size) (h2 : bb < W.heap.size) : KK Ba bb W0 W' :=
  ⟨⟨Nat.le_trans h.sz hb.size, fun k o hk hc => by
    have hk2 := h.ko.2 k o hk hc
    exact (hb.block k (Array.getElem?_eq_some_iff.1 hk2).1).trans hk2⟩, Nat.le_trans h.sz hb.size, (hb.block _ h1).trans h.ba, (hb.block _ h2).trans h.bb⟩
theorem KK.grown {Ba bb : Nat} {W0 W W' : World} (h : KK Ba bb W0 W) {g : Nat} {t : TypeId} {cs : Array Value} (q : Blk W g t cs) (hg : W.grownBy W' (some g)) (h1 : Ba < W.heap.size) (h2 : bb < W.heap.size) (n1 : g ≠ Ba) (n2 : g ≠ bb) : KK Ba bb W0 W' :=
  h.step hg (fun k e => by cases e; exact ⟨t, cs, _, q⟩) (hg.block _ h1 (fun e => n1 (by simpa using e.symm))) (hg.block _ h2 (fun e => n2 (by simpa using e.symm)))
theorem MineC.rowObj {base : Nat} {W : World} {A : Option Addr} {n c : Nat} {l : List Pe} (h : MineC base W A n c l) : ∀ g, (Value.slice A n c).ownBlock = some g → ∃ t cs fr, W.heap[g]? = some (.cells cs t fr) := fun g e => by
  rcases A with _ | ⟨g0, o, sp⟩
  · simp [Value.ownBlock] at e
  · rcases h.1.2 with ⟨e0, _⟩ | ⟨g1, cap, cur, e0, _, hg1, _⟩
    · simp at e0
    · simp at e0
      obtain ⟨⟨rfl, rfl, rfl⟩, _⟩ := e0
      simp [Value.ownBlock] at e
      subst e
      exact ⟨_, _, _, hg1⟩
end Go.Proofs.Ythcnfalfhdeflaa
